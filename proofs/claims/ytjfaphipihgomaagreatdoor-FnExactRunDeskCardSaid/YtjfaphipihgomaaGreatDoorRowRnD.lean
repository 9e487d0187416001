/- The row of the law FnExactRunDesk: for every input the law answers true, and the input reads as it did; and its card, tied to the program: the tables of the library that are listed read as the text of the library lays them. -/
import Derived.Test.YtjfaphipihgomaaGreatDoorRows
import Derived.Test.YtjfaphipihgomaaGreatDoorCards
import Derived.Test.YtjfaphipihgomaaGreatDoorTie
import Derived.Test.YtjfaphipihgomaaGreatDoorMRnD22
import Derived.WalkKit
import Derived.ProofKit
import Derived.OpenShut
import Derived.ShutString
import Derived.ChangeOld
import Derived.Below
import Derived.SizedLaws
import Derived.LaidMore
import Derived.Stop.LaidErr
import Derived.MakeChecks
import Derived.Lib.LaidTab
import Derived.SevenTiedAt
import Derived.Handed
import Derived.Lay
import Derived.Shelf.Vars
import Derived.LaidLaws
set_option linter.unusedVariables false
namespace Go.Proofs.YtjfaphipihgomaaGreatDoor.Ym
open Go.ChangeShapes Go.WideShapes Go.ChangeAt Go.RowKit
theorem own:ownKnob Tryz.prog.godebug=none:=by kernel_rfl
theorem laidOut:laidOutB Tryz.prog=true:=by kernel_rfl
theorem agz:Am.yy Tryz.prog Tryz.f3.params.toList [.val .str]=true:=by kernel_rfl
theorem agA:(Rows.laid_internal_strconv_uint64pow10:DataW Unit)=Lib.tabData .u64 Lib.pow10Tab:=by kernel_rfl
theorem star:("*" ++ "errors.errorString" : String) = "*errors.errorString" :=by rfl
theorem Yn (u:TypeId) (h:Tryz.prog.typeName? 3 u=some "*errors.errorString"):u=303:=
 typeName_ptr_named (nm:= "errors.errorString") (by rw [star]; kernel_rfl) (by kernel_rfl) (by decide) u (by rw [star]; exact h)
theorem agB {W:World} (hs:W.ShapedOpen Tryz.prog) (h:laidMetH Tryz.prog Rows.fnExactRunDeskRow.laid W):Am.Gl Tryz.prog Am.L0 W:=by
 rw [MakeChecks.laidMetH_plain _ _ _ (by kernel_rfl)] at h
 have h3:laidMet Tryz.prog [("math/bits.deBruijn32tab",Rows.laid_math_bits_deBruijn32tab),("math/bits.deBruijn64tab",Rows.laid_math_bits_deBruijn64tab),("internal/strconv.uint64pow10",Rows.laid_internal_strconv_uint64pow10),("unicode/utf8.acceptRanges",Rows.laid_unicode_utf8_acceptRanges),("strconv.ErrRange",Rows.laid_strconv_ErrRange),("strconv.ErrSyntax",Rows.laid_strconv_ErrSyntax),("unicode/utf8.first",Rows.laid_unicode_utf8_first)] W:=h
 rw [agA] at h3
 have ht:Lib.TabIs Tryz.prog W "internal/strconv.uint64pow10" .u64 Lib.pow10Tab:=Lib.tabIs_of_head (g:=5) (t:=299) (e:=288) (n:=20) (by kernel_rfl) (by kernel_rfl) (by kernel_rfl) (by kernel_rfl) (by kernel_rfl) (by kernel_rfl) h3.tail.tail
 obtain ⟨aR,sR,hR,_⟩:=laid_sentinel h3.tail.tail.tail.tail (g:=4) (ti:=227) (tp:=303) (te:=305) (ts:=9) (by kernel_rfl) (by kernel_rfl) Tryz.underlying227 Yn Tryz.underlying303 Tryz.underlying305 rfl rfl Tryz.underlying9 (by kernel_rfl) (by kernel_rfl)
 obtain ⟨aS,sS,hS,_⟩:=laid_sentinel h3.tail.tail.tail.tail.tail (g:=3) (ti:=227) (tp:=303) (te:=305) (ts:=9) (by kernel_rfl) (by kernel_rfl) Tryz.underlying227 Yn Tryz.underlying303 Tryz.underlying305 rfl rfl Tryz.underlying9 (by kernel_rfl) (by kernel_rfl)
 obtain ⟨m,hm⟩:=Go.Proofs.cell_of_shapedOpen_int (P:=Tryz.prog) (g:=0) (t:=3) (zero:=#[.int .i64 0]) hs (of_decide_eq_true (by kernel_rfl)) (by kernel_rfl) rfl (by kernel_rfl) (by kernel_rfl) Tryz.underlying3
 obtain ⟨vs,mJ,yj⟩:=Am.acd (n:= "internal/bytealg.MaxLen") (by kernel_rfl) hm
 refine Am.ab8 fun nm pr hm hs=>?_
 simp only [Am.pins,List.mem_cons,Prod.mk.injEq,List.not_mem_nil,or_false] at hm
 rcases hm with ⟨rfl,rfl⟩ | ⟨rfl,rfl⟩ | ⟨rfl,rfl⟩ | ⟨rfl,rfl⟩
 ·exact ⟨_,ht,by simp [Lib.pow10Tab]⟩
 ·exact ⟨vs,mJ,m,yj⟩
 ·exact ⟨_,hS,_,_,rfl⟩
 ·exact ⟨_,hR,_,_,rfl⟩
set_option maxRecDepth 100000 in
theorem lifted (os:Os) (started:os.Started) (H:Type) (enc:TypeId×Value→H) :
  ReturnsInHanded {} Tryz.checked os 3 .any (fun w args=>(Rows.fnExactRunDeskSpec.pre enc Tryz.prog Tryz.f3 [] false w args∧laidMetH Tryz.prog Rows.fnExactRunDeskRow.laid w)∧sizedMet enc Tryz.prog Tryz.f3 (OpenSpec.ofChange Rows.fnExactRunDeskSpec) false w args) (Rows.fnExactRunDeskSpec.post enc Tryz.prog Tryz.f3 false true false false):=by
 refine Am.acn (C:=Tryz.checked) (X:=fun w _=>laidMetH Tryz.prog Rows.fnExactRunDeskRow.laid w) (fun _ _ _ hh h=>h.of_heap hh) own started (by kernel_rfl) Tryz.func3
  (ChangeSpec.witness_shaped (enc:=enc) (C:=Tryz.checked) (os:=os) (X:=fun w _=>laidMetH Tryz.prog Rows.fnExactRunDeskRow.laid w) false (World.laidAll Tryz.prog os Rows.fnExactRunDeskRow.laid) #[.string ⟨#[]⟩] 8 (World.laidAll_os _ _ _) (World.shaped_of_ZipB (by kernel_rfl) (by kernel_rfl)) (by kernel_rfl) (by kernel_rfl) (by kernel_rfl)
   (by rw [MakeChecks.laidMetH_plain _ _ _ (by kernel_rfl)]; exact laidMet_laidAll _ (by kernel_rfl) (by kernel_rfl))) ?_
 intro W base args ds gs before agC hW jc hL
 have hW':=hW
 obtain ⟨p,q,hA0,hV,rfl,hfz,eK⟩:=hW
 have hA:DataW.TrodAll enc Tryz.prog W 0 (fun _=>true) true Tryz.f3.params.toList args.toList ds p:=hA0
 obtain ⟨rfl,rfl⟩:=trodVars_none hV
 have ug:=Am.abY (ps:=[.val .str]) (F:=fun n x=>AmT.law.f n x.1) (fun n=>AmT.law.sound n) (by kernel_rfl) (fun x hx=>let ⟨n,h⟩:=AmT.agy x.1 ; ⟨n,(true,()),h,rfl⟩) agz hA (fun j t v h1 h2=>⟨W,base,agC j t v (by simpa using h1) (by simpa using h2)⟩) (agB jc hL)
 have pt:args.toList.toArray=args:=by simp
 rw [pt] at ug
 have Yo:=hA
 rw [Tryz.params3] at Yo
 obtain ⟨v0,vs0,d0,ds0,p0,q0,agQ,agD,sD,h0,r0⟩:=trodAll_cons Yo
 obtain ⟨e1,e2,e3⟩:=trodAll_nil r0
 have lt0:∀ x∈p0,x.block<W.heap.size:=by obtain ⟨m,hm⟩:=h0; exact DataW.trod_lt m _ _ _ hm
 refine ug.mono fun e W' ⟨he,Yp⟩=>?_
 subst he
 subst e1; subst e2; subst e3
 subst agD; subst sD
 obtain rfl:args = #[v0]:=by cases args; simp_all
 exact ⟨_,rfl,_,_,_,[],_,[],hW',trodAll_mk1 (shut_bool Tryz.underlying4 _),(trodAll_cons_mk (Below.trod laidOut (by kernel_rfl) (of_decide_eq_true (by kernel_rfl)) h0 Yp lt0) trodAll_mk0),rfl,Yp.frame _,fun h=>by cases h⟩
theorem agE:joinedFacts Tryz.pinned.checked.prog 3 Tryz.f3 Rows.fnExactRunDeskSpec Rows.fnExactRunDeskRow=true:=by kernel_rfl
theorem agF:Tryz.f3.isInstance Tryz.pinned.checked.prog Rows.fnExactRunDeskRow.origin Rows.fnExactRunDeskRow.targs:=of_decide_eq_true (by kernel_rfl)
theorem agG:Tryz.f3.isWrapper Tryz.pinned.checked.prog Rows.fnExactRunDeskRow.wrapper Rows.fnExactRunDeskRow.mainSum:=by unfold Func.isWrapper; first | (rw [if_pos (by decide +kernel)]; kernel_rfl) | (rw [if_neg (by decide +kernel)]; exact ⟨rfl,rfl⟩)
theorem agH:Tryz.pinned.checked.prog.funcNamed Rows.fnExactRunDeskRow.func = some 3:=by kernel_rfl
theorem over:Rows.fnExactRunDeskRow.holds Tryz.pinned (OpenSpec.ofChange Rows.fnExactRunDeskSpec):=
 OpenClaim.holds_of_wide 3 Tryz.f3 rfl rfl rfl rfl rfl rfl rfl ⟨rfl,rfl,rfl,rfl,rfl⟩ rfl rfl rfl rfl rfl agH Tryz.func3 agE agF agG
  (fun os started H enc _=>lifted os started H enc)
theorem proved:Rows.FnExactRunDeskCardSaid:=
 Claim7.holds_tied_plain_at .later [] [.data,.data,.data,.data,.sentinel,.sentinel,.pinned] true (true, "5f2d92a5c9389ee7243b47461be5528aab05e5e4b0ad4190be4c57f8afd1a8c1") true
  over (fun _ h=>by cases h) (by kernel_rfl) (fun _ h=>by cases h) fnExactRunDesk_row_tie rfl ⟨rfl,rfl⟩ (by kernel_rfl) rfl
  (fun f fn hf wy=>by
   obtain rfl:f=3:=Option.some.inj ((show Tryz.prog.funcNamed "loop.example/g03224/laws.FnExactRunDesk" = some 3 by kernel_rfl).symm.trans hf) |>.symm
   obtain rfl:fn=Tryz.f3:=(Option.some.inj (Tryz.func3.symm.trans wy)).symm
   exact ⟨by kernel_rfl,fun j t ht=>by
    rw [Tryz.params3] at ht
    have hm:t∈[9]:=by simpa using Array.mem_of_getElem? ht
    have cI:([9].all fun u=>!Tryz.prog.wantsStandIn u)=true:=by kernel_rfl
    exact (show Tryz.prog.wantsStandIn t=false by simpa using List.all_eq_true.1 cI t hm)⟩)
  (by kernel_rfl)
#print axioms proved
end Go.Proofs.YtjfaphipihgomaaGreatDoor.Ym
namespace Go.Proofs.YtjfaphipihgomaaGreatDoor
theorem fnExactRunDesk_holds:Rows.FnExactRunDeskCardSaid:=Ym.proved
end Go.Proofs.YtjfaphipihgomaaGreatDoor
