/- The row of the law FnExactExecuteLine: for every input the law answers true, and the input reads as it did; and its card, tied to the program: the tables of the library that are listed read as the text of the library lays them. -/
import Derived.Test.YtjfaphipihgomaaGreatDoorRows
import Derived.Test.YtjfaphipihgomaaGreatDoorCards
import Derived.Test.YtjfaphipihgomaaGreatDoorTie
import Derived.Test.YtjfaphipihgomaaGreatDoorMExL26
import Derived.WalkKit
import Derived.ProofKit
import Derived.OpenShut
import Derived.ShutString
import Derived.ChangeOld
import Derived.Below
import Derived.SizedLaws
import Derived.LaidMore
import Derived.Stop.LaidErr
import Derived.MakeChecks
import Derived.Lib.LaidTab
import Derived.SevenTiedAt
import Derived.Handed
import Derived.Lay
import Derived.Shelf.Vars
import Derived.LaidLaws
set_option linter.unusedVariables false
namespace Go.Proofs.YtjfaphipihgomaaGreatDoor.Zb
open Go.ChangeShapes Go.WideShapes Go.ChangeAt Go.RowKit
theorem own:ownKnob Tryz.prog.godebug=none:=by kernel_rfl
theorem laidOut:laidOutB Tryz.prog=true:=by kernel_rfl
theorem ahV:Am.zp Tryz.prog Tryz.f4.params.toList [.val AmT.gh,.val .str]=true:=by kernel_rfl
theorem ahW:(Rows.laid_internal_strconv_uint64pow10:DataW Unit)=Lib.tabData .u64 Lib.pow10Tab:=by kernel_rfl
theorem star:("*" ++ "errors.errorString" : String) = "*errors.errorString" :=by rfl
theorem Zc (u:TypeId) (h:Tryz.prog.typeName? 3 u=some "*errors.errorString"):u=303:=
 typeName_ptr_named (nm:= "errors.errorString") (by rw [star]; kernel_rfl) (by kernel_rfl) (by decide) u (by rw [star]; exact h)
theorem ahX {W:World} (hs:W.ShapedOpen Tryz.prog) (h:laidMetH Tryz.prog Rows.fnExactExecuteLineRow.laid W):Am.Gl Tryz.prog Am.L0 W:=by
 rw [MakeChecks.laidMetH_plain _ _ _ (by kernel_rfl)] at h
 have h3:laidMet Tryz.prog [("math/bits.deBruijn32tab",Rows.laid_math_bits_deBruijn32tab),("math/bits.deBruijn64tab",Rows.laid_math_bits_deBruijn64tab),("internal/strconv.uint64pow10",Rows.laid_internal_strconv_uint64pow10),("unicode/utf8.acceptRanges",Rows.laid_unicode_utf8_acceptRanges),("strconv.ErrRange",Rows.laid_strconv_ErrRange),("strconv.ErrSyntax",Rows.laid_strconv_ErrSyntax),("unicode/utf8.first",Rows.laid_unicode_utf8_first)] W:=h
 rw [ahW] at h3
 have ht:Lib.TabIs Tryz.prog W "internal/strconv.uint64pow10" .u64 Lib.pow10Tab:=Lib.tabIs_of_head (g:=5) (t:=299) (e:=288) (n:=20) (by kernel_rfl) (by kernel_rfl) (by kernel_rfl) (by kernel_rfl) (by kernel_rfl) (by kernel_rfl) h3.tail.tail
 obtain ⟨aR,sR,hR,_⟩:=laid_sentinel h3.tail.tail.tail.tail (g:=4) (ti:=227) (tp:=303) (te:=305) (ts:=9) (by kernel_rfl) (by kernel_rfl) Tryz.underlying227 Zc Tryz.underlying303 Tryz.underlying305 rfl rfl Tryz.underlying9 (by kernel_rfl) (by kernel_rfl)
 obtain ⟨aS,sS,hS,_⟩:=laid_sentinel h3.tail.tail.tail.tail.tail (g:=3) (ti:=227) (tp:=303) (te:=305) (ts:=9) (by kernel_rfl) (by kernel_rfl) Tryz.underlying227 Zc Tryz.underlying303 Tryz.underlying305 rfl rfl Tryz.underlying9 (by kernel_rfl) (by kernel_rfl)
 obtain ⟨m,hm⟩:=Go.Proofs.cell_of_shapedOpen_int (P:=Tryz.prog) (g:=0) (t:=3) (zero:=#[.int .i64 0]) hs (of_decide_eq_true (by kernel_rfl)) (by kernel_rfl) rfl (by kernel_rfl) (by kernel_rfl) Tryz.underlying3
 obtain ⟨vs,mV,ze⟩:=Am.ac2 (n:= "internal/bytealg.MaxLen") (by kernel_rfl) hm
 refine Am.acZ fun nm pr hm hs=>?_
 simp only [Am.pins,List.mem_cons,Prod.mk.injEq,List.not_mem_nil,or_false] at hm
 rcases hm with ⟨rfl,rfl⟩ | ⟨rfl,rfl⟩ | ⟨rfl,rfl⟩ | ⟨rfl,rfl⟩
 ·exact ⟨_,ht,by simp [Lib.pow10Tab]⟩
 ·exact ⟨vs,mV,m,ze⟩
 ·exact ⟨_,hS,_,_,rfl⟩
 ·exact ⟨_,hR,_,_,rfl⟩
set_option maxRecDepth 100000 in
theorem lifted (os:Os) (started:os.Started) (H:Type) (enc:TypeId×Value→H) :
  ReturnsInHanded {} Tryz.checked os 4 .any (fun w args=>(Rows.fnExactExecuteLineSpec.pre enc Tryz.prog Tryz.f4 [] false w args∧laidMetH Tryz.prog Rows.fnExactExecuteLineRow.laid w)∧sizedMet enc Tryz.prog Tryz.f4 (OpenSpec.ofChange Rows.fnExactExecuteLineSpec) false w args) (Rows.fnExactExecuteLineSpec.post enc Tryz.prog Tryz.f4 false true false false):=by
 refine Am.adb (C:=Tryz.checked) (X:=fun w _=>laidMetH Tryz.prog Rows.fnExactExecuteLineRow.laid w) (fun _ _ _ hh h=>h.of_heap hh) own started (by kernel_rfl) Tryz.func4
  (ChangeSpec.witness_shaped (enc:=enc) (C:=Tryz.checked) (os:=os) (X:=fun w _=>laidMetH Tryz.prog Rows.fnExactExecuteLineRow.laid w) false (World.laidAll Tryz.prog os Rows.fnExactExecuteLineRow.laid) #[.agg #[.slice none 0 0,.slice none 0 0,.slice none 0 0,.slice none 0 0,.slice none 0 0,.int .i64 0,.slice none 0 0],.string ⟨#[]⟩] 8 (World.laidAll_os _ _ _) (World.shaped_of_ZipB (by kernel_rfl) (by kernel_rfl)) (by kernel_rfl) (by kernel_rfl) (by kernel_rfl)
   (by rw [MakeChecks.laidMetH_plain _ _ _ (by kernel_rfl)]; exact laidMet_laidAll _ (by kernel_rfl) (by kernel_rfl))) ?_
 intro W base args ds gs before ahY hW ji hL
 have hW':=hW
 obtain ⟨p,q,hA0,hV,rfl,hfz,eW⟩:=hW
 have hA:DataW.TrodAll enc Tryz.prog W 0 (fun _=>true) true Tryz.f4.params.toList args.toList ds p:=hA0
 obtain ⟨rfl,rfl⟩:=trodVars_none hV
 have we:=Am.acP (ps:=[.val AmT.gh,.val .str]) (F:=fun n x=>AmT.law.f n x.1 x.2.1) (fun n=>AmT.law.sound n) (by kernel_rfl) (fun x hx=>let ⟨n,h⟩:=AmT.ahU x.1 x.2.1 hx.1; ⟨n,(true,()),h,rfl⟩) ahV hA (fun j t v h1 h2=>⟨W,base,ahY j t v (by simpa using h1) (by simpa using h2)⟩) (ahX ji hL)
 have p8:args.toList.toArray=args:=by simp
 rw [p8] at we
 have Zd:=hA
 rw [Tryz.params4] at Zd
 obtain ⟨v0,vs0,d0,ds0,p0,q0,ahZ,ah_,tA,h0,r0⟩:=trodAll_cons Zd
 obtain ⟨v1,vs1,d1,ds1,p1,q1,ah0,ah1,yH,h1,r1⟩:=trodAll_cons r0
 obtain ⟨e1,e2,e3⟩:=trodAll_nil r1
 have lt0:∀ x∈p0,x.block<W.heap.size:=by obtain ⟨m,hm⟩:=h0; exact DataW.trod_lt m _ _ _ hm
 have lt1:∀ x∈p1,x.block<W.heap.size:=by obtain ⟨m,hm⟩:=h1; exact DataW.trod_lt m _ _ _ hm
 refine we.mono fun e W' ⟨he,Rv⟩=>?_
 subst he
 subst e1; subst e2; subst e3
 subst ah1; subst yH
 subst ah_; subst tA
 rw [ah0] at ahZ
 obtain rfl:args = #[v0,v1]:=by cases args; simp_all
 exact ⟨_,rfl,_,_,_,[],_,[],hW',trodAll_mk1 (shut_bool Tryz.underlying4 _),(trodAll_cons_mk (Below.trod laidOut (by kernel_rfl) (of_decide_eq_true (by kernel_rfl)) h0 Rv lt0) (trodAll_cons_mk (Below.trod laidOut (by kernel_rfl) (of_decide_eq_true (by kernel_rfl)) h1 Rv lt1) trodAll_mk0)),rfl,Rv.frame _,fun h=>by cases h⟩
theorem ah2:joinedFacts Tryz.pinned.checked.prog 4 Tryz.f4 Rows.fnExactExecuteLineSpec Rows.fnExactExecuteLineRow=true:=by kernel_rfl
theorem ah3:Tryz.f4.isInstance Tryz.pinned.checked.prog Rows.fnExactExecuteLineRow.origin Rows.fnExactExecuteLineRow.targs:=of_decide_eq_true (by kernel_rfl)
theorem ah4:Tryz.f4.isWrapper Tryz.pinned.checked.prog Rows.fnExactExecuteLineRow.wrapper Rows.fnExactExecuteLineRow.mainSum:=by unfold Func.isWrapper; first | (rw [if_pos (by decide +kernel)]; kernel_rfl) | (rw [if_neg (by decide +kernel)]; exact ⟨rfl,rfl⟩)
theorem ah5:Tryz.pinned.checked.prog.funcNamed Rows.fnExactExecuteLineRow.func=some 4:=by kernel_rfl
theorem over:Rows.fnExactExecuteLineRow.holds Tryz.pinned (OpenSpec.ofChange Rows.fnExactExecuteLineSpec):=
 OpenClaim.holds_of_wide 4 Tryz.f4 rfl rfl rfl rfl rfl rfl rfl ⟨rfl,rfl,rfl,rfl,rfl⟩ rfl rfl rfl rfl rfl ah5 Tryz.func4 ah2 ah3 ah4
  (fun os started H enc _=>lifted os started H enc)
theorem proved:Rows.FnExactExecuteLineCardSaid:=
 Claim7.holds_tied_plain_at .later [] [.data,.data,.data,.data,.sentinel,.sentinel,.pinned] true (true, "5f2d92a5c9389ee7243b47461be5528aab05e5e4b0ad4190be4c57f8afd1a8c1") true
  over (fun _ h=>by cases h) (by kernel_rfl) (fun _ h=>by cases h) fnExactExecuteLine_row_tie rfl ⟨rfl,rfl⟩ (by kernel_rfl) rfl
  (fun f fn hf w4=>by
   obtain rfl:f=4:=Option.some.inj ((show Tryz.prog.funcNamed "loop.example/g03224/laws.FnExactExecuteLine" = some 4 by kernel_rfl).symm.trans hf) |>.symm
   obtain rfl:fn=Tryz.f4:=(Option.some.inj (Tryz.func4.symm.trans w4)).symm
   exact ⟨by kernel_rfl,fun j t ht=>by
    rw [Tryz.params4] at ht
    have hm:t∈[38,9]:=by simpa using Array.mem_of_getElem? ht
    have c8:([38,9].all fun u=>!Tryz.prog.wantsStandIn u)=true:=by kernel_rfl
    exact (show Tryz.prog.wantsStandIn t=false by simpa using List.all_eq_true.1 c8 t hm)⟩)
  (by kernel_rfl)
#print axioms proved
end Go.Proofs.YtjfaphipihgomaaGreatDoor.Zb
namespace Go.Proofs.YtjfaphipihgomaaGreatDoor
theorem fnExactExecuteLine_holds:Rows.FnExactExecuteLineCardSaid:=Zb.proved
end Go.Proofs.YtjfaphipihgomaaGreatDoor
