/- The row of the law FnDeskKeeps: for every input the law answers true, and the input reads as it did; and its card, tied to the program: the tables of the library that are listed read as the text of the library lays them. -/
import Derived.Test.YtfoamipegmbcgaaGreatDoorRows
import Derived.Test.YtfoamipegmbcgaaGreatDoorCards
import Derived.Test.YtfoamipegmbcgaaGreatDoorTie
import Derived.Test.YtfoamipegmbcgaaGreatDoorMKpF19
import Derived.WalkKit
import Derived.ProofKit
import Derived.OpenShut
import Derived.ShutString
import Derived.ChangeOld
import Derived.Below
import Derived.SizedLaws
import Derived.LaidMore
import Derived.Stop.LaidErr
import Derived.MakeChecks
import Derived.Lib.LaidTab
import Derived.SevenTiedAt
import Derived.Handed
import Derived.Lay
import Derived.Shelf.Vars
import Derived.LaidLaws
namespace Go.Proofs.YtfoamipegmbcgaaGreatDoor.Px
open Go.ChangeShapes Go.WideShapes Go.ChangeAt Go.RowKit
set_option linter.unusedVariables false
theorem own:ownKnob Tryz.prog.godebug=none:=by kernel_rfl
theorem laidOut:laidOutB Tryz.prog=true:=by kernel_rfl
theorem Z0:Am.ux Tryz.prog Tryz.f4.params.toList [.val (.sl AmT.U8)]=true:=by kernel_rfl
theorem Z1:(Rows.laid_internal_strconv_uint64pow10:DataW Unit)=Lib.tabData .u64 Lib.pow10Tab:=by kernel_rfl
theorem star:("*" ++ "errors.errorString" : String) = "*errors.errorString" :=by rfl
theorem Py (u:TypeId) (h:Tryz.prog.typeName? 3 u=some "*errors.errorString"):u=262:=
 typeName_ptr_named (nm:= "errors.errorString") (by rw [star]; kernel_rfl) (by kernel_rfl) (by decide) u (by rw [star]; exact h)
theorem Z2 {W:World} (hs:W.ShapedOpen Tryz.prog) (h:laidMetH Tryz.prog Rows.fnDeskKeepsRow.laid W):Am.Gl Tryz.prog Am.L0 W:=by
 rw [MakeChecks.laidMetH_plain _ _ _ (by kernel_rfl)] at h
 have h3:laidMet Tryz.prog [("math/bits.deBruijn32tab",Rows.laid_math_bits_deBruijn32tab),("math/bits.deBruijn64tab",Rows.laid_math_bits_deBruijn64tab),("internal/strconv.uint64pow10",Rows.laid_internal_strconv_uint64pow10),("unicode/utf8.acceptRanges",Rows.laid_unicode_utf8_acceptRanges),("strconv.ErrRange",Rows.laid_strconv_ErrRange),("strconv.ErrSyntax",Rows.laid_strconv_ErrSyntax),("unicode/utf8.first",Rows.laid_unicode_utf8_first)] W:=h
 rw [Z1] at h3
 have ht:Lib.TabIs Tryz.prog W "internal/strconv.uint64pow10" .u64 Lib.pow10Tab:=Lib.tabIs_of_head (g:=0) (t:=234) (e:=214) (n:=20) (by kernel_rfl) (by kernel_rfl) (by kernel_rfl) (by kernel_rfl) (by kernel_rfl) (by kernel_rfl) h3.tail.tail
 obtain ⟨aR,sR,hR,_⟩:=laid_sentinel h3.tail.tail.tail.tail (g:=5) (ti:=136) (tp:=262) (te:=264) (ts:=9) (by kernel_rfl) (by kernel_rfl) Tryz.underlying136 Py Tryz.underlying262 Tryz.underlying264 rfl rfl Tryz.underlying9 (by kernel_rfl) (by kernel_rfl)
 obtain ⟨aS,sS,hS,_⟩:=laid_sentinel h3.tail.tail.tail.tail.tail (g:=4) (ti:=136) (tp:=262) (te:=264) (ts:=9) (by kernel_rfl) (by kernel_rfl) Tryz.underlying136 Py Tryz.underlying262 Tryz.underlying264 rfl rfl Tryz.underlying9 (by kernel_rfl) (by kernel_rfl)
 obtain ⟨m,hm⟩:=Go.Proofs.cell_of_shapedOpen_int (P:=Tryz.prog) (g:=1) (t:=3) (zero:=#[.int .i64 0]) hs (of_decide_eq_true (by kernel_rfl)) (by kernel_rfl) rfl (by kernel_rfl) (by kernel_rfl) Tryz.underlying3
 obtain ⟨vs,kb,uf⟩:=Am.T8 (n:= "internal/bytealg.MaxLen") (by kernel_rfl) hm
 refine Am.T4 fun nm pr hm hs=>?_
 simp only [Am.pins,List.mem_cons,Prod.mk.injEq,List.not_mem_nil,or_false] at hm
 rcases hm with ⟨rfl,rfl⟩ | ⟨rfl,rfl⟩ | ⟨rfl,rfl⟩ | ⟨rfl,rfl⟩
 ·exact ⟨_,ht,by simp [Lib.pow10Tab]⟩
 ·exact ⟨vs,kb,m,uf⟩
 ·exact ⟨_,hS,_,_,rfl⟩
 ·exact ⟨_,hR,_,_,rfl⟩
set_option maxRecDepth 100000 in
theorem lifted (os:Os) (started:os.Started) (H:Type) (enc:TypeId×Value→H) :
  ReturnsInHanded {} Tryz.checked os 4 .any (fun w args=>(Rows.fnDeskKeepsSpec.pre enc Tryz.prog Tryz.f4 [] false w args∧laidMetH Tryz.prog Rows.fnDeskKeepsRow.laid w)∧sizedMet enc Tryz.prog Tryz.f4 (OpenSpec.ofChange Rows.fnDeskKeepsSpec) false w args) (Rows.fnDeskKeepsSpec.post enc Tryz.prog Tryz.f4 false true false false):=by
 refine Am.Ui (C:=Tryz.checked) (X:=fun w _=>laidMetH Tryz.prog Rows.fnDeskKeepsRow.laid w) (fun _ _ _ hh h=>h.of_heap hh) own started (by kernel_rfl) Tryz.func4
  (ChangeSpec.witness_shaped (enc:=enc) (C:=Tryz.checked) (os:=os) (X:=fun w _=>laidMetH Tryz.prog Rows.fnDeskKeepsRow.laid w) false (World.laidAll Tryz.prog os Rows.fnDeskKeepsRow.laid) #[.slice none 0 0] 8 (World.laidAll_os _ _ _) (World.shaped_of_ZipB (by kernel_rfl) (by kernel_rfl)) (by kernel_rfl) (by kernel_rfl) (by kernel_rfl)
   (by rw [MakeChecks.laidMetH_plain _ _ _ (by kernel_rfl)]; exact laidMet_laidAll _ (by kernel_rfl) (by kernel_rfl))) ?_
 intro W base args ds gs before Z3 hW gm hL
 have Z4:=hW
 obtain ⟨p,q,Z5,hV,rfl,hfz,dw⟩:=hW
 have hA:DataW.TrodAll enc Tryz.prog W 0 (fun _=>true) true Tryz.f4.params.toList args.toList ds p:=Z5
 obtain ⟨rfl,rfl⟩:=trodVars_none hV
 have qt:=Am.TR (ps:=[.val (.sl AmT.U8)]) (F:=fun n x=>AmT.law.f n x.1) (fun n=>AmT.law.sound n) (by kernel_rfl) (fun x hx=>let ⟨n,h⟩:=AmT.Z_ x.1 hx.1; ⟨n,(true,()),h,rfl⟩) Z0 hA (fun j t v h1 h2=>⟨W,base,Z3 j t v (by simpa using h1) (by simpa using h2)⟩) (Z2 gm hL)
 have mb:args.toList.toArray=args:=by simp
 rw [mb] at qt
 have Pz:=hA
 rw [Tryz.params4] at Pz
 obtain ⟨v0,vs0,d0,ds0,p0,q0,aai,Z6,o9,h0,r0⟩:=trodAll_cons Pz
 obtain ⟨e1,e2,e3⟩:=trodAll_nil r0
 have Z7:∀ x∈p0,x.block<W.heap.size:=by obtain ⟨m,hm⟩:=h0; exact DataW.trod_lt m _ _ _ hm
 refine qt.mono fun e W' ⟨he,PA⟩=>?_
 subst he
 subst e1; subst e2; subst e3
 subst Z6; subst o9
 obtain rfl:args = #[v0]:=by cases args; simp_all
 exact ⟨_,rfl,_,_,_,[],_,[],Z4,trodAll_mk1 (shut_bool Tryz.underlying4 _),(trodAll_cons_mk (Below.trod laidOut (by kernel_rfl) (of_decide_eq_true (by kernel_rfl)) h0 PA Z7) trodAll_mk0),rfl,PA.frame _,fun h=>by cases h⟩
theorem over:Rows.fnDeskKeepsRow.holds Tryz.pinned (OpenSpec.ofChange Rows.fnDeskKeepsSpec):=
 OpenClaim.holds_of_wide 4 Tryz.f4 rfl rfl rfl rfl rfl rfl rfl ⟨rfl,rfl,rfl,rfl,rfl⟩ rfl rfl rfl rfl rfl (by kernel_rfl) Tryz.func4 (by kernel_rfl)
  (of_decide_eq_true (by kernel_rfl)) (by unfold Func.isWrapper; first | (rw [if_pos (by decide +kernel)]; kernel_rfl) | (rw [if_neg (by decide +kernel)]; exact ⟨rfl,rfl⟩))
  (fun os started H enc _=>lifted os started H enc)
theorem proved:Rows.FnDeskKeepsCardSaid:=
 Claim7.holds_tied_plain_at .later [] [.data,.data,.data,.data,.sentinel,.sentinel,.pinned] true (true, "62f7636a0c1b1e8a7139b928f3a99b3db515822173c7a28855249107ada03dad") true
  over (fun _ h=>by cases h) (by kernel_rfl) (fun _ h=>by cases h) fnDeskKeeps_row_tie rfl ⟨rfl,rfl⟩ (by kernel_rfl) rfl
  (fun f fn hf sq=>by
   obtain rfl:f=4:=Option.some.inj ((show Tryz.prog.funcNamed "loop.example/g03224/laws.FnDeskKeeps" = some 4 by kernel_rfl).symm.trans hf) |>.symm
   obtain rfl:fn=Tryz.f4:=(Option.some.inj (Tryz.func4.symm.trans sq)).symm
   exact ⟨by kernel_rfl,fun j t ht=>by
    rw [Tryz.params4] at ht
    have hm:t∈[22]:=by simpa using Array.mem_of_getElem? ht
    have eM:([22].all fun u=>!Tryz.prog.wantsStandIn u)=true:=by kernel_rfl
    exact (show Tryz.prog.wantsStandIn t=false by simpa using List.all_eq_true.1 eM t hm)⟩)
  (by kernel_rfl)
#print axioms proved
end Go.Proofs.YtfoamipegmbcgaaGreatDoor.Px
namespace Go.Proofs.YtfoamipegmbcgaaGreatDoor
theorem fnDeskKeeps_holds:Rows.FnDeskKeepsCardSaid:=Px.proved
end Go.Proofs.YtfoamipegmbcgaaGreatDoor
