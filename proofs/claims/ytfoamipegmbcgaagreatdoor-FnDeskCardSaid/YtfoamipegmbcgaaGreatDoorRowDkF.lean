/- The row of the law FnDesk: for every input the law answers true, and the input reads as it did; and its card, tied to the program: the tables of the library that are listed read as the text of the library lays them. -/
import Derived.Test.YtfoamipegmbcgaaGreatDoorRows
import Derived.Test.YtfoamipegmbcgaaGreatDoorCards
import Derived.Test.YtfoamipegmbcgaaGreatDoorTie
import Derived.Test.YtfoamipegmbcgaaGreatDoorMDkF15
import Derived.WalkKit
import Derived.ProofKit
import Derived.OpenShut
import Derived.ShutString
import Derived.ChangeOld
import Derived.Below
import Derived.SizedLaws
import Derived.LaidMore
import Derived.Stop.LaidErr
import Derived.MakeChecks
import Derived.Lib.LaidTab
import Derived.SevenTiedAt
import Derived.Handed
import Derived.Lay
import Derived.Shelf.Vars
import Derived.LaidLaws
namespace Go.Proofs.YtfoamipegmbcgaaGreatDoor.fnDesk
open Go.ChangeShapes Go.WideShapes Go.ChangeAt Go.RowKit
set_option linter.unusedVariables false
theorem own:ownKnob Tryz.prog.godebug=none:=by kernel_rfl
theorem laidOut:laidOutB Tryz.prog=true:=by kernel_rfl
theorem psOK:Am.psB Tryz.prog Tryz.f3.params.toList [.val (.sl AmT.U8)]=true:=by kernel_rfl
theorem pow10_is:(Rows.laid_internal_strconv_uint64pow10:DataW Unit)=Lib.tabData .u64 Lib.pow10Tab:=by kernel_rfl
theorem star:("*" ++ "errors.errorString" : String) = "*errors.errorString" :=by rfl
theorem errRow (u:TypeId) (h:Tryz.prog.typeName? 3 u=some "*errors.errorString"):u=262:=
 typeName_ptr_named (nm:= "errors.errorString") (by rw [star]; kernel_rfl) (by kernel_rfl) (by decide) u (by rw [star]; exact h)
theorem of_laid {W:World} (hs:W.ShapedOpen Tryz.prog) (h:laidMetH Tryz.prog Rows.fnDeskRow.laid W):Am.Gl Tryz.prog Am.L0 W:=by
 rw [MakeChecks.laidMetH_plain _ _ _ (by kernel_rfl)] at h
 have h3:laidMet Tryz.prog [("math/bits.deBruijn32tab",Rows.laid_math_bits_deBruijn32tab),("math/bits.deBruijn64tab",Rows.laid_math_bits_deBruijn64tab),("internal/strconv.uint64pow10",Rows.laid_internal_strconv_uint64pow10),("unicode/utf8.acceptRanges",Rows.laid_unicode_utf8_acceptRanges),("strconv.ErrRange",Rows.laid_strconv_ErrRange),("strconv.ErrSyntax",Rows.laid_strconv_ErrSyntax),("unicode/utf8.first",Rows.laid_unicode_utf8_first)] W:=h
 rw [pow10_is] at h3
 have ht:Lib.TabIs Tryz.prog W "internal/strconv.uint64pow10" .u64 Lib.pow10Tab:=Lib.tabIs_of_head (g:=0) (t:=234) (e:=214) (n:=20) (by kernel_rfl) (by kernel_rfl) (by kernel_rfl) (by kernel_rfl) (by kernel_rfl) (by kernel_rfl) h3.tail.tail
 obtain ⟨aR,sR,hR,_⟩:=laid_sentinel h3.tail.tail.tail.tail (g:=5) (ti:=136) (tp:=262) (te:=264) (ts:=9) (by kernel_rfl) (by kernel_rfl) Tryz.underlying136 errRow Tryz.underlying262 Tryz.underlying264 rfl rfl Tryz.underlying9 (by kernel_rfl) (by kernel_rfl)
 obtain ⟨aS,sS,hS,_⟩:=laid_sentinel h3.tail.tail.tail.tail.tail (g:=4) (ti:=136) (tp:=262) (te:=264) (ts:=9) (by kernel_rfl) (by kernel_rfl) Tryz.underlying136 errRow Tryz.underlying262 Tryz.underlying264 rfl rfl Tryz.underlying9 (by kernel_rfl) (by kernel_rfl)
 obtain ⟨m,hm⟩:=Go.Proofs.cell_of_shapedOpen_int (P:=Tryz.prog) (g:=1) (t:=3) (zero:=#[.int .i64 0]) hs (of_decide_eq_true (by kernel_rfl)) (by kernel_rfl) rfl (by kernel_rfl) (by kernel_rfl) Tryz.underlying3
 obtain ⟨vs,hv1,hv2⟩:=Am.var_of_cell (n:= "internal/bytealg.MaxLen") (by kernel_rfl) hm
 refine Am.gl_of fun nm pr hm hs=>?_
 simp only [Am.pins,List.mem_cons,Prod.mk.injEq,List.not_mem_nil,or_false] at hm
 rcases hm with ⟨rfl,rfl⟩ | ⟨rfl,rfl⟩ | ⟨rfl,rfl⟩ | ⟨rfl,rfl⟩
 ·exact ⟨_,ht,by simp [Lib.pow10Tab]⟩
 ·exact ⟨vs,hv1,m,hv2⟩
 ·exact ⟨_,hS,_,_,rfl⟩
 ·exact ⟨_,hR,_,_,rfl⟩
set_option maxRecDepth 100000 in
theorem lifted (os:Os) (started:os.Started) (H:Type) (enc:TypeId×Value→H) :
  ReturnsInHanded {} Tryz.checked os 3 .any (fun w args=>(Rows.fnDeskSpec.pre enc Tryz.prog Tryz.f3 [] false w args∧laidMetH Tryz.prog Rows.fnDeskRow.laid w)∧sizedMet enc Tryz.prog Tryz.f3 (OpenSpec.ofChange Rows.fnDeskSpec) false w args) (Rows.fnDeskSpec.post enc Tryz.prog Tryz.f3 false true false false):=by
 refine Am.returns_shaped_and (C:=Tryz.checked) (X:=fun w _=>laidMetH Tryz.prog Rows.fnDeskRow.laid w) (fun _ _ _ hh h=>h.of_heap hh) own started (by kernel_rfl) Tryz.func3
  (ChangeSpec.witness_shaped (enc:=enc) (C:=Tryz.checked) (os:=os) (X:=fun w _=>laidMetH Tryz.prog Rows.fnDeskRow.laid w) false (World.laidAll Tryz.prog os Rows.fnDeskRow.laid) #[.slice none 0 0] 8 (World.laidAll_os _ _ _) (World.shaped_of_ZipB (by kernel_rfl) (by kernel_rfl)) (by kernel_rfl) (by kernel_rfl) (by kernel_rfl)
   (by rw [MakeChecks.laidMetH_plain _ _ _ (by kernel_rfl)]; exact laidMet_laidAll _ (by kernel_rfl) (by kernel_rfl))) ?_
 intro W base args ds gs before hval0 hW hsh hL
 have hW':=hW
 obtain ⟨p,q,hA0,hV,rfl,hfz,hnd⟩:=hW
 have hA:DataW.TrodAll enc Tryz.prog W 0 (fun _=>true) true Tryz.f3.params.toList args.toList ds p:=hA0
 obtain ⟨rfl,rfl⟩:=trodVars_none hV
 have hcall:=Am.law_calls (ps:=[.val (.sl AmT.U8)]) (F:=fun n x=>AmT.law.f n x.1) (fun n=>AmT.law.sound n) (by kernel_rfl) (fun x hx=>let ⟨n,h⟩:=AmT.law_true x.1 hx.1; ⟨n,(true,()),h,rfl⟩) psOK hA (fun j t v h1 h2=>⟨W,base,hval0 j t v (by simpa using h1) (by simpa using h2)⟩) (of_laid hsh hL)
 have hargs:args.toList.toArray=args:=by simp
 rw [hargs] at hcall
 have hA2:=hA
 rw [Tryz.params3] at hA2
 obtain ⟨v0,vs0,d0,ds0,p0,q0,hargs0,hds0,hp0,h0,r0⟩:=trodAll_cons hA2
 obtain ⟨e1,e2,e3⟩:=trodAll_nil r0
 have lt0:∀ x∈p0,x.block<W.heap.size:=by obtain ⟨m,hm⟩:=h0; exact DataW.trod_lt m _ _ _ hm
 refine hcall.mono fun e W' ⟨he,bel⟩=>?_
 subst he
 subst e1; subst e2; subst e3
 subst hds0; subst hp0
 obtain rfl:args = #[v0]:=by cases args; simp_all
 exact ⟨_,rfl,_,_,_,[],_,[],hW',trodAll_mk1 (shut_bool Tryz.underlying4 _),(trodAll_cons_mk (Below.trod laidOut (by kernel_rfl) (of_decide_eq_true (by kernel_rfl)) h0 bel lt0) trodAll_mk0),rfl,bel.frame _,fun h=>by cases h⟩
theorem over:Rows.fnDeskRow.holds Tryz.pinned (OpenSpec.ofChange Rows.fnDeskSpec):=
 OpenClaim.holds_of_wide 3 Tryz.f3 rfl rfl rfl rfl rfl rfl rfl ⟨rfl,rfl,rfl,rfl,rfl⟩ rfl rfl rfl rfl rfl (by kernel_rfl) Tryz.func3 (by kernel_rfl)
  (of_decide_eq_true (by kernel_rfl)) (by unfold Func.isWrapper; first | (rw [if_pos (by decide +kernel)]; kernel_rfl) | (rw [if_neg (by decide +kernel)]; exact ⟨rfl,rfl⟩))
  (fun os started H enc _=>lifted os started H enc)
theorem proved:Rows.FnDeskCardSaid:=
 Claim7.holds_tied_plain_at .later [] [.data,.data,.data,.data,.sentinel,.sentinel,.pinned] true (true, "62f7636a0c1b1e8a7139b928f3a99b3db515822173c7a28855249107ada03dad") true
  over (fun _ h=>by cases h) (by kernel_rfl) (fun _ h=>by cases h) fnDesk_row_tie rfl ⟨rfl,rfl⟩ (by kernel_rfl) rfl
  (fun f fn hf hfn=>by
   obtain rfl:f=3:=Option.some.inj ((show Tryz.prog.funcNamed "loop.example/g03224/laws.FnDesk" = some 3 by kernel_rfl).symm.trans hf) |>.symm
   obtain rfl:fn=Tryz.f3:=(Option.some.inj (Tryz.func3.symm.trans hfn)).symm
   exact ⟨by kernel_rfl,fun j t ht=>by
    rw [Tryz.params3] at ht
    have hm:t∈[22]:=by simpa using Array.mem_of_getElem? ht
    have hall:([22].all fun u=>!Tryz.prog.wantsStandIn u)=true:=by kernel_rfl
    exact (show Tryz.prog.wantsStandIn t=false by simpa using List.all_eq_true.1 hall t hm)⟩)
  (by kernel_rfl)
#print axioms proved
end Go.Proofs.YtfoamipegmbcgaaGreatDoor.fnDesk
namespace Go.Proofs.YtfoamipegmbcgaaGreatDoor
theorem fnDesk_holds:Rows.FnDeskCardSaid:=fnDesk.proved
end Go.Proofs.YtfoamipegmbcgaaGreatDoor
