/- The row of the law FnGrown: for every input the law answers true, and the input reads as it did. No condition. -/
import Derived.Test.YtkgknijpmcagmaaGreatRows
import Derived.Test.YtkgknijpmcagmaaGreatPGrow
import Derived.WalkKit
import Derived.ProofKit
import Derived.OpenShut
import Derived.ShutString
import Derived.ChangeOld
import Derived.Below
import Derived.SizedLaws
namespace Go.Proofs.YtkgknijpmcagmaaGreat.fnGrown
open Go.ChangeShapes Go.WideShapes Go.ChangeAt Go.RowKit
set_option linter.unusedVariables false
theorem own:ownKnob Tryz.prog.godebug=none:=by kernel_rfl
theorem laidOut:laidOutB Tryz.prog=true:=by kernel_rfl
theorem psOK:Am.psB Tryz.prog Tryz.f4.params.toList [.val (.sl AmT.U8)]=true:=by kernel_rfl
set_option maxRecDepth 100000 in
theorem lifted (os:Os) (started:os.Started) (H:Type) (enc:TypeId×Value→H) :
  ReturnsInHanded {} Tryz.checked os 4 .any (Rows.fnGrownSpec.pre6 enc Tryz.prog Tryz.f4 Rows.fnGrownRow.domain false) (Rows.fnGrownSpec.post enc Tryz.prog Tryz.f4 false true false false):=by
 refine returnsInHanded_of_change_sized (C:=Tryz.checked) own started (by kernel_rfl) Tryz.func4
  (ChangeSpec.witness6 (enc:=enc) (C:=Tryz.checked) false ⟨#[],#[.slice none 0 0],[]⟩ 8 (by kernel_rfl) (by kernel_rfl) (by kernel_rfl) (by kernel_rfl)) ?_
 intro W base args ds gs before hval0 hW hcnd hsz0 _
 have hW':=hW
 obtain ⟨p,q,hA0,hV,rfl,hfz,hnd⟩:=hW
 have hA:DataW.TrodAll enc Tryz.prog W 0 (fun _=>true) true Tryz.f4.params.toList args.toList ds p:=hA0
 obtain ⟨rfl,rfl⟩:=trodVars_none hV
 have hcall:=Am.law_calls (ps:=[.val (.sl AmT.U8)]) (F:=fun n x=>AmT.law.f n x.1) (fun n=>AmT.law.sound n) (by kernel_rfl) (fun x hx=>let ⟨n,h⟩:=AmT.law_true x.1 hx.1; ⟨n,(true,()),h,rfl⟩) psOK hA (fun j t v h1 h2=>⟨W,base,hval0 j t v (by simpa using h1) (by simpa using h2)⟩) (Am.gl_none (by kernel_rfl))
 have hargs:args.toList.toArray=args:=by simp
 rw [hargs] at hcall
 have hA2:=hA
 rw [Tryz.params4] at hA2
 obtain ⟨v0,vs0,d0,ds0,p0,q0,hargs0,hds0,hp0,h0,r0⟩:=trodAll_cons hA2
 obtain ⟨e1,e2,e3⟩:=trodAll_nil r0
 have lt0:∀ x∈p0,x.block<W.heap.size:=by obtain ⟨m,hm⟩:=h0; exact DataW.trod_lt m _ _ _ hm
 refine hcall.mono fun e W' ⟨he,bel⟩=>?_
 subst he
 subst e1; subst e2; subst e3
 subst hds0; subst hp0
 obtain rfl:args = #[v0]:=by cases args; simp_all
 exact ⟨_,rfl,_,_,_,[],_,[],hW',trodAll_mk1 (shut_bool Tryz.underlying4 _),(trodAll_cons_mk (Below.trod laidOut (by kernel_rfl) (of_decide_eq_true (by kernel_rfl)) h0 bel lt0) trodAll_mk0),rfl,bel.frame _,fun h=>by cases h⟩
theorem over:Rows.fnGrownRow.holds Tryz.pinned (OpenSpec.ofChange Rows.fnGrownSpec):=
 OpenClaim.holds_of_wide 4 Tryz.f4 rfl rfl rfl rfl rfl rfl rfl ⟨rfl,rfl,rfl,rfl,rfl⟩ rfl rfl rfl rfl rfl (by kernel_rfl) Tryz.func4 (by kernel_rfl)
  (of_decide_eq_true (by kernel_rfl)) (by unfold Func.isWrapper; first | (rw [if_pos (by decide +kernel)]; kernel_rfl) | (rw [if_neg (by decide +kernel)]; exact ⟨rfl,rfl⟩))
  (fun os started H enc _=>lifted os started H enc)
theorem proved:Rows.FnGrownSaid:=over
#print axioms proved
end Go.Proofs.YtkgknijpmcagmaaGreat.fnGrown
namespace Go.Proofs.YtkgknijpmcagmaaGreat
theorem fnGrown_holds:Rows.FnGrownSaid:=fnGrown.proved
end Go.Proofs.YtkgknijpmcagmaaGreat
