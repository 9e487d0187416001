/- The row of the law FnExactExpandState: for every input the law answers true, and the input reads as it did. No condition. -/
import Derived.Test.YtkgknijpmcagmaaGreatRows
import Derived.Test.YtkgknijpmcagmaaGreatPExS
import Derived.WalkKit
import Derived.ProofKit
import Derived.OpenShut
import Derived.ShutString
import Derived.ChangeOld
import Derived.Below
import Derived.SizedLaws
namespace Go.Proofs.YtkgknijpmcagmaaGreat.fnExactExpandState
open Go.ChangeShapes Go.WideShapes Go.ChangeAt Go.RowKit
set_option linter.unusedVariables false
theorem own : ownKnob Tryz.prog.godebug = none := by kernel_rfl
theorem laidOut : laidOutB Tryz.prog = true := by kernel_rfl
theorem psOK : Am.psB Tryz.prog Tryz.f3.params.toList [.val AmT.tNetwork, .val AmT.tState, .val AmT.I, .val AmT.tNetwork] = true := by kernel_rfl
set_option maxRecDepth 100000 in
theorem lifted (os : Os) (started : os.Started) (H : Type) (enc : TypeId × Value → H) :
    ReturnsInHanded {} Tryz.checked os 3 .any (Rows.fnExactExpandStateSpec.pre6 enc Tryz.prog Tryz.f3 Rows.fnExactExpandStateRow.domain false) (Rows.fnExactExpandStateSpec.post enc Tryz.prog Tryz.f3 false true false false) := by
  refine returnsInHanded_of_change_sized (C := Tryz.checked) own started (by kernel_rfl) Tryz.func3
    (ChangeSpec.witness6 (enc := enc) (C := Tryz.checked) false ⟨#[], #[.agg #[.slice none 0 0, .slice none 0 0], .agg #[.slice none 0 0, .slice none 0 0, .slice none 0 0, .int .i64 0], .int .i64 0, .agg #[.slice none 0 0, .slice none 0 0]], []⟩ 8 (by kernel_rfl) (by kernel_rfl) (by kernel_rfl) (by kernel_rfl)) ?_
  intro W base args ds gs before hval0 hW hcnd hsz0 _
  have hW' := hW
  obtain ⟨p, q, hA0, hV, rfl, hfz, hnd⟩ := hW
  have hA : DataW.TrodAll enc Tryz.prog W 0 (fun _ => true) true Tryz.f3.params.toList args.toList ds p := hA0
  obtain ⟨rfl, rfl⟩ := trodVars_none hV
  have hcall := Am.law_calls (ps := [.val AmT.tNetwork, .val AmT.tState, .val AmT.I, .val AmT.tNetwork]) (F := fun n x => AmT.law.f n x.1 x.2.1 x.2.2.1 x.2.2.2.1) (fun n => AmT.law.sound n) (by kernel_rfl) (fun x hx => let ⟨n, h⟩ := AmT.law_true x.1 x.2.1 x.2.2.1 x.2.2.2.1 hx.1 hx.2.1 hx.2.2.2.1; ⟨n, (true, ()), h, rfl⟩) psOK hA (fun j t v h1 h2 => ⟨W, base, hval0 j t v (by simpa using h1) (by simpa using h2)⟩) (Am.gl_none (by kernel_rfl))
  have hargs : args.toList.toArray = args := by simp
  rw [hargs] at hcall
  have hA2 := hA
  rw [Tryz.params3] at hA2
  obtain ⟨v0, vs0, d0, ds0, p0, q0, hargs0, hds0, hp0, h0, r0⟩ := trodAll_cons hA2
  obtain ⟨v1, vs1, d1, ds1, p1, q1, hargs1, hds1, hp1, h1, r1⟩ := trodAll_cons r0
  obtain ⟨v2, vs2, d2, ds2, p2, q2, hargs2, hds2, hp2, h2, r2⟩ := trodAll_cons r1
  obtain ⟨v3, vs3, d3, ds3, p3, q3, hargs3, hds3, hp3, h3, r3⟩ := trodAll_cons r2
  obtain ⟨e1, e2, e3⟩ := trodAll_nil r3
  have lt0 : ∀ x ∈ p0, x.block < W.heap.size := by obtain ⟨m, hm⟩ := h0; exact DataW.trod_lt m _ _ _ hm
  have lt1 : ∀ x ∈ p1, x.block < W.heap.size := by obtain ⟨m, hm⟩ := h1; exact DataW.trod_lt m _ _ _ hm
  have lt2 : ∀ x ∈ p2, x.block < W.heap.size := by obtain ⟨m, hm⟩ := h2; exact DataW.trod_lt m _ _ _ hm
  have lt3 : ∀ x ∈ p3, x.block < W.heap.size := by obtain ⟨m, hm⟩ := h3; exact DataW.trod_lt m _ _ _ hm
  refine hcall.mono fun e W' ⟨he, bel⟩ => ?_
  subst he
  subst e1; subst e2; subst e3
  subst hds3; subst hp3
  subst hds2; subst hp2
  subst hds1; subst hp1
  subst hds0; subst hp0
  rw [hargs3] at hargs2
  rw [hargs2] at hargs1
  rw [hargs1] at hargs0
  obtain rfl : args = #[v0, v1, v2, v3] := by cases args; simp_all
  exact ⟨_, rfl, _, _, _, [], _, [], hW', trodAll_mk1 (shut_bool Tryz.underlying4 _), (trodAll_cons_mk (Below.trod laidOut (by kernel_rfl) (of_decide_eq_true (by kernel_rfl)) h0 bel lt0) (trodAll_cons_mk (Below.trod laidOut (by kernel_rfl) (of_decide_eq_true (by kernel_rfl)) h1 bel lt1) (trodAll_cons_mk (Below.trod laidOut (by kernel_rfl) (of_decide_eq_true (by kernel_rfl)) h2 bel lt2) (trodAll_cons_mk (Below.trod laidOut (by kernel_rfl) (of_decide_eq_true (by kernel_rfl)) h3 bel lt3) trodAll_mk0)))), rfl, bel.frame _, fun h => by cases h⟩
theorem over : Rows.fnExactExpandStateRow.holds Tryz.pinned (OpenSpec.ofChange Rows.fnExactExpandStateSpec) :=
  OpenClaim.holds_of_wide 3 Tryz.f3 rfl rfl rfl rfl rfl rfl rfl ⟨rfl, rfl, rfl, rfl, rfl⟩ rfl rfl rfl rfl rfl (by kernel_rfl) Tryz.func3 (by kernel_rfl)
    (of_decide_eq_true (by kernel_rfl)) (by unfold Func.isWrapper; first | (rw [if_pos (by decide +kernel)]; kernel_rfl) | (rw [if_neg (by decide +kernel)]; exact ⟨rfl, rfl⟩))
    (fun os started H enc _ => lifted os started H enc)
theorem proved : Rows.FnExactExpandStateSaid := over
#print axioms proved
end Go.Proofs.YtkgknijpmcagmaaGreat.fnExactExpandState
namespace Go.Proofs.YtkgknijpmcagmaaGreat
/-- The row, under a short name, for the claim. -/
theorem fnExactExpandState_holds : Rows.FnExactExpandStateSaid := fnExactExpandState.proved
end Go.Proofs.YtkgknijpmcagmaaGreat
