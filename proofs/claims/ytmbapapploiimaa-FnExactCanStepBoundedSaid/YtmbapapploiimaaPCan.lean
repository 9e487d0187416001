/- Whether a process can step with capacities, in plain Lean: both programs tell the same. -/
import Derived.Test.YtmbapapploiimaaLCan
namespace Go.AmT
open Go Go.Am
set_option linter.unusedVariables false
set_option linter.unusedSimpArgs false

noncomputable def canB (nt : Network) (s : State) (caps : List Int) (k : Int) : Bool := okSt nt s && (okC nt.2 caps && (decide (0 ≤ k) && (decide (k < (nt.1.length : Int)) && mayP nt s caps k.toNat)))
theorem sCanStepBounded_spec {n : Nat} {nt : Network} {s : State} {caps : List Int} {k : Int} (h : SmallN nt) (hs : SmallSt s) (hc : caps.length ≤ 1048576) (hn : 1048576 < n) : sCanStepBounded.f n nt s caps k = some (canB nt s caps k, ()) := by
  unfold sCanStepBounded.f canB sL3Has.f
  rw [sL6Valid_spec h hs hc hn]
  cases e1 : okSt nt s
  · rfl
  · cases e2 : okC nt.2 caps
    · rfl
    · simp only [Option.bind_some, Bool.true_and, br_true, brd]
      by_cases h0 : 0 ≤ k
      · obtain ⟨j, rfl⟩ : ∃ j : Nat, k = (j : Int) := ⟨k.toNat, by omega⟩
        by_cases h1 : (j : Int) < (nt.1.length : Int)
        · simp only [h0, h1, if_true, Option.bind_some, decide_true, br_true, Bool.true_and, sL6Can_spec (okSt_of e1) (okC_len e2) (show j < nt.1.length by omega) hn, Int.toNat_natCast]
        · simp [h1, br]
      · simp [h0, br]
theorem iCan_spec {n : Nat} {nt : Network} {s : State} {caps : List Int} {k : Int} (h : SmallN nt) (hs : SmallSt s) (hc : caps.length ≤ 1048576) (hn : 1048576 < n) : iCan.f n nt s caps k = some (canB nt s caps k, ()) := by
  unfold iCan.f canB
  rw [iBounded_spec h hs hc hn]
  cases e1 : okSt nt s
  · rfl
  · cases e2 : okC nt.2 caps
    · rfl
    · simp only [Option.bind_some, Bool.true_and, Bool.not_true, br_false]
      refine W_eq.1 (W_bind.2 (W_and (boundedRun_spec (okSt_of e1) hs hc hn) (fun r ⟨R, e⟩ => W_eq.2 ?_)))
      unfold isProcess.f
      by_cases h0 : 0 ≤ k
      · obtain ⟨j, rfl⟩ : ∃ j : Nat, k = (j : Int) := ⟨k.toNat, by omega⟩
        have hnet : (r.1, r.2.1) = nt := R.net
        rw [show ((r.1, r.2.1) : Network) = nt from hnet] at R ⊢
        by_cases h1 : (j : Int) < (nt.1.length : Int)
        · simp only [h0, h1, Option.bind_some, decide_true, br_true, Bool.true_and, may_spec R (okSt_of e1) (okC_len e2) e (show j < nt.1.length by omega), Int.toNat_natCast]
        · simp [h1, br]
      · simp [h0, br]
theorem law_true (nt : Network) (s : State) (caps : List Int) (k : Int) (h : InR tNetwork nt) (hst : InR tState s) : ∃ n, law.f n nt s caps k = some (true, ()) := by
  refine ⟨1048577, ?_⟩
  have hn : 1048576 < 1048577 := by omega
  unfold law.f
  by_cases hc : caps.length ≤ 1048576
  · have hc' : ¬ (1048576 < (caps.length : Int)) := by omega
    rw [br_no hc']
    obtain ⟨r, e, r1, r2⟩ := szNetwork_spec (n := 1048577) (left := 1048576) (by omega) h (by omega) (by omega)
    simp only [e, Option.bind_some]
    by_cases hr : r < 0
    · simp [hr, br]
    · rw [br_no hr]
      have hS := r2 (by omega)
      obtain ⟨q, e, q1, q2⟩ := szState_spec (n := 1048577) (left := r) (by omega) hst (by omega) (by omega)
      simp only [e, Option.bind_some]
      by_cases hq : q < 0
      · simp [hq, br]
      · rw [br_no hq]
        have hT := q2 (by omega)
        simp only [toNetwork_spec hS hn, toState_spec hT hn, toIntS_spec hc hn, sCanStepBounded_spec hS hT hc hn, iCan_spec hS hT hc hn, eqNetwork_refl hS hn, eqState_refl hT hn, eqIntS_refl hc hn, Option.bind_some, decide_true, Bool.not_true, br_false]
  · rw [br_yes (by omega)]
end Go.AmT
