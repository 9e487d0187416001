/- Steps in any order: the law. -/
import Derived.Test.YtcipidfgblbeiaaLDiam
import Derived.Test.YtcipidfgblbeiaaPStepN
namespace Go.AmT
open Go Go.Am
set_option linter.unusedVariables false
set_option linter.unusedSimpArgs false

theorem law_true (code : List Int) : ∃ n, law.f n code = some (true, ()) := by
  refine ⟨1048577, ?_⟩
  have hn : 1048576 < 1048577 := by omega
  unfold law.f
  by_cases hl : code.length ≤ 1048576
  rotate_left
  · rw [br_yes (by omega)]
  rw [br_no (show ¬ (1048576 < (code.length : Int)) by omega)]
  refine W_eq.1 ?_
  rw [W_bind]
  refine W_and (makeNetwork_W (m := 6) hl (by omega) hn) (fun r1 hN => ?_)
  rw [W_bind]
  refine W_and (fresh_W hl hn) (fun r2 h2 => ?_)
  rw [W_bind]
  refine W_and (makeState_W h2 hN.small hN.ok hn) (fun r3 h3 => ?_)
  obtain ⟨nt, ⟨⟩⟩ := r1
  obtain ⟨s, ⟨⟩⟩ := r3
  have hpr : nt.1.length ≤ 6 := hN.progs
  have hS := hN.small
  have o : OkSt nt s := h3.1.ok hN.ok
  have h4 : s.2.2.2 ≤ 400 := h3.2.1
  have hst := o.steps.1
  rw [W_eq]
  simp only
  refine iter_line (fun i => ((i : Int), ())) nt.1.length (fun ih i hi => ?_) (fun ih => br_no (Int.lt_irrefl _)) (by show nt.1.length < 1048577; omega)
  simp only [br_yes (show (i : Int) < (nt.1.length : Int) by omega)]
  rw [iCanStep_spec hS o hn, bind_unit, sCanStep_spec hS o hi hn, bind_unit, canZ_nat hi]
  simp only [decide_true, Bool.not_true, br_false]
  refine (iter_line (fun k => ((k : Int), ())) i (fun ih2 k hk => ?_) (fun ih2 => (br_no (Int.lt_irrefl _)).trans (by rw [w64_succ (by omega)])) (by omega))
  have hk' : k < nt.1.length := by omega
  simp only [br_yes (show (k : Int) < (i : Int) by omega)]
  rw [w64_succ (by omega), iCanStep_spec hS o hn, canZ_nat hk']
  simp only [bind_unit]
  cases ci : canP nt s i
  · rfl
  simp only [Bool.not_true, br_false, bind_unit]
  cases ck : canP nt s k
  · rfl
  simp only [Bool.not_true, cut_inr, br_false]
  obtain ⟨c1, c2, e⟩ := diamond o hi hk' (by omega) (by omega) ci ck
  have oi := stepP_ok o hi ci
  have ok := stepP_ok o hk' ck
  have ox := stepP_ok oi hk' c1
  have e1 : canZ nt s (i : Int) = true := by rw [canZ_nat hi, ci]
  have e2 : canZ nt s (k : Int) = true := by rw [canZ_nat hk', ck]
  have e3 : canZ nt (stepP nt s i) (k : Int) = true := by rw [canZ_nat hk', c1]
  have e4 : canZ nt (stepP nt s k) (i : Int) = true := by rw [canZ_nat hi, c2]
  rw [iStepN_spec hS o hn, if_pos e1, bind_unit, iStepN_spec hS o hn, if_pos e2, bind_unit]
  simp only [Int.toNat_natCast]
  rw [iStepN_spec hS oi hn, if_pos e3, bind_unit, iStepN_spec hS ok hn, if_pos e4, bind_unit]
  simp only [Int.toNat_natCast, Bool.not_true, br_false]
  rw [← e, statesB_spec hS ox hn, bind_unit]
  have hsteps : (stepP nt (stepP nt s i) k).2.2.2 = w64 (s.2.2.2 + 2) := by
    rw [w64_id (by omega) (by omega)]
    show s.2.2.2 + 1 + 1 = _
    omega
  simp only [Bool.not_true, br_false]
  rw [decide_eq_true hsteps, Bool.not_true, br_false]
end Go.AmT
