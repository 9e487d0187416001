/- All ways lead to the one end: the law. -/
import Derived.Test.YtgepghodhnmhjaaLOneE
import Derived.Test.YtgepghodhnmhjaaPFmtS
import Derived.Test.YtgepghodhnmhjaaPRunK
import Derived.Test.YtgepghodhnmhjaaPRunE
namespace Go.AmT
open Go Go.Am
set_option linter.unusedVariables false
set_option linter.unusedSimpArgs false

theorem rch_steps {nt : Network} {s : State} (R : Rch nt s) : ∃ m, Steps nt (fun _ _ => true) (start nt) s m :=
  R (fun s => ∃ m, Steps nt (fun _ _ => true) (start nt) s m) ⟨_, .refl⟩ (fun s k ⟨m, S⟩ hk hc => ⟨_, S.step hk rfl hc⟩)
theorem eager_steps {nt : Network} {most : Int} {s0 : State} (o : OkSt nt s0) (hm : 0 ≤ most) : (∃ m, Steps nt (fun _ _ => true) s0 (whileF (eagC nt most) (eagF nt) 20001 (0, s0)).2 m) ∧ (whileF (eagC nt most) (eagF nt) 20001 (0, s0)).2.2.2.2 - s0.2.2.2 ≤ most := by
  have h := whileF_inv (c := eagC nt most) (f := eagF nt) (J := fun x => JS nt x ∧ (x.1 = x.2.2.2.2 - s0.2.2.2 ∧ x.1 ≤ most) ∧ ∃ m, Steps nt (fun _ _ => true) s0 x.2 m) (fun x hx h => by
    obtain ⟨h1, ⟨h2, h3⟩, m, S⟩ := hx
    have hg := (eag_good x h1 h).1
    unfold eagC at h
    rw [Bool.and_eq_true, decide_eq_true_eq] at h
    obtain ⟨g1, g2⟩ := any_first h.2
    exact ⟨hg, ⟨by show x.1 + 1 = x.2.2.2.2 + 1 - s0.2.2.2; omega, by show x.1 + 1 ≤ most; omega⟩, _, S.step g1 rfl g2⟩) 20001 (0, s0) ⟨⟨o, Int.le_refl _, o.steps.1⟩, ⟨by show (0 : Int) = s0.2.2.2 - s0.2.2.2; omega, hm⟩, _, .refl⟩
  obtain ⟨-, ⟨h2, h3⟩, h4⟩ := h
  exact ⟨h4, by omega⟩
theorem law_true (code : List Int) : ∃ n, law.f n code = some (true, ()) := by
  refine ⟨1048577, ?_⟩
  have hn : 1048576 < 1048577 := by omega
  unfold law.f
  by_cases hl : code.length ≤ 1048576
  rotate_left
  · rw [br_yes (by omega)]
  rw [br_no (show ¬ (1048576 < (code.length : Int)) by omega)]
  refine W_eq.1 ?_
  rw [W_bind]
  refine W_and (makeNetwork_W (m := 6) hl (by omega) hn) (fun r1 hN => ?_)
  obtain ⟨nt, ⟨⟩⟩ := r1
  have hS := hN.small
  have o : OkN nt := hN.ok
  have o0 := start_ok o
  have hs0 := small_of_ok o0
  simp only
  rw [sStartState_spec hS o hn, bind_unit, iRunTurns_spec hS hs0 hn, bind_unit, iRunEager_spec hS hs0 hn, bind_unit, W_bind]
  refine W_and (fresh_W hl hn) (fun r2 h2 => ?_)
  rw [W_bind]
  refine W_and (makeState_W h2 hS o hn) (fun r3 h3 => ?_)
  obtain ⟨late, ⟨⟩⟩ := r3
  obtain ⟨ml, SL⟩ := rch_steps h3.1
  have ol := SL.ok o0
  have hl400 : late.2.2.2 ≤ 400 := h3.2.1
  rw [W_eq]
  simp only
  rw [iRunTurns_spec hS (small_of_ok ol) hn, bind_unit, sRunTurns_spec hS hs0 hn, bind_unit]
  have ha : runTurns nt (start nt) 4000 = (runT nt none 4000 (start nt), !anyCan nt (runT nt none 4000 (start nt))) := by unfold runTurns; rw [if_pos (okSt_true o0)]
  have hc : runTurns nt late 4000 = (runT nt none 4000 late, !anyCan nt (runT nt none 4000 late)) := by unfold runTurns; rw [if_pos (okSt_true ol)]
  have hb : runEager nt (start nt) 4000 = ((whileF (eagC nt 4000) (eagF nt) 20001 (0, start nt)).2, !anyCan nt (whileF (eagC nt 4000) (eagF nt) 20001 (0, start nt)).2) := by unfold runEager; rw [if_pos (okSt_true o0)]
  obtain ⟨ma, A⟩ := runT_steps (c := none) (most := 4000) o0
  have hma := runT_most (c := none) (most := 4000) o0
  obtain ⟨mc, C0⟩ := runT_steps (c := none) (most := 4000) ol
  have hmc := runT_most (c := none) (most := 4000) ol
  obtain ⟨⟨mb, B⟩, hmb⟩ := eager_steps (most := 4000) o0 (by omega)
  rw [ha, hb, hc]
  have C := SL.trans (C0.mono (g' := fun _ _ => true) (fun _ _ _ => rfl))
  have h00 : (start nt).2.2.2 = 0 := rfl
  rw [h00] at hma hmb
  generalize runT nt none 4000 (start nt) = a at A hma
  generalize runT nt none 4000 late = c at C hmc
  generalize (whileF (eagC nt 4000) (eagF nt) 20001 (0, start nt)).2 = b at B hmb
  have oa := A.ok o0
  have h1 : anyCan nt a = false → anyCan nt b = false → b = a := fun qa qb => B.same_end o0 A qb (by omega) qa (by omega)
  have h2 : anyCan nt a = false → anyCan nt c = false → c = a := fun qa qc => C.same_end o0 A qc (by omega) qa (by omega)
  have hst := statesB_spec hS oa hn
  cases qa : anyCan nt a
  rotate_left
  · simp only [qa, Bool.not_true, decide_true, br_false, cut_inr, Bool.not_false, br_true]
  simp only [qa, Bool.not_false, decide_true, Bool.not_true, br_false, br_true]
  have e1 : (br (!anyCan nt b) (br (decide (a.2.2.2 < 4000)) ((statesB.f 1048577 nt a b).bind fun r12 => some (.inr ((!r12.1), ()))) (br (decide (b.2.2.2 < 4000)) ((statesB.f 1048577 nt a b).bind fun r13 => some (.inr ((!r13.1), ()))) (some (.inr (false, ()))))) (some (.inr (false, ()))) : Option (Sum (Bool × Unit) (Bool × Unit))) = some (.inr (false, ())) := by
    cases qb : anyCan nt b
    · rw [h1 qa qb, hst]
      simp only [Bool.not_false, br_true, bind_unit, Bool.not_true, brd]
      split <;> rfl
    · rfl
  rw [e1, cut_inr, br_false]
  cases qc : anyCan nt c
  · rw [h2 qa qc, hst]; rfl
  · rfl
end Go.AmT
