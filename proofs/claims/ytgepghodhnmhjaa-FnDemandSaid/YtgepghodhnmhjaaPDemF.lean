/- A demand is met if as much is ever sent: the law. -/
import Derived.Test.YtgepghodhnmhjaaLDemF
import Derived.Test.YtgepghodhnmhjaaPBel
import Derived.Test.YtgepghodhnmhjaaPDemB
namespace Go.AmT
open Go Go.Am
set_option linter.unusedVariables false
set_option linter.unusedSimpArgs false

theorem rch_steps {nt : Network} {s : State} (R : Rch nt s) : ∃ m, Steps nt (fun _ _ => true) (start nt) s m :=
  R (fun s => ∃ m, Steps nt (fun _ _ => true) (start nt) s m) ⟨_, .refl⟩ (fun s k ⟨m, S⟩ hk hc => ⟨_, S.step hk rfl hc⟩)
theorem law_true (code : List Int) (hcode : InR (.sl U8) code) : ∃ n, law.f n code = some (true, ()) := by
  refine ⟨1048577, ?_⟩
  have hn : 1048576 < 1048577 := by omega
  unfold law.f
  by_cases hl : code.length ≤ 1048576
  rotate_left
  · rw [br_yes (by omega)]
  rw [br_no (show ¬ (1048576 < (code.length : Int)) by omega)]
  refine W_eq.1 ?_
  rw [W_bind]
  refine W_and (makeNetwork_W (m := 6) hl (by omega) hn) (fun r1 hN => ?_)
  rw [W_brd]
  refine ⟨fun _ => W_some.2 rfl, fun hne => ?_⟩
  rw [W_bind]
  refine W_and (fresh_W hl hn) (fun r2 h2 => ?_)
  rw [W_bind]
  refine W_and (makeState_W h2 hN.small hN.ok hn) (fun r3 h3 => ?_)
  rw [W_bind]
  refine W_and (lawAt_W hl hcode (by omega)) (fun r4 h4 => ?_)
  rw [if_neg hne, W_bind]
  refine W_and (lawAt_W hl hcode (by omega)) (fun r5 h5 => ?_)
  obtain ⟨nt, ⟨⟩⟩ := r1
  obtain ⟨s, ⟨⟩⟩ := r3
  have hS := hN.small
  have o : OkN nt := hN.ok
  have o0 := start_ok o
  have hli := o.links
  have hne : ¬ ((nt.2.length : Int) = 0) := hne
  have hRch : Rch nt s := h3.1
  obtain ⟨ms, S⟩ := rch_steps hRch
  have os : OkSt nt s := S.ok o0
  simp only
  have hk1 := Int.tmod_nonneg (a := r4.1) (nt.2.length : Int) h4.1
  have hk2 := Int.tmod_lt_of_pos r4.1 (b := (nt.2.length : Int)) (by omega)
  generalize r4.1.tmod (nt.2.length : Int) = link0 at hk1 hk2
  obtain ⟨link, rfl⟩ : ∃ l : Nat, link0 = (l : Int) := ⟨link0.toNat, by omega⟩
  have hlk : link < nt.2.length := by omega
  generalize r5.1.tmod 12 = count
  rw [W_eq, sLeast_spec hS o hn, bind_unit, sRunTurns_spec hS (small_of_ok os) hn, bind_unit]
  unfold leastR
  cases e : leastF nt 300 1 (tokL nt) with
  | none => rfl
  | some hr =>
    obtain ⟨h, r⟩ := hr
    have e : leastP nt = some (h, r) := e
    have hrt : runTurns nt s 20000 = (runT nt none 20000 s, !anyCan nt (runT nt none 20000 s)) := by unfold runTurns; rw [if_pos (okSt_true os)]
    simp only [hrt, Bool.not_true, br_false, Bool.not_not]
    cases hq : anyCan nt (runT nt none 20000 s)
    rotate_left
    · rfl
    by_cases hT : 20000 ≤ (runT nt none 20000 s).2.2.2
    · rw [br_false, decide_eq_true hT]; rfl
    rw [br_false, decide_eq_false hT, cut_inr, br_false]
    obtain ⟨mt, T0⟩ := runT_steps (c := none) (most := 20000) os
    have T := S.trans (T0.mono (g' := fun _ _ => true) (fun _ _ _ => rfl))
    generalize runT nt none 20000 s = t at hq hT T
    have hfin : 20000 ≤ s.2.2.2 + clipD 20000 := by have := os.steps.1; unfold clipD; omega
    obtain ⟨m1, D, hshort, hsub⟩ := dem_short (fin := s.2.2.2 + clipD 20000) (d := 1048577 + 1) (count := count) o0 S hlk (by omega) hfin T hq (by omega)
    have htrue := fun hh => dem_true (nt := nt) (fin := s.2.2.2 + clipD 20000) (d := 1048577 + 1) (f := fun _ => false) (s := s) (link := link) (count := count) hh
    rw [iRunDemand_spec hS (small_of_ok os) hn (by omega) (by omega), bind_unit]
    have hrd : runDemand 1048577 nt s (link : Int) count 20000 = dem nt (s.2.2.2 + clipD 20000) (1048577 + 1) (fun _ => false) s link count := by
      unfold runDemand; rw [if_pos ⟨okSt_true os, by omega, by omega⟩, Int.toNat_natCast]
    rw [hrd]
    generalize dem nt (s.2.2.2 + clipD 20000) (1048577 + 1) (fun _ => false) s link count = R at D hshort hsub htrue
    have oR := D.ok o0
    obtain ⟨hsubR, _⟩ := D.quiet_eq o e
    have heq := (T.quiet_eq o e).2 hq (by omega)
    have hlen := least_len e
    have hns := os.ns
    have hnR := oR.ns
    have hok : ∀ j, okS (atL h j) = true := fun j => by
      by_cases hj : j < nt.2.length
      · exact least_okS e hj
      · unfold atL; rw [List.getD_eq_getElem?_getD, List.getElem?_eq_none (by omega)]; decide
    have hh2 : ∀ j, (atL h j).length ≤ 1048576 := fun j => by have := (okS_len (hok j)).1; omega
    simp only
    rw [sIsState_spec hS (small_of_ok oR) hn, okSt_true oR, bind_unit, Bool.not_true, br_false]
    rw [below_spec (by omega) (sent_len oR) hh2 hn, bind_unit, belowP_true (by omega) (fun j hj => ⟨sent_ok oR, hok j, hsubR j⟩), Bool.not_true, br_false]
    rw [below_spec (by omega) (sent_len os) (sent_len oR) hn, bind_unit, belowP_true (by omega) (fun j hj => ⟨sent_ok os, sent_ok oR, hsub j⟩), Bool.not_true, cut_inr, br_false]
    rw [chk_true (by omega), chk_true (by omega)]
    simp only [Int.toNat_natCast]
    show br (decide (R.2 = decide (count ≤ ((atL h link).length : Int)))) (some ((decide (R.2 = decide (count ≤ ((sent R.1 link).length : Int)))), ())) (some (false, ())) = _
    have hp := (hsubR link).length_le
    cases hm : R.2
    · have h1 := hshort hm
      rw [heq link] at h1
      rw [decide_eq_false (show ¬ count ≤ ((atL h link).length : Int) by omega), decide_eq_false (show ¬ count ≤ ((sent R.1 link).length : Int) by omega)]
      rfl
    · have h1 := htrue hm
      rw [sentL_eq] at h1
      rw [decide_eq_true (show count ≤ ((atL h link).length : Int) by omega), decide_eq_true h1]
      rfl
end Go.AmT
