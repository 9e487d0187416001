/- Runs with capacities stay under the least streams: the law. -/
import Derived.Test.YtgepghodhnmhjaaLBndF
import Derived.Test.YtgepghodhnmhjaaPBel
import Derived.Test.YtgepghodhnmhjaaPRunK
namespace Go.AmT
open Go Go.Am
set_option linter.unusedVariables false
set_option linter.unusedSimpArgs false

theorem sIsQuiet_spec {n : Nat} {nt : Network} {s : State} (h : SmallN nt) (o : OkSt nt s) (hn : 1048576 < n) : sIsQuiet.f n nt s = some (!anyCan nt s, ()) := by
  unfold sIsQuiet.f
  rw [sIsState_spec h (small_of_ok o) hn, okSt_true o, bind_unit, br_true]
  refine W_eq.1 (W_bind.2 (W_and (sL5First_spec o hn) (fun r ⟨e, _⟩ => ?_)))
  rw [W_some, ← e]
  congr 1
  by_cases h : 0 ≤ r.1
  · rw [decide_eq_true h, decide_eq_false (by omega)]; rfl
  · rw [decide_eq_false h, decide_eq_true (by omega)]; rfl
theorem iIsJammed_spec {n : Nat} {nt : Network} {s : State} {caps : List Int} (h : SmallN nt) (o : OkSt nt s) (hc : okC nt.2 caps = true) (hn : 1048576 < n) : iIsJammed.f n nt s caps = some (!anyMay nt s caps && anyCan nt s, ()) := by
  have hs := small_of_ok o
  have hl := o.net.links
  have hcl := okC_len hc
  unfold iIsJammed.f
  rw [iBounded_spec h hs (by omega) hn, okSt_true o, hc]
  simp only [Bool.and_self, Option.bind_some, Bool.not_true, br_false]
  refine W_eq.1 (W_bind.2 (W_and (boundedRun_spec o hs (by omega) hn) (fun r ⟨R, e⟩ => W_eq.2 ?_)))
  rw [stuck_spec R o hcl e hn, bind_unit]
  cases anyMay nt s caps
  · simp only [Bool.not_false, br_true, Bool.true_and]
    rw [quiet_spec R o hn, bind_unit, Bool.not_not]
  · rfl
theorem law_true (code : List Int) : ∃ n, law.f n code = some (true, ()) := by
  refine ⟨1048577, ?_⟩
  have hn : 1048576 < 1048577 := by omega
  unfold law.f
  by_cases hl : code.length ≤ 1048576
  rotate_left
  · rw [br_yes (by omega)]
  rw [br_no (show ¬ (1048576 < (code.length : Int)) by omega)]
  refine W_eq.1 ?_
  rw [W_bind]
  refine W_and (makeNetwork_W (m := 6) hl (by omega) hn) (fun r1 hN => ?_)
  rw [W_bind]
  refine W_and (fresh_W hl hn) (fun r2 h2 => ?_)
  rw [W_bind]
  refine W_and (makeCaps_W h2 hN.small hN.ok hn) (fun r3 h3 => ?_)
  obtain ⟨nt, ⟨⟩⟩ := r1
  obtain ⟨caps, ⟨⟩⟩ := r3
  have hS := hN.small
  have o : OkN nt := hN.ok
  have o0 := start_ok o
  have hC : okC nt.2 caps = true := CapSm.ok hN h3
  have hcl := okC_len hC
  have hli := o.links
  rw [W_eq]
  simp only
  rw [sLeast_spec hS o hn, bind_unit, sStartState_spec hS o hn, bind_unit, iRunBounded_spec hS (small_of_ok o0) (by omega) hn, bind_unit]
  have hrb : runBounded nt (start nt) caps 5000 = runB nt (start nt) caps 5000 := by
    unfold runBounded; rw [okSt_true o0, hC]; rfl
  simp only [hrb]
  unfold runB
  obtain ⟨m, S⟩ := runT_steps (c := some caps) (most := 5000) o0
  have ot : OkSt nt (runT nt (some caps) 5000 (start nt)) := S.ok o0
  generalize runT nt (some caps) 5000 (start nt) = s at S ot
  simp only
  rw [sIsState_spec hS (small_of_ok ot) hn, okSt_true ot]
  simp only [bind_unit, Bool.not_true, br_false]
  rw [iIsJammed_spec hS ot hC hn, bind_unit, sIsQuiet_spec hS ot hn, bind_unit]
  have hj : (!decide ((decide (bndW nt s caps = 2)) = (!anyMay nt s caps && anyCan nt s))) = false := by
    unfold bndW; cases anyCan nt s <;> cases anyMay nt s caps <;> rfl
  have hq : (!decide ((decide (bndW nt s caps = 1)) = (!anyCan nt s))) = false := by
    unfold bndW; cases anyCan nt s <;> cases anyMay nt s caps <;> rfl
  rw [hj, hq, br_false, cut_inr, br_false]
  refine iter_line (fun i => ((i : Int), ())) nt.2.length (fun ih j hj => ?_) (fun ih => ?_) (by omega)
  · have e1 : nt.2.getD j zLink = lnk nt j := rfl
    simp only [br_yes (show (j : Int) < (nt.2.length : Int) by omega), Int.toNat_natCast, e1]
    have hqs := ot.nq
    rw [chk_true (by omega), w64_succ (by omega)]
    by_cases hf : 0 ≤ (lnk nt j).1
    · rw [br_yes hf]
      by_cases ht : 0 ≤ (lnk nt j).2.2.1
      · have hi := cap_inv hC S hj ht
        rw [br_yes ht, chk_true (by omega), chk_true (by omega), br_no (by unfold queue at hi; omega)]
      · rw [br_no ht]
    · rw [br_no hf]
  · simp only [br_no (Int.lt_irrefl _)]
    unfold leastR
    cases e : leastF nt 300 1 (tokL nt) with
    | none => rfl
    | some hr =>
      obtain ⟨h, r⟩ := hr
      have e : leastP nt = some (h, r) := e
      obtain ⟨hsub, heq⟩ := S.quiet_eq o e
      simp only [Bool.not_true, br_false]
      have hlen := least_len e
      have hns := ot.ns
      have hok : ∀ j, okS (atL h j) = true := fun j => by
        by_cases hj : j < nt.2.length
        · exact least_okS e hj
        · unfold atL; rw [List.getD_eq_getElem?_getD, List.getElem?_eq_none (by omega)]; decide
      have hh2 : ∀ j, (atL h j).length ≤ 1048576 := fun j => by have := (okS_len (hok j)).1; omega
      rw [below_spec (by omega) (sent_len ot) hh2 hn, bind_unit, belowP_true (by omega) (fun j hj => ⟨sent_ok ot, hok j, hsub j⟩), br_true]
      by_cases hw : bndW nt s caps = 1
      · rw [decide_eq_true hw, Bool.not_true, br_false]
        by_cases h2 : 20000 ≤ s.2.2.2
        · rw [br_yes h2]
        · have hac : anyCan nt s = false := by
            unfold bndW at hw
            cases hac : anyCan nt s
            · rfl
            · rw [hac] at hw; cases hm : anyMay nt s caps <;> rw [hm] at hw <;> simp at hw
          have he : s.2.2.1 = h := eq_of_atL (by omega) (fun j _ => heq hac (by omega) j)
          rw [br_no h2, makeEqual_spec (by omega) (sent_len ot) hn, bind_unit, decide_eq_true he]
      · rw [decide_eq_false hw]; rfl
end Go.AmT
