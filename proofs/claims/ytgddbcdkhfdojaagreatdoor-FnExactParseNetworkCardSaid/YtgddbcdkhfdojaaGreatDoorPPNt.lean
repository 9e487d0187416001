/- Networks that are read: both programs read the same. -/
import Derived.Test.YtgddbcdkhfdojaaGreatDoorLPNt
import Derived.Test.YtgddbcdkhfdojaaGreatDoorPTxtM
import Derived.Test.YtgddbcdkhfdojaaGreatDoorPMarkH
namespace Go.AmT
open Go Go.Am
theorem law_true (s : List UInt8) : ∃ n, law.f n s = some (true, ()) := by
  refine ⟨1048578, ?_⟩
  have hn : 1048576 < 1048578 := by omega
  unfold law.f
  by_cases hl : s.length ≤ 1048576
  · rw [br_no (by omega)]
    obtain ⟨r, e1, e2, h⟩ := parseN_same (n := 1048578) hl (by omega)
    have hS := toldN_small h
    have k1 := mNetwork_le (k := 1) hS
    have c1 : ¬ (mNetwork r.1 1).2 < 0 := by omega
    have m1 := markNetwork_spec (n := 1048578) hS (show (0 : Int) ≤ 1 by omega) (show (1 : Int) ≤ 281474976710656 by omega) hn
    have m2 := heldNetwork_spec (n := 1048578) hS (show (0 : Int) ≤ 1 by omega) (show (1 : Int) ≤ 281474976710656 by omega) hn
    have m3 : heldNetwork.f 1048578 ((mNetwork r.1 1).1.1, (mNetwork r.1 1).1.2) 1 = some ((mNetwork r.1 1).2, ()) := m2
    simp only [e1, e2, Option.bind_some, eqNetwork_refl hS hn, decide_true, Bool.not_true, br_false, cut_inr, m1, m3, c1, decide_false]
  · rw [br_yes (by omega)]
end Go.AmT
