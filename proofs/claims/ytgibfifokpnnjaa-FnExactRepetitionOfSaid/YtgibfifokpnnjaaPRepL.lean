/- The law RepetitionOf, in plain Lean. -/
import Derived.Test.YtgibfifokpnnjaaLRepL
import Derived.Test.YtgibfifokpnnjaaPRepI2
namespace Go.AmT
open Go Go.Am
set_option linter.unusedVariables false
set_option linter.unusedSimpArgs false

theorem RepOf.small {E : List Ed} {N : Nat} {x : List Int × (Bool × Unit)} (h : RepOf E N x) : x.1.length ≤ N := by
  rcases h with ⟨_, h, _⟩ | ⟨h, _⟩
  · omega
  · rw [h]; simp

theorem law_true (g : Graph) (h : g.2.length ≤ maxLen) : ∃ n, law.f n g = some (true, ()) := by
  obtain ⟨n, hn⟩ : ∃ n : Nat, 1000000000000 < n := ⟨1000000000001, by omega⟩
  refine ⟨n, ?_⟩
  by_cases hl : g.2.length ≤ 1048576
  · have hng : g.2.length < n := by omega
    have e1 : w64 (1048576 - (g.2.length : Int)) = 1048576 - (g.2.length : Int) := w64_id (by omega) (by omega)
    have e2 : ¬ (1048576 - (g.2.length : Int) < 0) := by omega
    obtain ⟨x, s1, s2, h1, h2⟩ := rep_same hl hn
    have hx : x.1.length ≤ 8 := by
      cases hok : okG g with
      | true => have := (h1 hok).small; have := (okG_un hok).2.1; omega
      | false => rw [h2 hok]; simp
    obtain ⟨ys, m1⟩ := markGraph_spec hl hng
    have m3 := markIntS_spec (n := n) (a := x.1) (k := 1) (by omega) (by omega) (by omega)
    have m4 := heldIntS_spec (n := n) (m := x.1.length) (k := 1) (by omega) (by omega) (by omega)
    have n1 : ¬ (1 + 5 * (g.2.length : Int) < 0) := by omega
    have n2 : ¬ (1 + (x.1.length : Int) < 0) := by omega
    have q := eqIntS_refl (n := n) (a := x.1) (by omega) (by omega)
    unfold law.f szGraph.f szEdgeS.f
    simp only [e1, e2, decide_false, br_false, bind_unit, Option.bind_some, toGraph_spec hl hng, s1, s2, q, Bool.not_true, decide_true, eqGraph_refl hl hng, cut_inr,
      m1, m3, m4, n1, n2]
  · have hm : maxLen = 9223372036854775807 := by decide
    have e1 : w64 (1048576 - (g.2.length : Int)) = 1048576 - (g.2.length : Int) := w64_id (by omega) (by omega)
    have e2 : (1048576 - (g.2.length : Int) < 0) := by omega
    have e3 : ((-1 : Int) < 0) := by omega
    unfold law.f szGraph.f szEdgeS.f
    simp only [e1, e2, e3, decide_true, br_true, bind_unit]
end Go.AmT
