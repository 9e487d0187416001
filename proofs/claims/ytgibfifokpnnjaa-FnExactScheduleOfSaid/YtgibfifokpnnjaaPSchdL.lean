/- The law ScheduleOf, in plain Lean. -/
import Derived.Test.YtgibfifokpnnjaaLSchdL
import Derived.Test.YtgibfifokpnnjaaPSchd
namespace Go.AmT
open Go Go.Am
set_option linter.unusedVariables false
set_option linter.unusedSimpArgs false

theorem schedF_len {g : Graph} : ∀ (m : Nat) (q tok out : List Int), (schedF g m q tok out).1.length ≤ out.length + m
  | 0, q, tok, out => by simp [schedF]
  | m + 1, q, tok, out => by
    simp only [schedF]
    split
    · rename_i k hk
      have := schedF_len (g := g) m (q.set k (qf q k - 1)) (after g tok (k : Int)) (out ++ [(k : Int)])
      simp only [List.length_append, List.length_singleton] at this
      omega
    · simp

theorem law_true (g : Graph) (h : g.2.length ≤ maxLen) : ∃ n, law.f n g = some (true, ()) := by
  obtain ⟨n, hn⟩ : ∃ n : Nat, 1000000000000 < n := ⟨1000000000001, by omega⟩
  refine ⟨n, ?_⟩
  by_cases hl : g.2.length ≤ 1048576
  · have hng : g.2.length < n := by omega
    have e1 : w64 (1048576 - (g.2.length : Int)) = 1048576 - (g.2.length : Int) := w64_id (by omega) (by omega)
    have e2 : ¬ (1048576 - (g.2.length : Int) < 0) := by omega
    obtain ⟨r, x, s1, s2, r1, r2, h1, h2, h3, h4⟩ := sched_same hl hn
    have hx : r.1.length ≤ 1600 := by
      cases hb : x.2.1 with
      | false => rw [h3 hb]; simp
      | true =>
        have hok : okG g = true := by
          cases h : okG g with
          | true => rfl
          | false => rw [h2 h] at hb; exact absurd hb (by simp)
        obtain ⟨-, ql, ha, hb2, hle⟩ := (h1 hok).resolve_right (fun h => by rw [h.1] at hb; exact absurd hb (by simp))
        have sb := sum_bd (q := x.1) (fun i hi => by have := hle i (by omega); omega)
        have := (okG_un hok).2.1
        rw [h4 hb]
        have := schedF_len (g := g) x.1.sum.toNat x.1 (toks g) []
        simp only [List.length_nil] at this
        omega
    obtain ⟨ys, m1⟩ := markGraph_spec hl hng
    have m3 := markIntS_spec (n := n) (a := r.1) (k := 1) (by omega) (by omega) (by omega)
    have m4 := heldIntS_spec (n := n) (m := r.1.length) (k := 1) (by omega) (by omega) (by omega)
    have n1 : ¬ (1 + 5 * (g.2.length : Int) < 0) := by omega
    have n2 : ¬ (1 + (r.1.length : Int) < 0) := by omega
    have q := eqIntS_refl (n := n) (a := r.1) (by omega) (by omega)
    unfold law.f szGraph.f szEdgeS.f
    simp only [e1, e2, decide_false, br_false, bind_unit, Option.bind_some, toGraph_spec hl hng, r1, r2, q, Bool.not_true, decide_true, eqGraph_refl hl hng, cut_inr,
      m1, m3, m4, n1, n2]
  · have hm : maxLen = 9223372036854775807 := by decide
    have e1 : w64 (1048576 - (g.2.length : Int)) = 1048576 - (g.2.length : Int) := w64_id (by omega) (by omega)
    have e2 : (1048576 - (g.2.length : Int) < 0) := by omega
    have e3 : ((-1 : Int) < 0) := by omega
    unfold law.f szGraph.f szEdgeS.f
    simp only [e1, e2, e3, decide_true, br_true, bind_unit]
end Go.AmT
