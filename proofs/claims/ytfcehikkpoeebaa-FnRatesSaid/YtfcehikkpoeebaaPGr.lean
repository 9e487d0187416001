/- The law IsGraph, in plain Lean. -/
import Derived.Test.YtfcehikkpoeebaaLGr
import Derived.Test.YtfcehikkpoeebaaPGrD
namespace Go.AmT
open Go Go.Am
set_option linter.unusedVariables false

theorem sIsGraph_spec {n : Nat} {g : Graph} (hl : g.2.length ≤ 1048576) (hn : g.2.length < n) : sIsGraph.f n g = some (okG g, ()) := by
  unfold sIsGraph.f okG
  simp only [sL1In_spec, Option.bind_some]
  by_cases h1 : (0 ≤ g.1 ∧ g.1 ≤ 8)
  · have e1 : w64 (g.1 - 1) = g.1 - 1 := w64_id (by omega) (by omega)
    simp only [h1.1, h1.2, decide_true, Bool.and_self, Bool.not_true, br_false, Bool.true_and, e1]
    by_cases h2 : g.2.length ≤ 16
    · have h2' : ¬ (16 < (g.2.length : Int)) := by omega
      simp only [h2, h2', decide_true, decide_false, br_false, Bool.true_and, cut_inr]
      refine all_loop g.2 (okE g.1) (fun ih i hi => ?_) (fun ih => ?_) hn
      · have h3 : (i : Int) < (g.2.length : Int) := by omega
        simp only [h3, decide_true, br_true, Int.toNat_natCast, getD_lt hi]
        rw [chk_true (by simp), w64_succ (by omega)]
        generalize g.2[i] = e
        unfold okE
        simp only [br_if]
        simp only [Bool.not_eq_true', ← Bool.not_eq_true]
        by_cases c1 : (decide (0 ≤ e.1) && decide (e.1 ≤ g.1 - 1)) = true <;> by_cases c2 : (decide (0 ≤ e.2.1) && decide (e.2.1 ≤ g.1 - 1)) = true <;>
          by_cases c3 : (decide (1 ≤ e.2.2.1) && decide (e.2.2.1 ≤ 5)) = true <;> by_cases c4 : (decide (1 ≤ e.2.2.2.1) && decide (e.2.2.2.1 ≤ 5)) = true <;>
          by_cases c5 : (decide (0 ≤ e.2.2.2.2) && decide (e.2.2.2.2 ≤ 50)) = true <;> simp [c1, c2, c3, c4, c5]
      · simp [br]
    · have h2' : (16 < (g.2.length : Int)) := by omega
      simp [h2, h2', br, cut]
  · have : (decide (0 ≤ g.1) && decide (g.1 ≤ 8)) = false := by
      rw [← Bool.not_eq_true]; simpa using h1
    simp [this, br, cut]

theorem isGraphC_spec (n : Nat) (e : Edge) (g : Graph) (h : 0 ≤ g.1 ∧ g.1 ≤ 8) : isGraphC.f n e g = some (!(okE g.1 e), ()) := by
  have no : ∀ {b : Bool}, (okE g.1 e = true → b = false) → (b = false → okE g.1 e = true) → some (b, ()) = some (!(okE g.1 e), ()) := by
    intro b h1 h2
    cases b <;> cases hk : okE g.1 e <;> simp_all
  have unf : okE g.1 e = true ↔ (0 ≤ e.1 ∧ e.1 ≤ g.1 - 1) ∧ (0 ≤ e.2.1 ∧ e.2.1 ≤ g.1 - 1) ∧ (1 ≤ e.2.2.1 ∧ e.2.2.1 ≤ 5) ∧ (1 ≤ e.2.2.2.1 ∧ e.2.2.2.1 ≤ 5) ∧ (0 ≤ e.2.2.2.2 ∧ e.2.2.2.2 ≤ 50) := by
    unfold okE
    simp only [Bool.and_eq_true, decide_eq_true_eq]
    constructor
    · rintro ⟨⟨⟨⟨a, b⟩, c⟩, d⟩, e⟩; exact ⟨a, b, c, d, e⟩
    · rintro ⟨a, b, c, d, e⟩; exact ⟨⟨⟨⟨a, b⟩, c⟩, d⟩, e⟩
  unfold isGraphC.f
  simp only [br_if, decide_eq_true_eq]
  repeat' split
  all_goals
    refine no (fun hk => ?_) (fun hb => ?_)
    · have hk := unf.1 hk
      first
        | (exfalso; omega)
        | (apply decide_eq_false; omega)
    · first
        | exact Bool.noConfusion hb
        | (have hb := of_decide_eq_false hb; exact unf.2 (by omega))

theorem iIsGraph_spec {n : Nat} {g : Graph} (hl : g.2.length ≤ 1048576) (hn : g.2.length < n) : iIsGraph.f n g = some (okG g, ()) := by
  unfold iIsGraph.f okG containsFuncE.f indexFuncE.f
  by_cases h0 : 0 ≤ g.1
  · by_cases h8 : g.1 ≤ 8
    · by_cases h2 : g.2.length ≤ 16
      · have a1 : ¬ (g.1 < 0) := by omega
        have a2 : ¬ (8 < g.1) := by omega
        have a3 : ¬ (16 < (g.2.length : Int)) := by omega
        simp only [a1, a2, a3, h0, h8, h2, decide_false, decide_true, br_false, Bool.true_and, cut_inr]
        obtain ⟨r, e1, e2⟩ := index_loop g.2 (fun e => !(okE g.1 e)) (F := fun ih6 x5 => br (decide (x5.1 < (g.2.length : Int))) (chk (0 ≤ x5.1 ∧ x5.1 < (g.2.length : Int)) (let v7 := (g.2.getD x5.1.toNat zEdge); (isGraphC.f n v7 g).bind fun r8 => br r8.1 (some (x5.1, ())) (ih6 ((w64 (x5.1 + 1)), ())))) (some ((-1), ()))) (n := n)
          (fun ih i hi => by
            have h3 : (i : Int) < (g.2.length : Int) := by omega
            simp only [h3, decide_true, br_true, Int.toNat_natCast, getD_lt hi, isGraphC_spec n _ g ⟨h0, h8⟩, Option.bind_some]
            rw [chk_true (by simp), w64_succ (by omega), br_if]) (fun ih => by simp [br]) hn
        rw [e1]
        simp only [Option.bind_some, e2]
        congr 2
        rw [List.any_eq_not_all_not]
        simp
      · have a1 : ¬ (g.1 < 0) := by omega
        have a2 : ¬ (8 < g.1) := by omega
        have a3 : (16 < (g.2.length : Int)) := by omega
        simp [a1, a2, a3, h2, br, cut]
    · have a1 : ¬ (g.1 < 0) := by omega
      have a2 : (8 < g.1) := by omega
      simp [a1, a2, h8, br, cut]
  · have a1 : (g.1 < 0) := by omega
    simp [a1, h0, br, cut]


/-! ### what a valid graph is -/
theorem okG_e {g : Graph} (h : okG g = true) : 0 ≤ g.1 ∧ g.1 ≤ 8 ∧ g.2.length ≤ 16 ∧ ∀ e ∈ g.2, okE g.1 e = true := by
  unfold okG at h
  simp only [Bool.and_eq_true, decide_eq_true_eq, List.all_eq_true] at h
  exact ⟨h.1.1.1, h.1.1.2, h.1.2, h.2⟩
end Go.AmT
