/- Streams that begin others, in plain Lean. -/
import Derived.Test.YtgepghodhnmhjaaLBel
import Derived.Test.YtgepghodhnmhjaaPLeast
namespace Go.AmT
open Go Go.Am
set_option linter.unusedVariables false
set_option linter.unusedSimpArgs false

theorem sIsPrefix_spec {n : Nat} {a b : List Int} (ha : a.length ≤ 1048576) (hb : b.length ≤ 1048576) (hn : 1048576 < n) : sIsPrefix.f n a b = some (okS a && okS b && decide (a <+: b), ()) := by
  unfold sIsPrefix.f
  rw [sIsStream_spec ha hn, bind_unit]
  cases okS a
  · rfl
  · rw [sIsStream_spec hb hn]
    simp only [br_true, bind_unit]
    cases okS b
    · rfl
    · rw [sL1Begins_spec ha hn]; rfl
/-- each row begins the one in its place -/
def belowP (g h : List (List Int)) : Bool := decide (g.length = h.length) && (List.range g.length).all fun j => okS (atL g j) && okS (atL h j) && decide (atL g j <+: atL h j)
theorem below_spec {n : Nat} {g h : List (List Int)} (hg : g.length ≤ 1048576) (h1 : ∀ j, (atL g j).length ≤ 1048576) (h2 : ∀ j, (atL h j).length ≤ 1048576) (hn : 1048576 < n) : below.f n g h = some (belowP g h, ()) := by
  unfold below.f belowP
  by_cases hl : g.length = h.length
  · rw [show (!decide ((g.length : Int) = (h.length : Int))) = false by simp; omega, br_false, decide_eq_true hl, Bool.true_and]
    refine (W_eq.1 (W_chkloop (bad := some (false, ())) g.length (fun j => okS (atL g j) && okS (atL h j) && decide (atL g j <+: atL h j)) (fun ih i hi => ?_) (fun ih => br_no (Int.lt_irrefl _)) (by omega) (fun hok => ?_) (fun i hi hb => ?_)))
    · have c1 : (i : Int) < (g.length : Int) := by omega
      have e := sIsPrefix_spec (n := n) (a := g.getD i []) (b := h.getD i []) (h1 i) (h2 i) hn
      simp only [br_yes c1, Int.toNat_natCast]
      rw [chk_true (by omega), chk_true (by omega), e, bind_unit, w64_succ (by omega)]
      exact br_nif
    · rw [W_some]
      have : ((List.range g.length).all fun j => okS (atL g j) && okS (atL h j) && decide (atL g j <+: atL h j)) = true := List.all_eq_true.2 (fun j hj => hok j (List.mem_range.1 hj))
      rw [this]
    · rw [W_some]
      have : ((List.range g.length).all fun j => okS (atL g j) && okS (atL h j) && decide (atL g j <+: atL h j)) = false := by
        cases hx : ((List.range g.length).all fun j => okS (atL g j) && okS (atL h j) && decide (atL g j <+: atL h j))
        · rfl
        · have := List.all_eq_true.1 hx i (List.mem_range.2 hi)
          exact absurd (this.symm.trans hb) (by simp)
      rw [this]
  · rw [show (!decide ((g.length : Int) = (h.length : Int))) = true by simp; omega, br_true, decide_eq_false hl]; rfl
theorem belowP_true {g h : List (List Int)} (hl : g.length = h.length) (hs : ∀ j, j < g.length → okS (atL g j) = true ∧ okS (atL h j) = true ∧ atL g j <+: atL h j) : belowP g h = true := by
  unfold belowP
  rw [decide_eq_true hl, Bool.true_and, List.all_eq_true]
  intro j hj
  obtain ⟨a, b, c⟩ := hs j (List.mem_range.1 hj)
  rw [a, b, decide_eq_true c]; rfl
theorem sent_ok {nt : Network} {s : State} (o : OkSt nt s) {j : Nat} : okS (sent s j) = true := by
  by_cases hj : j < nt.2.length
  · exact (o.lnk j hj).hs
  · rw [sent_big o (by omega)]; decide
theorem sent_len {nt : Network} {s : State} (o : OkSt nt s) (j : Nat) : (atL s.2.2.1 j).length ≤ 1048576 := by
  have : okS (atL s.2.2.1 j) = true := sent_ok o
  have := (okS_len this).1
  omega
end Go.AmT
