/- Uniform capacities, in plain Lean: both programs tell the same, and what is marked stays. -/
import Derived.Test.YtgepghodhnmhjaaLUni
import Derived.Test.YtgepghodhnmhjaaPMark
namespace Go.AmT
open Go Go.Am
set_option linter.unusedVariables false
set_option linter.unusedSimpArgs false

/-- a loop that pushes one more for each of a row -/
theorem push_loopU {α β ρ : Type} (l : List α) (g : α → β) {F : (Int × List β × Unit → Option ρ) → Int × List β × Unit → Option ρ} {R : List β → Option ρ}
    (h1 : ∀ ih i (hi : i < l.length) (s : List β), s.length = i → F ih ((i : Int), (s, ())) = ih (((i + 1 : Nat) : Int), (s ++ [g l[i]], ())))
    (h2 : ∀ ih s, F ih ((l.length : Int), (s, ())) = R s) {n : Nat} (hn : l.length < n) : iter n F (0, ([], ())) = R (l.map g) := by
  have := iter_line (F := F) (fun i => ((i : Int), ((l.take i).map g, ()))) l.length (R := R (l.map g)) (fun ih i hi => by
    show F ih (((i : Int)), ((l.take i).map g, ())) = _
    rw [h1 ih i hi _ (by simp; omega), List.take_succ_eq_append_getElem hi, List.map_append]; rfl) (fun ih => by
    show F ih ((l.length : Int), _) = _
    rw [h2]; simp) hn
  simpa using this

noncomputable def uni (nt : Network) (c : Int) : List Int := if (okN nt && decide (0 ≤ c ∧ c ≤ 400)) = true then nt.2.map fun l => max c (l.2.2.2.2.length : Int) else []
theorem iUni_spec {n : Nat} {nt : Network} {c : Int} (h : SmallN nt) (hn : 1048576 < n) : iUni.f n nt c = some (uni nt c, ()) := by
  have hl := h.links
  unfold iUni.f uni
  rw [iIsNetwork_spec h hn]
  simp only [Option.bind_some]
  have e : cut (α := (Bool × Unit)) (ρ := List Int × Unit) (br (!okN nt) (some (.inr (true, ()))) (br (decide (c < 0)) (some (.inr (true, ()))) (some (.inr ((decide (400 < c)), ()))))) = fun f => f (!(okN nt && decide (0 ≤ c ∧ c ≤ 400)), ()) := by
    funext f
    by_cases a : c < 0 <;> by_cases b : 400 < c <;> cases okN nt <;> simp [a, b, br, cut] <;> (congr 2; simp; omega)
  rw [e]
  simp only
  cases hb : (okN nt && decide (0 ≤ c ∧ c ≤ 400))
  · rfl
  · simp only [Bool.not_true, br_false, if_true]
    refine push_loopU nt.2 (fun l => max c (l.2.2.2.2.length : Int)) (R := fun s => some (s, ())) (fun ih i hi s hs => ?_) (fun ih s => br_no (Int.lt_irrefl _)) (by omega)
    have c0 : 0 ≤ (i : Int) := by omega
    have c1 : (i : Int) < (nt.2.length : Int) := by omega
    have e1 : nt.2.getD i zLink = nt.2[i] := getD_lt hi _
    simp only [c1, c0, and_self, chk_T, decide_true, br_true, Int.toNat_natCast, e1]
    rw [chk_true (by simp only [List.length_singleton]; simp only [maxB]; omega), w64_succ (by omega)]
end Go.AmT
