/- Values that are marked, in plain Lean: each number gets the next one, and is held to be it. -/
import Derived.Test.YtfcehikkpoeebaaGreatAmD
namespace Go.AmT
open Go Go.Am
set_option linter.unusedVariables false
set_option linter.unusedSimpArgs false

theorem iter_line {γ ρ : Type} {F : (γ → Option ρ) → γ → Option ρ} (st : Nat → γ) (len : Nat) {R : Option ρ} (h1 : ∀ ih i, i < len → F ih (st i) = ih (st (i + 1))) (h2 : ∀ ih, F ih (st len) = R) {n : Nat} (hn : len < n) : iter n F (st 0) = R := by
  have : ∀ k i, i + k = len → ∀ n, k < n → iter n F (st i) = R := by
    intro k
    induction k with
    | zero => intro i e n hn; obtain ⟨m, rfl⟩ : ∃ m, n = m + 1 := ⟨n - 1, by omega⟩; rw [show i = len by omega]; exact h2 _
    | succ k ih => intro i e n hn; obtain ⟨m, rfl⟩ : ∃ m, n = m + 1 := ⟨n - 1, by omega⟩; exact (h1 _ i (by omega)).trans (ih (i + 1) (by omega) m (by omega))
  exact this len 0 (by omega) n hn

/-- a loop that pushes one more for each of a row -/
theorem push_loop {α β γ ρ : Type} (l : List α) (g : α → β) (st : Int → List β → γ) {F : (γ → Option ρ) → γ → Option ρ} {R : List β → Option ρ}
    (h1 : ∀ ih i (hi : i < l.length) (s : List β), s.length = i → F ih (st i s) = ih (st ((i + 1 : Nat) : Int) (s ++ [g l[i]])))
    (h2 : ∀ ih s, F ih (st l.length s) = R s) {n : Nat} (hn : l.length < n) : iter n F (st 0 []) = R (l.map g) := by
  have := iter_line (F := F) (fun i => st (i : Int) ((l.take i).map g)) l.length (R := R (l.map g)) (fun ih i hi => by
    show F ih (st (i : Int) ((l.take i).map g)) = _
    rw [h1 ih i hi _ (by simp; omega), List.take_succ_eq_append_getElem hi, List.map_append]; rfl) (fun ih => by
    show F ih (st (l.length : Int) _) = _
    rw [h2]; simp) hn
  simpa using this

theorem bind_unit {ρ β : Type} {x : β} {f : β → Option ρ} : (some x).bind f = f x := rfl
theorem maxB_eq : (maxB : Int) = 140737488355328 := rfl
theorem small_chk {m : Nat} {ρ : Type} {x : Option ρ} (h : m ≤ 1000000000) : chk (m ≤ maxB) x = x := chk_true (by simp only [maxB]; omega)

theorem chk_T {ρ : Type} {i : Decidable True} {x : Option ρ} : @chk ρ True i x = x := chk_true trivial
theorem getD_set_same {α : Type} {l : List α} {i : Nat} (h : i < l.length) (x z : α) : (l.set i x).getD i z = x := by simp [h]

theorem any_loop {α : Type} {Q : α → Prop} {F : (Int × Unit → Option α) → Int × Unit → Option α} (len : Nat) (p : Nat → Bool) {yes : Nat → Option α} {no : Option α}
    (h1 : ∀ ih (i : Nat), i < len → F ih ((i : Int), ()) = if p i = true then yes i else ih (((i + 1 : Nat) : Int), ())) (h2 : ∀ ih, F ih ((len : Int), ()) = no) {n : Nat} (hn : len < n)
    (hy : ∀ i, i < len → p i = true → W (yes i) Q) (hno : (∀ i, i < len → p i = false) → W no Q) : W (iter n F (0, ())) Q := by
  refine W_up (fun i (_ : Unit) => ((i : Int), ())) len (fun i _ => ∀ j, j < i → p j = false) (s0 := ()) rfl (fun j hj => by omega) hn (fun ih s hI => ?_) (fun ih i s hi hI hS => ?_)
  · rw [h2]; exact hno hI
  · rw [h1 ih i hi]
    cases hp : p i
    · refine hS () (fun j hj => ?_)
      rcases Nat.lt_or_ge j i with h | h
      · exact hI j h
      · rwa [show j = i by omega]
    · exact hy i hi hp

theorem any_of {p : Nat → Bool} {len i : Nat} (hi : i < len) (h : p i = true) : (List.range len).any p = true := List.any_eq_true.2 ⟨i, List.mem_range.2 hi, h⟩
theorem any_no {p : Nat → Bool} {len : Nat} (h : ∀ i, i < len → p i = false) : (List.range len).any p = false := by
  rw [List.any_eq_false]; intro i hi; rw [h i (List.mem_range.1 hi)]; simp
theorem br_ite {α : Type} {b : Bool} {x y : Option α} : br b x y = if b = true then x else y := by cases b <;> rfl

theorem push_loopE {α β γ ρ : Type} (l : List α) (g : α → β) (st : Int → List β → γ) {F : (γ → Option ρ) → γ → Option ρ} {R : Option ρ}
    (h1 : ∀ ih i (hi : i < l.length) (s : List β), s.length = i → F ih (st i s) = ih (st ((i + 1 : Nat) : Int) (s ++ [g l[i]])))
    (h2 : ∀ ih, F ih (st l.length (l.map g)) = R) {n : Nat} (hn : l.length < n) : iter n F (st 0 []) = R := by
  have := iter_line (F := F) (fun i => st (i : Int) ((l.take i).map g)) l.length (R := R) (fun ih i hi => by
    show F ih (st (i : Int) ((l.take i).map g)) = _
    rw [h1 ih i hi _ (by simp; omega), List.take_succ_eq_append_getElem hi, List.map_append]; rfl) (fun ih => by
    show F ih (st (l.length : Int) _) = _
    rw [List.take_length]; exact h2 ih) hn
  simpa using this

variable {α : Type} {f : α → Int → α × Int}
/-- the first that holds -/
theorem first_loop {ρ : Type} (len : Nat) (p : Nat → Bool) {F : (Int × Unit → Option ρ) → Int × Unit → Option ρ} {yes : Nat → Option ρ} {no : Option ρ}
    (h1 : ∀ ih (i : Nat), i < len → F ih ((i : Int), ()) = if p i = true then yes i else ih (((i + 1 : Nat) : Int), ())) (h2 : ∀ ih, F ih ((len : Int), ()) = no) {n : Nat} (hn : len < n) :
    iter n F (0, ()) = match (List.range len).find? p with | some i => yes i | none => no := by
  have : ∀ k i, i + k = len → (∀ j, j < i → p j = false) → ∀ n, k < n → iter n F ((i : Int), ()) = match (List.range len).find? p with | some i => yes i | none => no := by
    intro k
    induction k with
    | zero =>
      intro i e hI n hn
      obtain ⟨m, rfl⟩ : ∃ m, n = m + 1 := ⟨n - 1, by omega⟩
      have e : i = len := by omega
      subst e
      have : (List.range i).find? p = none := by
        rw [List.find?_eq_none]
        intro x hx
        rw [hI x (List.mem_range.1 hx)]; simp
      rw [this]; exact h2 _
    | succ k ih =>
      intro i e hI n hn
      obtain ⟨m, rfl⟩ : ∃ m, n = m + 1 := ⟨n - 1, by omega⟩
      show F (iter m F) _ = _
      rw [h1 _ i (by omega)]
      cases hp : p i
      · rw [if_neg (by simp)]
        refine ih (i + 1) (by omega) (fun j hj => ?_) m (by omega)
        rcases Nat.lt_or_ge j i with h | h
        · exact hI j h
        · rwa [show j = i by omega]
      · rw [if_pos rfl]
        have : (List.range len).find? p = some i := by
          rw [List.find?_range_eq_some]
          exact ⟨hp, List.mem_range.2 (by omega), fun j hj => by rw [hI j hj]; rfl⟩
        rw [this]
  exact this len 0 (by omega) (fun j hj => by omega) n hn
end Go.AmT
