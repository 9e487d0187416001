/- Values that are marked, in plain Lean: each number gets the next one, and is held to be it. -/
import Derived.Test.YtkgknijpmcagmaaGreatAmD
namespace Go.AmT
open Go Go.Am
set_option linter.unusedVariables false
set_option linter.unusedSimpArgs false

theorem iter_line {γ ρ : Type} {F : (γ → Option ρ) → γ → Option ρ} (st : Nat → γ) (len : Nat) {R : Option ρ} (h1 : ∀ ih i, i < len → F ih (st i) = ih (st (i + 1))) (h2 : ∀ ih, F ih (st len) = R) {n : Nat} (hn : len < n) : iter n F (st 0) = R := by
  have : ∀ k i, i + k = len → ∀ n, k < n → iter n F (st i) = R := by
    intro k
    induction k with
    | zero => intro i e n hn; obtain ⟨m, rfl⟩ : ∃ m, n = m + 1 := ⟨n - 1, by omega⟩; rw [show i = len by omega]; exact h2 _
    | succ k ih => intro i e n hn; obtain ⟨m, rfl⟩ : ∃ m, n = m + 1 := ⟨n - 1, by omega⟩; exact (h1 _ i (by omega)).trans (ih (i + 1) (by omega) m (by omega))
  exact this len 0 (by omega) n hn

/-- a loop that pushes one more for each of a row -/
theorem push_loop {α β γ ρ : Type} (l : List α) (g : α → β) (st : Int → List β → γ) {F : (γ → Option ρ) → γ → Option ρ} {R : List β → Option ρ}
    (h1 : ∀ ih i (hi : i < l.length) (s : List β), s.length = i → F ih (st i s) = ih (st ((i + 1 : Nat) : Int) (s ++ [g l[i]])))
    (h2 : ∀ ih s, F ih (st l.length s) = R s) {n : Nat} (hn : l.length < n) : iter n F (st 0 []) = R (l.map g) := by
  have := iter_line (F := F) (fun i => st (i : Int) ((l.take i).map g)) l.length (R := R (l.map g)) (fun ih i hi => by
    show F ih (st (i : Int) ((l.take i).map g)) = _
    rw [h1 ih i hi _ (by simp; omega), List.take_succ_eq_append_getElem hi, List.map_append]; rfl) (fun ih => by
    show F ih (st (l.length : Int) _) = _
    rw [h2]; simp) hn
  simpa using this

theorem bind_unit {ρ β : Type} {x : β} {f : β → Option ρ} : (some x).bind f = f x := rfl
theorem maxB_eq : (maxB : Int) = 140737488355328 := rfl
theorem small_chk {m : Nat} {ρ : Type} {x : Option ρ} (h : m ≤ 1000000000) : chk (m ≤ maxB) x = x := chk_true (by simp only [maxB]; omega)

theorem chk_T {ρ : Type} {i : Decidable True} {x : Option ρ} : @chk ρ True i x = x := chk_true trivial
theorem getD_set_same {α : Type} {l : List α} {i : Nat} (h : i < l.length) (x z : α) : (l.set i x).getD i z = x := by simp [h]

theorem any_loop {α : Type} {Q : α → Prop} {F : (Int × Unit → Option α) → Int × Unit → Option α} (len : Nat) (p : Nat → Bool) {yes : Nat → Option α} {no : Option α}
    (h1 : ∀ ih (i : Nat), i < len → F ih ((i : Int), ()) = if p i = true then yes i else ih (((i + 1 : Nat) : Int), ())) (h2 : ∀ ih, F ih ((len : Int), ()) = no) {n : Nat} (hn : len < n)
    (hy : ∀ i, i < len → p i = true → W (yes i) Q) (hno : (∀ i, i < len → p i = false) → W no Q) : W (iter n F (0, ())) Q := by
  refine W_up (fun i (_ : Unit) => ((i : Int), ())) len (fun i _ => ∀ j, j < i → p j = false) (s0 := ()) rfl (fun j hj => by omega) hn (fun ih s hI => ?_) (fun ih i s hi hI hS => ?_)
  · rw [h2]; exact hno hI
  · rw [h1 ih i hi]
    cases hp : p i
    · refine hS () (fun j hj => ?_)
      rcases Nat.lt_or_ge j i with h | h
      · exact hI j h
      · rwa [show j = i by omega]
    · exact hy i hi hp

theorem br_ite {α : Type} {b : Bool} {x y : Option α} : br b x y = if b = true then x else y := by cases b <;> rfl

theorem push_loopE {α β γ ρ : Type} (l : List α) (g : α → β) (st : Int → List β → γ) {F : (γ → Option ρ) → γ → Option ρ} {R : Option ρ}
    (h1 : ∀ ih i (hi : i < l.length) (s : List β), s.length = i → F ih (st i s) = ih (st ((i + 1 : Nat) : Int) (s ++ [g l[i]])))
    (h2 : ∀ ih, F ih (st l.length (l.map g)) = R) {n : Nat} (hn : l.length < n) : iter n F (st 0 []) = R := by
  have := iter_line (F := F) (fun i => st (i : Int) ((l.take i).map g)) l.length (R := R) (fun ih i hi => by
    show F ih (st (i : Int) ((l.take i).map g)) = _
    rw [h1 ih i hi _ (by simp; omega), List.take_succ_eq_append_getElem hi, List.map_append]; rfl) (fun ih => by
    show F ih (st (l.length : Int) _) = _
    rw [List.take_length]; exact h2 ih) hn
  simpa using this

/-- a loop that pushes some -/
theorem pushif_loop {β γ ρ : Type} (len : Nat) (p : Nat → Bool) (g : Nat → β) (st : Int → List β → γ) {F : (γ → Option ρ) → γ → Option ρ} {R : List β → Option ρ}
    (h1 : ∀ ih i (hi : i < len) (s : List β), s.length ≤ i → F ih (st i s) = if p i = true then ih (st ((i + 1 : Nat) : Int) (s ++ [g i])) else ih (st ((i + 1 : Nat) : Int) s))
    (h2 : ∀ ih s, F ih (st len s) = R s) {n : Nat} (hn : len < n) : iter n F (st 0 []) = R (((List.range len).filter p).map g) := by
  have := iter_line (F := F) (fun i => st (i : Int) (((List.range i).filter p).map g)) len (R := R (((List.range len).filter p).map g)) (fun ih i hi => by
    show F ih (st (i : Int) _) = _
    have hl : (((List.range i).filter p).map g).length ≤ i := by
      rw [List.length_map]; exact Nat.le_trans (List.length_filter_le _ _) (by simp)
    rw [h1 ih i hi _ hl, List.range_succ, List.filter_append]
    cases hp : p i <;> simp [hp]) (fun ih => by
    show F ih (st (len : Int) _) = _
    rw [h2]) hn
  simpa using this

/-- each of a row, one behind the other -/
def mkL {α : Type} (f : α → Int → α × Int) : List α → Int → List α × Int
  | [], k => ([], k)
  | a :: l, k => ((f a k).1 :: (mkL f l (f a k).2).1, (mkL f l (f a k).2).2)
/-- the number at an index -/
def mkK {α : Type} (f : α → Int → α × Int) (l : List α) (k : Int) (i : Nat) : Int := (mkL f (l.take i) k).2
/-- the row as far as an index -/
def mkR {α : Type} (f : α → Int → α × Int) (l : List α) (k : Int) (i : Nat) : List α := (mkL f (l.take i) k).1 ++ l.drop i
variable {α : Type} {f : α → Int → α × Int}
theorem mkL_append (a b : List α) (k : Int) : mkL f (a ++ b) k = ((mkL f a k).1 ++ (mkL f b (mkL f a k).2).1, (mkL f b (mkL f a k).2).2) := by
  induction a generalizing k with
  | nil => rfl
  | cons x a ih => simp [mkL, ih]
theorem mkL_len (l : List α) (k : Int) : (mkL f l k).1.length = l.length := by
  induction l generalizing k with
  | nil => rfl
  | cons x a ih => simp [mkL, ih]
theorem mkK_succ {l : List α} {k : Int} {i : Nat} (hi : i < l.length) : mkK f l k (i + 1) = (f l[i] (mkK f l k i)).2 := by
  unfold mkK
  rw [List.take_succ_eq_append_getElem hi, mkL_append]; rfl
theorem mkK_zero {l : List α} {k : Int} : mkK f l k 0 = k := by simp [mkK, mkL]
theorem mkR_zero {l : List α} {k : Int} : mkR f l k 0 = l := by simp [mkR, mkL]
theorem mkR_len {l : List α} {k : Int} {i : Nat} : (mkR f l k i).length = l.length := by
  simp [mkR, mkL_len]; omega
theorem mkR_end {l : List α} {k : Int} : mkR f l k l.length = (mkL f l k).1 := by simp [mkR]
theorem mkK_end {l : List α} {k : Int} : mkK f l k l.length = (mkL f l k).2 := by simp [mkK]
theorem mkR_get {l : List α} {k : Int} {i : Nat} (hi : i < l.length) (z : α) : (mkR f l k i).getD i z = l[i] := by
  unfold mkR
  rw [List.getD_eq_getElem?_getD, List.getElem?_append_right (by simp [mkL_len]; omega)]
  simp [mkL_len, Nat.min_eq_left (Nat.le_of_lt hi), hi]
theorem mkR_succ {l : List α} {k : Int} {i : Nat} (hi : i < l.length) : mkR f l k (i + 1) = (mkR f l k i).set i (f l[i] (mkK f l k i)).1 := by
  unfold mkR mkK
  have hl : (mkL f (l.take i) k).1.length = i := by simp [mkL_len]; omega
  rw [List.take_succ_eq_append_getElem hi, mkL_append, List.set_append_right _ _ (by omega), hl, Nat.sub_self]
  simp only [mkL, List.append_assoc, List.singleton_append]
  rw [List.drop_eq_getElem_cons hi]; rfl
theorem mkL_get {l : List α} {k : Int} {i : Nat} (hi : i < l.length) (z : α) : (mkL f l k).1.getD i z = (f l[i] (mkK f l k i)).1 := by
  have e : l = l.take i ++ l[i] :: l.drop (i + 1) := by rw [List.getElem_cons_drop, List.take_append_drop]
  have : (mkL f l k).1 = (mkL f (l.take i) k).1 ++ (f l[i] (mkK f l k i)).1 :: (mkL f (l.drop (i + 1)) (f l[i] (mkK f l k i)).2).1 := by
    conv => lhs; rw [e]
    rw [mkL_append]; rfl
  rw [this, List.getD_eq_getElem?_getD, List.getElem?_append_right (by simp [mkL_len]; omega)]
  simp [mkL_len, Nat.min_eq_left (Nat.le_of_lt hi)]
theorem mkL_le {l : List α} {k B : Int} (hB : 0 ≤ B) (h : ∀ x ∈ l, ∀ k, k ≤ (f x k).2 ∧ (f x k).2 ≤ k + B) : k ≤ (mkL f l k).2 ∧ (mkL f l k).2 ≤ k + B * l.length := by
  induction l generalizing k with
  | nil => simp [mkL]
  | cons x a ih =>
    have h1 := h x (by simp) k
    have h2 := ih (k := (f x k).2) (fun y hy => h y (by simp [hy]))
    simp only [mkL, List.length_cons]
    have : B * ((a.length + 1 : Nat) : Int) = B * a.length + B := by rw [Int.natCast_add, Int.mul_add]; simp
    omega
theorem mkK_le {l : List α} {k B : Int} (hB : 0 ≤ B) (h : ∀ x ∈ l, ∀ k, k ≤ (f x k).2 ∧ (f x k).2 ≤ k + B) (i : Nat) : k ≤ mkK f l k i ∧ mkK f l k i ≤ k + B * l.length := by
  have := mkL_le (f := f) (l := l.take i) (k := k) hB (fun x hx => h x (List.mem_of_mem_take hx))
  have h2 : B * ((l.take i).length : Int) ≤ B * l.length := Int.mul_le_mul_of_nonneg_left (by simp; omega) hB
  unfold mkK; omega

/-- the loop that marks -/
theorem markL_loop {γ ρ : Type} {F : (γ → Option ρ) → γ → Option ρ} (f : α → Int → α × Int) (st : Int → Nat → List α → γ) {l : List α} {k : Int} {R : Option ρ}
    (h1 : ∀ ih i (hi : i < l.length) (m : List α), m.length = l.length → (∀ z, m.getD i z = l[i]) → F ih (st (mkK f l k i) i m) = ih (st (f l[i] (mkK f l k i)).2 (i + 1) (m.set i (f l[i] (mkK f l k i)).1)))
    (h2 : ∀ ih (m : List α), m.length = l.length → m = (mkL f l k).1 → F ih (st (mkL f l k).2 l.length m) = R) {n : Nat} (hn : l.length < n) : iter n F (st k 0 l) = R := by
  have := iter_line (F := F) (fun i => st (mkK f l k i) i (mkR f l k i)) l.length (R := R) (fun ih i hi => by
    show F ih (st _ i _) = _
    rw [h1 ih i hi _ mkR_len (mkR_get hi), ← mkK_succ hi, ← mkR_succ hi]) (fun ih => by
    show F ih (st _ _ _) = _
    rw [mkK_end, mkR_end]; exact h2 ih _ (mkL_len l k) rfl) hn
  simpa only [mkK_zero, mkR_zero] using this
/-- the loop that holds -/
theorem heldL_loop {γ ρ : Type} {F : (γ → Option ρ) → γ → Option ρ} (f : α → Int → α × Int) (st : Int → Nat → γ) {l : List α} {k : Int} {R : Option ρ}
    (h1 : ∀ ih i (hi : i < l.length), (∀ z, (mkL f l k).1.getD i z = (f l[i] (mkK f l k i)).1) → F ih (st (mkK f l k i) i) = ih (st (f l[i] (mkK f l k i)).2 (i + 1)))
    (h2 : ∀ ih, F ih (st (mkL f l k).2 l.length) = R) {n : Nat} (hn : l.length < n) : iter n F (st k 0) = R := by
  have := iter_line (F := F) (fun i => st (mkK f l k i) i) l.length (R := R) (fun ih i hi => by
    show F ih (st _ i) = _
    rw [h1 ih i hi (fun z => mkL_get hi z), ← mkK_succ hi]) (fun ih => by
    show F ih (st _ _) = _
    rw [mkK_end]; exact h2 ih) hn
  simpa only [mkK_zero] using this
end Go.AmT
