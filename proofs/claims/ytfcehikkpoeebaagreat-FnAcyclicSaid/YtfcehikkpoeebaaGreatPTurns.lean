/- Runs in turns, in plain Lean: a loop that lets each step in its turn, in both ways in which it is written. -/
import Derived.Test.YtfcehikkpoeebaaGreatAmD
namespace Go.AmT
open Go Go.Am
set_option linter.unusedVariables false
set_option linter.unusedSimpArgs false

section
variable {σ : Type} (g : σ → Nat → Bool) (st : σ → Nat → σ) (most : Int)
def one (x : Int × σ) (k : Nat) : Int × σ := if x.1 < most ∧ g x.2 k = true then (x.1 + 1, st x.2 k) else x
def sweep (x : Int × σ) : Nat → Int × σ
  | 0 => x
  | i + 1 => one g st most (sweep x i) i
def turnsF (K : Nat) : Nat → Int × σ → Int × σ
  | 0, x => x
  | m + 1, x => if (List.range K).any (g x.2) = true ∧ x.1 < most then turnsF K m (sweep g st most x K) else x

variable {g st most} {K : Nat} {J : Int × σ → Prop} {μ : Int × σ → Nat}
/-- steps keep what is known, and come nearer to the end -/
def Good (g : σ → Nat → Bool) (st : σ → Nat → σ) (most : Int) (K : Nat) (J : Int × σ → Prop) (μ : Int × σ → Nat) : Prop :=
  ∀ x k, J x → k < K → x.1 < most → g x.2 k = true → J (x.1 + 1, st x.2 k) ∧ μ (x.1 + 1, st x.2 k) < μ x

theorem one_good (hG : Good g st most K J μ) {x : Int × σ} {k : Nat} (hx : J x) (hk : k < K) : J (one g st most x k) ∧ μ (one g st most x k) ≤ μ x := by
  unfold one
  split
  · rename_i h; have := hG x k hx hk h.1 h.2; exact ⟨this.1, by omega⟩
  · exact ⟨hx, Nat.le_refl _⟩
theorem sweep_good (hG : Good g st most K J μ) {x : Int × σ} (hx : J x) : ∀ i, i ≤ K → J (sweep g st most x i) ∧ μ (sweep g st most x i) ≤ μ x
  | 0, _ => ⟨hx, Nat.le_refl _⟩
  | i + 1, hi => by
    have h1 := sweep_good hG hx i (by omega)
    have h2 := one_good hG h1.1 (show i < K by omega)
    exact ⟨h2.1, Nat.le_trans h2.2 h1.2⟩
/-- either nothing was done, for nothing could be, or something was -/
theorem sweep_or (hG : Good g st most K J μ) {x : Int × σ} (hx : J x) : ∀ i, i ≤ K → (sweep g st most x i = x ∧ (x.1 < most → ∀ j, j < i → g x.2 j = false)) ∨ μ (sweep g st most x i) < μ x
  | 0, _ => .inl ⟨rfl, fun _ j hj => by omega⟩
  | i + 1, hi => by
    have hJ := sweep_good hG hx i (by omega)
    rcases sweep_or hG hx i (by omega) with ⟨h1, h2⟩ | h
    · show (one g st most (sweep g st most x i) i = x ∧ _) ∨ _
      by_cases hc : x.1 < most ∧ g x.2 i = true
      · refine .inr ?_
        show μ (one g st most (sweep g st most x i) i) < μ x
        rw [h1]
        unfold one
        rw [if_pos hc]
        exact (hG x i hx (by omega) hc.1 hc.2).2
      · refine .inl ⟨by rw [h1]; unfold one; rw [if_neg hc], fun hm j hj => ?_⟩
        rcases Nat.lt_or_ge j i with h | h
        · exact h2 hm j h
        · rw [show j = i by omega]
          cases hg : g x.2 i
          · rfl
          · exact absurd ⟨hm, hg⟩ hc
    · exact .inr (Nat.lt_of_le_of_lt (one_good hG hJ.1 (show i < K by omega)).2 h)
theorem sweep_stop {x : Int × σ} {i : Nat} (h : most ≤ (sweep g st most x i).1) : ∀ j, i ≤ j → sweep g st most x j = sweep g st most x i := by
  intro j hj
  induction j with
  | zero => rw [show i = 0 by omega]
  | succ j ih =>
    rcases Nat.lt_or_eq_of_le hj with h1 | h1
    · have := ih (by omega)
      show one g st most (sweep g st most x j) j = _
      rw [this]
      unfold one
      rw [if_neg (by omega)]
    · rw [h1]
theorem any_range {p : Nat → Bool} {K : Nat} : (List.range K).any p = true ↔ ∃ k, k < K ∧ p k = true := by
  simp [List.any_eq_true]
theorem sweep_lt (hG : Good g st most K J μ) {x : Int × σ} (hx : J x) (ha : (List.range K).any (g x.2) = true) (hm : x.1 < most) : μ (sweep g st most x K) < μ x := by
  rcases sweep_or hG hx K (Nat.le_refl _) with ⟨-, h⟩ | h
  · obtain ⟨k, hk, e⟩ := any_range.1 ha
    rw [h hm k hk] at e; cases e
  · exact h
theorem sweep_id (x : Int × σ) (h : ¬ ((List.range K).any (g x.2) = true ∧ x.1 < most)) : ∀ i, i ≤ K → sweep g st most x i = x
  | 0, _ => rfl
  | i + 1, hi => by
    show one g st most (sweep g st most x i) i = x
    rw [sweep_id x h i (by omega)]
    unfold one
    rw [if_neg]
    rintro ⟨h1, h2⟩
    exact h ⟨any_range.2 ⟨i, hi, h2⟩, h1⟩
theorem turnsF_succ (hG : Good g st most K J μ) : ∀ (m : Nat) (x : Int × σ), J x → μ x < m → turnsF g st most K (m + 1) x = turnsF g st most K m x
  | 0, x, _, h => absurd h (Nat.not_lt_zero _)
  | m + 1, x, hx, h => by
    show (if _ then turnsF g st most K (m + 1) (sweep g st most x K) else x) = (if _ then turnsF g st most K m (sweep g st most x K) else x)
    split
    · rename_i hc
      refine turnsF_succ hG m _ (sweep_good hG hx K (Nat.le_refl _)).1 ?_
      have := sweep_lt hG hx hc.1 hc.2
      omega
    · rfl
/-- the run that is wanted: at most 20001 rounds -/
def turnsP (g : σ → Nat → Bool) (st : σ → Nat → σ) (most : Int) (K : Nat) (x : Int × σ) : Int × σ := turnsF g st most K 20001 x
theorem turnsP_eq (hG : Good g st most K J μ) {x : Int × σ} (hx : J x) (hm : μ x ≤ 20000) : turnsP g st most K x = turnsP g st most K (sweep g st most x K) := by
  by_cases hc : (List.range K).any (g x.2) = true ∧ x.1 < most
  · unfold turnsP
    rw [← turnsF_succ hG 20001 x hx (by omega)]
    show (if _ then turnsF g st most K 20001 (sweep g st most x K) else x) = _
    rw [if_pos hc]
  · rw [sweep_id x hc K (Nat.le_refl _)]
theorem turnsP_end {x : Int × σ} (hc : ¬ ((List.range K).any (g x.2) = true ∧ x.1 < most)) : turnsP g st most K x = x := by
  show (if _ then turnsF g st most K 20000 (sweep g st most x K) else x) = x
  rw [if_neg hc]
theorem turnsF_good (hG : Good g st most K J μ) : ∀ (m : Nat) (x : Int × σ), J x → J (turnsF g st most K m x) ∧ μ (turnsF g st most K m x) ≤ μ x
  | 0, x, hx => ⟨hx, Nat.le_refl _⟩
  | m + 1, x, hx => by
    show J (if _ then turnsF g st most K m (sweep g st most x K) else x) ∧ μ (if _ then turnsF g st most K m (sweep g st most x K) else x) ≤ μ x
    split
    · have h1 := sweep_good hG hx K (Nat.le_refl _)
      have h2 := turnsF_good hG m _ h1.1
      exact ⟨h2.1, Nat.le_trans h2.2 h1.2⟩
    · exact ⟨hx, Nat.le_refl _⟩
theorem turnsP_good (hG : Good g st most K J μ) {x : Int × σ} (hx : J x) : J (turnsP g st most K x) := (turnsF_good hG _ x hx).1
/-- where it ends, nothing more can be done, or enough was done -/
theorem turnsF_stop (hG : Good g st most K J μ) : ∀ (m : Nat) (x : Int × σ), J x → μ x < m → ¬ ((List.range K).any (g (turnsF g st most K m x).2) = true ∧ (turnsF g st most K m x).1 < most)
  | 0, x, _, h => absurd h (Nat.not_lt_zero _)
  | m + 1, x, hx, h => by
    unfold turnsF
    split
    · rename_i hc
      refine turnsF_stop hG m _ (sweep_good hG hx K (Nat.le_refl _)).1 ?_
      have := sweep_lt hG hx hc.1 hc.2
      omega
    · rename_i hc; exact hc
theorem turnsP_stop (hG : Good g st most K J μ) {x : Int × σ} (hx : J x) (hm : μ x ≤ 20000) : ¬ ((List.range K).any (g (turnsP g st most K x).2) = true ∧ (turnsP g st most K x).1 < most) := turnsF_stop hG 20001 x hx (by omega)

variable {γ δ ρ : Type}
/-- the loop that goes on as long as a round did something -/
theorem turnsI_loop (hG : Good g st most K J μ) (hμ : ∀ x, J x → μ x ≤ 20000) (enc : Int → Bool → σ → γ) (enci : Int → Bool → Nat → σ → δ) {F : (γ → Option ρ) → γ → Option ρ} {G : σ → Option ρ} {n : Nat}
    (hF : ∀ ih made s, J (made, s) → ∃ Fi : (δ → Option ρ) → δ → Option ρ, F ih (enc made true s) = iter n Fi (enci made false 0 s) ∧
      (∀ ihi made again k s, J (made, s) → k < K → Fi ihi (enci made again k s) = if most ≤ made then G s else if g s k = true then ihi (enci (made + 1) true (k + 1) (st s k)) else ihi (enci made again (k + 1) s)) ∧
      (∀ ihi made again s, J (made, s) → Fi ihi (enci made again K s) = ih (enc made again s)))
    (hF0 : ∀ ih made s, J (made, s) → F ih (enc made false s) = G s)
    (hK : K < n) (hn : 20001 < n) {x : Int × σ} (hx : J x) : iter n F (enc x.1 true x.2) = G (turnsP g st most K x).2 := by
  have inner : ∀ (ih : γ → Option ρ) (Fi : (δ → Option ρ) → δ → Option ρ), (∀ ihi made again k s, J (made, s) → k < K → Fi ihi (enci made again k s) = if most ≤ made then G s else if g s k = true then ihi (enci (made + 1) true (k + 1) (st s k)) else ihi (enci made again (k + 1) s)) →
      (∀ ihi made again s, J (made, s) → Fi ihi (enci made again K s) = ih (enc made again s)) → ∀ (x : Int × σ), J x → (∀ again, (again = false → sweep g st most x K = x) → (again = true → μ (sweep g st most x K) < μ x) → ih (enc (sweep g st most x K).1 again (sweep g st most x K).2) = G (turnsP g st most K x).2) →
      iter n Fi (enci x.1 false 0 x.2) = G (turnsP g st most K x).2 := by
    intro ih Fi hi he x hx hih
    have : ∀ m k again, k ≤ K → K - k < m → (again = false → sweep g st most x k = x) → (again = true → μ (sweep g st most x k) < μ x) → iter m Fi (enci (sweep g st most x k).1 again k (sweep g st most x k).2) = G (turnsP g st most K x).2 := by
      intro m
      induction m with
      | zero => intro k again hk h; omega
      | succ m IH =>
        intro k again hk hm h0 h1
        have hJ := (sweep_good hG hx k hk).1
        show Fi (iter m Fi) _ = _
        rcases Nat.lt_or_eq_of_le hk with hlt | hE
        · rw [hi _ _ _ _ _ hJ hlt]
          by_cases hmo : most ≤ (sweep g st most x k).1
          · rw [if_pos hmo, turnsP_eq hG hx (hμ x hx), sweep_stop hmo K hk, turnsP_end (fun h => by omega)]
          · rw [if_neg hmo]
            have e : sweep g st most x (k + 1) = one g st most (sweep g st most x k) k := rfl
            by_cases hg : g (sweep g st most x k).2 k = true
            · rw [if_pos hg]
              have e2 : sweep g st most x (k + 1) = ((sweep g st most x k).1 + 1, st (sweep g st most x k).2 k) := by
                rw [e]; unfold one; rw [if_pos ⟨by omega, hg⟩]
              have h3 := (hG _ k hJ hlt (by omega) hg).2
              have h4 := (sweep_good hG hx k hk).2
              have h2 := IH (k + 1) true (by omega) (by omega) (fun h => by cases h) (fun _ => by rw [e2]; omega)
              rw [e2] at h2
              exact h2
            · rw [if_neg hg]
              have e2 : sweep g st most x (k + 1) = sweep g st most x k := by
                rw [e]; unfold one; rw [if_neg (fun h => hg h.2)]
              have h2 := IH (k + 1) again (by omega) (by omega) (by rw [e2]; exact h0) (by rw [e2]; exact h1)
              rw [e2] at h2
              exact h2
        · subst hE
          rw [he _ _ _ _ hJ]
          exact hih again h0 h1
    exact this n 0 false (Nat.zero_le _) (by omega) (fun _ => rfl) (fun h => by cases h)
  have : ∀ m (x : Int × σ), J x → μ x + 1 < m → iter m F (enc x.1 true x.2) = G (turnsP g st most K x).2 := by
    intro m
    induction m with
    | zero => intro x _ h; omega
    | succ m IH =>
      intro x hx hm
      show F (iter m F) _ = _
      obtain ⟨Fi, e, hi, he⟩ := hF (iter m F) x.1 x.2 hx
      rw [e]
      refine inner _ Fi hi he x hx (fun again h0 h1 => ?_)
      have hJ := (sweep_good hG hx K (Nat.le_refl _)).1
      cases again
      · obtain ⟨m', rfl⟩ : ∃ m', m = m' + 1 := ⟨m - 1, by omega⟩
        show F (iter m' F) _ = _
        rw [hF0 _ _ _ hJ, h0 rfl]
        have hc : ¬ ((List.range K).any (g x.2) = true ∧ x.1 < most) := by
          rintro ⟨h2, h3⟩
          have := sweep_lt hG hx h2 h3
          rw [h0 rfl] at this
          omega
        rw [turnsP_end hc]
      · rw [IH _ hJ (by have := h1 rfl; omega), ← turnsP_eq hG hx (hμ x hx)]
  exact this n x hx (by have := hμ x hx; omega)
end
section
variable {σ : Type} {g : σ → Nat → Bool} {st : σ → Nat → σ} {m1 m2 : Int} {K : Nat} {J : Int × σ → Prop} {μ : Int × σ → Nat}
end
/-! ### loops that go on as long as something holds -/
section
variable {α γ ρ : Type} (c : α → Bool) (f : α → α)
variable {c f}
end
end Go.AmT
