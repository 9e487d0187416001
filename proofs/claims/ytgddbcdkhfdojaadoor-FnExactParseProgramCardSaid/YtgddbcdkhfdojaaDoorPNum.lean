/- Numbers as texts, in plain Lean: the digits of a number. -/
import Derived.Test.YtgddbcdkhfdojaaDoorLTxtN
import Derived.Test.YtgddbcdkhfdojaaDoorPMark0
namespace Go.AmT
open Go Go.Am
set_option linter.unusedVariables false
set_option linter.unusedSimpArgs false

theorem str_chk {m : Nat} {ρ : Type} {x : Option ρ} (h : m ≤ 1000000000000) : chk (m < maxS) x = x := chk_true (by simp only [maxS]; omega)
theorem byte_k {k : Nat} (h : k < 10) : UInt8.ofNat (IntKind.wrap .u8 (w64 (48 + (k : Int)))).toNat = UInt8.ofNat (48 + k) := by
  have c : k = 0 ∨ k = 1 ∨ k = 2 ∨ k = 3 ∨ k = 4 ∨ k = 5 ∨ k = 6 ∨ k = 7 ∨ k = 8 ∨ k = 9 := by omega
  rcases c with h | h | h | h | h | h | h | h | h | h <;> (subst h; decide)
theorem byte_eq {v : Int} (h : 0 ≤ v) : UInt8.ofNat (IntKind.wrap .u8 (w64 (48 + v.tmod 10))).toNat = UInt8.ofNat (48 + v.toNat % 10) := by
  rw [Int.tmod_eq_emod_of_nonneg h, show v % 10 = ((v.toNat % 10 : Nat) : Int) by omega]
  exact byte_k (by omega)
theorem dd_big {u : Nat} (h : ¬ u < 10) : Lib.decDigits u = Lib.decDigits (u / 10) ++ [UInt8.ofNat (48 + u % 10)] := by rw [Lib.decDigits, dif_neg h]
theorem dd_len : ∀ (k u : Nat), u < 10 ^ (k + 1) → (Lib.decDigits u).length ≤ k + 1
  | 0, u, h => by rw [Lib.decDigits_one (by simpa using h)]; simp
  | k + 1, u, h => by
    by_cases hu : u < 10
    · rw [Lib.decDigits_one hu]; simp
    · rw [dd_big hu]
      rw [Nat.pow_succ] at h
      have := dd_len k (u / 10) (by omega)
      simp
      omega
noncomputable def preD (v : Int) : List UInt8 := if v = 0 then [] else Lib.decDigits v.toNat
theorem preD_all {v : Int} (h : 0 ≤ v) : Lib.decDigits v.toNat = preD (v / 10) ++ [UInt8.ofNat (48 + v.toNat % 10)] := by
  unfold preD
  by_cases hu : v.toNat < 10
  · rw [if_pos (by omega), Lib.decDigits_one hu, Nat.mod_eq_of_lt hu]; rfl
  · rw [if_neg (by omega), dd_big hu, show (v / 10).toNat = v.toNat / 10 by omega]
theorem preD_step {v : Int} (h : 0 < v) : preD v = preD (v / 10) ++ [UInt8.ofNat (48 + v.toNat % 10)] := by
  rw [← preD_all (by omega)]
  unfold preD
  rw [if_neg (by omega)]
theorem digits_W {n : Nat} {x : Int} {slf : Int → Option (List UInt8 × Unit)} (hn : 1048576 < n) (h0 : 0 ≤ x) (h1 : x ≤ 1000000) : W (l1Number.B n slf x) (fun r => r.1 = Lib.decDigits x.toNat) := by
  unfold l1Number.B
  rw [br_no (by omega)]
  have hd : x.tdiv 10 = x / 10 := Int.tdiv_eq_ediv_of_nonneg h0
  rw [hd, w64_id (n := x / 10) (by omega) (by omega)]
  simp only [List.map_cons, List.map_nil]
  have hL := dd_len 6 x.toNat (by omega)
  refine W_iter (fun y => 0 ≤ y.1 ∧ y.1 ≤ 100000 ∧ preD y.1 ++ y.2.1 = Lib.decDigits x.toNat) (fun y => y.1.toNat) (fun ih y hy hS => ?_) ⟨by omega, by omega, by rw [byte_eq h0, preD_all h0]⟩ (by show (x / 10).toNat < n; omega)
  obtain ⟨v, out, ⟨⟩⟩ := y
  obtain ⟨a0, a1, a2⟩ := hy
  simp only at a0 a1 a2
  by_cases hv : 0 < v
  · simp only [br_yes hv]
    have hd : v.tdiv 10 = v / 10 := Int.tdiv_eq_ediv_of_nonneg a0
    have hl : out.length ≤ 7 := by
      have := congrArg List.length a2
      rw [List.length_append] at this
      omega
    rw [hd, w64_id (n := v / 10) (by omega) (by omega), str_chk (by simp; omega)]
    refine hS _ ⟨by simp only; omega, by simp only; omega, ?_⟩ (by simp only; omega)
    show preD (v / 10) ++ ([_] ++ out) = _
    rw [byte_eq a0, ← List.append_assoc, ← preD_step hv, a2]
  · simp only [br_no hv]
    rw [W_some]
    show out = _
    rw [← a2, show v = 0 by omega]
    rfl
theorem itoa_len {x : Int} (h0 : -1000000 ≤ x) (h1 : x ≤ 1000000) : (Lib.itoa x).length ≤ 8 := by
  unfold Lib.itoa
  split
  · have := dd_len 6 x.natAbs (by omega)
    simp
    omega
  · have := dd_len 6 x.toNat (by omega)
    omega
theorem number_spec {n : Nat} {x : Int} (hn : 1048576 < n) (h0 : -1000000 ≤ x) (h1 : x ≤ 1000000) : l1Number.f n x = some (Lib.itoa x, ()) := by
  have hL := itoa_len h0 h1
  have : W (l1Number.f n x) (fun r => r.1 = Lib.itoa x) := by
    obtain ⟨m, rfl⟩ : ∃ m, n = m + 2 := ⟨n - 2, by omega⟩
    show W (l1Number.B (m + 2) (l1Number.F (m + 2) (m + 1)) x) _
    by_cases hx : 0 ≤ x
    · refine W_and (digits_W hn hx h1) (fun r hr => ?_)
      rw [hr, Lib.itoa, if_neg (by omega)]
    · unfold l1Number.B
      rw [br_yes (by omega), w64_id (n := 0 - x) (by omega) (by omega), W_bind]
      refine W_and (show W (l1Number.B (m + 2) (l1Number.F (m + 2) m) (0 - x)) (fun r => r.1 = Lib.decDigits (0 - x).toNat) from digits_W hn (by omega) (by omega)) (fun r hr => ?_)
      have hl := dd_len 6 (0 - x).toNat (by omega)
      rw [hr, str_chk (by simp only [List.length_cons, List.length_nil]; omega), W_some, Lib.itoa, if_pos (by omega), show (0 - x).toNat = x.natAbs by omega]
      rfl
  obtain ⟨⟨r, ⟨⟩⟩, e, h⟩ := this
  rw [e]
  exact congrArg (fun z => some (z, ())) h
/-! ### streams -/
theorem flat_len {α : Type} (g : α → List UInt8) (B : Nat) : ∀ (l : List α), (∀ x ∈ l, (g x).length ≤ B) → (l.map g).flatten.length ≤ B * l.length
  | [], _ => by simp
  | x :: l, h => by
    have h1 := h x (by simp)
    have h2 := flat_len g B l (fun y hy => h y (by simp [hy]))
    simp only [List.map_cons, List.flatten_cons, List.length_append, List.length_cons, Nat.mul_add]
    omega
theorem flat_snoc {α : Type} (g : α → List UInt8) (l : List α) (i : Nat) (h : i < l.length) : ((l.take (i + 1)).map g).flatten = ((l.take i).map g).flatten ++ g l[i] := by
  rw [List.take_succ_eq_append_getElem h]
  simp only [List.map_append, List.map_cons, List.map_nil, List.flatten_append, List.flatten_cons, List.flatten_nil, List.append_nil]
theorem cat_list {α γ ρ : Type} (g : α → List UInt8) (l : List α) (t0 : List UInt8) {F : (γ → Option ρ) → γ → Option ρ} (st : List UInt8 → Int → γ) {R : Option ρ}
    (h1 : ∀ ih (i : Nat), i < l.length → F ih (st (t0 ++ ((l.take i).map g).flatten) (i : Int)) = ih (st (t0 ++ ((l.take (i + 1)).map g).flatten) ((i + 1 : Nat) : Int)))
    (h2 : ∀ ih, F ih (st (t0 ++ (l.map g).flatten) (l.length : Int)) = R) {n : Nat} (hn : l.length < n) : iter n F (st t0 0) = R := by
  have := iter_line (F := F) (fun i => st (t0 ++ ((l.take i).map g).flatten) (i : Int)) l.length (R := R) (fun ih i hi => h1 ih i hi) (fun ih => by
    show F ih (st (t0 ++ ((l.take l.length).map g).flatten) (l.length : Int)) = R
    rw [List.take_length]; exact h2 ih) hn
  simpa using this
/-! ### the program's own -/
theorem itoaC_spec {n : Nat} {x : Int} (h0 : -1000000 ≤ x) (h1 : x ≤ 1000000) : itoaC.f n x = some (Lib.itoa x, ()) := by
  unfold itoaC.f itoaR
  rw [if_pos (by omega)]
  rfl
/-- a loop that writes one piece behind the other -/
theorem cat_loop {γ ρ : Type} (g : Nat → List UInt8) (len B : Nat) (t0 : List UInt8) (hB : ∀ i, i < len → (g i).length ≤ B) {F : (γ → Option ρ) → γ → Option ρ} (st : List UInt8 → Int → γ) {R : Option ρ}
    (h1 : ∀ ih (i : Nat) (t : List UInt8), i < len → t.length ≤ t0.length + B * i → F ih (st t (i : Int)) = ih (st (t ++ g i) ((i + 1 : Nat) : Int)))
    (h2 : ∀ ih, F ih (st (t0 ++ ((List.range len).map g).flatten) (len : Int)) = R) {n : Nat} (hn : len < n) : iter n F (st t0 0) = R := by
  have hl : ∀ i, i ≤ len → ((List.range i).map g).flatten.length ≤ B * i := fun i hi => by
    have := flat_len g B (List.range i) (fun x hx => hB x (by have := List.mem_range.1 hx; omega))
    rwa [List.length_range] at this
  have := iter_line (F := F) (fun i => st (t0 ++ ((List.range i).map g).flatten) (i : Int)) len (R := R) (fun ih i hi => by
    show F ih (st (t0 ++ ((List.range i).map g).flatten) (i : Int)) = _
    rw [h1 ih i _ hi (by have := hl i (by omega); simp only [List.length_append]; omega), List.range_succ]
    simp) (fun ih => h2 ih) hn
  simpa using this

theorem mem_snoc {α : Type} {P : α → Prop} {l : List α} {x : α} (h : ∀ a ∈ l, P a) (hx : P x) : ∀ a ∈ l ++ [x], P a := by
  intro a ha
  rcases List.mem_append.1 ha with ha | ha
  · exact h a ha
  · rw [List.mem_singleton.1 ha]; exact hx
end Go.AmT
