/- Numbers as texts, in plain Lean: the digits of a number. -/
import Derived.Test.YtgddbcdkhfdojaaGreatDoorLTxtN
import Derived.Test.YtgddbcdkhfdojaaGreatDoorPMark0
namespace Go.AmT
open Go Go.Am
set_option linter.unusedVariables false
set_option linter.unusedSimpArgs false

theorem str_chk {m : Nat} {ρ : Type} {x : Option ρ} (h : m ≤ 1000000000000) : chk (m < maxS) x = x := chk_true (by simp only [maxS]; omega)
theorem byte_k {k : Nat} (h : k < 10) : UInt8.ofNat (IntKind.wrap .u8 (w64 (48 + (k : Int)))).toNat = UInt8.ofNat (48 + k) := by
  have c : k = 0 ∨ k = 1 ∨ k = 2 ∨ k = 3 ∨ k = 4 ∨ k = 5 ∨ k = 6 ∨ k = 7 ∨ k = 8 ∨ k = 9 := by omega
  rcases c with h | h | h | h | h | h | h | h | h | h <;> (subst h; decide)
theorem byte_eq {v : Int} (h : 0 ≤ v) : UInt8.ofNat (IntKind.wrap .u8 (w64 (48 + v.tmod 10))).toNat = UInt8.ofNat (48 + v.toNat % 10) := by
  rw [Int.tmod_eq_emod_of_nonneg h, show v % 10 = ((v.toNat % 10 : Nat) : Int) by omega]
  exact byte_k (by omega)
theorem dd_big {u : Nat} (h : ¬ u < 10) : Lib.decDigits u = Lib.decDigits (u / 10) ++ [UInt8.ofNat (48 + u % 10)] := by rw [Lib.decDigits, dif_neg h]
theorem dd_len : ∀ (k u : Nat), u < 10 ^ (k + 1) → (Lib.decDigits u).length ≤ k + 1
  | 0, u, h => by rw [Lib.decDigits_one (by simpa using h)]; simp
  | k + 1, u, h => by
    by_cases hu : u < 10
    · rw [Lib.decDigits_one hu]; simp
    · rw [dd_big hu]
      rw [Nat.pow_succ] at h
      have := dd_len k (u / 10) (by omega)
      simp
      omega
noncomputable def preD (v : Int) : List UInt8 := if v = 0 then [] else Lib.decDigits v.toNat
theorem preD_all {v : Int} (h : 0 ≤ v) : Lib.decDigits v.toNat = preD (v / 10) ++ [UInt8.ofNat (48 + v.toNat % 10)] := by
  unfold preD
  by_cases hu : v.toNat < 10
  · rw [if_pos (by omega), Lib.decDigits_one hu, Nat.mod_eq_of_lt hu]; rfl
  · rw [if_neg (by omega), dd_big hu, show (v / 10).toNat = v.toNat / 10 by omega]
theorem preD_step {v : Int} (h : 0 < v) : preD v = preD (v / 10) ++ [UInt8.ofNat (48 + v.toNat % 10)] := by
  rw [← preD_all (by omega)]
  unfold preD
  rw [if_neg (by omega)]
theorem digits_W {n : Nat} {x : Int} {slf : Int → Option (List UInt8 × Unit)} (hn : 1048576 < n) (h0 : 0 ≤ x) (h1 : x ≤ 1000000) : W (l1Number.B n slf x) (fun r => r.1 = Lib.decDigits x.toNat) := by
  unfold l1Number.B
  rw [br_no (by omega)]
  have hd : x.tdiv 10 = x / 10 := Int.tdiv_eq_ediv_of_nonneg h0
  rw [hd, w64_id (n := x / 10) (by omega) (by omega)]
  simp only [List.map_cons, List.map_nil]
  have hL := dd_len 6 x.toNat (by omega)
  refine W_iter (fun y => 0 ≤ y.1 ∧ y.1 ≤ 100000 ∧ preD y.1 ++ y.2.1 = Lib.decDigits x.toNat) (fun y => y.1.toNat) (fun ih y hy hS => ?_) ⟨by omega, by omega, by rw [byte_eq h0, preD_all h0]⟩ (by show (x / 10).toNat < n; omega)
  obtain ⟨v, out, ⟨⟩⟩ := y
  obtain ⟨a0, a1, a2⟩ := hy
  simp only at a0 a1 a2
  by_cases hv : 0 < v
  · simp only [br_yes hv]
    have hd : v.tdiv 10 = v / 10 := Int.tdiv_eq_ediv_of_nonneg a0
    have hl : out.length ≤ 7 := by
      have := congrArg List.length a2
      rw [List.length_append] at this
      omega
    rw [hd, w64_id (n := v / 10) (by omega) (by omega), str_chk (by simp; omega)]
    refine hS _ ⟨by simp only; omega, by simp only; omega, ?_⟩ (by simp only; omega)
    show preD (v / 10) ++ ([_] ++ out) = _
    rw [byte_eq a0, ← List.append_assoc, ← preD_step hv, a2]
  · simp only [br_no hv]
    rw [W_some]
    show out = _
    rw [← a2, show v = 0 by omega]
    rfl
theorem itoa_len {x : Int} (h0 : -1000000 ≤ x) (h1 : x ≤ 1000000) : (Lib.itoa x).length ≤ 8 := by
  unfold Lib.itoa
  split
  · have := dd_len 6 x.natAbs (by omega)
    simp
    omega
  · have := dd_len 6 x.toNat (by omega)
    omega
theorem number_spec {n : Nat} {x : Int} (hn : 1048576 < n) (h0 : -1000000 ≤ x) (h1 : x ≤ 1000000) : l1Number.f n x = some (Lib.itoa x, ()) := by
  have hL := itoa_len h0 h1
  have : W (l1Number.f n x) (fun r => r.1 = Lib.itoa x) := by
    obtain ⟨m, rfl⟩ : ∃ m, n = m + 2 := ⟨n - 2, by omega⟩
    show W (l1Number.B (m + 2) (l1Number.F (m + 2) (m + 1)) x) _
    by_cases hx : 0 ≤ x
    · refine W_and (digits_W hn hx h1) (fun r hr => ?_)
      rw [hr, Lib.itoa, if_neg (by omega)]
    · unfold l1Number.B
      rw [br_yes (by omega), w64_id (n := 0 - x) (by omega) (by omega), W_bind]
      refine W_and (show W (l1Number.B (m + 2) (l1Number.F (m + 2) m) (0 - x)) (fun r => r.1 = Lib.decDigits (0 - x).toNat) from digits_W hn (by omega) (by omega)) (fun r hr => ?_)
      have hl := dd_len 6 (0 - x).toNat (by omega)
      rw [hr, str_chk (by simp only [List.length_cons, List.length_nil]; omega), W_some, Lib.itoa, if_pos (by omega), show (0 - x).toNat = x.natAbs by omega]
      rfl
  obtain ⟨⟨r, ⟨⟩⟩, e, h⟩ := this
  rw [e]
  exact congrArg (fun z => some (z, ())) h
theorem tok_sm {x : Int} (h : tok x = true) : -1000000 ≤ x ∧ x ≤ 1000000 := by
  simp only [tok, Bool.and_eq_true, decide_eq_true_eq] at h
  omega

/-! ### streams -/
noncomputable def commaD (y : Int) : List UInt8 := [44] ++ Lib.itoa y
noncomputable def txtS : List Int → List UInt8
  | [] => [46]
  | x :: r => Lib.itoa x ++ (r.map commaD).flatten
noncomputable def fmtS (s : List Int) : List UInt8 := if okS s then txtS s else []
theorem flat_len {α : Type} (g : α → List UInt8) (B : Nat) : ∀ (l : List α), (∀ x ∈ l, (g x).length ≤ B) → (l.map g).flatten.length ≤ B * l.length
  | [], _ => by simp
  | x :: l, h => by
    have h1 := h x (by simp)
    have h2 := flat_len g B l (fun y hy => h y (by simp [hy]))
    simp only [List.map_cons, List.flatten_cons, List.length_append, List.length_cons, Nat.mul_add]
    omega
theorem flat_snoc {α : Type} (g : α → List UInt8) (l : List α) (i : Nat) (h : i < l.length) : ((l.take (i + 1)).map g).flatten = ((l.take i).map g).flatten ++ g l[i] := by
  rw [List.take_succ_eq_append_getElem h]
  simp only [List.map_append, List.map_cons, List.map_nil, List.flatten_append, List.flatten_cons, List.flatten_nil, List.append_nil]
theorem okS_bd {q : List Int} (h : okS q = true) : q.length ≤ 400 ∧ ∀ x ∈ q, tok x = true := by
  simp only [okS, Bool.and_eq_true, decide_eq_true_eq, List.all_eq_true] at h
  exact h
theorem comma_len {x : Int} (h : tok x = true) : (commaD x).length ≤ 9 := by
  have := itoa_len (tok_sm h).1 (tok_sm h).2
  unfold commaD
  simp
  omega
theorem fmtS_len (s : List Int) : (fmtS s).length ≤ 4000 := by
  unfold fmtS
  split
  · rename_i h
    obtain ⟨hl, ht⟩ := okS_bd h
    cases s with
    | nil => simp [txtS]
    | cons x r =>
      have h1 := itoa_len (tok_sm (ht x (by simp))).1 (tok_sm (ht x (by simp))).2
      have h2 := flat_len commaD 9 r (fun y hy => comma_len (ht y (by simp [hy])))
      simp only [List.length_cons] at hl
      simp only [txtS, List.length_append]
      omega
  · simp
theorem cat_list {α γ ρ : Type} (g : α → List UInt8) (l : List α) (t0 : List UInt8) {F : (γ → Option ρ) → γ → Option ρ} (st : List UInt8 → Int → γ) {R : Option ρ}
    (h1 : ∀ ih (i : Nat), i < l.length → F ih (st (t0 ++ ((l.take i).map g).flatten) (i : Int)) = ih (st (t0 ++ ((l.take (i + 1)).map g).flatten) ((i + 1 : Nat) : Int)))
    (h2 : ∀ ih, F ih (st (t0 ++ (l.map g).flatten) (l.length : Int)) = R) {n : Nat} (hn : l.length < n) : iter n F (st t0 0) = R := by
  have := iter_line (F := F) (fun i => st (t0 ++ ((l.take i).map g).flatten) (i : Int)) l.length (R := R) (fun ih i hi => h1 ih i hi) (fun ih => by
    show F ih (st (t0 ++ ((l.take l.length).map g).flatten) (l.length : Int)) = R
    rw [List.take_length]; exact h2 ih) hn
  simpa using this
theorem fmtStream_spec {n : Nat} {s : List Int} (hs : s.length ≤ 1048576) (hn : 1048576 < n) : fmtStream.f n s = some (fmtS s, ()) := by
  unfold fmtStream.f
  rw [sIsStream_spec hs hn, bind_unit]
  cases hk : okS s
  · rw [Bool.not_false, br_true]; simp [fmtS, hk]
  · obtain ⟨hl, ht⟩ := okS_bd hk
    rw [Bool.not_true, br_false]
    cases s with
    | nil => simp [br, fmtS, hk, txtS]
    | cons x r =>
      have e0 : fmtS (x :: r) = Lib.itoa x ++ (r.map commaD).flatten := by simp [fmtS, hk, txtS]
      have t0 := tok_sm (ht x (by simp))
      have h1 := itoa_len t0.1 t0.2
      rw [br_no (by simp; omega), chk_true (by simp)]
      have e1 : (x :: r).getD 0 0 = x := rfl
      rw [e1, number_spec hn t0.1 t0.2, bind_unit, chk_true (by simp only [List.length_cons]; omega)]
      have e2 : ((x :: r).take ((x :: r).length : Int).toNat).drop 1 = r := by rw [Int.toNat_natCast, List.take_length]; rfl
      rw [e2, e0]
      simp only [List.length_cons] at hl
      have hm : ∀ i, ((r.take i).map commaD).flatten.length ≤ 3600 := fun i => by
        have h2 := flat_len commaD 9 (r.take i) (fun y hy => comma_len (ht y (by simp [List.mem_of_mem_take hy])))
        rw [List.length_take] at h2
        have := Nat.min_le_right i r.length
        omega
      refine cat_list commaD r (Lib.itoa x) (fun t i => (t, (i, ()))) (fun ih i hi => ?_) (fun ih => ?_) (by omega)
      · have hlt : (i : Int) < (r.length : Int) := by omega
        simp only [br_yes hlt, Int.toNat_natCast]
        have hx := ht (r.getD i 0) (by rw [getD_lt hi]; simp)
        have hmi := hm i
        have hc := comma_len hx
        have hi2 := itoa_len (tok_sm hx).1 (tok_sm hx).2
        rw [chk_true (by omega), str_chk (by simp only [List.length_append, List.length_cons, List.length_nil]; omega), number_spec hn (tok_sm hx).1 (tok_sm hx).2, bind_unit, str_chk (by simp only [List.length_append, List.length_cons, List.length_nil]; omega), w64_succ (by omega)]
        rw [flat_snoc commaD r i hi, getD_lt hi]
        simp only [commaD, List.append_assoc]
      · simp only [br_no (Int.lt_irrefl _)]

/-! ### the program's own -/
theorem itoaC_spec {n : Nat} {x : Int} (h0 : -1000000 ≤ x) (h1 : x ≤ 1000000) : itoaC.f n x = some (Lib.itoa x, ()) := by
  unfold itoaC.f itoaR
  rw [if_pos (by omega)]
  rfl
theorem joinC_spec {n : Nat} {xs : List (List UInt8)} {sep : List UInt8} (h0 : xs.length ≤ 1000000) (h1 : (Lib.join xs sep).length ≤ 1000000) : joinC.f n xs sep = some (Lib.join xs sep, ()) := by
  unfold joinC.f joinR
  rw [if_pos (by omega)]
  rfl
theorem join_txt (x : Int) (r : List Int) : Lib.join ((x :: r).map Lib.itoa) [44] = txtS (x :: r) := by
  rw [List.map_cons, Lib.join_cons, Lib.joinTail, List.map_map]
  rfl
theorem iFmtStream_spec {n : Nat} {s : List Int} (hs : s.length ≤ 1048576) (hn : 1048576 < n) : iFmtStream.f n s = some (fmtS s, ()) := by
  have hB := maxB_eq
  unfold iFmtStream.f
  rw [iIsStream_spec hs hn, bind_unit]
  cases hk : okS s
  · rw [Bool.not_false, br_true]; simp [fmtS, hk]
  · obtain ⟨hl, ht⟩ := okS_bd hk
    rw [Bool.not_true, br_false]
    cases s with
    | nil => simp [br, fmtS, hk, txtS]
    | cons x r =>
      rw [br_no (by simp; omega)]
      have e0 : fmtS (x :: r) = Lib.join ((x :: r).map Lib.itoa) [44] := by rw [join_txt]; simp [fmtS, hk]
      have hf := fmtS_len (x :: r)
      rw [e0] at hf
      refine push_loopE (x :: r) Lib.itoa (fun i l => (i, (l, ()))) (fun ih i hi l hli => ?_) (fun ih => ?_) (by omega)
      · have hlt : (i : Int) < ((x :: r).length : Int) := by omega
        have hx := tok_sm (ht (x :: r)[i] (List.getElem_mem _))
        simp only [br_yes hlt, Int.toNat_natCast]
        rw [chk_true (by omega), getD_lt hi, itoaC_spec hx.1 hx.2, bind_unit, chk_true (by simp only [List.length_cons, List.length_nil]; omega), w64_succ (by omega)]
      · simp only [br_no (Int.lt_irrefl _)]
        rw [joinC_spec (by rw [List.length_map]; omega) (by omega), bind_unit, e0]
/-- a loop that writes one piece behind the other -/
theorem cat_loop {γ ρ : Type} (g : Nat → List UInt8) (len B : Nat) (t0 : List UInt8) (hB : ∀ i, i < len → (g i).length ≤ B) {F : (γ → Option ρ) → γ → Option ρ} (st : List UInt8 → Int → γ) {R : Option ρ}
    (h1 : ∀ ih (i : Nat) (t : List UInt8), i < len → t.length ≤ t0.length + B * i → F ih (st t (i : Int)) = ih (st (t ++ g i) ((i + 1 : Nat) : Int)))
    (h2 : ∀ ih, F ih (st (t0 ++ ((List.range len).map g).flatten) (len : Int)) = R) {n : Nat} (hn : len < n) : iter n F (st t0 0) = R := by
  have hl : ∀ i, i ≤ len → ((List.range i).map g).flatten.length ≤ B * i := fun i hi => by
    have := flat_len g B (List.range i) (fun x hx => hB x (by have := List.mem_range.1 hx; omega))
    rwa [List.length_range] at this
  have := iter_line (F := F) (fun i => st (t0 ++ ((List.range i).map g).flatten) (i : Int)) len (R := R) (fun ih i hi => by
    show F ih (st (t0 ++ ((List.range i).map g).flatten) (i : Int)) = _
    rw [h1 ih i _ hi (by have := hl i (by omega); simp only [List.length_append]; omega), List.range_succ]
    simp) (fun ih => h2 ih) hn
  simpa using this

theorem push_from {α β γ ρ : Type} (l : List α) (g : α → β) (s0 : List β) (st : Int → List β → γ) {F : (γ → Option ρ) → γ → Option ρ} {R : Option ρ}
    (h1 : ∀ ih i (hi : i < l.length) (s : List β), s.length = s0.length + i → F ih (st i s) = ih (st ((i + 1 : Nat) : Int) (s ++ [g l[i]])))
    (h2 : ∀ ih, F ih (st l.length (s0 ++ l.map g)) = R) {n : Nat} (hn : l.length < n) : iter n F (st 0 s0) = R := by
  have := iter_line (F := F) (fun i => st (i : Int) (s0 ++ (l.take i).map g)) l.length (R := R) (fun ih i hi => by
    show F ih (st (i : Int) (s0 ++ (l.take i).map g)) = _
    rw [h1 ih i hi _ (by simp; omega), List.take_succ_eq_append_getElem hi, List.map_append, List.append_assoc]; rfl) (fun ih => by
    show F ih (st (l.length : Int) _) = _
    rw [List.take_length]; exact h2 ih) hn
  simpa using this
/-- numbers, each with a space behind it -/
theorem iListed_four {n : Nat} {a b c d : Int} (hn : 1048576 < n) (ha : -1000000 ≤ a ∧ a ≤ 1000000) (hb : -1000000 ≤ b ∧ b ≤ 1000000) (hc : -1000000 ≤ c ∧ c ≤ 1000000) (hd : -1000000 ≤ d ∧ d ≤ 1000000) :
    iListed.f n [a, b, c, d] = some (Lib.itoa a ++ [32] ++ (Lib.itoa b ++ [32]) ++ (Lib.itoa c ++ [32]) ++ (Lib.itoa d ++ [32]), ()) := by
  have la := itoa_len ha.1 ha.2
  have lb := itoa_len hb.1 hb.2
  have lc := itoa_len hc.1 hc.2
  have ld := itoa_len hd.1 hd.2
  unfold iListed.f
  have e : Lib.itoa a ++ [32] ++ (Lib.itoa b ++ [32]) ++ (Lib.itoa c ++ [32]) ++ (Lib.itoa d ++ [32]) = [] ++ (([a, b, c, d] : List Int).map fun y => Lib.itoa y ++ [32]).flatten := by simp
  rw [e]
  have hall : ∀ i, i < 4 → ∃ y, ([a, b, c, d] : List Int).getD i 0 = y ∧ -1000000 ≤ y ∧ y ≤ 1000000 := fun i hi => by
    have : i = 0 ∨ i = 1 ∨ i = 2 ∨ i = 3 := by omega
    rcases this with rfl | rfl | rfl | rfl
    · exact ⟨a, rfl, ha⟩
    · exact ⟨b, rfl, hb⟩
    · exact ⟨c, rfl, hc⟩
    · exact ⟨d, rfl, hd⟩
  have hm : ∀ i, ((([a, b, c, d] : List Int).take i).map fun y => Lib.itoa y ++ [32]).flatten.length ≤ 36 := fun i => by
    have h1 := flat_len (fun y => Lib.itoa y ++ [32]) 9 (([a, b, c, d] : List Int).take i) (fun y hy => by
      have hy := List.mem_of_mem_take hy
      simp only [List.mem_cons, List.not_mem_nil, or_false] at hy
      rcases hy with rfl | rfl | rfl | rfl <;> (simp only [List.length_append, List.length_cons, List.length_nil]; omega))
    have h4 : ([a, b, c, d] : List Int).length = 4 := rfl
    rw [List.length_take, h4] at h1
    omega
  refine cat_list (fun y => Lib.itoa y ++ [32]) [a, b, c, d] [] (fun t i => (t, (i, ()))) (fun ih i hi => ?_) (fun ih => ?_) (by simp; omega)
  · simp only [List.length_cons, List.length_nil] at hi
    obtain ⟨y, hy, h0, h1⟩ := hall i (by omega)
    have hmi := hm i
    have hyl := itoa_len h0 h1
    have hlt : (i : Int) < (([a, b, c, d] : List Int).length : Int) := by simp only [List.length_cons, List.length_nil]; omega
    simp only [br_yes hlt, Int.toNat_natCast]
    rw [chk_true (by simp only [List.length_cons, List.length_nil]; omega), hy, itoaC_spec h0 h1, bind_unit, str_chk (by simp only [List.length_cons, List.length_nil]; omega), str_chk (by simp only [List.length_append, List.length_cons, List.length_nil]; omega), w64_succ (by omega)]
    rw [flat_snoc (fun y => Lib.itoa y ++ [32]) [a, b, c, d] i (by simp; omega)]
    have : ([a, b, c, d] : List Int)[i]'(by simp; omega) = y := by rw [← hy, getD_lt (by simp; omega)]
    rw [this]
    simp only [List.nil_append]
  · simp only [br_no (Int.lt_irrefl _)]
theorem mem_snoc {α : Type} {P : α → Prop} {l : List α} {x : α} (h : ∀ a ∈ l, P a) (hx : P x) : ∀ a ∈ l ++ [x], P a := by
  intro a ha
  rcases List.mem_append.1 ha with ha | ha
  · exact h a ha
  · rw [List.mem_singleton.1 ha]; exact hx
end Go.AmT
