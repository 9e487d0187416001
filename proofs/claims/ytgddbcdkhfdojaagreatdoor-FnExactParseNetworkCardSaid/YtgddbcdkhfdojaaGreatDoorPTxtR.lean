/- Texts that are read, in plain Lean: pieces, numbers, streams. -/
import Derived.Test.YtgddbcdkhfdojaaGreatDoorLTxtR
import Derived.Test.YtgddbcdkhfdojaaGreatDoorPNum
import Derived.Lib.AtoiTie
import Derived.Lib.AtoiAllCases
namespace Go.AmT
open Go Go.Am
set_option linter.unusedVariables false
set_option linter.unusedSimpArgs false

/-! ### pieces -/
theorem splitR_no {c : UInt8} : ∀ {a : List UInt8}, c ∉ a → splitR c a = [a]
  | [], _ => rfl
  | x :: xs, h => by
    have h1 : x ≠ c := fun e => h (by simp [e])
    have h2 : c ∉ xs := fun e => h (by simp [e])
    rw [splitR, if_neg h1, splitR_no h2]; rfl
theorem splitR_app {c : UInt8} (b : List UInt8) : ∀ {a : List UInt8}, c ∉ a → splitR c (a ++ c :: b) = a :: splitR c b
  | [], _ => by rw [List.nil_append, splitR, if_pos rfl]
  | x :: xs, h => by
    have h1 : x ≠ c := fun e => h (by simp [e])
    have h2 : c ∉ xs := fun e => h (by simp [e])
    rw [List.cons_append, splitR, if_neg h1, splitR_app b h2]; rfl
theorem splitR_end (c : UInt8) : ∀ t : List UInt8, splitR c (t ++ [c]) = splitR c t ++ [[]]
  | [] => by simp [splitR]
  | x :: xs => by
    rw [List.cons_append, splitR, splitR, splitR_end c xs]
    split
    · rfl
    · cases h : splitR c xs with
      | nil => exact absurd h (splitR_ne c xs)
      | cons a b => rfl
theorem splitR_lines {c : UInt8} : ∀ (l : List (List UInt8)), (∀ a ∈ l, c ∉ a) → splitR c ((l.map (· ++ [c])).flatten) = l ++ [[]]
  | [], _ => rfl
  | a :: l, h => by
    have e : ((a :: l).map (· ++ [c])).flatten = a ++ c :: (l.map (· ++ [c])).flatten := by simp
    rw [e, splitR_app _ (h a (by simp)), splitR_lines l (fun b hb => h b (by simp [hb]))]
    rfl
/-- the pieces are not longer than the text -/
theorem splitR_sum (c : UInt8) : ∀ t : List UInt8, ∀ p ∈ splitR c t, p.length + (splitR c t).length ≤ t.length + 1
  | [] => by simp [splitR]
  | x :: xs => by
    have h2 := splitR_sum c xs
    rw [splitR]
    have hne := splitR_ne c xs
    split
    · intro p hp
      rcases List.mem_cons.1 hp with rfl | hp
      · obtain ⟨a, ha⟩ := List.exists_mem_of_ne_nil _ hne
        have := h2 a ha
        simp only [List.length_cons, List.length_nil]; omega
      · have := h2 p hp; simp only [List.length_cons]; omega
    · cases h : splitR c xs with
      | nil => exact absurd h hne
      | cons a b =>
        rw [h] at h2
        intro p hp
        rcases List.mem_cons.1 hp with rfl | hp
        · have := h2 a (by simp); simp only [consH, List.length_cons] at this ⊢; omega
        · have := h2 p (by simp [hp]); simp only [consH, List.length_cons] at this ⊢; omega
theorem splitR_len (c : UInt8) (t : List UInt8) : (splitR c t).length ≤ t.length + 1 := by
  obtain ⟨a, ha⟩ := List.exists_mem_of_ne_nil _ (splitR_ne c t)
  have := splitR_sum c t a ha
  omega
/-- a piece that has begun -/
def begun (a : List UInt8) : List (List UInt8) → List (List UInt8)
  | [] => [a]
  | h :: t => (a ++ h) :: t
theorem begun_consH (a : List UInt8) (x : UInt8) (l : List (List UInt8)) (hl : l ≠ []) : begun (a ++ [x]) l = begun a (consH x l) := by
  cases l with
  | nil => exact absurd rfl hl
  | cons h t => simp [begun, consH]
theorem l1Split_spec {n : Nat} {s : List UInt8} {c : Int} (h0 : 0 ≤ c) (h1 : c < 256) (hs : s.length ≤ 1048576) (hn : 1048577 < n) : l1Split.f n s c = some (splitR (UInt8.ofNat c.toNat) s, ()) := by
  have hB := maxB_eq
  have hcc : ∀ b : UInt8, ((b.toNat : Int) = c) ↔ b = UInt8.ofNat c.toNat := fun b => by
    constructor
    · intro e
      apply UInt8.toNat.inj
      rw [UInt8.toNat_ofNat']
      omega
    · intro e
      rw [e, UInt8.toNat_ofNat']
      omega
  unfold l1Split.f
  refine W_eq.1 (W_and (P := fun (r : List (List UInt8) × Unit) => r.1 = splitR (UInt8.ofNat c.toNat) s) ?_ (fun r hr => by obtain ⟨r, ⟨⟩⟩ := r; exact congrArg (fun z => (z, ())) hr))
  · refine W_up (fun (i : Nat) (o : Nat × List (List UInt8)) => ((o.1 : Int), ((i : Int), (o.2, ())))) s.length (fun i o => o.1 ≤ i ∧ o.2.length ≤ i ∧ o.2 ++ begun ((s.take i).drop o.1) (splitR (UInt8.ofNat c.toNat) (s.drop i)) = splitR (UInt8.ofNat c.toNat) s) (s0 := (0, [])) rfl ⟨Nat.le_refl _, by simp, ?_⟩ (by omega) (fun ih o hI => ?_) (fun ih i o hi hI hS => ?_)
    · show [] ++ begun [] (splitR _ s) = _
      cases h : splitR (UInt8.ofNat c.toNat) s with
      | nil => exact absurd h (splitR_ne _ s)
      | cons a b => rfl
    · obtain ⟨o1, o2, o3⟩ := hI
      simp only [br_no (Int.lt_irrefl _)]
      rw [chk_true (by omega), chk_true (by simp only [List.length_cons, List.length_nil]; omega), W_some]
      show o.2 ++ [_] = _
      rw [← o3, List.drop_length]
      simp [splitR, begun]
    · obtain ⟨o1, o2, o3⟩ := hI
      simp only [br_yes (show (i : Int) < (s.length : Int) by omega), Int.toNat_natCast]
      rw [chk_true (by omega)]
      have hd : s.drop i = s[i] :: s.drop (i + 1) := List.drop_eq_getElem_cons hi
      have hg : s.getD i 0 = s[i] := getD_lt hi 0
      have ht : (s.take (i + 1)).drop o.1 = (s.take i).drop o.1 ++ [s[i]] := by
        rw [List.take_succ_eq_append_getElem hi, List.drop_append_of_le_length (by rw [List.length_take]; omega)]
      by_cases e : s[i] = UInt8.ofNat c.toNat
      · rw [br_yes (show ((s.getD i 0).toNat : Int) = c by rw [hg]; exact (hcc _).2 e), chk_true (by omega), chk_true (by simp only [List.length_cons, List.length_nil]; omega), w64_succ (by omega)]
        refine hS (i + 1, o.2 ++ [(s.take i).drop o.1]) ⟨Nat.le_refl _, by simp; omega, ?_⟩
        show (o.2 ++ [_]) ++ begun ((s.take (i + 1)).drop (i + 1)) _ = _
        rw [← o3, hd, splitR, if_pos e]
        have hz : (s.take (i + 1)).drop (i + 1) = [] := List.drop_eq_nil_of_le (by rw [List.length_take]; omega)
        rw [hz]
        cases h : splitR (UInt8.ofNat c.toNat) (s.drop (i + 1)) with
        | nil => exact absurd h (splitR_ne _ _)
        | cons a b => simp [begun]
      · rw [br_no (show ¬ ((s.getD i 0).toNat : Int) = c by rw [hg]; exact fun h => e ((hcc _).1 h)), w64_succ (by omega)]
        refine hS (o.1, o.2) ⟨by show o.1 ≤ i + 1; omega, by show o.2.length ≤ i + 1; omega, ?_⟩
        show o.2 ++ begun ((s.take (i + 1)).drop o.1) _ = _
        rw [← o3, hd, splitR, if_neg e, ht, begun_consH _ _ _ (splitR_ne _ _)]
theorem splitC_spec {n : Nat} {s : List UInt8} {c : UInt8} (hs : s.length ≤ 1048576) : splitC.f n s [c] = some (splitR c s, ()) := by
  exact if_pos (show s.length < 4294967281 by omega)

/-! ### digits -/
theorem digit_toNat {k : Nat} (h : k < 10) : (UInt8.ofNat (48 + k)).toNat = 48 + k := by rw [UInt8.toNat_ofNat']; omega
theorem dd_digit : ∀ (k u : Nat), u < 10 ^ (k + 1) → ∀ c ∈ Lib.decDigits u, 48 ≤ c.toNat ∧ c.toNat ≤ 57
  | 0, u, h => by
    rw [Lib.decDigits_one (by simpa using h)]
    intro c hc
    rw [List.mem_singleton.1 hc, digit_toNat (by simpa using h)]
    have : u < 10 := by simpa using h
    omega
  | k + 1, u, h => by
    by_cases hu : u < 10
    · rw [Lib.decDigits_one hu]
      intro c hc
      rw [List.mem_singleton.1 hc, digit_toNat hu]
      omega
    · rw [dd_big hu]
      rw [Nat.pow_succ] at h
      intro c hc
      rcases List.mem_append.1 hc with hc | hc
      · exact dd_digit k (u / 10) (by omega) c hc
      · rw [List.mem_singleton.1 hc, digit_toNat (by omega)]
        omega
theorem dd_ne (u : Nat) : Lib.decDigits u ≠ [] := by
  by_cases hu : u < 10
  · rw [Lib.decDigits_one hu]; simp
  · rw [dd_big hu]; simp
/-- the first digit is 0 for 0 alone -/
theorem dd_head : ∀ (k u : Nat), u < 10 ^ (k + 1) → (Lib.decDigits u).length = 1 ∨ (Lib.decDigits u).getD 0 0 ≠ 48
  | 0, u, h => by rw [Lib.decDigits_one (by simpa using h)]; exact .inl rfl
  | k + 1, u, h => by
    by_cases hu : u < 10
    · rw [Lib.decDigits_one hu]; exact .inl rfl
    · rw [Nat.pow_succ] at h
      rw [dd_big hu]
      refine .inr ?_
      have hne := dd_ne (u / 10)
      by_cases h9 : u / 10 < 10
      · rw [Lib.decDigits_one h9]
        intro e
        have e : UInt8.ofNat (48 + u / 10) = 48 := e
        have := congrArg UInt8.toNat e
        rw [digit_toNat h9] at this
        have : 48 + u / 10 = 48 := this
        omega
      · rcases dd_head k (u / 10) (by omega) with h1 | h1
        · rw [dd_big h9] at h1
          have := dd_ne (u / 10 / 10)
          have := List.length_pos_iff.2 this
          simp only [List.length_append, List.length_cons, List.length_nil] at h1
          omega
        · rw [List.getD_eq_getElem?_getD, List.getElem?_append_left (List.length_pos_iff.2 hne), ← List.getD_eq_getElem?_getD]
          exact h1
def dval (l : List UInt8) : Nat := l.foldl (fun a c => 10 * a + (c.toNat - 48)) 0
theorem dval_snoc (l : List UInt8) (c : UInt8) : dval (l ++ [c]) = 10 * dval l + (c.toNat - 48) := by simp [dval]
theorem dval_dd : ∀ (k u : Nat), u < 10 ^ (k + 1) → dval (Lib.decDigits u) = u
  | 0, u, h => by
    have h : u < 10 := by simpa using h
    rw [Lib.decDigits_one h, ← List.nil_append [_], dval_snoc, digit_toNat h]
    simp [dval]
  | k + 1, u, h => by
    by_cases hu : u < 10
    · rw [Lib.decDigits_one hu, ← List.nil_append [_], dval_snoc, digit_toNat hu]
      simp [dval]
    · rw [Nat.pow_succ] at h
      rw [dd_big hu, dval_snoc, dval_dd k (u / 10) (by omega), digit_toNat (by omega)]
      omega
theorem dvalF_lt : ∀ (l : List UInt8) (a : Nat), (∀ c ∈ l, 48 ≤ c.toNat ∧ c.toNat ≤ 57) → l.foldl (fun a c => 10 * a + (c.toNat - 48)) a < (a + 1) * 10 ^ l.length
  | [], a, _ => by simp
  | c :: l, a, h => by
    have h2 := h c (by simp)
    have h1 := dvalF_lt l (10 * a + (c.toNat - 48)) (fun d hd => h d (by simp [hd]))
    have h3 : (10 * a + (c.toNat - 48) + 1) * 10 ^ l.length ≤ ((a + 1) * 10) * 10 ^ l.length := Nat.mul_le_mul_right _ (by omega)
    rw [List.foldl_cons, List.length_cons, Nat.pow_succ, Nat.mul_comm (10 ^ l.length) 10, ← Nat.mul_assoc]
    omega
theorem dval_lt (l : List UInt8) (h : ∀ c ∈ l, 48 ≤ c.toNat ∧ c.toNat ≤ 57) : dval l < 10 ^ l.length := by
  have := dvalF_lt l 0 h
  simpa [dval] using this

/-! ### numbers of the reference -/
theorem digLoop {n : Nat} {s : List UInt8} (hd : ∀ c ∈ s, 48 ≤ c.toNat ∧ c.toNat ≤ 57) (hl : s.length ≤ 9) (hn : 1048576 < n) {F : ((Int × (Int × Unit)) → Option (Int × (Bool × Unit))) → (Int × (Int × Unit)) → Option (Int × (Bool × Unit))}
    (h1 : ∀ ih (i : Nat) (v : Int), i < s.length → 0 ≤ v → v ≤ 1000000000 → F ih (v, ((i : Int), ())) = ih (10 * v + (((s.getD i 0).toNat : Int) - 48), (((i + 1 : Nat) : Int), ())))
    (h2 : ∀ ih v, F ih (v, ((s.length : Int), ())) = some (v, (true, ()))) : iter n F (0, (0, ())) = some ((dval s : Int), (true, ())) := by
  have hp : ∀ i, i ≤ s.length → dval (s.take i) < 10 ^ i := fun i hi => by
    have := dval_lt (s.take i) (fun c hc => hd c (List.mem_of_mem_take hc))
    rwa [List.length_take, Nat.min_eq_left hi] at this
  have := iter_line (F := F) (fun i => (((dval (s.take i) : Nat) : Int), ((i : Int), ()))) s.length (R := some ((dval s : Int), (true, ()))) (fun ih i hi => ?_) (fun ih => ?_) (n := n) (by omega)
  · exact this
  · have hb := hp i (by omega)
    have h10 : 10 ^ i ≤ 10 ^ 9 := Nat.pow_le_pow_right (by omega) (by omega)
    have hc := hd s[i] (List.getElem_mem _)
    rw [h1 ih i _ hi (by omega) (by omega), List.take_succ_eq_append_getElem hi, dval_snoc, getD_lt hi]
    congr 2
    omega
  · rw [h2 ih, List.take_length]
theorem byte_sub {b : UInt8} (h : 48 ≤ b.toNat ∧ b.toNat ≤ 57) : w64 (IntKind.wrap .u8 ((b.toNat : Int) - 48)) = (b.toNat : Int) - 48 := by
  have c : b.toNat = 48 ∨ b.toNat = 49 ∨ b.toNat = 50 ∨ b.toNat = 51 ∨ b.toNat = 52 ∨ b.toNat = 53 ∨ b.toNat = 54 ∨ b.toNat = 55 ∨ b.toNat = 56 ∨ b.toNat = 57 := by omega
  rcases c with h | h | h | h | h | h | h | h | h | h <;> (rw [h]; decide)
/-- a text of digits, of at most 9, that does not begin with 0 but for 0 itself -/
theorem read_digits {n : Nat} {slf : List UInt8 → Option (Int × (Bool × Unit))} {s : List UInt8} (h0 : s ≠ []) (hd : ∀ c ∈ s, 48 ≤ c.toNat ∧ c.toNat ≤ 57) (hl : s.length ≤ 9) (hz : s.length = 1 ∨ s.getD 0 0 ≠ 48) (hn : 1048576 < n) :
    l1Read.B n slf s = some ((dval s : Int), (true, ())) := by
  have hpos := List.length_pos_iff.2 h0
  have hd0 := hd (s.getD 0 0) (by rw [getD_lt hpos]; exact List.getElem_mem _)
  have e45 : ¬ (((s.getD 0 0).toNat : Int) = 45) := by omega
  have flag : (br (decide (1 < (s.length : Int))) (chk ((0 : Int) ≤ 0 ∧ (0 : Int) < (s.length : Int)) (br (decide (((s.getD 0 0).toNat : Int) = 45)) (chk ((0 : Int) ≤ 1 ∧ (1 : Int) < (s.length : Int)) (some (Sum.inr (α := Int × (Bool × Unit)) ((!decide (((s.getD 1 0).toNat : Int) = 45)), ())))) (some (.inr (false, ()))))) (some (.inr (false, ())))) = some (.inr (false, ())) := by
    rw [br_no e45, chk_true (by omega)]
    by_cases h : 1 < (s.length : Int)
    · rw [br_yes h]
    · rw [br_no h]
  unfold l1Read.B
  rw [flag]
  simp only [cut_inr, br_false]
  rw [br_no (by omega), br_no (by omega), chk_true (by omega)]
  have hz2 : (br (decide (((s.getD 0 0).toNat : Int) = 48)) (some (Sum.inr (α := Int × (Bool × Unit)) ((decide (1 < (s.length : Int))), ()))) (some (.inr (false, ())))) = some (.inr (false, ())) := by
    rcases hz with h | h
    · rw [decide_eq_false (show ¬ 1 < (s.length : Int) by omega)]
      by_cases e : ((s.getD 0 0).toNat : Int) = 48
      · rw [br_yes e]
      · rw [br_no e]
    · rw [br_no (fun e => h (UInt8.toNat.inj (by show _ = 48; omega)))]
  rw [hz2]
  simp only [cut_inr, br_false]
  refine digLoop hd hl hn (fun ih i v hi v0 v1 => ?_) (fun ih v => ?_)
  · have hi' : (i : Int) < (s.length : Int) := by omega
    have hc := hd (s.getD i 0) (by rw [getD_lt hi]; exact List.getElem_mem _)
    simp only [br_yes hi', Int.toNat_natCast]
    rw [chk_true (by omega), br_no (by omega), chk_true (by omega), decide_eq_false (show ¬ 57 < ((s.getD i 0).toNat : Int) by omega)]
    simp only [cut_inr, br_false]
    rw [chk_true (by omega), byte_sub hc, w64_id (n := 10 * v) (by omega) (by omega), w64_id (n := 10 * v + _) (by omega) (by omega), w64_succ (by omega)]
  · simp only [br_no (Int.lt_irrefl _)]
theorem read_spec {n : Nat} {x : Int} (hn : 1048576 < n) (h0 : -1000000 ≤ x) (h1 : x ≤ 1000000) : l1Read.f n (Lib.itoa x) = some (x, (true, ())) := by
  obtain ⟨m, rfl⟩ : ∃ m, n = m + 2 := ⟨n - 2, by omega⟩
  have dig : ∀ (k : Nat) (slf : List UInt8 → Option (Int × (Bool × Unit))), k ≤ 1000000 → l1Read.B (m + 2) slf (Lib.decDigits k) = some ((k : Int), (true, ())) := fun k slf hk => by
    have hp : k < 10 ^ (6 + 1) := by omega
    have := dd_len 6 k hp
    rw [read_digits (dd_ne k) (dd_digit 6 k hp) (by omega) (dd_head 6 k hp) hn, dval_dd 6 k hp]
  show l1Read.B (m + 2) (l1Read.F (m + 2) (m + 1)) (Lib.itoa x) = _
  unfold Lib.itoa
  by_cases hx : x < 0
  · rw [if_pos hx]
    have hk := dig x.natAbs (l1Read.F (m + 2) m) (by omega)
    have hne := List.length_pos_iff.2 (dd_ne x.natAbs)
    have hp : x.natAbs < 10 ^ (6 + 1) := by omega
    have hd := dd_digit 6 x.natAbs hp ((Lib.decDigits x.natAbs).getD 0 0) (by rw [getD_lt hne]; exact List.getElem_mem _)
    generalize hD : Lib.decDigits x.natAbs = D at hk hne hd
    unfold l1Read.B
    have e0 : (45 :: D).getD 0 0 = 45 := rfl
    have e1 : (45 :: D).getD 1 0 = D.getD 0 0 := rfl
    have e2 : ((45 :: D).take ((45 :: D).length : Int).toNat).drop 1 = D := by rw [Int.toNat_natCast, List.take_length]; rfl
    have hl : ((45 :: D).length : Int) = (D.length : Int) + 1 := by simp
    rw [e0, e1, e2, hl, br_yes (by omega), chk_true (by omega), br_yes (by decide), chk_true (by omega), decide_eq_false (by omega)]
    simp only [Bool.not_false, cut_inr, br_true]
    rw [chk_true (by omega)]
    show (l1Read.B (m + 2) (l1Read.F (m + 2) m) D).bind _ = _
    rw [hk, bind_unit]
    simp only [br_true]
    rw [decide_eq_false (show ¬ (x.natAbs : Int) = 0 by omega), w64_id (n := 0 - (x.natAbs : Int)) (by omega) (by omega)]
    simp only [cut_inr, Bool.not_false]
    rw [show (0 : Int) - (x.natAbs : Int) = x by omega]
  · rw [if_neg hx, dig x.toNat _ (by omega), show ((x.toNat : Nat) : Int) = x by omega]

theorem read_any {n : Nat} {s : List UInt8} (hs : s.length ≤ 1048576) (hn : 1048576 < n) : W (l1Read.f n s) (fun _ => True) := by
  have flag : ∀ t : List UInt8, (br (decide (1 < (t.length : Int))) (chk ((0 : Int) ≤ 0 ∧ (0 : Int) < (t.length : Int)) (br (decide (((t.getD 0 0).toNat : Int) = 45)) (chk ((0 : Int) ≤ 1 ∧ (1 : Int) < (t.length : Int)) (some (Sum.inr (α := Int × (Bool × Unit)) ((!decide (((t.getD 1 0).toNat : Int) = 45)), ())))) (some (.inr (false, ()))))) (some (.inr (false, ())))) = some (.inr ((decide (1 < (t.length : Int)) && (decide (((t.getD 0 0).toNat : Int) = 45) && !decide (((t.getD 1 0).toNat : Int) = 45))), ())) := fun t => by
    by_cases h1 : 1 < (t.length : Int)
    · rw [br_yes h1, chk_true (by omega), decide_eq_true h1, Bool.true_and]
      by_cases h2 : ((t.getD 0 0).toNat : Int) = 45
      · rw [br_yes h2, chk_true (by omega), decide_eq_true h2, Bool.true_and]
      · rw [br_no h2, decide_eq_false h2, Bool.false_and]
    · rw [br_no h1, decide_eq_false h1, Bool.false_and]
  have plain : ∀ (t : List UInt8) (slf : List UInt8 → Option (Int × (Bool × Unit))), t.length ≤ 1048576 → (decide (1 < (t.length : Int)) && (decide (((t.getD 0 0).toNat : Int) = 45) && !decide (((t.getD 1 0).toNat : Int) = 45))) = false → W (l1Read.B n slf t) (fun _ => True) := fun t slf ht hf => by
    unfold l1Read.B
    rw [flag, hf]
    simp only [cut_inr, br_false]
    refine W_cut.2 (W_and (P := fun z => ∃ y : Bool × Unit, z = .inr y ∧ (y.1 = false → t.length ≤ 9)) ?_ (fun z hz => ?_))
    · rw [W_brd]
      refine ⟨fun _ => W_some.2 ⟨_, rfl, fun h => by cases h⟩, fun h1 => ?_⟩
      rw [W_brd]
      refine ⟨fun _ => W_some.2 ⟨_, rfl, fun h => by cases h⟩, fun h2 => ?_⟩
      rw [chk_true (by omega), W_brd]
      exact ⟨fun _ => W_some.2 ⟨_, rfl, fun _ => by omega⟩, fun _ => W_some.2 ⟨_, rfl, fun _ => by omega⟩⟩
    · obtain ⟨y, rfl, hy⟩ := hz
      simp only
      rw [W_br]
      refine ⟨fun _ => W_some.2 trivial, fun h => ?_⟩
      have hl := hy h
      refine W_up (fun (i : Nat) (v : Int) => (v, ((i : Int), ()))) t.length (fun i v => True) (s0 := 0) rfl trivial (by omega) (fun ih v _ => ?_) (fun ih i v hi _ hS => ?_)
      · simp only [br_no (Int.lt_irrefl _)]
        exact W_some.2 trivial
      · simp only [br_yes (show (i : Int) < (t.length : Int) by omega), Int.toNat_natCast]
        refine W_cut.2 (W_and (P := fun z => ∃ y : Bool × Unit, z = .inr y) ?_ (fun z hz => ?_))
        · rw [chk_true (by omega), W_brd]
          refine ⟨fun _ => W_some.2 ⟨_, rfl⟩, fun _ => ?_⟩
          rw [chk_true (by omega)]
          exact W_some.2 ⟨_, rfl⟩
        · obtain ⟨y, rfl⟩ := hz
          simp only
          rw [W_br]
          refine ⟨fun _ => W_some.2 trivial, fun _ => ?_⟩
          rw [chk_true (by omega), w64_succ (by omega)]
          exact hS _ trivial
  obtain ⟨m, rfl⟩ : ∃ m, n = m + 2 := ⟨n - 2, by omega⟩
  show W (l1Read.B (m + 2) (l1Read.F (m + 2) (m + 1)) s) _
  cases hf : (decide (1 < (s.length : Int)) && (decide (((s.getD 0 0).toNat : Int) = 45) && !decide (((s.getD 1 0).toNat : Int) = 45))) with
  | false => exact plain s _ hs hf
  | true =>
    have hf2 := hf
    simp only [Bool.and_eq_true, decide_eq_true_eq, Bool.not_eq_true', decide_eq_false_iff_not] at hf2
    obtain ⟨f1, f2, f3⟩ := hf2
    have e2 : (s.take (s.length : Int).toNat).drop 1 = s.drop 1 := by rw [Int.toNat_natCast, List.take_length]
    unfold l1Read.B
    rw [flag, hf]
    simp only [cut_inr, br_true]
    rw [chk_true (by omega), e2, W_bind]
    refine W_and (show W (l1Read.B (m + 2) (l1Read.F (m + 2) m) (s.drop 1)) (fun _ => True) from plain _ _ (by rw [List.length_drop]; omega) ?_) (fun r _ => ?_)
    · have : (s.drop 1).getD 0 0 = s.getD 1 0 := by simp [List.getD_eq_getElem?_getD]
      rw [this, decide_eq_false f3]
      simp
    · refine W_cut.2 (W_and (P := fun z => ∃ y : Int × (Bool × Unit), z = .inr y) ?_ (fun z hz => ?_))
      · rw [W_br]
        exact ⟨fun _ => W_some.2 ⟨_, rfl⟩, fun _ => W_some.2 ⟨_, rfl⟩⟩
      · obtain ⟨y, rfl⟩ := hz
        exact W_some.2 trivial

/-! ### numbers of the program -/
theorem decFrom_dd : ∀ (l : List UInt8) (a : Nat), (∀ c ∈ l, 48 ≤ c.toNat ∧ c.toNat ≤ 57) → Lib.decFrom a l = some (l.foldl (fun a c => 10 * a + (c.toNat - 48)) a)
  | [], a, _ => rfl
  | c :: l, a, h => by
    have h2 := h c (by simp)
    rw [Lib.decFrom, Lib.digitVal, if_pos h2]
    show Lib.decFrom (a * 10 + (c.toNat - 48)) l = _
    rw [decFrom_dd l _ (fun d hd => h d (by simp [hd])), Nat.mul_comm]
    rfl
theorem atoi_itoa {x : Int} (h0 : -1000000 ≤ x) (h1 : x ≤ 1000000) : Lib.atoiAll (Lib.itoa x) = .ok x := by
  have hl := itoa_len h0 h1
  have dig : ∀ k : Nat, k ≤ 1000000 → Lib.decNat (Lib.decDigits k) = some k := fun k hk => by
    have hp : k < 10 ^ (6 + 1) := by omega
    have hne := dd_ne k
    unfold Lib.decNat
    rw [if_neg (by simpa using hne), decFrom_dd _ 0 (dd_digit 6 k hp)]
    exact congrArg some (dval_dd 6 k hp)
  rw [Lib.atoiAll_short _ (by omega)]
  unfold Lib.itoa
  by_cases hx : x < 0
  · rw [if_pos hx]
    show Lib.NumEnd.ofOption ((Lib.decNat (Lib.decDigits x.natAbs)).map fun (m : Nat) => -(m : Int)) = _
    rw [dig _ (by omega)]
    show Lib.NumEnd.ok (-(x.natAbs : Int)) = _
    rw [show -(x.natAbs : Int) = x by omega]
  · rw [if_neg hx]
    have hp : x.toNat < 10 ^ (6 + 1) := by omega
    have hd := dig x.toNat (by omega)
    have hdg := dd_digit 6 x.toNat hp
    cases hD : Lib.decDigits x.toNat with
    | nil => exact absurd hD (dd_ne _)
    | cons b r =>
      rw [hD] at hd hdg
      have hb := hdg b (by simp)
      have n45 : (b == 45) = false := beq_eq_false_iff_ne.2 (fun e => by rw [e] at hb; exact absurd hb.1 (by decide))
      have n43 : (b == 43) = false := beq_eq_false_iff_ne.2 (fun e => by rw [e] at hb; exact absurd hb.1 (by decide))
      unfold Lib.atoi
      simp only [n45, n43, Bool.false_eq_true, if_false]
      rw [hd]
      show Lib.NumEnd.ok ((x.toNat : Nat) : Int) = _
      rw [show ((x.toNat : Nat) : Int) = x by omega]
theorem iNumber_spec {n : Nat} {x : Int} (h0 : -1000000 ≤ x) (h1 : x ≤ 1000000) : iNumber.f n (Lib.itoa x) = some (x, (true, ())) := by
  have hl := itoa_len h0 h1
  have ha : atoiC.f n (Lib.itoa x) = some (x, (true, ())) := by
    unfold atoiC.f atoiF
    rw [if_pos (by omega), atoi_itoa h0 h1]
    rfl
  unfold iNumber.f
  rw [ha, bind_unit]
  simp only [br_true]
  rw [itoaC_spec h0 h1, bind_unit, decide_eq_true rfl]
theorem iNumber_any {n : Nat} {s : List UInt8} (hs : s.length ≤ 1048576) : W (iNumber.f n s) (fun _ => True) := by
  have ha : W (atoiC.f n s) (fun r => r.2.1 = true → -9223372036854775808 ≤ r.1 ∧ r.1 ≤ 9223372036854775807) := by
    unfold atoiC.f atoiF
    rw [if_pos (by omega)]
    cases h : Lib.atoiAll s with
    | ok v => exact W_some.2 (fun _ => Lib.atoiAll_bounds h)
    | «syntax» => exact W_some.2 (fun h => by cases h)
    | range => exact W_some.2 (fun h => by cases h)
  unfold iNumber.f
  rw [W_bind]
  refine W_and ha (fun r hr => ?_)
  rw [W_br]
  refine ⟨fun h => ?_, fun _ => W_some.2 trivial⟩
  unfold itoaC.f itoaR
  rw [if_pos (hr h)]
  exact W_some.2 trivial

/-! ### streams -/
theorem itoa_mem {x : Int} (h0 : -1000000 ≤ x) (h1 : x ≤ 1000000) : ∀ c ∈ Lib.itoa x, c = 45 ∨ (48 ≤ c.toNat ∧ c.toNat ≤ 57) := by
  intro c hc
  unfold Lib.itoa at hc
  split at hc
  · rcases List.mem_cons.1 hc with rfl | hc
    · exact .inl rfl
    · exact .inr (dd_digit 6 x.natAbs (by omega) c hc)
  · exact .inr (dd_digit 6 x.toNat (by omega) c hc)
theorem notin_itoa {x : Int} (h : -1000000 ≤ x ∧ x ≤ 1000000) {c : UInt8} (h45 : c ≠ 45) (hd : ¬ (48 ≤ c.toNat ∧ c.toNat ≤ 57)) : c ∉ Lib.itoa x := fun hc => by
  rcases itoa_mem h.1 h.2 c hc with e | e
  · exact h45 e
  · exact hd e
theorem itoa_ne (x : Int) : Lib.itoa x ≠ [] := by
  unfold Lib.itoa
  split
  · simp
  · exact dd_ne _
theorem txtS_cons (x y : Int) (r : List Int) : txtS (x :: y :: r) = Lib.itoa x ++ 44 :: txtS (y :: r) := by simp [txtS, commaD]
theorem split_txt : ∀ (r : List Int) (x : Int), (∀ y ∈ x :: r, tok y = true) → splitR 44 (txtS (x :: r)) = (x :: r).map Lib.itoa
  | [], x, h => by
    have : txtS [x] = Lib.itoa x := by simp [txtS]
    rw [this, splitR_no (notin_itoa (tok_sm (h x (by simp))) (by decide) (by decide))]
    rfl
  | y :: r, x, h => by
    rw [txtS_cons, splitR_app _ (notin_itoa (tok_sm (h x (by simp))) (by decide) (by decide)), split_txt r y (fun z hz => h z (List.mem_cons_of_mem _ hz))]
    rfl
theorem txtS_mem {s : List Int} (h : ∀ y ∈ s, tok y = true) {c : UInt8} (h45 : c ≠ 45) (h44 : c ≠ 44) (h46 : c ≠ 46) (hd : ¬ (48 ≤ c.toNat ∧ c.toNat ≤ 57)) : c ∉ txtS s := by
  cases s with
  | nil => simpa [txtS] using h46
  | cons x r =>
    intro hc
    simp only [txtS, List.mem_append, List.mem_flatten, List.mem_map] at hc
    rcases hc with hc | ⟨l, ⟨y, hy, rfl⟩, hc⟩
    · exact notin_itoa (tok_sm (h x (by simp))) h45 hd hc
    · simp only [commaD, List.mem_append, List.mem_singleton] at hc
      rcases hc with hc | hc
      · exact h44 hc
      · exact notin_itoa (tok_sm (h y (by simp [hy]))) h45 hd hc
theorem txtS_dot {x : Int} {r : List Int} (h : tok x = true) : txtS (x :: r) ≠ [46] := by
  intro e
  have hi := notin_itoa (tok_sm h) (c := 46) (by decide) (by decide)
  simp only [txtS] at e
  cases hx : Lib.itoa x with
  | nil => exact itoa_ne x hx
  | cons a b =>
    rw [hx] at e hi
    simp only [List.cons_append, List.cons.injEq] at e
    exact hi (by simp [e.1])
theorem txtS_len {s : List Int} (h : okS s = true) : (txtS s).length ≤ 4000 := by
  have := fmtS_len s
  rwa [fmtS, if_pos h] at this
theorem sParseStream_txt {n : Nat} {s : List Int} (h : okS s = true) (hn : 1048577 < n) : sParseStream.f n (txtS s) = some (s, (true, ())) := by
  have hB := maxB_eq
  have hL := txtS_len h
  obtain ⟨hl, ht⟩ := okS_bd h
  unfold sParseStream.f
  cases s with
  | nil => rw [br_yes (by rfl)]
  | cons x r =>
    rw [br_no (txtS_dot (ht x (by simp))), l1Split_spec (by omega) (by omega) (by omega) hn, bind_unit]
    have e44 : UInt8.ofNat (44 : Int).toNat = 44 := rfl
    rw [e44, split_txt r x ht]
    refine push_loopE (x :: r) (fun y => y) (fun i l => (i, (l, ()))) (fun ih i hi l hli => ?_) (fun ih => ?_) (by omega)
    · have hi' : (i : Int) < (((x :: r).map Lib.itoa).length : Int) := by rw [List.length_map]; omega
      have hx := tok_sm (ht (x :: r)[i] (List.getElem_mem _))
      have hg : ((x :: r).map Lib.itoa).getD i [] = Lib.itoa (x :: r)[i] := by rw [getD_lt (by rw [List.length_map]; exact hi), List.getElem_map]
      simp only [br_yes hi', Int.toNat_natCast]
      rw [chk_true (by omega), hg, read_spec (by omega) hx.1 hx.2, bind_unit]
      simp only [Bool.not_true, br_false]
      rw [chk_true (by simp only [List.length_cons, List.length_nil] at hl hi hli ⊢; omega), w64_succ (by omega)]
    · have hi' : ¬ (((x :: r).length : Int) < (((x :: r).map Lib.itoa).length : Int)) := by rw [List.length_map]; omega
      simp only [br_no hi']
      rw [List.map_id'' (fun _ => rfl), sIsStream_spec (by omega) (by omega), h, bind_unit]
      rfl
theorem iParseStream_txt {n : Nat} {s : List Int} (h : okS s = true) (hn : 1048577 < n) : iParseStream.f n (txtS s) = some (s, (true, ())) := by
  have hB := maxB_eq
  have hL := txtS_len h
  obtain ⟨hl, ht⟩ := okS_bd h
  unfold iParseStream.f
  cases s with
  | nil => rw [br_yes (by rfl)]
  | cons x r =>
    rw [br_no (txtS_dot (ht x (by simp))), splitC_spec (by omega), bind_unit, split_txt r x ht]
    refine push_loopE (x :: r) (fun y => y) (fun i l => (i, (l, ()))) (fun ih i hi l hli => ?_) (fun ih => ?_) (by omega)
    · have hi' : (i : Int) < (((x :: r).map Lib.itoa).length : Int) := by rw [List.length_map]; omega
      have hx := tok_sm (ht (x :: r)[i] (List.getElem_mem _))
      have hg : ((x :: r).map Lib.itoa).getD i [] = Lib.itoa (x :: r)[i] := by rw [getD_lt (by rw [List.length_map]; exact hi), List.getElem_map]
      simp only [br_yes hi', Int.toNat_natCast]
      rw [chk_true (by omega), hg, iNumber_spec hx.1 hx.2, bind_unit]
      simp only [Bool.not_true, br_false]
      rw [chk_true (by simp only [List.length_cons, List.length_nil] at hl hi hli ⊢; omega), w64_succ (by omega)]
    · have hi' : ¬ (((x :: r).length : Int) < (((x :: r).map Lib.itoa).length : Int)) := by rw [List.length_map]; omega
      simp only [br_no hi']
      rw [List.map_id'' (fun _ => rfl), iIsStream_spec (by omega) (by omega), h, bind_unit]
      rfl
theorem sParseStream_any {n : Nat} {s : List UInt8} (hs : s.length ≤ 1048575) (hn : 1048577 < n) : W (sParseStream.f n s) (fun r => okS r.1 = true) := by
  have hB := maxB_eq
  unfold sParseStream.f
  rw [W_brd]
  refine ⟨fun _ => W_some.2 rfl, fun _ => ?_⟩
  rw [l1Split_spec (by omega) (by omega) (by omega) hn, bind_unit]
  have hl := splitR_len (UInt8.ofNat (44 : Int).toNat) s
  have hp := splitR_sum (UInt8.ofNat (44 : Int).toNat) s
  generalize splitR (UInt8.ofNat (44 : Int).toNat) s = L at hl hp
  refine W_up (fun (i : Nat) (o : List Int) => ((i : Int), (o, ()))) L.length (fun i o => o.length ≤ i) (s0 := []) rfl (by simp) (by omega) (fun ih o hI => ?_) (fun ih i o hi hI hS => ?_)
  · have hI : o.length ≤ L.length := hI
    simp only [br_no (Int.lt_irrefl _)]
    rw [sIsStream_spec (by omega) (by omega), bind_unit]
    cases ho : okS o
    · exact W_some.2 rfl
    · exact W_some.2 ho
  · have hI : o.length ≤ i := hI
    simp only [br_yes (show (i : Int) < (L.length : Int) by omega), Int.toNat_natCast]
    have hq := hp (L.getD i []) (by rw [getD_lt hi]; exact List.getElem_mem _)
    rw [chk_true (by omega), W_bind]
    refine W_and (read_any (by omega) (by omega)) (fun r _ => ?_)
    rw [W_br]
    refine ⟨fun _ => W_some.2 rfl, fun _ => ?_⟩
    rw [chk_true (by simp only [List.length_cons, List.length_nil]; omega), w64_succ (by omega)]
    exact hS _ (by show (o ++ [r.1]).length ≤ i + 1; simp; omega)
theorem iParseStream_any {n : Nat} {s : List UInt8} (hs : s.length ≤ 1048575) (hn : 1048577 < n) : W (iParseStream.f n s) (fun r => okS r.1 = true) := by
  have hB := maxB_eq
  unfold iParseStream.f
  rw [W_brd]
  refine ⟨fun _ => W_some.2 rfl, fun _ => ?_⟩
  rw [splitC_spec (by omega), bind_unit]
  have hl := splitR_len 44 s
  have hp := splitR_sum 44 s
  generalize splitR 44 s = L at hl hp
  refine W_up (fun (i : Nat) (o : List Int) => ((i : Int), (o, ()))) L.length (fun i o => o.length ≤ i) (s0 := []) rfl (by simp) (by omega) (fun ih o hI => ?_) (fun ih i o hi hI hS => ?_)
  · have hI : o.length ≤ L.length := hI
    simp only [br_no (Int.lt_irrefl _)]
    rw [iIsStream_spec (by omega) (by omega), bind_unit]
    cases ho : okS o
    · exact W_some.2 rfl
    · exact W_some.2 ho
  · have hI : o.length ≤ i := hI
    simp only [br_yes (show (i : Int) < (L.length : Int) by omega), Int.toNat_natCast]
    have hq := hp (L.getD i []) (by rw [getD_lt hi]; exact List.getElem_mem _)
    rw [chk_true (by omega), W_bind]
    refine W_and (iNumber_any (by omega)) (fun r _ => ?_)
    rw [W_br]
    refine ⟨fun _ => W_some.2 rfl, fun _ => ?_⟩
    rw [chk_true (by simp only [List.length_cons, List.length_nil]; omega), w64_succ (by omega)]
    exact hS _ (by show (o ++ [r.1]).length ≤ i + 1; simp; omega)
end Go.AmT
