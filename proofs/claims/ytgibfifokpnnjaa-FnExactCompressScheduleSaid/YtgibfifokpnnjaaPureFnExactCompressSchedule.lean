/- The law FnExactCompressSchedule answers true: the program's CompressSchedule returns what the reference's returns, for every list of numbers (longer ones than 2^20 are let by), and what it returns shares no memory. -/
import Derived.Test.YtgibfifokpnnjaaPFnExactCompressSchedulex3
namespace Go.Proofs.Ytgibfifokpnnjaa.Pure
open Go.RowKit Go.Proofs.Ytgibfifokpnnjaa.PFnExactCompressSchedule Go.Proofs.YtgibfifokpnnjaaW.PrintWords Go.Proofs.YtgibfifokpnnjaaW.PrintLast

theorem w64 {n : Int} (h : -9223372036854775808 ≤ n ∧ n ≤ 9223372036854775807) : wrap64 n = n := by unfold wrap64; omega

theorem rd_at (xs : List Int) (i : Nat) (h : i < xs.length) : rd xs (i : Int) = xs[i] := by
  unfold rd; simp [List.getD_eq_getElem?_getD, List.getElem?_eq_getElem h]

theorem rdT_at (xs : List S53) (i : Nat) (h : i < xs.length) : rd_T53 xs (i : Int) = xs[i] := by
  unfold rd_T53; simp [List.getD_eq_getElem?_getD, List.getElem?_eq_getElem h]

/-- toIntS's loop: from place i on it copies. -/
theorem toIntS_l (l : List Int) (hl : l.length ≤ 1048576) (d : Nat) : ∀ (k i : Nat) (x : List Int), i + d = l.length → d < k → x.length = l.length → x.take i = l.take i →
    laws_toIntS.l0 k l x (i : Int) = some l := by
  induction d with
  | zero =>
    intro k i x hi hk hx ht
    obtain ⟨k, rfl⟩ : ∃ m, k = m + 1 := ⟨k - 1, by omega⟩
    simp only [laws_toIntS.l0]
    rw [if_neg (by omega)]
    have : i = l.length := by omega
    subst this
    rw [List.take_length] at ht
    rw [← ht, List.take_of_length_le (by omega)]
  | succ d ih =>
    intro k i x hi hk hx ht
    obtain ⟨k, rfl⟩ : ∃ m, k = m + 1 := ⟨k - 1, by omega⟩
    simp only [laws_toIntS.l0]
    rw [if_pos (by omega), if_pos (by omega), if_pos (by omega), w64 (by omega)]
    rw [rd_at l i (by omega)]
    have e : ((i : Int) + 1) = ((i + 1 : Nat) : Int) := by omega
    rw [e]
    refine ih k (i + 1) _ (by omega) (by omega) (by simpa using hx) ?_
    simp only [Int.toNat_natCast]
    rw [List.take_succ_eq_append_getElem (by simpa using (by omega : i < x.length)), List.take_succ_eq_append_getElem (by omega : i < l.length)]
    rw [List.take_set_of_le (Nat.le_refl _), ht]
    simp

theorem toIntS_f (l : List Int) (hl : l.length ≤ 1048576) (k : Nat) (hk : l.length < k) : laws_toIntS.f k l = some l := by
  unfold laws_toIntS.f
  rw [if_pos (by omega), if_pos (by omega)]
  exact toIntS_l l hl l.length k 0 _ (by omega) hk (by simp) rfl

theorem eqIntS_l (l : List Int) (hl : l.length ≤ 1048576) (d : Nat) : ∀ (k i : Nat), i + d = l.length → d < k → laws_eqIntS.l0 k l l (i : Int) = some true := by
  induction d with
  | zero =>
    intro k i hi hk
    obtain ⟨k, rfl⟩ : ∃ m, k = m + 1 := ⟨k - 1, by omega⟩
    simp only [laws_eqIntS.l0]; rw [if_neg (by omega)]
  | succ d ih =>
    intro k i hi hk
    obtain ⟨k, rfl⟩ : ∃ m, k = m + 1 := ⟨k - 1, by omega⟩
    simp only [laws_eqIntS.l0]
    rw [if_pos (by omega), if_pos (by omega), if_pos (by omega), if_pos trivial, w64 (by omega)]
    exact ih k (i + 1) (by omega) (by omega)

theorem eqIntS_f (l : List Int) (hl : l.length ≤ 1048576) (k : Nat) (hk : l.length < k) : laws_eqIntS.f k l l = some true := by
  unfold laws_eqIntS.f
  rw [if_pos rfl]
  exact eqIntS_l l hl l.length k 0 (by omega) hk

theorem eqLoop_f (x : S53) : laws_eqLoop.f x.f0 x.f1 x.f0 x.f1 = some true := by simp [laws_eqLoop.f]

theorem eqLoopS_l (l : List S53) (hl : l.length ≤ 1048576) (d : Nat) : ∀ (k i : Nat), i + d = l.length → d < k → laws_eqLoopS.l0 k l l (i : Int) = some true := by
  induction d with
  | zero =>
    intro k i hi hk
    obtain ⟨k, rfl⟩ : ∃ m, k = m + 1 := ⟨k - 1, by omega⟩
    simp only [laws_eqLoopS.l0]; rw [if_neg (by omega)]
  | succ d ih =>
    intro k i hi hk
    obtain ⟨k, rfl⟩ : ∃ m, k = m + 1 := ⟨k - 1, by omega⟩
    simp only [laws_eqLoopS.l0]
    rw [if_pos (by omega), if_pos (by omega), if_pos (by omega), eqLoop_f]
    simp only [Option.bind_some, if_true]
    rw [w64 (by omega)]
    exact ih k (i + 1) (by omega) (by omega)

theorem eqLoopS_f (l : List S53) (hl : l.length ≤ 1048576) (k : Nat) (hk : l.length < k) : laws_eqLoopS.f k l l = some true := by
  unfold laws_eqLoopS.f
  rw [if_pos rfl]
  exact eqLoopS_l l hl l.length k 0 (by omega) hk

theorem markIntS_l (n : Nat) (hn : n ≤ 1048576) (d : Nat) : ∀ (k i : Nat) (x : List Int) (a : Int), x.length = n → i + d = n → d < k → 0 ≤ a → a ≤ 1 + i →
    ∃ r y, laws_markIntS.l0 k x a (i : Int) = some (r, y) ∧ 0 ≤ r := by
  induction d with
  | zero =>
    intro k i x a hx hi hk h0 h1
    obtain ⟨k, rfl⟩ : ∃ m, k = m + 1 := ⟨k - 1, by omega⟩
    simp only [laws_markIntS.l0]; rw [if_neg (by omega)]
    exact ⟨_, _, rfl, h0⟩
  | succ d ih =>
    intro k i x a hx hi hk h0 h1
    obtain ⟨k, rfl⟩ : ∃ m, k = m + 1 := ⟨k - 1, by omega⟩
    simp only [laws_markIntS.l0]
    rw [if_pos (by omega), if_pos (by omega), w64 (by omega : _ ≤ a + 1 ∧ _), w64 (by omega)]
    exact ih k (i + 1) _ _ (by simpa using hx) (by omega) (by omega) (by omega) (by omega)

/-- what markLoopS has written before place i -/
def Marked (y : List S53) (i : Nat) : Prop := ∀ j (h : j < y.length), j < i → y[j] = ⟨1 + 2 * (j : Int), 2 + 2 * (j : Int)⟩

theorem markLoopS_l (n : Nat) (hn : n ≤ 1048576) (d : Nat) : ∀ (k i : Nat) (x : List S53), x.length = n → i + d = n → d < k → Marked x i →
    ∃ y, laws_markLoopS.l0 k x (1 + 2 * (i : Int)) (i : Int) = some (1 + 2 * (n : Int), y) ∧ y.length = n ∧ Marked y n := by
  induction d with
  | zero =>
    intro k i x hx hi hk hm
    obtain ⟨k, rfl⟩ : ∃ m, k = m + 1 := ⟨k - 1, by omega⟩
    obtain rfl : i = n := by omega
    simp only [laws_markLoopS.l0]; rw [if_neg (by omega)]
    exact ⟨x, rfl, hx, hm⟩
  | succ d ih =>
    intro k i x hx hi hk hm
    obtain ⟨k, rfl⟩ : ∃ m, k = m + 1 := ⟨k - 1, by omega⟩
    simp only [laws_markLoopS.l0]
    rw [if_pos (by omega), if_pos (by omega)]
    simp only [Option.bind_some]
    rw [w64 (by omega : _ ≤ (1 + 2 * (i : Int)) + 1 ∧ _), w64 (by omega : _ ≤ (1 + 2 * (i : Int) + 1) + 1 ∧ _), w64 (by omega : _ ≤ (i : Int) + 1 ∧ _)]
    have e : (1 + 2 * (i : Int) + 1 + 1) = 1 + 2 * ((i + 1 : Nat) : Int) := by omega
    have e' : ((i : Int) + 1) = ((i + 1 : Nat) : Int) := by omega
    rw [e, e']
    refine ih k (i + 1) _ (by simpa using hx) (by omega) (by omega) ?_
    intro j hj hji
    simp only [Int.toNat_natCast] at hj ⊢
    rw [List.getElem_set]
    by_cases hij : i = j
    · subst hij
      rw [if_pos rfl]
      rw [rdT_at _ i (by simp; omega)]
      simp; omega
    · rw [if_neg hij, List.getElem_set, if_neg hij]
      exact hm j (by simpa using hj) (by omega)

theorem heldLoopS_l (n : Nat) (hn : n ≤ 1048576) (y : List S53) (hy : y.length = n) (hm : Marked y n) (d : Nat) : ∀ (k i : Nat), i + d = n → d < k →
    laws_heldLoopS.l0 k y (1 + 2 * (i : Int)) (i : Int) = some (1 + 2 * (n : Int)) := by
  induction d with
  | zero =>
    intro k i hi hk
    obtain ⟨k, rfl⟩ : ∃ m, k = m + 1 := ⟨k - 1, by omega⟩
    obtain rfl : i = n := by omega
    simp only [laws_heldLoopS.l0]; rw [if_neg (by omega)]
  | succ d ih =>
    intro k i hi hk
    obtain ⟨k, rfl⟩ : ∃ m, k = m + 1 := ⟨k - 1, by omega⟩
    simp only [laws_heldLoopS.l0]
    have hr := rdT_at y i (by omega)
    rw [hm i (by omega) (by omega)] at hr
    rw [if_pos (by omega), if_pos (by omega), hr]
    rw [w64 (by omega : _ ≤ (1 + 2 * (i : Int)) + 1 ∧ _), w64 (by omega : _ ≤ (1 + 2 * (i : Int) + 1) + 1 ∧ _), w64 (by omega : _ ≤ (i : Int) + 1 ∧ _)]
    rw [if_pos rfl, if_pos (by show (2 + 2 * (i : Int)) = _; omega)]
    have e : (1 + 2 * (i : Int) + 1 + 1) = 1 + 2 * ((i + 1 : Nat) : Int) := by omega
    have e' : ((i : Int) + 1) = ((i + 1 : Nat) : Int) := by omega
    rw [e, e']
    exact ih k (i + 1) (by omega) (by omega)

theorem same_l (k : Nat) : ∀ a b c d e, impl_CompressSchedule.l0 k a b c d e = spec_CompressSchedule.l0 k a b c d e := by
  induction k with
  | zero => intros; rfl
  | succ k ih => intro a b c d e; simp only [impl_CompressSchedule.l0, spec_CompressSchedule.l0, ih]

theorem compress_l (l : List Int) (hl : l.length ≤ 1048576) (d : Nat) : ∀ (k i : Nat) (x : List S53), i + d = l.length → d < k → x.length ≤ i → (0 < i → 0 < x.length) →
    ∃ r, spec_CompressSchedule.l0 k l x l (l.length : Int) (i : Int) = some r ∧ r.length ≤ l.length := by
  induction d with
  | zero =>
    intro k i x hi hk hx h0
    obtain ⟨k, rfl⟩ : ∃ m, k = m + 1 := ⟨k - 1, by omega⟩
    simp only [spec_CompressSchedule.l0]; rw [if_neg (by omega)]
    exact ⟨_, rfl, by omega⟩
  | succ d ih =>
    intro k i x hi hk hx h0
    obtain ⟨k, rfl⟩ : ∃ m, k = m + 1 := ⟨k - 1, by omega⟩
    simp only [spec_CompressSchedule.l0]
    have e' : ((i : Int) + 1) = ((i + 1 : Nat) : Int) := by omega
    rw [w64 (by omega : _ ≤ (i : Int) + 1 ∧ _), w64 (by omega : _ ≤ (i : Int) - 1 ∧ _), w64 (by omega : _ ≤ (x.length : Int) - 1 ∧ _), e']
    rw [if_pos (by omega), if_pos (by omega), if_pos (by omega)]
    have hpush : ∃ r, (if x.length < 8796093022208 then (spec_CompressSchedule.l0 k l (x ++ [(⟨rd l (i : Int), 1⟩ : S53)]) l (l.length : Int) ((i + 1 : Nat) : Int)) else none) = some r ∧ r.length ≤ l.length := by
      rw [if_pos (by omega)]
      exact ih k (i + 1) _ (by omega) (by omega) (by simp; omega) (by simp)
    by_cases hi0 : (i : Int) > 0
    · have := h0 (by omega)
      rw [if_pos hi0, if_pos (by omega), if_pos (by omega)]
      by_cases hc : rd l ((i : Int) - 1) = rd l (i : Int)
      · rw [if_pos hc, if_pos (by omega), if_pos (by omega)]
        exact ih k (i + 1) _ (by omega) (by omega) (by simp; omega) (by simp; omega)
      · rw [if_neg hc]; exact hpush
    · rw [if_neg hi0]; exact hpush

/-- YOURS: ∀ (l0 : List Int), l0.length ≤ maxLen → l0.length * 8 ≤ 140737488351232 → (∀ x ∈ l0, (Lit.int .i64 x).wf = true) → ∃ k, laws_FnExactCompressSchedule.f k l0 = some true -/
theorem FnExactCompressSchedule : laws_FnExactCompressSchedule.Pure := by
  intro l _ _ _
  unfold laws_FnExactCompressSchedule.f
  by_cases hl : (l.length : Int) > 1048576
  · exact ⟨0, by rw [if_pos hl]⟩
  · have hl' : l.length ≤ 1048576 := by omega
    refine ⟨l.length + 2, ?_⟩
    rw [if_neg hl]
    obtain ⟨r, hr, hrl⟩ := compress_l l hl' l.length (l.length + 2) 0 [] (by omega) (by omega) (by simp) (by simp)
    obtain ⟨r', hr', hrl'⟩ := compress_l l hl' l.length (l.length + 1) 0 [] (by omega) (by omega) (by simp) (by simp)
    have hs : spec_CompressSchedule.f (l.length + 2) l = some r := hr
    have hi : impl_CompressSchedule.f (l.length + 2) l = some r := by
      unfold impl_CompressSchedule.f; rw [same_l]; exact hr
    have hrr : r = r' := by
      have h1 : spec_CompressSchedule.f (l.length + 1) l = some r' := hr'
      have := spec_CompressSchedule.mono l (l.length + 1) _ h1
      rw [hs] at this
      exact Option.some.inj this
    have hi' : impl_CompressSchedule.f (l.length + 1) l = some r := by
      unfold impl_CompressSchedule.f; rw [same_l, hrr]; exact hr'
    obtain ⟨m, q, hm, hm0⟩ := markIntS_l l.length hl' l.length (l.length + 2) 0 l 1 rfl (by omega) (by omega) (by omega) (by omega)
    have hm' : laws_markIntS.f (l.length + 2) l 1 = some (m, q) := hm
    obtain ⟨y, hy, hyl, hyM⟩ := markLoopS_l r.length (by omega) r.length (l.length + 1) 0 r rfl (by omega) (by omega) (fun j _ h => by omega)
    have hy' : laws_markLoopS.f (l.length + 1) r 1 = some (1 + 2 * (r.length : Int), y) := hy
    have hh : laws_heldLoopS.f (l.length + 1) y 1 = some (1 + 2 * (r.length : Int)) := heldLoopS_l r.length (by omega) y hyl hyM r.length (l.length + 1) 0 (by omega) (by omega)
    rw [toIntS_f l hl' _ (by omega)]; simp only [Option.bind_some]
    rw [hs]; simp only [Option.bind_some]
    rw [hi]; simp only [Option.bind_some]
    rw [eqLoopS_f r (by omega) _ (by omega)]; simp only [Option.bind_some, if_true]
    rw [eqIntS_f l hl' _ (by omega)]; simp only [Option.bind_some, if_true]
    rw [hm']; simp only [Option.bind_some]
    rw [if_neg (by omega)]
    rw [Bool.not_true]
    simp only [laws_FnExactCompressSchedule.j0]
    rw [if_neg (by simp), hy']; simp only [Option.bind_some]
    rw [hh]; simp only [Option.bind_some]
    rw [if_neg (by omega), if_pos trivial]
    rw [toIntS_f l hl' _ (by omega)]; simp only [Option.bind_some]
    rw [hi']; simp only [Option.bind_some]
    rw [eqLoopS_f r (by omega) _ (by omega)]; simp only [Option.bind_some, if_true]
    rw [if_neg (by omega)]

end Go.Proofs.Ytgibfifokpnnjaa.Pure
