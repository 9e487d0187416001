/- What draws networks, in plain Lean: all that is drawn is small. -/
import Derived.Test.YtgepghodhnmhjaaLGen
namespace Go.AmT
open Go Go.Am
set_option linter.unusedVariables false
set_option linter.unusedSimpArgs false

/-! ### a cursor -/
/-- bytes, and how many of them were read -/
def CurR (b : List Int) (c : List Int × (Int × (Int × Unit))) : Prop := c.1 = b ∧ 0 ≤ c.2.1 ∧ c.2.1 ≤ (b.length : Int)
theorem and255 (x : Int) : 0 ≤ bitsF .and .i64 x 255 ∧ bitsF .and .i64 x 255 ≤ 255 := by
  have h : (BitVec.ofInt IntKind.i64.bits x &&& BitVec.ofInt IntKind.i64.bits 255).toNat ≤ 255 := by
    rw [BitVec.toNat_and]
    exact Nat.le_trans Nat.and_le_right (by decide)
  have e : bitsF .and .i64 x 255 = w64 (((BitVec.ofInt IntKind.i64.bits x &&& BitVec.ofInt IntKind.i64.bits 255).toNat : Nat) : Int) := by
    exact w64_wrap _
  rw [e, w64_id (by omega) (by omega)]
  omega
theorem curNew_W {n : Nat} {b : List Int} (hb : b.length ≤ 1048576) (hn : 1048576 < n) : W (curNew.f n b) (fun r => CurR b r) := by
  unfold curNew.f
  refine W_iter (fun x => 0 ≤ x.2.1 ∧ x.2.1 ≤ 4000) (fun x => (4000 - x.2.1).toNat) (fun ih x hx hS => ?_) (by exact ⟨Int.le_refl _, by show (0 : Int) ≤ 4000; omega⟩) (by show (4000 - (0 : Int)).toNat < n; omega)
  obtain ⟨h, i, ⟨⟩⟩ := x
  simp only at hx
  by_cases h1 : i < (b.length : Int)
  · by_cases h2 : i < 4000
    · simp only [br_yes h1, cut_inr, decide_eq_true h2, br_true]
      rw [chk_true (by omega), w64_id (n := i + 1) (by omega) (by omega)]
      exact hS _ (by simp only; omega) (by simp only; omega)
    · simp only [br_yes h1, cut_inr, decide_eq_false h2, br_false]
      rw [W_some]
      exact ⟨rfl, Int.le_refl _, by simp only; omega⟩
  · simp only [br_no h1, cut_inr, br_false]
    rw [W_some]
    exact ⟨rfl, Int.le_refl _, by simp only; omega⟩
theorem byte_W {n : Nat} {b : List Int} (hb : b.length ≤ 1048576) {c : List Int × (Int × (Int × Unit))} (hc : CurR b c) : W (l01Byte.f n c.1 c.2.1 c.2.2.1) (fun r => (0 ≤ r.1 ∧ r.1 ≤ 255) ∧ CurR b r.2) := by
  obtain ⟨c, i, h, ⟨⟩⟩ := c
  obtain ⟨e, h0, h1⟩ := hc
  simp only at e h0 h1
  subst e
  unfold l01Byte.f
  simp only
  rw [if_neg (by omega), if_neg (by omega)]
  by_cases h2 : i < (c.length : Int)
  · rw [br_yes h2, chk_true (by omega), W_some, w64_id (n := i + 1) (by omega) (by omega)]
    exact ⟨and255 _, rfl, by show (0 : Int) ≤ i + 1; omega, by show i + 1 ≤ (c.length : Int); omega⟩
  · rw [br_no h2, W_some]
    exact ⟨and255 _, rfl, h0, h1⟩
theorem below_W {n : Nat} {b : List Int} (hb : b.length ≤ 1048576) {k : Int} {c : List Int × (Int × (Int × Unit))} (hc : CurR b c) : W (l01Below.f n k c.1 c.2.1 c.2.2.1) (fun r => (0 ≤ r.1 ∧ (0 < k → r.1 < k) ∧ (k ≤ 0 → r.1 = 0)) ∧ CurR b r.2) := by
  unfold l01Below.f
  by_cases h0 : k ≤ 0
  · rw [br_yes h0, W_some]
    exact ⟨⟨Int.le_refl _, fun h => absurd h (by omega), fun _ => rfl⟩, hc⟩
  · rw [br_no h0]
    by_cases h1 : k ≤ 256
    · rw [br_yes h1, W_bind]
      refine W_and (byte_W hb hc) (fun r ⟨h2, h3⟩ => ?_)
      rw [if_neg (by omega), W_some]
      refine ⟨⟨Int.tmod_nonneg _ h2.1, fun _ => Int.tmod_lt_of_pos _ (by omega), fun h => absurd h (by omega)⟩, h3⟩
    · rw [br_no h1, W_bind]
      refine W_and (byte_W hb hc) (fun r3 ⟨a3, h3⟩ => ?_)
      rw [W_bind]
      refine W_and (byte_W hb h3) (fun r4 ⟨a4, h4⟩ => ?_)
      rw [W_bind]
      refine W_and (byte_W hb h4) (fun r5 ⟨a5, h5⟩ => ?_)
      rw [W_bind]
      refine W_and (byte_W hb h5) (fun r6 ⟨a6, h6⟩ => ?_)
      rw [if_neg (by omega), W_some]
      rw [w64_id (n := r3.1 * 16777216) (by omega) (by omega), w64_id (n := r4.1 * 65536) (by omega) (by omega), w64_id (n := r5.1 * 256) (by omega) (by omega), w64_id (n := r3.1 * 16777216 + r4.1 * 65536) (by omega) (by omega), w64_id (n := r3.1 * 16777216 + r4.1 * 65536 + r5.1 * 256) (by omega) (by omega), w64_id (n := r3.1 * 16777216 + r4.1 * 65536 + r5.1 * 256 + r6.1) (by omega) (by omega)]
      exact ⟨⟨Int.tmod_nonneg _ (by omega), fun _ => Int.tmod_lt_of_pos _ (by omega), fun h => absurd h (by omega)⟩, h6⟩
/-- tokens that were drawn -/
def Toks (m : Nat) (l : List Int) : Prop := l.length ≤ m ∧ ∀ x ∈ l, tok x = true
/-! ### programs -/
/-- a program that was drawn -/
structure PrSm (p : Program) : Prop where
  ins : 0 ≤ p.1 ∧ p.1 ≤ 3
  outs : 0 ≤ p.2.1 ∧ p.2.1 ≤ 3
  io : p.1 + p.2.1 ≤ 4
  code : p.2.2.length ≤ 100
/-- lines of code that were drawn -/
def Lines (m : Int) (l : List (List Int)) : Prop := (l.length : Int) ≤ m ∧ ∀ x ∈ l, 1 ≤ x.length ∧ x.length ≤ 1000
theorem Lines.le {m m' : Int} {l : List (List Int)} (h : Lines m l) (hm : m ≤ m') : Lines m' l := ⟨Int.le_trans h.1 hm, h.2⟩
end Go.AmT
