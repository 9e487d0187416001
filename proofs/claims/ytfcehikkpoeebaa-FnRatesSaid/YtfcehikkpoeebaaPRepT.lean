/- Least numbers that balance a graph, in plain Lean. -/
import Derived.Test.YtfcehikkpoeebaaAmD
namespace Go.AmT
open Go Go.Am
set_option linter.unusedVariables false
set_option linter.unusedSimpArgs false

/-- edges: from, to, make, take, tokens -/
abbrev Ed : Type := Int × (Int × (Int × (Int × Int)))

def Bal (E : List Ed) (w : Nat → Int) : Prop := ∀ e ∈ E, w e.1.toNat * e.2.2.1 = w e.2.1.toNat * e.2.2.2.1
def Clo (E : List Ed) (S : Nat → Prop) : Prop := ∀ e ∈ E, (S e.1.toNat ↔ S e.2.1.toNat)
def Near (E : List Ed) (S : Nat → Prop) (r : Nat) : Prop := ∀ C : Nat → Prop, Clo E C → C r → ∀ i, S i → C i
def Prim (q : Nat → Int) (S : Nat → Prop) : Prop := ∀ d b : Int, (∀ i, S i → d ∣ q i * b) → d ∣ b

/-- a part of a graph with its least numbers -/
structure Part (E : List Ed) (q : Nat → Int) (S : Nat → Prop) : Prop where
  clo : Clo E S
  near : ∀ r, S r → Near E S r
  pos : ∀ i, S i → 0 < q i
  tied : ∀ w, Bal E w → ∀ i j, S i → S j → q i * w j = q j * w i
  prim : Prim q S

theorem Clo.not {E : List Ed} {S : Nat → Prop} (h : Clo E S) : Clo E (fun i => ¬ S i) := fun e he => not_congr (h e he)

theorem Part.congr {E : List Ed} {q q' : Nat → Int} {S : Nat → Prop} (h : Part E q S) (hq : ∀ i, S i → q' i = q i) : Part E q' S :=
  ⟨h.clo, h.near, fun i hi => by rw [hq i hi]; exact h.pos i hi, fun w hw i j hi hj => by rw [hq i hi, hq j hj]; exact h.tied w hw i j hi hj,
   fun d b hh => h.prim d b (fun i hi => by rw [← hq i hi]; exact hh i hi)⟩

/-- what is near one of it is near all of it -/
theorem near_all {E : List Ed} {S : Nat → Prop} {r : Nat} (hr : S r) (h : Near E S r) : ∀ i, S i → Near E S i := by
  intro i hi C hC hCi
  refine h C hC ?_
  exact Classical.byContradiction fun hn => h (fun j => ¬ C j) hC.not hn i hi hCi

theorem part_mk {E : List Ed} {q : Nat → Int} {S : Nat → Prop} {r : Nat} (hr : S r) (hc : Clo E S) (hn : Near E S r) (hp : ∀ i, S i → 0 < q i)
    (ht : ∀ w, Bal E w → ∀ i, S i → q i * w r = q r * w i) (hg : Prim q S) : Part E q S := by
  refine ⟨hc, near_all hr hn, hp, fun w hw i j hi hj => ?_, hg⟩
  have h0 : q r ≠ 0 := by have := hp r hr; omega
  have hi' := ht w hw i hi
  have hj' := ht w hw j hj
  refine Int.eq_of_mul_eq_mul_left h0 ?_
  calc q r * (q i * w j) = q i * (q r * w j) := by rw [Int.mul_left_comm]
    _ = q i * (q j * w r) := by rw [← hj']
    _ = q j * (q i * w r) := by rw [Int.mul_left_comm]
    _ = q j * (q r * w i) := by rw [hi']
    _ = q r * (q j * w i) := by rw [Int.mul_left_comm]

/-- two least numbers, one of which balances the graph, are one -/
theorem part_eq {E : List Ed} {q q' : Nat → Int} {S S' : Nat → Prop} (h : Part E q S) (h' : Part E q' S') (hb : Bal E q') {i : Nat} (hi : S i) (hi' : S' i) : q i = q' i := by
  have s1 : ∀ j, S j → S' j := fun j hj => h.near i hi S' h'.clo hi' j hj
  have s2 : ∀ j, S' j → S j := fun j hj => h'.near i hi' S h.clo hi j hj
  have t : ∀ j, S j → q i * q' j = q j * q' i := fun j hj => h.tied q' hb i j hi hj
  have d1 : q i ∣ q' i := h.prim _ _ (fun j hj => ⟨q' j, (t j hj).symm⟩)
  have d2 : q' i ∣ q i := h'.prim _ _ (fun j hj => ⟨q j, by rw [Int.mul_comm, t j (s2 j hj), Int.mul_comm]⟩)
  have p1 := h.pos i hi
  have p2 := h'.pos i hi'
  exact Int.dvd_antisymm (by omega) (by omega) d1 d2

/-- all have least numbers -/
def AllP (E : List Ed) (N : Nat) (q : Nat → Int) : Prop := ∀ i, i < N → ∃ S, Part E q S ∧ S i
theorem all_eq {E : List Ed} {N : Nat} {q q' : Nat → Int} (h : AllP E N q) (h' : AllP E N q') (hb : Bal E q') : ∀ i, i < N → q i = q' i := by
  intro i hi
  obtain ⟨S, p, s⟩ := h i hi
  obtain ⟨S', p', s'⟩ := h' i hi
  exact part_eq p p' hb s s'

/-! ### greatest common divisors -/
/-- a number is a divisor that is made of others -/
def PrimTo (a : Int) (q : Nat → Int) (S : Nat → Prop) : Prop := ∀ d b : Int, (∀ i, S i → d ∣ q i * b) → d ∣ a * b

theorem dvd_gcd_mul {d a b c : Int} (h1 : d ∣ a * c) (h2 : d ∣ b * c) : d ∣ (Int.gcd a b : Int) * c := by
  have h := Int.dvd_coe_gcd h1 h2
  rw [Int.gcd_mul_right] at h
  rw [Int.natCast_mul] at h
  rcases Int.natAbs_eq c with e | e
  · rw [e]; simpa using h
  · rw [e, Int.mul_neg]; exact (Int.dvd_neg).2 (by simpa using h)

theorem primTo_div {q q' : Nat → Int} {S : Nat → Prop} {a : Int} (ha : a ≠ 0) (h : PrimTo a q S) (hq : ∀ i, S i → q i = q' i * a) : Prim q' S := by
  intro d b hd
  have := h (d * a) b (fun i hi => by
    rw [hq i hi]
    obtain ⟨c, hc⟩ := hd i hi
    exact ⟨c, by rw [Int.mul_right_comm, hc, Int.mul_right_comm]⟩)
  rw [Int.mul_comm d a] at this
  exact Int.dvd_of_mul_dvd_mul_left ha this

theorem gcd_pos_int {a b : Int} (h : 0 < b) : (1 : Int) ≤ (Int.gcd a b : Int) := by
  have := Int.gcd_pos_of_ne_zero_right a (by omega : b ≠ 0)
  omega

theorem gcd_pos_int' {a b : Int} (h : 0 < a) : (1 : Int) ≤ (Int.gcd a b : Int) := by
  have := Int.gcd_pos_of_ne_zero_left b (by omega : a ≠ 0)
  omega

/-- a division that comes out -/
theorem tdiv_exact {a b : Int} (h0 : 0 ≤ a) (hb : 0 < b) (h : b ∣ a) : a.tdiv b * b = a ∧ 0 ≤ a.tdiv b ∧ a.tdiv b ≤ a := by
  refine ⟨Int.tdiv_mul_cancel h, Int.tdiv_nonneg h0 (by omega), ?_⟩
  rw [Int.tdiv_eq_ediv_of_nonneg h0]
  exact Int.ediv_le_self _ h0

theorem tdiv_pos {a b : Int} (h0 : 0 < a) (hb : 0 < b) (h : b ∣ a) : 0 < a.tdiv b := by
  have e := (tdiv_exact (by omega) hb h)
  rcases Int.lt_or_eq_of_le e.2.1 with x | x
  · exact x
  · rw [← x] at e; omega

end Go.AmT
