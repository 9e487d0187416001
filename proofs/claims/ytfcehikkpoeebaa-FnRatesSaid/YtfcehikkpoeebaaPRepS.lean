/- The least numbers of a graph, as the reference finds them. -/
import Derived.Test.YtfcehikkpoeebaaLRep
import Derived.Test.YtfcehikkpoeebaaPGr
import Derived.Test.YtfcehikkpoeebaaPFireC
import Derived.Test.YtfcehikkpoeebaaPMark0
import Derived.Test.YtfcehikkpoeebaaPRepT
namespace Go.AmT
open Go Go.Am
set_option linter.unusedVariables false
set_option linter.unusedSimpArgs false

def qf (q : List Int) : Nat → Int := fun i => q.getD i 0
def pf (p : List Bool) : Nat → Prop := fun i => p.getD i false = true

theorem okG_un {g : Graph} (h : okG g = true) : 0 ≤ g.1 ∧ g.1 ≤ 8 ∧ g.2.length ≤ 16 ∧ ∀ e ∈ g.2, (0 ≤ e.1 ∧ e.1 < g.1) ∧ (0 ≤ e.2.1 ∧ e.2.1 < g.1) ∧ (1 ≤ e.2.2.1 ∧ e.2.2.1 ≤ 5) ∧ (1 ≤ e.2.2.2.1 ∧ e.2.2.2.1 ≤ 5) ∧ (0 ≤ e.2.2.2.2 ∧ e.2.2.2.2 ≤ 50) := by
  unfold okG at h
  simp only [Bool.and_eq_true, decide_eq_true_eq, List.all_eq_true] at h
  refine ⟨h.1.1.1, h.1.1.2, h.1.2, fun e he => ?_⟩
  have := h.2 e he
  unfold okE at this
  simp only [Bool.and_eq_true, decide_eq_true_eq] at this
  omega

/-! ### the greatest common divisor -/
theorem gcd_step (a b : Int) (ha : 0 ≤ a) (hb : 0 ≤ b) : Int.gcd b (a.tmod b) = Int.gcd a b := by
  rw [Int.tmod_eq_emod_of_nonneg ha]
  rw [Int.gcd_comm b, Int.gcd_comm a]
  obtain ⟨x, rfl⟩ := Int.eq_ofNat_of_zero_le ha
  obtain ⟨y, rfl⟩ := Int.eq_ofNat_of_zero_le hb
  simp only [← Int.natCast_emod, Int.gcd, Int.natAbs_natCast]
  exact (Nat.gcd_rec y x).symm

theorem gcd_loop {n : Nat} {a b : Int} (ha : 0 ≤ a) (hb : 0 ≤ b) (hn : b < n) :
    iter (α := (Int × (Int × Unit))) n (fun ih4 x3 => br (!decide (x3.2.1 = 0)) (if x3.2.1 = 0 then none else ih4 (x3.2.1, ((x3.1.tmod x3.2.1), ()))) (some (x3.1, ()))) (a, (b, ())) = some ((Int.gcd a b : Int), ()) := by
  refine W_eq.1 ?_
  refine W_iter (fun x => 0 ≤ x.1 ∧ 0 ≤ x.2.1 ∧ Int.gcd x.1 x.2.1 = Int.gcd a b) (fun x => x.2.1.toNat) (fun ih x hx hS => ?_) ⟨ha, hb, rfl⟩ (by simp only; omega)
  obtain ⟨x, y, ⟨⟩⟩ := x
  obtain ⟨h1, h2, h3⟩ := hx
  simp only at h1 h2 h3
  simp only
  rw [W_brn]
  refine ⟨fun hz => ?_, fun hz => ?_⟩
  · have hz : y ≠ 0 := by simpa using hz
    rw [if_neg hz]
    have t1 := Int.tmod_nonneg (a := x) y h1
    have t2 := Int.tmod_lt_of_pos x (b := y) (by omega)
    exact hS _ ⟨h2, t1, by simp only; rw [gcd_step x y h1 h2]; exact h3⟩ (by simp only; omega)
  · have hz : y = 0 := by simpa using hz
    subst hz
    rw [Int.gcd_zero_right] at h3
    refine W_some.2 ?_
    rw [← h3]
    congr 1
    omega

theorem l7Gcd_ok {n : Nat} {a b : Int} (ha : 0 ≤ a) (hb : 0 ≤ b) (hn : b < n) : l7Gcd.f n a b = some ((Int.gcd a b : Int), ()) := gcd_loop ha hb hn
/-! ### scaling -/
def sc (q : List Int) (p : List Bool) (by' : Int) : List Int := q.mapIdx fun i x => if p.getD i false = true then x * by' else x
theorem sc_len {q : List Int} {p : List Bool} {b : Int} : (sc q p b).length = q.length := by simp [sc]
theorem sc_get {q : List Int} {p : List Bool} {b : Int} (i : Nat) : (sc q p b).getD i 0 = if p.getD i false = true then q.getD i 0 * b else q.getD i 0 := by
  rcases Nat.lt_or_ge i q.length with h | h
  · rw [getD_lt (by rw [sc_len]; exact h), getD_lt h]
    simp only [sc, List.getElem_mapIdx]
  · have h1 : q.getD i 0 = 0 := by simp [h]
    have h2 : (sc q p b).getD i 0 = 0 := by
      have : (sc q p b).length ≤ i := by rw [sc_len]; exact h
      simp [this]
    rw [h1, h2]; simp

theorem l7Scale_spec {n : Nat} {q : List Int} {p : List Bool} {b : Int} (hl : p.length = q.length) (hq : q.length ≤ 1000) (hn : q.length < n)
    (hb : ∀ i, p.getD i false = true → -4611686018427387904 ≤ q.getD i 0 * b ∧ q.getD i 0 * b < 4611686018427387904) : l7Scale.f n q p b = some (sc q p b, ()) := by
  unfold l7Scale.f
  have := upd_loop q (fun i x => if p.getD i false = true then x * b else x) (fun _ => true) none (fun ys => some (ys, ())) (n := n)
    (F := fun ih8 x7 => br (decide (x7.1 < (q.length : Int))) (chk (0 ≤ x7.1 ∧ x7.1 < (p.length : Int)) (let v9 := (p.getD x7.1.toNat false); br v9 (chk (0 ≤ x7.1 ∧ x7.1 < (x7.2.1.length : Int)) (chk (0 ≤ x7.1 ∧ x7.1 < (x7.2.1.length : Int)) (let v10 := (x7.2.1.set x7.1.toNat (w64 ((x7.2.1.getD x7.1.toNat 0) * b))); ih8 ((w64 (x7.1 + 1)), (v10, ()))))) (ih8 ((w64 (x7.1 + 1)), (x7.2.1, ()))))) (some (x7.2.1, ())))
    (fun ih i hi ys hy he => by
      simp only [br_yes (show (i : Int) < (q.length : Int) by omega), Int.toNat_natCast]
      rw [chk_true (by omega), w64_succ (by omega), if_pos trivial]
      have hg : ys.getD i 0 = q[i] := by rw [List.getD_eq_getElem?_getD, he]; rfl
      by_cases hp : p.getD i false = true
      · rw [hp]
        simp only [br_true, if_true]
        have := hb i hp
        rw [getD_lt hi] at this
        rw [chk_true (by omega), chk_true (by omega), hg, w64_id (by omega) (by omega)]
      · rw [Bool.not_eq_true] at hp
        rw [hp]
        simp only [br_false, Bool.false_eq_true, if_false]
        congr 3
        refine List.ext_getElem (by simp) (fun j h1 h2 => ?_)
        rw [List.getElem_set]
        split
        · rename_i hij; subst hij
          have := List.getElem?_eq_getElem h1
          rw [he] at this
          exact (Option.some.inj this).symm
        · rfl)
    (fun _ ih => by simp only [br_no (Int.lt_irrefl _)]) hn
  exact this.1 (fun _ _ => rfl)

/-! ### a part that grows -/
structure PInv (E : List Ed) (N r : Nat) (q0 q : List Int) (p : List Bool) : Prop where
  ql : q.length = N
  pl : p.length = N
  root : pf p r
  pos : ∀ i, pf p i → 0 < qf q i
  big : ∀ i, pf p i → qf q i * 25 ≤ 25 ^ (p.count true)
  near : Near E (pf p) r
  tied : ∀ w, Bal E w → ∀ i, pf p i → qf q i * w r = qf q r * w i
  same : ∀ i, ¬ pf p i → qf q i = qf q0 i

theorem pf_lt {p : List Bool} {i : Nat} (h : pf p i) : i < p.length := by
  unfold pf at h
  rcases Nat.lt_or_ge i p.length with x | x
  · exact x
  · simp [x] at h

theorem pf_set {p : List Bool} {b : Nat} (hb : b < p.length) (i : Nat) : pf (p.set b true) i ↔ (i = b ∨ pf p i) := by
  unfold pf
  rw [List.getD_eq_getElem?_getD, List.getElem?_set, List.getD_eq_getElem?_getD]
  by_cases h : b = i
  · subst h; simp [hb]
  · rw [if_neg h]
    constructor
    · exact Or.inr
    · rintro (x | x)
      · exact absurd x.symm h
      · exact x

theorem count_set {p : List Bool} {b : Nat} (hb : b < p.length) (hf : ¬ pf p b) : (p.set b true).count true = p.count true + 1 := by
  have : p[b] = false := by
    unfold pf at hf; rw [getD_lt hb] at hf; simpa using hf
  rw [List.count_set hb, this]
  simp

theorem qf_set {q : List Int} {b : Nat} {x : Int} (hb : b < q.length) (i : Nat) : qf (q.set b x) i = if i = b then x else qf q i := by
  unfold qf
  rw [List.getD_eq_getElem?_getD, List.getElem?_set, List.getD_eq_getElem?_getD]
  by_cases h : b = i
  · subst h; simp [hb]
  · rw [if_neg h, if_neg (fun e => h e.symm)]

theorem pow25 {m : Nat} (h : m ≤ 8) : (25 : Int) ^ m ≤ 152587890625 := by
  have : m = 0 ∨ m = 1 ∨ m = 2 ∨ m = 3 ∨ m = 4 ∨ m = 5 ∨ m = 6 ∨ m = 7 ∨ m = 8 := by omega
  rcases this with rfl | rfl | rfl | rfl | rfl | rfl | rfl | rfl | rfl <;> decide

/-- one more node -/
theorem PInv.grow {E : List Ed} {N r : Nat} {q0 q : List Int} {p : List Bool} (h : PInv E N r q0 q p) {a b : Nat} {one two by' v : Int} (ha : pf p a) (hb : ¬ pf p b) (hbN : b < N)
    (h1 : 1 ≤ one ∧ one ≤ 5) (h2 : 1 ≤ two ∧ two ≤ 5) (hE : ∀ w, Bal E w → w a * one = w b * two) (hC : ∀ C, Clo E C → C a → C b)
    (hby : 1 ≤ by' ∧ by' ≤ 5) (hv : v * two = qf q a * by' * one) : PInv E N r q0 ((sc q p by').set b v) (p.set b true) := by
  have hbl : b < (sc q p by').length := by rw [sc_len, h.ql]; exact hbN
  have hbp : b < p.length := by rw [h.pl]; exact hbN
  have get : ∀ i, pf p i → qf ((sc q p by').set b v) i = qf q i * by' := by
    intro i hi
    rw [qf_set hbl, if_neg (fun (e : i = b) => hb (e ▸ hi))]
    unfold qf; rw [sc_get, if_pos (show p.getD i false = true from hi)]
  have getb : qf ((sc q p by').set b v) b = v := by rw [qf_set hbl, if_pos rfl]
  have hr := get r h.root
  have cnt := count_set hbp hb
  have pow : (25 : Int) ^ (p.count true + 1) = 25 ^ (p.count true) * 25 := Int.pow_succ ..
  have qa := h.pos a ha
  have qab := h.big a ha
  have vpos : 0 < v := by
    have : 0 < qf q a * by' * one := Int.mul_pos (Int.mul_pos qa (by omega)) (by omega)
    rw [← hv] at this
    exact Int.pos_of_mul_pos_left this (by omega) |> fun x => x
  refine ⟨by simpa [sc_len] using h.ql, by simpa using h.pl, (pf_set hbp r).2 (Or.inr h.root), fun i hi => ?_, fun i hi => ?_, ?_, ?_, ?_⟩
  · rcases (pf_set hbp i).1 hi with e | e
    · subst e; rw [getb]; exact vpos
    · rw [get i e]; exact Int.mul_pos (h.pos i e) (by omega)
  · rw [cnt, pow]
    have hle : ∀ x : Int, 0 < x → x * by' ≤ x * 5 := fun x hx => Int.mul_le_mul_of_nonneg_left hby.2 (by omega)
    rcases (pf_set hbp i).1 hi with e | e
    · subst e; rw [getb]
      have e1 : v ≤ v * two := by have := Int.mul_le_mul_of_nonneg_left h2.1 (show 0 ≤ v by omega); simpa using this
      have e2 := hle _ qa
      have e3 : qf q a * by' * one ≤ qf q a * by' * 5 := Int.mul_le_mul_of_nonneg_left h1.2 (Int.mul_nonneg (by omega) (by omega))
      omega
    · rw [get i e]
      have e2 := hle _ (h.pos i e)
      have e4 := h.big i e
      have e5 := h.pos i e
      omega
  · intro C hc hr0 i hi
    rcases (pf_set hbp i).1 hi with e | e
    · subst e; exact hC C hc (h.near C hc hr0 a ha)
    · exact h.near C hc hr0 i e
  · intro w hw i hi
    rw [hr]
    rcases (pf_set hbp i).1 hi with e | e
    · subst e; rw [getb]
      refine Int.eq_of_mul_eq_mul_left (show two ≠ 0 by omega) ?_
      have t := h.tied w hw a ha
      have m := hE w hw
      calc two * (v * w r) = (v * two) * w r := by simp [Int.mul_assoc, Int.mul_left_comm, Int.mul_comm]
        _ = by' * one * (qf q a * w r) := by rw [hv]; simp [Int.mul_assoc, Int.mul_left_comm, Int.mul_comm]
        _ = by' * qf q r * (w a * one) := by rw [t]; simp [Int.mul_assoc, Int.mul_left_comm, Int.mul_comm]
        _ = two * (qf q r * by' * w i) := by rw [m]; simp [Int.mul_assoc, Int.mul_left_comm, Int.mul_comm]
    · rw [get i e, Int.mul_right_comm, h.tied w hw i e, Int.mul_right_comm]
  · intro i hi
    have hn : i ≠ b ∧ ¬ pf p i := by
      constructor
      · intro e; exact hi ((pf_set hbp i).2 (Or.inl e))
      · intro e; exact hi ((pf_set hbp i).2 (Or.inr e))
    rw [qf_set hbl, if_neg hn.1]
    have := h.same i hn.2
    unfold qf at this ⊢
    rw [sc_get, if_neg (show ¬ p.getD i false = true from hn.2)]
    exact this

/-- what is not under way any more: the number of nodes, or all edges lead nowhere new -/
def CloE (es : List Ed) (p : List Bool) : Prop := ∀ e ∈ es, (pf p e.1.toNat ↔ pf p e.2.1.toNat)

section
variable {β : Type} {Q : β → Prop}
theorem grow_W {E : List Ed} {N r : Nat} {q0 q : List Int} {p : List Bool} (h : PInv E N r q0 q p) {n : Nat} (hN : N ≤ 8) (hn : 1000000000000 < n) {a b : Int} {one two : Int} {j : Int} (ha0 : 0 ≤ a) (hb0 : 0 ≤ b) (ha : pf p a.toNat) (hb : ¬ pf p b.toNat) (hbN : b.toNat < N)
    (h1 : 1 ≤ one ∧ one ≤ 5) (h2 : 1 ≤ two ∧ two ≤ 5) (hE : ∀ w, Bal E w → w a.toNat * one = w b.toNat * two) (hC : ∀ C, Clo E C → C a.toNat → C b.toNat)
    {ih : (Int × (List Int) × (List Bool) × Unit) → Option β}
    (hS : ∀ q', PInv E N r q0 q' (p.set b.toNat true) → W (ih ((w64 (j + 1)), (q', ((p.set b.toNat true), ())))) Q) :
    W (chk (0 ≤ a ∧ a < (q.length : Int)) ((l7Gcd.f n (w64 ((q.getD a.toNat 0) * one)) two).bind fun r72 => if r72.1 = 0 then none else (l7Scale.f n q p (w64 (two.tdiv r72.1))).bind fun r73 => chk (0 ≤ a ∧ a < (r73.1.length : Int)) (if two = 0 then none else chk (0 ≤ b ∧ b < (r73.1.length : Int)) (ih ((w64 (j + 1)), ((r73.1.set b.toNat (w64 ((w64 ((r73.1.getD a.toNat 0) * one)).tdiv two))), ((p.set b.toNat true), ()))))))) Q := by
  have haN := pf_lt ha
  rw [h.pl] at haN
  have cle : p.count true ≤ 8 := Nat.le_trans List.count_le_length (by rw [h.pl]; exact hN)
  have p25 := pow25 cle
  have qa := h.pos _ ha
  have qab := h.big _ ha
  have qe : q.getD a.toNat 0 = qf q a.toNat := rfl
  rw [chk_true (by rw [h.ql]; omega), qe]
  have m1 : qf q a.toNat * one ≤ qf q a.toNat * 5 := Int.mul_le_mul_of_nonneg_left h1.2 (by omega)
  have m0 : 0 < qf q a.toNat * one := Int.mul_pos qa (by omega)
  rw [w64_id (by omega) (by omega), l7Gcd_ok (by omega) (by omega) (by omega), bind_unit]
  have g1 : (Int.gcd (qf q a.toNat * one) two : Int) ∣ qf q a.toNat * one := Int.gcd_dvd_left ..
  have g2 : (Int.gcd (qf q a.toNat * one) two : Int) ∣ two := Int.gcd_dvd_right ..
  have gp := gcd_pos_int' (b := two) m0
  generalize (Int.gcd (qf q a.toNat * one) two : Int) = G at g1 g2 gp ⊢
  simp only
  rw [if_neg (by omega)]
  obtain ⟨t1, t2, t3⟩ := tdiv_exact (a := two) (b := G) (by omega) (by omega) g2
  have t4 := tdiv_pos (a := two) (b := G) (by omega) (by omega) g2
  generalize hby : two.tdiv G = by' at t1 t2 t3 t4 ⊢
  have hby5 : 1 ≤ by' ∧ by' ≤ 5 := by omega
  rw [w64_id (by omega) (by omega)]
  have mulby : ∀ i, pf p i → 0 ≤ qf q i * by' ∧ qf q i * by' ≤ 152587890625 := by
    intro i hi
    have x1 := h.pos i hi
    have x2 := h.big i hi
    have x3 : qf q i * by' ≤ qf q i * 5 := Int.mul_le_mul_of_nonneg_left hby5.2 (by omega)
    exact ⟨Int.mul_nonneg (by omega) (by omega), by omega⟩
  rw [l7Scale_spec (by rw [h.ql, h.pl]) (by rw [h.ql]; omega) (by rw [h.ql]; omega) (fun i hi => by have := mulby i hi; unfold qf at this; omega), bind_unit]
  simp only
  have e1 : (sc q p by').getD a.toNat 0 = qf q a.toNat * by' := by rw [sc_get, if_pos (show p.getD a.toNat false = true from ha)]; rfl
  rw [chk_true (by rw [sc_len, h.ql]; omega), if_neg (by omega), chk_true (by rw [sc_len, h.ql]; omega), e1]
  have mb := mulby _ ha
  have m2 : qf q a.toNat * by' * one ≤ qf q a.toNat * by' * 5 := Int.mul_le_mul_of_nonneg_left h1.2 mb.1
  have m3 : 0 ≤ qf q a.toNat * by' * one := Int.mul_nonneg mb.1 (by omega)
  rw [w64_id (n := qf q a.toNat * by' * one) (by omega) (by omega)]
  have dv : two ∣ qf q a.toNat * by' * one := by
    obtain ⟨c, hc⟩ := g1
    refine ⟨c, ?_⟩
    calc qf q a.toNat * by' * one = (qf q a.toNat * one) * by' := by rw [Int.mul_right_comm]
      _ = (by' * G) * c := by rw [hc]; simp [Int.mul_assoc, Int.mul_left_comm, Int.mul_comm]
      _ = two * c := by rw [t1]
  obtain ⟨d1, d2, d3⟩ := tdiv_exact m3 (by omega) dv
  rw [w64_id (n := (qf q a.toNat * by' * one).tdiv two) (by omega) (by omega)]
  exact hS _ (h.grow ha hb hbN h1 h2 hE hC hby5 d1)
end
end Go.AmT
