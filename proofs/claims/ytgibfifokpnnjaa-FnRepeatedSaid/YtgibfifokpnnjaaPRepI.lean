/- The least numbers of all parts, as the program finds them. -/
import Derived.Test.YtgibfifokpnnjaaPRepS2
namespace Go.AmT
open Go Go.Am
set_option linter.unusedVariables false
set_option linter.unusedSimpArgs false

def ov (of : List Ratio) : Nat → Int := fun i => (of.getD i zRatio).1
def un (of : List Ratio) : Nat → Int := fun i => (of.getD i zRatio).2
def inP (part : List Int) : Nat → Prop := fun i => (i : Int) ∈ part

theorem ov_set {of : List Ratio} {b : Nat} {x : Ratio} (hb : b < of.length) (i : Nat) : ov (of.set b x) i = if i = b then x.1 else ov of i := by
  unfold ov
  rw [List.getD_eq_getElem?_getD, List.getElem?_set, List.getD_eq_getElem?_getD]
  by_cases h : b = i
  · subst h; simp [hb]
  · rw [if_neg h, if_neg (fun e => h e.symm)]
theorem un_set {of : List Ratio} {b : Nat} {x : Ratio} (hb : b < of.length) (i : Nat) : un (of.set b x) i = if i = b then x.2 else un of i := by
  unfold un
  rw [List.getD_eq_getElem?_getD, List.getElem?_set, List.getD_eq_getElem?_getD]
  by_cases h : b = i
  · subst h; simp [hb]
  · rw [if_neg h, if_neg (fun e => h e.symm)]

structure SInv (E : List Ed) (N r : Nat) (of0 of : List Ratio) (part : List Int) : Prop where
  ol : of.length = N
  nd : part.Nodup
  rng : ∀ k ∈ part, 0 ≤ k ∧ k.toNat < N
  root : inP part r
  one : ov of r = 1 ∧ un of r = 1
  pos : ∀ i, inP part i → 0 < ov of i ∧ ov of i * 5 ≤ 5 ^ part.length ∧ 0 < un of i
  com : ∃ P : Int, 0 < P ∧ P * 5 ≤ 5 ^ part.length ∧ ∀ i, inP part i → un of i ∣ P
  near : Near E (inP part) r
  tied : ∀ w, Bal E w → ∀ i, inP part i → ov of i * w r = un of i * w i
  same : ∀ i, ¬ inP part i → ov of i = ov of0 i ∧ un of i = un of0 i

theorem SInv.le {E : List Ed} {N r : Nat} {of0 of : List Ratio} {part : List Int} (h : SInv E N r of0 of part) : part.length ≤ N := by
  have := len_le_of_sub h.nd (m := (List.range N).map (fun i : Nat => (i : Int))) (fun k hk => by
    have := h.rng k hk
    exact List.mem_map.2 ⟨k.toNat, List.mem_range.2 this.2, by omega⟩)
  simpa using this

theorem pow5 {m : Nat} (h : m ≤ 8) : (5 : Int) ^ m ≤ 390625 := by
  have : m = 0 ∨ m = 1 ∨ m = 2 ∨ m = 3 ∨ m = 4 ∨ m = 5 ∨ m = 6 ∨ m = 7 ∨ m = 8 := by omega
  rcases this with rfl | rfl | rfl | rfl | rfl | rfl | rfl | rfl | rfl <;> decide

theorem SInv.grow {E : List Ed} {N r : Nat} {of0 of : List Ratio} {part : List Int} (h : SInv E N r of0 of part) {a b : Nat} {one two x y : Int} (ha : inP part a) (hb : ¬ inP part b) (hbN : b < N)
    (h1 : 1 ≤ one ∧ one ≤ 5) (h2 : 1 ≤ two ∧ two ≤ 5) (hE : ∀ w, Bal E w → w a * one = w b * two) (hC : ∀ C, Clo E C → C a → C b)
    (hx : 0 < x ∧ x ≤ ov of a * one) (hy : 0 < y ∧ y ∣ un of a * two) (hxy : x * (un of a * two) = y * (ov of a * one)) : SInv E N r of0 (of.set b (x, y)) (part ++ [(b : Int)]) := by
  have hbl : b < of.length := by rw [h.ol]; exact hbN
  have mem : ∀ i, inP (part ++ [(b : Int)]) i ↔ (inP part i ∨ i = b) := by
    intro i; unfold inP; rw [List.mem_append, List.mem_singleton]
    exact or_congr Iff.rfl ⟨fun e => by omega, fun e => by omega⟩
  have go : ∀ i, inP part i → ov (of.set b (x, y)) i = ov of i ∧ un (of.set b (x, y)) i = un of i := by
    intro i hi
    have : i ≠ b := fun (e : i = b) => hb (e ▸ hi)
    rw [ov_set hbl, un_set hbl, if_neg this, if_neg this]; exact ⟨rfl, rfl⟩
  have gb : ov (of.set b (x, y)) b = x ∧ un (of.set b (x, y)) b = y := by rw [ov_set hbl, un_set hbl, if_pos rfl, if_pos rfl]; exact ⟨rfl, rfl⟩
  have pw : (5 : Int) ^ (part ++ [(b : Int)]).length = 5 ^ part.length * 5 := by rw [List.length_append, List.length_singleton]; exact Int.pow_succ ..
  obtain ⟨pa1, pa2, pa3⟩ := h.pos a ha
  obtain ⟨P, P0, P1, P2⟩ := h.com
  refine ⟨by simpa using h.ol, ?_, fun k hk => ?_, (mem r).2 (Or.inl h.root), ?_, fun i hi => ?_, ⟨P * two, Int.mul_pos P0 (by omega), ?_, fun i hi => ?_⟩, fun C hc hr i hi => ?_, fun w hw i hi => ?_, fun i hi => ?_⟩
  · rw [List.nodup_append]
    refine ⟨h.nd, by simp, fun u hu v hv => ?_⟩
    rw [List.mem_singleton.1 hv]
    intro e; exact hb (by unfold inP; rw [← e]; exact hu)
  · rcases List.mem_append.1 hk with hk | hk
    · exact h.rng k hk
    · rw [List.mem_singleton.1 hk]; exact ⟨by omega, by simpa using hbN⟩
  · rw [(go r h.root).1, (go r h.root).2]; exact h.one
  · rw [pw]
    rcases (mem i).1 hi with e | e
    · rw [(go i e).1, (go i e).2]
      obtain ⟨u1, u2, u3⟩ := h.pos i e
      exact ⟨u1, by omega, u3⟩
    · subst e; rw [gb.1, gb.2]
      have : ov of a * one ≤ ov of a * 5 := Int.mul_le_mul_of_nonneg_left h1.2 (by omega)
      exact ⟨hx.1, by omega, hy.1⟩
  · rw [pw]
    have : P * two ≤ P * 5 := Int.mul_le_mul_of_nonneg_left h2.2 (by omega)
    omega
  · rcases (mem i).1 hi with e | e
    · rw [(go i e).2]; exact Int.dvd_mul_of_dvd_left (P2 i e)
    · subst e; rw [gb.2]
      exact Int.dvd_trans hy.2 (Int.mul_dvd_mul_right two (P2 a ha))
  · rcases (mem i).1 hi with e | e
    · exact h.near C hc hr i e
    · subst e; exact hC C hc (h.near C hc hr a ha)
  · rcases (mem i).1 hi with e | e
    · rw [(go i e).1, (go i e).2]; exact h.tied w hw i e
    · subst e; rw [gb.1, gb.2]
      have t := h.tied w hw a ha
      have m := hE w hw
      have nz : un of a * two ≠ 0 := by have := Int.mul_pos pa3 (show 0 < two by omega); omega
      refine Int.eq_of_mul_eq_mul_left nz ?_
      calc un of a * two * (x * w r) = (x * (un of a * two)) * w r := by simp [Int.mul_assoc, Int.mul_left_comm, Int.mul_comm]
        _ = y * one * (ov of a * w r) := by rw [hxy]; simp [Int.mul_assoc, Int.mul_left_comm, Int.mul_comm]
        _ = y * un of a * (w a * one) := by rw [t]; simp [Int.mul_assoc, Int.mul_left_comm, Int.mul_comm]
        _ = un of a * two * (y * w i) := by rw [m]; simp [Int.mul_assoc, Int.mul_left_comm, Int.mul_comm]
  · have hn : ¬ inP part i ∧ i ≠ b := ⟨fun e => hi ((mem i).2 (Or.inl e)), fun e => hi ((mem i).2 (Or.inr e))⟩
    rw [ov_set hbl, un_set hbl, if_neg hn.2, if_neg hn.2]
    exact h.same i hn.1

theorem times_spec {n : Nat} {o u a b : Int} (ho : 0 < o ∧ o ≤ 390625) (hu : 0 < u ∧ u ≤ 390625) (ha : 1 ≤ a ∧ a ≤ 5) (hb : 1 ≤ b ∧ b ≤ 5) (hn : 1000000000000 < n) :
    ∃ x y : Int, times.f n (o, u) a b = some ((x, y), ()) ∧ (0 < x ∧ x ≤ o * a) ∧ (0 < y ∧ y ∣ u * b) ∧ x * (u * b) = y * (o * a) := by
  unfold times.f
  have m1 : o * a ≤ o * 5 := Int.mul_le_mul_of_nonneg_left ha.2 (by omega)
  have m2 : u * b ≤ u * 5 := Int.mul_le_mul_of_nonneg_left hb.2 (by omega)
  have p1 : 0 < o * a := Int.mul_pos ho.1 (by omega)
  have p2 : 0 < u * b := Int.mul_pos hu.1 (by omega)
  simp only
  rw [w64_id (n := o * a) (by omega) (by omega), w64_id (n := u * b) (by omega) (by omega), gcd_okI (by omega) (by omega) (by omega), bind_unit]
  have g1 : (Int.gcd (o * a) (u * b) : Int) ∣ o * a := Int.gcd_dvd_left ..
  have g2 : (Int.gcd (o * a) (u * b) : Int) ∣ u * b := Int.gcd_dvd_right ..
  have gp := gcd_pos_int (a := o * a) p2
  generalize (Int.gcd (o * a) (u * b) : Int) = G at g1 g2 gp ⊢
  simp only
  rw [if_neg (by omega), if_neg (by omega)]
  have e1 := tdiv_exact (a := o * a) (b := G) (by omega) (by omega) g1
  have e2 := tdiv_exact (a := u * b) (b := G) (by omega) (by omega) g2
  have e3 := tdiv_pos (a := o * a) (b := G) (by omega) (by omega) g1
  have e4 := tdiv_pos (a := u * b) (b := G) (by omega) (by omega) g2
  generalize (o * a).tdiv G = x at *
  generalize (u * b).tdiv G = y at *
  refine ⟨x, y, by rw [w64_id (by omega) (by omega), w64_id (by omega) (by omega)], ⟨e3, e1.2.2⟩, ⟨e4, ⟨G, e2.1.symm⟩⟩, ?_⟩
  rw [← e1.1, ← e2.1]; simp [Int.mul_assoc, Int.mul_left_comm, Int.mul_comm]

theorem isZero {of : List Ratio} {i : Nat} : (decide ((of.getD i zRatio).1 = 0) && (decide ((of.getD i zRatio).2 = 0) && true)) = decide (ov of i = 0 ∧ un of i = 0) := by
  simp [ov, un]

/-- what is done for a node with an edge -/
def DoneE (part : List Int) (k : Int) (e : Ed) : Prop := (e.1 = k → e.2.1 ∈ part) ∧ (e.2.1 = k → e.1 ∈ part)
theorem DoneE.app {part t : List Int} {k : Int} {e : Ed} (h : DoneE part k e) : DoneE (part ++ t) k e := ⟨fun x => List.mem_append_left _ (h.1 x), fun x => List.mem_append_left _ (h.2 x)⟩

set_option maxHeartbeats 1600000 in
theorem spread_W {n : Nat} {g : Graph} (hg : okG g = true) {of0 : List Ratio} {r : Int} (hr : 0 ≤ r ∧ r < g.1) (hl : of0.length = g.1.toNat) (hn : 1000000000000 < n)
    {D : Nat → Prop} (hD : Clo g.2 D) (hDr : ¬ D r.toNat) (hof : ∀ i, i < g.1.toNat → ¬ D i → ov of0 i = 0 ∧ un of0 i = 0) :
    W (spread.f n g of0 r) (fun x => SInv g.2 g.1.toNat r.toNat of0 x.2.1 x.1 ∧ Clo g.2 (inP x.1)) := by
  obtain ⟨g0, g8, g16, ge⟩ := okG_un hg
  generalize hNN : g.1.toNat = N at hl hof
  have hN8 : N ≤ 8 := by omega
  have hrN : r.toNat < N := by omega
  have hrr : ((r.toNat : Nat) : Int) = r := by omega
  unfold spread.f
  rw [chk_true (by omega)]
  have start : SInv g.2 N r.toNat of0 (of0.set r.toNat (1, 1)) [r] := by
    have only : ∀ i, inP [r] i ↔ i = r.toNat := fun i => by unfold inP; rw [List.mem_singleton]; omega
    have go : ov (of0.set r.toNat (1, 1)) r.toNat = 1 ∧ un (of0.set r.toNat (1, 1)) r.toNat = 1 := by rw [ov_set (by omega), un_set (by omega), if_pos rfl, if_pos rfl]; exact ⟨rfl, rfl⟩
    refine ⟨by simpa using hl, by simp, fun k hk => ?_, (only _).2 rfl, go, fun i hi => ?_, ⟨1, by omega, by simp, fun i hi => ?_⟩, fun C _ hC i hi => ?_, fun w _ i hi => ?_, fun i hi => ?_⟩
    · rw [List.mem_singleton.1 hk]; exact ⟨hr.1, hrN⟩
    · rw [(only i).1 hi, go.1, go.2]; simp
    · rw [(only i).1 hi, go.2]; exact Int.dvd_refl 1
    · rw [(only i).1 hi]; exact hC
    · rw [(only i).1 hi, go.1, go.2]
    · have : i ≠ r.toNat := fun e => hi ((only i).2 e)
      rw [ov_set (by omega), un_set (by omega), if_neg this, if_neg this]; exact ⟨rfl, rfl⟩
  refine W_iter (fun x => ∃ i : Nat, x.1 = (i : Int) ∧ i ≤ x.2.2.1.length ∧ SInv g.2 N r.toNat of0 x.2.1 x.2.2.1 ∧ ∀ j, j < i → ∀ e ∈ g.2, DoneE x.2.2.1 (x.2.2.1.getD j 0) e) (fun x => N - x.1.toNat)
    (fun ih x hx hS => ?_) ⟨0, rfl, by simp, start, fun j hj => absurd hj (Nat.not_lt_zero _)⟩ (by simp only; omega)
  obtain ⟨xi, of, part, ⟨⟩⟩ := x
  obtain ⟨i, hi, hil, hI, hdone⟩ := hx
  simp only at hi hil hI hdone
  subst hi
  simp only
  have ple := hI.le
  rcases Nat.lt_or_eq_of_le hil with hlt | heq
  rotate_left
  · -- the end
    rw [br_no (by omega)]
    refine W_some.2 ⟨hI, fun e he => ?_⟩
    obtain ⟨⟨f1, f2⟩, ⟨t1, t2⟩, -⟩ := ge e he
    have c1 : ((e.1.toNat : Nat) : Int) = e.1 := by omega
    have c2 : ((e.2.1.toNat : Nat) : Int) = e.2.1 := by omega
    unfold inP
    rw [c1, c2]
    simp only
    constructor
    · intro h
      obtain ⟨j, hj, hje⟩ := List.getElem_of_mem h
      have := (hdone j (by omega) e he).1
      rw [getD_lt hj] at this
      exact this hje.symm
    · intro h
      obtain ⟨j, hj, hje⟩ := List.getElem_of_mem h
      have := (hdone j (by omega) e he).2
      rw [getD_lt hj] at this
      exact this hje.symm
  rw [br_yes (by omega)]
  -- one node
  have hk := hI.rng _ (List.getElem_mem hlt)
  have hkp : inP part (part[i].toNat) := by unfold inP; rw [show ((part[i].toNat : Nat) : Int) = part[i] by omega]; exact List.getElem_mem hlt
  have hkg : part.getD i 0 = part[i] := getD_lt hlt 0
  generalize hkk : part[i] = k at hk hkp hkg
  refine W_up (fun j (s : List Ratio × List Int) => ((j : Int), (s.1, (s.2, ())))) g.2.length (fun j s => SInv g.2 N r.toNat of0 s.1 s.2 ∧ (∃ t, s.2 = part ++ t) ∧ ∀ e ∈ g.2.take j, DoneE s.2 k e) (s0 := (of, part)) rfl ⟨hI, ⟨[], by simp⟩, by simp⟩ (by omega) (fun ih2 s hI' => ?_) (fun ih2 j s hj hI' hS' => ?_)
  · obtain ⟨hI', ⟨t, ht⟩, hd⟩ := hI'
    obtain ⟨of', part'⟩ := s
    simp only at hI' ht hd
    subst ht
    simp only [br_no (Int.lt_irrefl _)]
    rw [w64_succ (by omega)]
    refine hS _ ⟨i + 1, rfl, by simp only [List.length_append]; omega, hI', fun j hj e he => ?_⟩ (by simp only; omega)
    simp only
    rcases Nat.lt_or_ge j i with h | h
    · have := hdone j h e he
      rw [List.getD_eq_getElem?_getD, List.getElem?_append_left (by omega), ← List.getD_eq_getElem?_getD]
      exact this.app
    · have : j = i := by omega
      subst this
      rw [List.getD_eq_getElem?_getD, List.getElem?_append_left (by omega), ← List.getD_eq_getElem?_getD, hkg]
      exact hd e (by rw [List.take_length]; exact he)
  · obtain ⟨hI', ⟨t, ht⟩, hd⟩ := hI'
    obtain ⟨of', part'⟩ := s
    simp only at hI' ht hd
    have hj' : (j : Int) < (g.2.length : Int) := by omega
    obtain ⟨⟨f1, f2⟩, ⟨t1, t2⟩, ⟨m1, m2⟩, ⟨k1, k2⟩, -⟩ := ge _ (List.getElem_mem hj)
    have hmem := List.getElem_mem hj
    simp only [br_yes hj', Int.toNat_natCast, getD_lt hj]
    generalize he : g.2[j] = e at *
    have plen : part.length ≤ part'.length := by rw [ht]; simp
    have pk : part'.getD i 0 = k := by rw [ht, List.getD_eq_getElem?_getD, List.getElem?_append_left (by omega), ← List.getD_eq_getElem?_getD, hkg]
    have kp' : inP part' k.toNat := by unfold inP at hkp ⊢; rw [ht]; exact List.mem_append_left _ hkp
    have ol := hI'.ol
    have ple' := hI'.le
    have pw := pow5 (show part'.length ≤ 8 by omega)
    rw [chk_true (by omega), chk_true (by omega), pk]
    have c1 : ((e.1.toNat : Nat) : Int) = e.1 := by omega
    have c2 : ((e.2.1.toNat : Nat) : Int) = e.2.1 := by omega
    have ck : ((k.toNat : Nat) : Int) = k := by omega
    have nD : ∀ i, inP part' i → ¬ D i := fun i hi => hI'.near _ hD.not hDr i hi
    have inz : ∀ i, inP part' i → ¬ (ov of' i = 0 ∧ un of' i = 0) := fun i hi h => by have := (hI'.pos i hi).1; omega
    have znp : ∀ i, i < N → ¬ D i → ¬ (ov of' i = 0 ∧ un of' i = 0) → inP part' i := fun i hi hd hz => Classical.byContradiction fun hn => hz (by rw [(hI'.same i hn).1, (hI'.same i hn).2]; exact hof i hi hd)
    obtain ⟨kp1, kp2, kp3⟩ := hI'.pos _ kp'
    obtain ⟨P, P0, P1, P2⟩ := hI'.com
    have ule := Int.le_of_dvd P0 (P2 _ kp')
    have grown : ∀ (b : Int) (x y : Int), 0 ≤ b → b.toNat < N → ¬ inP part' b.toNat → SInv g.2 N r.toNat of0 (of'.set b.toNat (x, y)) (part' ++ [b]) → DoneE (part' ++ [b]) k e →
        W (chk (0 ≤ b ∧ b < (of'.length : Int)) (let v71 := (of'.set b.toNat (x, y)); chk ((part'.length + ([b] : List Int).length) * 8 ≤ maxB) (ih2 ((w64 ((j : Int) + 1)), (v71, ((part' ++ [b]), ())))))) (fun x => SInv g.2 N r.toNat of0 x.2.1 x.1 ∧ Clo g.2 (inP x.1)) := by
      intro b x y b0 bN _ hS2 hd2
      rw [chk_true (by omega)]
      have mB : (maxB : Nat) = 140737488355328 := rfl
      rw [chk_true (by rw [mB]; simp only [List.length_singleton]; omega), w64_succ (by omega)]
      refine hS' (of'.set b.toNat (x, y), part' ++ [b]) ⟨hS2, ⟨t ++ [b], by rw [ht, List.append_assoc]⟩, fun e' he' => ?_⟩
      rcases take_succ_mem hj he' with h | h
      · exact (hd e' h).app
      · rw [h, he]; exact hd2
    simp only [isZero]
    by_cases ca : e.1 = k ∧ (ov of' e.2.1.toNat = 0 ∧ un of' e.2.1.toNat = 0)
    · have nb : ¬ inP part' e.2.1.toNat := fun h => inz _ h ca.2
      simp only [br_yes ca.1, chk_true (show 0 ≤ e.2.1 ∧ e.2.1 < (of'.length : Int) by omega), cut_inr, decide_eq_true (show ov of' e.2.1.toNat = 0 ∧ un of' e.2.1.toNat = 0 from ca.2), br_true, chk_true (show 0 ≤ k ∧ k < (of'.length : Int) by omega)]
      obtain ⟨x, y, et, hx, hy, hxy⟩ := times_spec (n := n) (o := ov of' k.toNat) (u := un of' k.toNat) (a := e.2.2.1) (b := e.2.2.2.1) ⟨kp1, by omega⟩ ⟨kp3, by omega⟩ ⟨m1, m2⟩ ⟨k1, k2⟩ hn
      rw [show of'.getD k.toNat zRatio = (ov of' k.toNat, un of' k.toNat) from rfl, et]
      simp only [bind_unit, cut_inr]
      have ek : e.1.toNat = k.toNat := by rw [ca.1]
      have hgr := hI'.grow (a := k.toNat) (b := e.2.1.toNat) (one := e.2.2.1) (two := e.2.2.2.1) kp' nb (by omega) ⟨m1, m2⟩ ⟨k1, k2⟩ (fun w hw => by have := hw e hmem; rw [ek] at this; exact this) (fun C hC h => by have := (hC e hmem).1; rw [ek] at this; exact this h) hx hy hxy
      rw [c2] at hgr
      refine grown e.2.1 x y t1 (by omega) nb hgr ⟨fun _ => by simp, fun h => ?_⟩
      exfalso
      rw [h] at nb
      exact nb kp'
    · by_cases cb : e.2.1 = k ∧ (ov of' e.1.toNat = 0 ∧ un of' e.1.toNat = 0)
      · have nb : ¬ inP part' e.1.toNat := fun h => inz _ h cb.2
        have ne : e.1 ≠ k := fun h => nb (by rw [h]; exact kp')
        simp only [br_no ne, br_yes cb.1, chk_true (show 0 ≤ e.1 ∧ e.1 < (of'.length : Int) by omega), cut_inr, decide_eq_true (show ov of' e.1.toNat = 0 ∧ un of' e.1.toNat = 0 from cb.2), br_true, br_false, chk_true (show 0 ≤ k ∧ k < (of'.length : Int) by omega)]
        obtain ⟨x, y, et, hx, hy, hxy⟩ := times_spec (n := n) (o := ov of' k.toNat) (u := un of' k.toNat) (a := e.2.2.2.1) (b := e.2.2.1) ⟨kp1, by omega⟩ ⟨kp3, by omega⟩ ⟨k1, k2⟩ ⟨m1, m2⟩ hn
        rw [show of'.getD k.toNat zRatio = (ov of' k.toNat, un of' k.toNat) from rfl, et]
        simp only [bind_unit, cut_inr]
        have ek : e.2.1.toNat = k.toNat := by rw [cb.1]
        have hgr := hI'.grow (a := k.toNat) (b := e.1.toNat) (one := e.2.2.2.1) (two := e.2.2.1) kp' nb (by omega) ⟨k1, k2⟩ ⟨m1, m2⟩ (fun w hw => by have := hw e hmem; rw [ek] at this; exact this.symm) (fun C hC h => by have := (hC e hmem).2; rw [ek] at this; exact this h) hx hy hxy
        rw [c1] at hgr
        exact grown e.1 x y f1 (by omega) nb hgr ⟨fun h => absurd h ne, fun _ => by simp⟩
      · have fine : DoneE part' k e := by
          constructor
          · intro h
            have hz : ¬ (ov of' e.2.1.toNat = 0 ∧ un of' e.2.1.toNat = 0) := fun hz => ca ⟨h, hz⟩
            have nd : ¬ D e.2.1.toNat := fun hd => nD k.toNat kp' (by have := (hD e hmem).2 hd; rw [h] at this; exact this)
            have := znp _ (by omega) nd hz
            unfold inP at this; rw [c2] at this; exact this
          · intro h
            have hz : ¬ (ov of' e.1.toNat = 0 ∧ un of' e.1.toNat = 0) := fun hz => cb ⟨h, hz⟩
            have nd : ¬ D e.1.toNat := fun hd => nD k.toNat kp' (by have := (hD e hmem).1 hd; rw [h] at this; exact this)
            have := znp _ (by omega) nd hz
            unfold inP at this; rw [c1] at this; exact this
        have go : W (ih2 ((w64 ((j : Int) + 1)), (of', (part', ())))) (fun x => SInv g.2 N r.toNat of0 x.2.1 x.1 ∧ Clo g.2 (inP x.1)) := by
          rw [w64_succ (by omega)]
          refine hS' (of', part') ⟨hI', ⟨t, ht⟩, fun e' he' => ?_⟩
          rcases take_succ_mem hj he' with h | h
          · exact hd e' h
          · rw [h, he]; exact fine
        have k1' : 0 ≤ e.2.1 ∧ e.2.1 < (of'.length : Int) := by omega
        have k2' : 0 ≤ e.1 ∧ e.1 < (of'.length : Int) := by omega
        by_cases a1 : e.1 = k
        · have hz : ¬ (ov of' e.2.1.toNat = 0 ∧ un of' e.2.1.toNat = 0) := fun hz => ca ⟨a1, hz⟩
          by_cases b1 : e.2.1 = k
          · have hz2 : ¬ (ov of' e.1.toNat = 0 ∧ un of' e.1.toNat = 0) := fun hz => cb ⟨b1, hz⟩
            simp only [br_yes a1, br_yes b1, cut_inr, chk_true k1', chk_true k2', decide_eq_false hz, decide_eq_false hz2, br_false]
            obtain ⟨x, ex, hx⟩ := go; rw [ex]; exact ⟨x, rfl, hx⟩
          · simp only [br_yes a1, br_no b1, cut_inr, chk_true k1', decide_eq_false hz, br_false]
            obtain ⟨x, ex, hx⟩ := go; rw [ex]; exact ⟨x, rfl, hx⟩
        · by_cases b1 : e.2.1 = k
          · have hz2 : ¬ (ov of' e.1.toNat = 0 ∧ un of' e.1.toNat = 0) := fun hz => cb ⟨b1, hz⟩
            simp only [br_no a1, br_yes b1, cut_inr, chk_true k2', decide_eq_false hz2, br_false]
            obtain ⟨x, ex, hx⟩ := go; rw [ex]; exact ⟨x, rfl, hx⟩
          · simp only [br_no a1, br_no b1, cut_inr, br_false]
            obtain ⟨x, ex, hx⟩ := go; rw [ex]; exact ⟨x, rfl, hx⟩
end Go.AmT
