/- The least numbers of all parts, as the reference finds them. -/
import Derived.Test.YtfcehikkpoeebaaPRepS
namespace Go.AmT
open Go Go.Am
set_option linter.unusedVariables false
set_option linter.unusedSimpArgs false

theorem take_succ_mem {α : Type} {l : List α} {i : Nat} (hi : i < l.length) {x : α} (h : x ∈ l.take (i + 1)) : x ∈ l.take i ∨ x = l[i] := by
  rw [List.take_succ_eq_append_getElem hi] at h
  rcases List.mem_append.1 h with h | h
  · exact Or.inl h
  · exact Or.inr (List.mem_singleton.1 h)

theorem l7Part_W {n : Nat} {g : Graph} (hg : okG g = true) {q0 : List Int} {r : Int} (hr : 0 ≤ r ∧ r < g.1) (hl : q0.length = g.1.toNat) (hn : 1000000000000 < n) :
    W (l7Part.f n g q0 r) (fun x => x.1 = true ∧ x.2.1.length = g.1.toNat ∧ ∃ S, Part g.2 (qf x.2.1) S ∧ S r.toNat ∧ (∀ i, ¬ S i → qf x.2.1 i = qf q0 i) ∧ (∀ i, S i → i < g.1.toNat ∧ 0 < qf x.2.1 i ∧ qf x.2.1 i ≤ 152587890625)) := by
  obtain ⟨g0, g8, g16, ge⟩ := okG_un hg
  generalize hNN : g.1.toNat = N at hl
  have hN8 : N ≤ 8 := by omega
  have hrN : r.toNat < N := by omega
  unfold l7Part.f
  have mB : (maxB : Int) = 140737488355328 := rfl
  rw [hNN, chk_true (by refine ⟨rfl, g0, ?_⟩; omega)]
  rw [chk_true (by simp only [List.length_replicate]; omega)]
  simp only
  rw [chk_true (by omega)]
  have hp0 : r.toNat < (List.replicate N false).length := by simpa using hrN
  have off : ∀ i, ¬ pf (List.replicate N false) i := by
    intro i hi
    unfold pf at hi
    rcases Nat.lt_or_ge i N with h | h
    · rw [getD_lt (by simpa using h)] at hi; simp at hi
    · have : (List.replicate N false).length ≤ i := by simpa using h
      rw [List.getD_eq_getElem?_getD, List.getElem?_eq_none this] at hi
      exact absurd hi (by simp)
  have start : PInv g.2 N r.toNat q0 (q0.set r.toNat 1) ((List.replicate N false).set r.toNat true) := by
    have only : ∀ i, pf ((List.replicate N false).set r.toNat true) i ↔ i = r.toNat := fun i => by rw [pf_set hp0]; exact ⟨fun h => h.elim id (fun h => absurd h (off i)), Or.inl⟩
    have h1 : qf (q0.set r.toNat 1) r.toNat = 1 := by rw [qf_set (by omega), if_pos rfl]
    refine ⟨by simpa using hl, by simp, (only _).2 rfl, fun i hi => ?_, fun i hi => ?_, fun C _ hC i hi => ?_, fun w _ i hi => ?_, fun i hi => ?_⟩
    · rw [(only i).1 hi, h1]; omega
    · rw [(only i).1 hi, h1, count_set hp0 (off _)]
      rw [Int.pow_succ]
      have : (0 : Int) < 25 ^ (List.replicate N false).count true := Int.pow_pos (by omega)
      omega
    · rw [(only i).1 hi]; exact hC
    · rw [(only i).1 hi]
    · rw [qf_set (by omega), if_neg (fun e => hi ((only i).2 e))]
  have cnt0 : 1 ≤ ((List.replicate N false).set r.toNat true).count true := by rw [count_set hp0 (off _)]; omega
  refine W_up (fun t (s : List Int × List Bool) => ((t : Int), (s.1, (s.2, ())))) N (fun t s => PInv g.2 N r.toNat q0 s.1 s.2 ∧ (CloE g.2 s.2 ∨ t + 1 ≤ s.2.count true)) (s0 := (q0.set r.toNat 1, (List.replicate N false).set r.toNat true)) rfl ⟨start, Or.inr (by simpa using cnt0)⟩ (by omega) (fun ih s hI => ?_) (fun ih t s ht hI hS => ?_)
  rotate_left
  · -- a pass
    obtain ⟨hP, hc⟩ := hI
    simp only [br_yes (show (t : Int) < g.1 by omega)]
    refine W_up (fun j (s' : List Int × List Bool) => ((j : Int), (s'.1, (s'.2, ())))) g.2.length (fun j s' => PInv g.2 N r.toNat q0 s'.1 s'.2 ∧ (CloE g.2 s'.2 ∨ t + 2 ≤ s'.2.count true ∨ (CloE (g.2.take j) s'.2 ∧ t + 1 ≤ s'.2.count true))) (s0 := s) rfl
      ⟨hP, hc.elim Or.inl (fun h => Or.inr (Or.inr ⟨by intro e he; simp at he, h⟩))⟩ (by omega) (fun ih2 s' hI' => ?_) (fun ih2 j s' hj hI' hS' => ?_)
    · simp only [br_no (Int.lt_irrefl _)]
      rw [w64_succ (by omega)]
      refine hS s' ⟨hI'.1, ?_⟩
      rcases hI'.2 with h | h | h
      · exact Or.inl h
      · exact Or.inr h
      · rw [List.take_length] at h; exact Or.inl h.1
    · obtain ⟨hP', hc'⟩ := hI'
      obtain ⟨q, p⟩ := s'
      simp only at hP' hc'
      have hj' : (j : Int) < (g.2.length : Int) := by omega
      obtain ⟨⟨f1, f2⟩, ⟨t1, t2⟩, ⟨m1, m2⟩, ⟨k1, k2⟩, -⟩ := ge _ (List.getElem_mem hj)
      have hmem := List.getElem_mem hj
      simp only [br_yes hj', Int.toNat_natCast, getD_lt hj]
      generalize he : g.2[j] = e at *
      have pl := hP'.pl
      rw [chk_true (by omega)]
      have skip : (pf p e.1.toNat ↔ pf p e.2.1.toNat) → W (ih2 ((w64 ((j : Int) + 1)), (q, (p, ())))) (fun x => x.1 = true ∧ x.2.1.length = N ∧ ∃ S, Part g.2 (qf x.2.1) S ∧ S r.toNat ∧ (∀ i, ¬ S i → qf x.2.1 i = qf q0 i) ∧ (∀ i, S i → i < N ∧ 0 < qf x.2.1 i ∧ qf x.2.1 i ≤ 152587890625)) := by
        intro hiff
        rw [w64_succ (by omega)]
        refine hS' (q, p) ⟨hP', ?_⟩
        rcases hc' with h | h | h
        · exact Or.inl h
        · exact Or.inr (Or.inl h)
        · refine Or.inr (Or.inr ⟨fun x hx => ?_, h.2⟩)
          rcases take_succ_mem hj hx with hx | hx
          · exact h.1 x hx
          · rw [he] at hx; rw [hx]; exact hiff
      have grown : ¬ (pf p e.1.toNat ↔ pf p e.2.1.toNat) → ∀ b : Nat, b < N → ¬ pf p b → ∀ q', PInv g.2 N r.toNat q0 q' (p.set b true) → W (ih2 ((w64 ((j : Int) + 1)), (q', ((p.set b true), ())))) (fun x => x.1 = true ∧ x.2.1.length = N ∧ ∃ S, Part g.2 (qf x.2.1) S ∧ S r.toNat ∧ (∀ i, ¬ S i → qf x.2.1 i = qf q0 i) ∧ (∀ i, S i → i < N ∧ 0 < qf x.2.1 i ∧ qf x.2.1 i ≤ 152587890625)) := by
        intro hne b hbN hb q' hP2
        rw [w64_succ (by omega)]
        refine hS' (q', p.set b true) ⟨hP2, ?_⟩
        have c1 := count_set (p := p) (b := b) (by omega) hb
        simp only
        rw [c1]
        rcases hc' with h | h | h
        · exact absurd (h e hmem) hne
        · exact Or.inr (Or.inl (by omega))
        · exact Or.inr (Or.inl (by omega))
      rw [chk_true (by omega)]
      by_cases hb : p.getD e.2.1.toNat false = true
      · by_cases ha : p.getD e.1.toNat false = true
        · simp only [hb, ha, br_true, chk_true (show 0 ≤ e.1 ∧ e.1 < (p.length : Int) by omega), chk_true (show 0 ≤ e.2.1 ∧ e.2.1 < (p.length : Int) by omega), Bool.not_true, cut_inr, br_false]
          exact skip ⟨fun _ => hb, fun _ => ha⟩
        · have ha' : p.getD e.1.toNat false = false := by simpa using ha
          simp only [hb, ha', br_true, chk_true (show 0 ≤ e.1 ∧ e.1 < (p.length : Int) by omega), chk_true (show 0 ≤ e.2.1 ∧ e.2.1 < (p.length : Int) by omega), Bool.not_true, Bool.not_false, cut_inr, br_false]
          have hne : ¬ (pf p e.1.toNat ↔ pf p e.2.1.toNat) := fun h => ha (h.2 hb)
          exact grow_W hP' hN8 hn (by omega) (by omega) hb ha (by omega) ⟨k1, k2⟩ ⟨m1, m2⟩ (fun w hw => (hw e hmem).symm) (fun C hC h => (hC e hmem).2 h) (grown hne e.1.toNat (by omega) ha)
      · have hb' : p.getD e.2.1.toNat false = false := by simpa using hb
        by_cases ha : p.getD e.1.toNat false = true
        · simp only [hb', ha, br_true, chk_true (show 0 ≤ e.1 ∧ e.1 < (p.length : Int) by omega), chk_true (show 0 ≤ e.2.1 ∧ e.2.1 < (p.length : Int) by omega), Bool.not_true, Bool.not_false, cut_inr, br_false]
          have hne : ¬ (pf p e.1.toNat ↔ pf p e.2.1.toNat) := fun h => hb (h.1 ha)
          exact grow_W hP' hN8 hn (by omega) (by omega) ha hb (by omega) ⟨m1, m2⟩ ⟨k1, k2⟩ (fun w hw => hw e hmem) (fun C hC h => (hC e hmem).1 h) (grown hne e.2.1.toNat (by omega) hb)
        · have ha' : p.getD e.1.toNat false = false := by simpa using ha
          simp only [hb', ha', br_true, chk_true (show 0 ≤ e.1 ∧ e.1 < (p.length : Int) by omega), chk_true (show 0 ≤ e.2.1 ∧ e.2.1 < (p.length : Int) by omega), Bool.not_true, Bool.not_false, cut_inr, br_false]
          exact skip ⟨fun h => absurd h ha, fun h => absurd h hb⟩
  -- the part is whole
  obtain ⟨q, p⟩ := s
  obtain ⟨hP, hc⟩ := hI
  simp only at hP hc
  have hclo : Clo g.2 (pf p) := by
    rcases hc with h | h
    · exact h
    · have := List.count_le_length (a := true) (l := p)
      have := hP.pl
      omega
  have cle : p.count true ≤ 8 := Nat.le_trans List.count_le_length (by rw [hP.pl]; exact hN8)
  have p25 := pow25 cle
  have qle : ∀ i, pf p i → 0 < qf q i ∧ qf q i ≤ 152587890625 := fun i hi => ⟨hP.pos i hi, by have := hP.big i hi; have := hP.pos i hi; omega⟩
  simp only [br_no (show ¬ ((N : Nat) : Int) < g.1 by omega)]
  have ql := hP.ql
  have pl := hP.pl
  refine W_up (fun i (s : Int) => (s, ((i : Int), ()))) N (fun i s => (0 ≤ s ∧ s ≤ 152587890625) ∧ (∀ k, k < i → pf p k → s ∣ qf q k ∧ 0 < s) ∧ PrimTo s (qf q) (fun k => k < i ∧ pf p k)) (s0 := 0) rfl ⟨by omega, fun k hk => absurd hk (Nat.not_lt_zero _), fun d b _ => by simp⟩ (by omega) (fun ih s hI => ?_) (fun ih i s hi hI hS => ?_)
  rotate_left
  · obtain ⟨⟨s0, s1⟩, sd, sp⟩ := hI
    simp only [br_yes (show (i : Int) < (q.length : Int) by omega), Int.toNat_natCast]
    rw [chk_true (by omega)]
    by_cases hpi : p.getD i false = true
    · rw [hpi, br_true, chk_true (by omega)]
      have := qle i hpi
      rw [show q.getD i 0 = qf q i from rfl, l7Gcd_ok s0 (by omega) (by omega), bind_unit, w64_succ (by omega)]
      have d1 : (Int.gcd s (qf q i) : Int) ∣ s := Int.gcd_dvd_left ..
      have d2 : (Int.gcd s (qf q i) : Int) ∣ qf q i := Int.gcd_dvd_right ..
      have gp := gcd_pos_int (a := s) this.1
      refine hS _ ⟨⟨by omega, ?_⟩, fun k hk hpk => ?_, fun d b hd => ?_⟩
      · have := Int.le_of_dvd this.1 d2; omega
      · refine ⟨?_, by omega⟩
        rcases Nat.lt_or_ge k i with h | h
        · exact Int.dvd_trans d1 (sd k h hpk).1
        · rw [show k = i by omega]; exact d2
      · exact dvd_gcd_mul (sp d b (fun k hk => hd k ⟨by omega, hk.2⟩)) (hd i ⟨by omega, hpi⟩)
    · have hpi' : p.getD i false = false := by simpa using hpi
      rw [hpi', br_false, w64_succ (by omega)]
      refine hS _ ⟨⟨s0, s1⟩, fun k hk hpk => ?_, fun d b hd => ?_⟩
      · refine sd k ?_ hpk
        rcases Nat.lt_or_ge k i with h | h
        · exact h
        · exact absurd hpk (by rw [show k = i by omega]; exact hpi)
      · exact sp d b (fun k hk => hd k ⟨by omega, hk.2⟩)
  obtain ⟨⟨s0, s1⟩, sd, sp⟩ := hI
  simp only [br_no (show ¬ (N : Int) < (q.length : Int) by omega)]
  have spos : 0 < s := (sd _ hrN hP.root).2
  have fin := upd_loop q (fun i x => if p.getD i false = true then x.tdiv s else x) (fun _ => true) none (fun ys => some (true, (ys, ()))) (n := n)
    (F := fun ih95 x94 => br (decide (x94.1 < (q.length : Int))) (chk (0 ≤ x94.1 ∧ x94.1 < (p.length : Int)) (br (p.getD x94.1.toNat false) (chk (0 ≤ x94.1 ∧ x94.1 < (x94.2.1.length : Int)) (if s = 0 then none else chk (0 ≤ x94.1 ∧ x94.1 < (x94.2.1.length : Int)) (let v96 := (x94.2.1.set x94.1.toNat (w64 ((x94.2.1.getD x94.1.toNat 0).tdiv s))); ih95 ((w64 (x94.1 + 1)), (v96, ()))))) (ih95 ((w64 (x94.1 + 1)), (x94.2.1, ()))))) (some (true, (x94.2.1, ()))))
    (fun ih i hi ys hy he => by
      simp only [br_yes (show (i : Int) < (q.length : Int) by omega), Int.toNat_natCast]
      rw [chk_true (by omega), w64_succ (by omega), if_pos trivial]
      have hgt : ys.getD i 0 = q[i] := by rw [List.getD_eq_getElem?_getD, he]; rfl
      by_cases hp : p.getD i false = true
      · rw [hp]
        simp only [br_true, if_true]
        have := qle i hp
        have e1 : qf q i = q[i] := by unfold qf; rw [getD_lt hi]
        rw [e1] at this
        have dv := (sd i (by omega) hp).1
        rw [e1] at dv
        have := tdiv_exact (a := q[i]) (b := s) (by omega) spos dv
        rw [chk_true (by omega), if_neg (by omega), chk_true (by omega), hgt, w64_id (by omega) (by omega)]
      · rw [Bool.not_eq_true] at hp
        rw [hp]
        simp only [br_false, Bool.false_eq_true, if_false]
        congr 3
        refine List.ext_getElem (by simp) (fun j h1 h2 => ?_)
        rw [List.getElem_set]
        split
        · rename_i hij; subst hij
          have := List.getElem?_eq_getElem h1
          rw [he] at this
          exact (Option.some.inj this).symm
        · rfl)
    (fun _ ih => by simp only [br_no (Int.lt_irrefl _)]) (by omega)
  rw [fin.1 (fun _ _ => rfl)]
  refine W_some.2 ⟨rfl, by simpa using ql, pf p, ?_⟩
  simp only
  have get : ∀ i, qf (q.mapIdx (fun i x => if p.getD i false = true then x.tdiv s else x)) i = if p.getD i false = true then (qf q i).tdiv s else qf q i := by
    intro i
    unfold qf
    rcases Nat.lt_or_ge i q.length with h | h
    · rw [getD_lt (by simpa using h), getD_lt h, List.getElem_mapIdx]
    · have h1 : q.getD i 0 = 0 := by simp [h]
      have h2 : (q.mapIdx (fun i x => if p.getD i false = true then x.tdiv s else x)).getD i 0 = 0 := by
        have : (q.mapIdx (fun i x => if p.getD i false = true then x.tdiv s else x)).length ≤ i := by simpa using h
        rw [List.getD_eq_getElem?_getD, List.getElem?_eq_none this]; rfl
      rw [h1, h2]; simp
  have getp : ∀ i, pf p i → qf (q.mapIdx (fun i x => if p.getD i false = true then x.tdiv s else x)) i = (qf q i).tdiv s := fun i hi => by rw [get, if_pos (show p.getD i false = true from hi)]
  have ex : ∀ i, pf p i → (qf q i).tdiv s * s = qf q i ∧ 0 < (qf q i).tdiv s ∧ (qf q i).tdiv s ≤ qf q i := by
    intro i hi
    have l := pf_lt hi
    have d := (sd i (by omega) hi).1
    have t := tdiv_exact (a := qf q i) (b := s) (by have := (qle i hi).1; omega) spos d
    exact ⟨t.1, tdiv_pos (qle i hi).1 spos d, t.2.2⟩
  refine ⟨part_mk hP.root hclo hP.near (fun i hi => by rw [getp i hi]; exact (ex i hi).2.1) (fun w hw i hi => ?_) ?_, hP.root, fun i hi => ?_, fun i hi => ⟨?_, ?_, ?_⟩⟩
  · rw [getp i hi, getp _ hP.root]
    refine Int.eq_of_mul_eq_mul_left (show s ≠ 0 by omega) ?_
    have e1 := (ex i hi).1
    have e2 := (ex _ hP.root).1
    have e3 := hP.tied w hw i hi
    calc s * ((qf q i).tdiv s * w r.toNat) = ((qf q i).tdiv s * s) * w r.toNat := by simp [Int.mul_assoc, Int.mul_left_comm, Int.mul_comm]
      _ = ((qf q r.toNat).tdiv s * s) * w i := by rw [e1, e2, e3]
      _ = s * ((qf q r.toNat).tdiv s * w i) := by simp [Int.mul_assoc, Int.mul_left_comm, Int.mul_comm]
  · refine primTo_div (a := s) (by omega) (q := qf q) (fun d b hd => ?_) (fun i hi => by rw [getp i hi]; exact (ex i hi).1.symm)
    exact sp d b (fun i hi => hd i hi.2)
  · rw [get, if_neg (show ¬ p.getD i false = true from hi)]; exact hP.same i hi
  · have := pf_lt hi; omega
  · rw [getp i hi]; exact (ex i hi).2.1
  · rw [getp i hi]; have := (ex i hi).2.2; have := (qle i hi).2; omega

/-! ### all parts -/
/-- what a search for least numbers gives -/
def RepOf (E : List Ed) (N : Nat) (x : List Int × (Bool × Unit)) : Prop :=
  (x.2.1 = true ∧ x.1.length = N ∧ AllP E N (qf x.1) ∧ Bal E (qf x.1) ∧ ∀ i, i < N → 0 < qf x.1 i ∧ qf x.1 i ≤ 200) ∨ (x = ([], (false, ())) ∧ ∀ q', AllP E N q' → Bal E q' → (∀ i, i < N → q' i ≤ 200) → False)

theorem bal_congr {g : Graph} (hg : okG g = true) {q q' : Nat → Int} (h : ∀ i, i < g.1.toNat → q i = q' i) (hb : Bal g.2 q') : Bal g.2 q := by
  obtain ⟨g0, g8, g16, ge⟩ := okG_un hg
  intro e he
  have := ge e he
  rw [h _ (by omega), h _ (by omega)]
  exact hb e he

section
variable {β : Type} {Q : β → Prop}
theorem bal_W {n : Nat} {g : Graph} (hg : okG g = true) {q : List Int} (hl : q.length = g.1.toNat) (hb : ∀ i, i < g.1.toNat → 0 ≤ qf q i ∧ qf q i ≤ 152587890625) (hn : 1000000000000 < n) {bad good : Option β}
    (h1 : Bal g.2 (qf q) → W good Q) (h2 : ¬ Bal g.2 (qf q) → W bad Q) :
    W (iter (α := (Int × Unit)) n (fun ih23 x22 => br (decide (x22.1 < (g.2.length : Int))) (chk (0 ≤ x22.1 ∧ x22.1 < (g.2.length : Int)) (let v24 := (g.2.getD x22.1.toNat zEdge); chk (0 ≤ v24.1 ∧ v24.1 < (q.length : Int)) (chk (0 ≤ v24.2.1 ∧ v24.2.1 < (q.length : Int)) (br (!decide ((w64 ((q.getD v24.1.toNat 0) * v24.2.2.1)) = (w64 ((q.getD v24.2.1.toNat 0) * v24.2.2.2.1)))) bad (ih23 ((w64 (x22.1 + 1)), ())))))) good) (0, ())) Q := by
  obtain ⟨g0, g8, g16, ge⟩ := okG_un hg
  refine W_chkloop g.2.length (fun i => decide (qf q (g.2.getD i zEdge).1.toNat * (g.2.getD i zEdge).2.2.1 = qf q (g.2.getD i zEdge).2.1.toNat * (g.2.getD i zEdge).2.2.2.1)) (bad := bad) (good := good) (fun ih i hi => ?_) (fun ih => ?_) (by omega) (fun h => ?_) (fun i hi h => ?_)
  · obtain ⟨⟨f1, f2⟩, ⟨t1, t2⟩, ⟨m1, m2⟩, ⟨k1, k2⟩, -⟩ := ge _ (List.getElem_mem hi)
    simp only [br_yes (show (i : Int) < (g.2.length : Int) by omega), Int.toNat_natCast, getD_lt hi]
    generalize g.2[i] = e at *
    rw [chk_true (by omega), chk_true (by omega), chk_true (by omega)]
    have ba := hb e.1.toNat (by omega)
    have bb := hb e.2.1.toNat (by omega)
    have ma : qf q e.1.toNat * e.2.2.1 ≤ qf q e.1.toNat * 5 := Int.mul_le_mul_of_nonneg_left m2 ba.1
    have mb : qf q e.2.1.toNat * e.2.2.2.1 ≤ qf q e.2.1.toNat * 5 := Int.mul_le_mul_of_nonneg_left k2 bb.1
    have na : 0 ≤ qf q e.1.toNat * e.2.2.1 := Int.mul_nonneg ba.1 (by omega)
    have nb : 0 ≤ qf q e.2.1.toNat * e.2.2.2.1 := Int.mul_nonneg bb.1 (by omega)
    rw [show q.getD e.1.toNat 0 = qf q e.1.toNat from rfl, show q.getD e.2.1.toNat 0 = qf q e.2.1.toNat from rfl, w64_id (n := qf q e.1.toNat * e.2.2.1) (by omega) (by omega), w64_id (n := qf q e.2.1.toNat * e.2.2.2.1) (by omega) (by omega), br_nif, w64_succ (by omega)]
  · simp only [br_no (Int.lt_irrefl _)]
  · refine h1 (fun e he => ?_)
    obtain ⟨i, hi, rfl⟩ := List.getElem_of_mem he
    have := h i hi
    rw [getD_lt hi] at this
    simpa using this
  · refine h2 (fun hB => ?_)
    have := hB _ (List.getElem_mem hi)
    rw [getD_lt hi] at h
    simp only [decide_eq_false_iff_not] at h
    exact h this
end

theorem sRep_W {n : Nat} {g : Graph} (hg : okG g = true) (hn : 1000000000000 < n) : W (sRep.f n g) (fun x => RepOf g.2 g.1.toNat x) := by
  obtain ⟨g0, g8, g16, ge⟩ := okG_un hg
  unfold sRep.f
  rw [sIsGraph_spec (by omega) (by omega), hg, bind_unit]
  simp only [Bool.not_true, br_false]
  have mB : (maxB : Int) = 140737488355328 := rfl
  rw [chk_true (by refine ⟨?_, g0, ?_⟩ <;> first | trivial | omega)]
  have zero : ∀ i, qf (List.replicate g.1.toNat (0 : Int)) i = 0 := by
    intro i; unfold qf
    rcases Nat.lt_or_ge i g.1.toNat with h | h
    · rw [getD_lt (by simpa using h)]; simp
    · have : (List.replicate g.1.toNat (0 : Int)).length ≤ i := by simpa using h
      rw [List.getD_eq_getElem?_getD, List.getElem?_eq_none this]; rfl
  refine W_up (fun k (s : List Int) => ((k : Int), (s, ()))) g.1.toNat (fun k s => s.length = g.1.toNat ∧ (∀ i, qf s i ≠ 0 → ∃ S, Part g.2 (qf s) S ∧ S i) ∧ (∀ i, i < g.1.toNat → 0 ≤ qf s i ∧ qf s i ≤ 152587890625) ∧ (∀ i, i < k → qf s i ≠ 0)) (s0 := List.replicate g.1.toNat 0) rfl
    ⟨by simp, fun i h => absurd (zero i) h, fun i _ => by rw [zero]; omega, fun i hi => absurd hi (Nat.not_lt_zero _)⟩ (by omega) (fun ih q hI => ?_) (fun ih k q hk hI hS => ?_)
  · obtain ⟨ql, qp, qb, qn⟩ := hI
    simp only [List.length_replicate, br_no (Int.lt_irrefl _)]
    have hall : AllP g.2 g.1.toNat (qf q) := fun i hi => qp i (qn i hi)
    refine bal_W hg ql qb hn (fun hB => ?_) (fun hB => ?_)
    · refine W_chkloop q.length (fun i => decide (q.getD i 0 ≤ 200)) (bad := some ([], (false, ()))) (good := some (q, (true, ()))) (fun ih i hi => ?_) (fun ih => ?_) (by omega) (fun h => ?_) (fun i hi h => ?_)
      · simp only [br_yes (show (i : Int) < (q.length : Int) by omega), Int.toNat_natCast]
        rw [chk_true (by omega), br_if, w64_succ (by omega)]
        by_cases h2 : 200 < q.getD i 0
        · rw [if_pos (by simpa using h2), if_neg (by simp only [decide_eq_true_eq]; omega)]
        · rw [if_neg (by simpa using h2), if_pos (by simp only [decide_eq_true_eq]; omega)]
      · simp only [br_no (Int.lt_irrefl _)]
      · refine W_some.2 (Or.inl ⟨rfl, ql, hall, hB, fun i hi => ⟨?_, ?_⟩⟩)
        · have := qb i hi; have := qn i hi; simp only; omega
        · have := h i (by omega); simp only [decide_eq_true_eq] at this; exact this
      · refine W_some.2 (Or.inr ⟨rfl, fun q' ha hb hle => ?_⟩)
        have := all_eq hall ha hb i (by omega)
        have := hle i (by omega)
        simp only [decide_eq_false_iff_not] at h
        unfold qf at *
        omega
    · refine W_some.2 (Or.inr ⟨rfl, fun q' ha hb hle => hB ?_⟩)
      exact bal_congr hg (all_eq hall ha hb) hb
  · obtain ⟨ql, qp, qb, qn⟩ := hI
    simp only [List.length_replicate, br_yes (show (k : Int) < ((g.1.toNat : Nat) : Int) by omega), Int.toNat_natCast]
    rw [chk_true (by omega), W_brd]
    refine ⟨fun (hz : qf q k = 0) => ?_, fun (hz : ¬ qf q k = 0) => ?_⟩
    · rw [W_bind]
      refine W_and (l7Part_W hg (r := (k : Int)) (by omega) ql hn) (fun x hx => ?_)
      obtain ⟨xb, q', ⟨⟩⟩ := x
      obtain ⟨-, ql', S, hP, hSk, hoff, hb'⟩ := hx
      simp only [Int.toNat_natCast] at ql' hP hSk hoff hb'
      simp only
      rw [w64_succ (by omega)]
      refine hS q' ⟨ql', fun i hi => ?_, fun i hi => ?_, fun i hi => ?_⟩
      · by_cases hSi : S i
        · exact ⟨S, hP, hSi⟩
        · rw [hoff i hSi] at hi
          obtain ⟨T, hT, hTi⟩ := qp i hi
          refine ⟨T, hT.congr (fun j hj => hoff j (fun hSj => ?_)), hTi⟩
          have nk : ¬ T k := fun h => by have := hT.pos k h; omega
          exact hP.near k hSk _ hT.clo.not nk j hSj hj
      · by_cases hSi : S i
        · have := hb' i hSi; omega
        · rw [hoff i hSi]; exact qb i hi
      · by_cases hSi : S i
        · have := hb' i hSi; omega
        · rw [hoff i hSi]
          refine qn i ?_
          rcases Nat.lt_or_ge i k with h | h
          · exact h
          · exact absurd (show S i by rw [show i = k by omega]; exact hSk) hSi
    · rw [w64_succ (by omega)]
      refine hS q ⟨ql, qp, qb, fun i hi => ?_⟩
      rcases Nat.lt_or_ge i k with h | h
      · exact qn i h
      · rw [show i = k by omega]; exact hz
end Go.AmT
