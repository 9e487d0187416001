/- Processes that are reached from a process; cycles, in plain Lean. -/
import Derived.Test.YtfcehikkpoeebaaGreatPPerm
namespace Go.AmT
open Go Go.Am
set_option linter.unusedVariables false
set_option linter.unusedSimpArgs false

/-! ### sorting a short list -/
theorem wrap_small {k : Nat} (h : k ≤ 12) : IntKind.wrap .u64 ((k : Nat) : Int) = (k : Int) ∧ IntKind.wrap .u8 ((k : Nat) : Int) = (k : Int) := by
  have c : k = 0 ∨ k = 1 ∨ k = 2 ∨ k = 3 ∨ k = 4 ∨ k = 5 ∨ k = 6 ∨ k = 7 ∨ k = 8 ∨ k = 9 ∨ k = 10 ∨ k = 11 ∨ k = 12 := by omega
  rcases c with h | h | h | h | h | h | h | h | h | h | h | h | h <;> (subst h; exact ⟨by decide, by decide⟩)
theorem bLen64_W {n : Nat} {k : Nat} (h : k ≤ 12) : W (bLen64.f n ((k : Nat) : Int)) (fun _ => True) := by
  unfold bLen64.f
  rw [br_no (by omega), br_no (by omega), br_no (by omega), (wrap_small h).2, chk_true (by omega)]
  exact W_some.2 trivial
theorem bLen_W {n : Nat} {k : Nat} (h : k ≤ 12) : W (bLen.f n (IntKind.wrap .u64 ((k : Nat) : Int))) (fun _ => True) := by
  unfold bLen.f
  rw [(wrap_small h).1, W_bind]
  exact W_and (bLen64_W h) (fun r _ => W_some.2 trivial)
theorem cmpLess_spec {n : Nat} {x y : Int} : cmpLess.f n x y = some (decide (x < y), ()) := by
  unfold cmpLess.f isNaN.f
  simp [br]
theorem swap_perm {v : List Int} {i j : Nat} (hi : i < v.length) (hj : j < v.length) : ((v.set i (v.getD j 0)).set j (v.getD i 0)).Perm v := by
  rw [getD_lt hi, getD_lt hj]
  exact List.set_set_perm hi hj
theorem insSort_W {n : Nat} {a : List Int} (h : a.length ≤ 1048576) (hn : 1048576 < n) : W (insSort.f n a 0 (a.length : Int)) (fun r => r.1.Perm a) := by
  unfold insSort.f
  rw [show w64 (0 + 1) = 1 by decide]
  refine W_iter (fun x => 1 ≤ x.1 ∧ x.1 ≤ (a.length : Int) + 1 ∧ x.2.1.Perm a) (fun x => ((a.length : Int) + 1 - x.1).toNat) (fun ih x hI hS => ?_) ⟨by simp only; omega, by simp only; omega, List.Perm.refl _⟩ (by simp only; omega)
  obtain ⟨i, v, ⟨⟩⟩ := x
  simp only at hI ⊢
  obtain ⟨h1, h2, h3⟩ := hI
  by_cases hi : i < (a.length : Int)
  rotate_left
  · rw [br_no hi]; exact W_some.2 h3
  rw [br_yes hi]
  refine W_iter (fun x => 0 ≤ x.1 ∧ x.1 ≤ i ∧ x.2.1.Perm a) (fun x => x.1.toNat) (fun ih2 x hI2 hS2 => ?_) ⟨by omega, Int.le_refl _, h3⟩ (by simp only; omega)
  obtain ⟨j, u, ⟨⟩⟩ := x
  simp only at hI2 ⊢
  obtain ⟨g1, g2, g3⟩ := hI2
  have hl := g3.length_eq
  have next : W (ih (w64 (i + 1), (u, ()))) (fun r => r.1.Perm a) := by
    rw [w64_id (by omega) (by omega)]
    exact hS _ ⟨by omega, by simp only; omega, g3⟩ (by simp only; omega)
  by_cases hj : 0 < j
  rotate_left
  · rw [br_no hj]; exact next
  rw [br_yes hj, w64_id (n := j - 1) (by omega) (by omega), chk_true (by omega), chk_true (by omega), cmpLess_spec]
  simp only [Option.bind_some, cut_inr]
  by_cases hc : u.getD j.toNat 0 < u.getD (j - 1).toNat 0
  rotate_left
  · rw [br_no hc]; exact next
  rw [br_yes hc, chk_true (by omega), chk_true (by omega), chk_true (by omega)]
  rw [chk_true (by rw [List.length_set]; omega)]
  refine hS2 _ ⟨by simp only; omega, by simp only; omega, ?_⟩ (by simp only; omega)
  exact (swap_perm (by omega) (by omega)).trans g3
theorem pdqSort_W {n : Nat} {a : List Int} {x : Int} (h : a.length ≤ 12) (hn : 1048576 < n) : W (pdqSort.f n a 0 (a.length : Int) x) (fun r => r.1.Perm a) := by
  unfold pdqSort.f
  refine W_iter (fun _ => True) (fun _ => 0) (fun ih y _ _ => ?_) trivial (by omega)
  rw [Int.sub_zero, w64_id (by omega) (by omega), br_yes (by omega), W_bind]
  exact W_and (insSort_W (by omega) hn) (fun r hr => W_some.2 hr)
theorem sortI_W {n : Nat} {a : List Int} (h : a.length ≤ 12) (hn : 1048576 < n) : W (sortI.f n a) (fun r => r.1.Perm a) := by
  unfold sortI.f
  rw [W_bind]
  refine W_and (bLen_W h) (fun r _ => ?_)
  rw [W_bind]
  exact W_and (pdqSort_W h hn) (fun r hr => W_some.2 hr)

/-! ### what is reached -/
def Edge (nt : Network) (p q : Int) : Prop := ∃ l ∈ nt.2, l.1 = p ∧ l.2.2.1 = q ∧ 0 ≤ q
inductive Rc (nt : Network) (p : Int) : Int → Prop
  | one {q : Int} : Edge nt p q → Rc nt p q
  | tail {q r : Int} : Rc nt p q → Edge nt q r → Rc nt p r
theorem idxI_mem {a : List Int} {x : Int} : 0 ≤ idxI a x ↔ x ∈ a := by
  unfold idxI
  cases e : (List.range a.length).find? (fun i => decide (x = a.getD i 0)) with
  | none =>
    simp only
    constructor
    · intro h; omega
    · intro h
      obtain ⟨i, hi, e2⟩ := List.getElem_of_mem h
      have := List.find?_eq_none.1 e i (List.mem_range.2 hi)
      rw [getD_lt hi, e2] at this
      simp at this
  | some i =>
    simp only
    have h1 := List.mem_range.1 (List.mem_of_find?_eq_some e)
    have h2 := List.find?_some e
    simp only [decide_eq_true_eq] at h2
    refine ⟨fun _ => ?_, fun _ => by omega⟩
    rw [h2, getD_lt h1]; exact List.getElem_mem _
theorem nodup_rng {N : Nat} {l : List Int} (hd : l.Nodup) (hr : ∀ x ∈ l, 0 ≤ x ∧ x < (N : Int)) : l.length ≤ N := by
  rcases Nat.lt_or_ge N l.length with h | h
  · exfalso
    have := (perm_of_sub (m := (List.range N).map (fun i : Nat => (i : Int))) hd (fun x hx => ?_) (by simp; omega)).length_eq
    · simp at this; omega
    · have := hr x hx
      exact List.mem_map.2 ⟨x.toNat, List.mem_range.2 (by omega), by omega⟩
  · exact h
theorem Edge.rng {nt : Network} (o : OkN nt) {p q : Int} (h : Edge nt p q) (hp : 0 ≤ p) : 0 ≤ q ∧ q < (nt.1.length : Int) ∧ p < (nt.1.length : Int) := by
  obtain ⟨l, hl, h1, h2, h3⟩ := h
  obtain ⟨i, hi, rfl⟩ := List.getElem_of_mem hl
  have E := o.ends i hi
  refine ⟨h3, ?_, ?_⟩
  · rcases E.inn with ⟨h, _⟩ | ⟨_, h, _⟩ <;> omega
  · rcases E.out with ⟨h, _⟩ | ⟨_, h, _⟩ <;> omega
theorem Rc.rng {nt : Network} (o : OkN nt) {p q : Int} (h : Rc nt p q) (hp : 0 ≤ p) : 0 ≤ q ∧ q < (nt.1.length : Int) := by
  induction h with
  | one e => have := e.rng o hp; omega
  | tail _ e ih => have := e.rng o ih.1; omega

structure Bfs (nt : Network) (k : Int) (d : Nat) (out : List Int) : Prop where
  nodup : out.Nodup
  rc : ∀ q ∈ out, Rc nt k q
  le : d ≤ out.length + 1
  cl : ∀ i, i < d → ∀ q, Edge nt ((k :: out).getD i 0) q → q ∈ out
structure Inn (nt : Network) (k : Int) (d : Nat) (j : Nat) (out : List Int) : Prop where
  b : Bfs nt k d out
  lt : d < out.length + 1
  cl : ∀ i, i < j → (nt.2.getD i zLink).1 = (k :: out).getD d 0 → 0 ≤ (nt.2.getD i zLink).2.2.1 → (nt.2.getD i zLink).2.2.1 ∈ out
theorem head_app {k : Int} {out : List Int} {x : Int} {i : Nat} (h : i < out.length + 1) : (k :: (out ++ [x])).getD i 0 = (k :: out).getD i 0 := by
  cases i with
  | zero => rfl
  | succ i =>
    rw [List.getD_cons_succ, List.getD_cons_succ, getD_lt (by simp; omega), getD_lt (by omega), List.getElem_append_left]
section
variable {nt : Network} {k : Int} {d j : Nat} {out : List Int}
theorem Bfs.len (o : OkN nt) (hk : 0 ≤ k) (B : Bfs nt k d out) : out.length ≤ 12 := by
  have := nodup_rng B.nodup (fun x hx => (B.rc x hx).rng o hk)
  have := o.progs
  omega
theorem Inn.head (I : Inn nt k d j out) : (k :: out).getD d 0 = k ∨ Rc nt k ((k :: out).getD d 0) := by
  cases d with
  | zero => exact Or.inl rfl
  | succ d =>
    have := I.lt
    refine Or.inr (I.b.rc _ ?_)
    rw [List.getD_cons_succ, getD_lt (by omega)]; exact List.getElem_mem _
theorem Inn.start (B : Bfs nt k d out) (h : d < out.length + 1) : Inn nt k d 0 out := ⟨B, h, fun i hi => absurd hi (Nat.not_lt_zero _)⟩
def pushB (nt : Network) (p : Int) (out : List Int) (j : Nat) : Bool := decide ((nt.2.getD j zLink).1 = p) && (decide (0 ≤ (nt.2.getD j zLink).2.2.1) && !decide (0 ≤ idxI out (nt.2.getD j zLink).2.2.1))
theorem Inn.skip (I : Inn nt k d j out) (h : pushB nt ((k :: out).getD d 0) out j = false) : Inn nt k d (j + 1) out := by
  refine ⟨I.b, I.lt, fun i hi h1 h2 => ?_⟩
  by_cases e : i = j
  · subst e
    unfold pushB at h
    rw [decide_eq_true h1, decide_eq_true h2] at h
    simp only [Bool.true_and, Bool.not_eq_false', decide_eq_true_eq] at h
    exact idxI_mem.1 h
  · exact I.cl i (by omega) h1 h2
theorem Inn.add (I : Inn nt k d j out) (hj : j < nt.2.length) (h : pushB nt ((k :: out).getD d 0) out j = true) : Inn nt k d (j + 1) (out ++ [(nt.2.getD j zLink).2.2.1]) := by
  unfold pushB at h
  simp only [Bool.and_eq_true, decide_eq_true_eq, Bool.not_eq_true', decide_eq_false_iff_not, idxI_mem] at h
  obtain ⟨h1, h2, h3⟩ := h
  have hd := I.lt
  have ed : Edge nt ((k :: out).getD d 0) (nt.2.getD j zLink).2.2.1 := ⟨_, by rw [getD_lt hj]; exact List.getElem_mem _, h1, rfl, h2⟩
  refine ⟨⟨?_, fun q hq => ?_, by simp; omega, fun i hi q e => ?_⟩, by simp; omega, fun i hi e1 e2 => ?_⟩
  · rw [List.nodup_append]
    refine ⟨I.b.nodup, by simp, fun a ha b hb e => ?_⟩
    rw [List.mem_singleton] at hb
    subst hb; subst e; exact h3 ha
  · rcases List.mem_append.1 hq with hq | hq
    · exact I.b.rc q hq
    · rw [List.mem_singleton] at hq
      subst hq
      rcases I.head with e | e
      · rw [e] at ed; exact Rc.one ed
      · exact Rc.tail e ed
  · rw [head_app (by omega)] at e
    exact List.mem_append_left _ (I.b.cl i hi q e)
  · rw [head_app hd] at e1
    by_cases e : i = j
    · subst e; simp
    · exact List.mem_append_left _ (I.cl i (by omega) e1 e2)
theorem Inn.done (I : Inn nt k d nt.2.length out) : Bfs nt k (d + 1) out := by
  have hd := I.lt
  refine ⟨I.b.nodup, I.b.rc, by omega, fun i hi q e => ?_⟩
  by_cases c : i = d
  · subst c
    obtain ⟨l, hl, h1, h2, h3⟩ := e
    obtain ⟨x, hx, rfl⟩ := List.getElem_of_mem hl
    have := I.cl x hx (by rw [getD_lt hx]; exact h1) (by rw [getD_lt hx, h2]; exact h3)
    rw [getD_lt hx, h2] at this
    exact this
  · exact I.b.cl i (by omega) q e
theorem Bfs.end (B : Bfs nt k (out.length + 1) out) {q : Int} : q ∈ out ↔ Rc nt k q := by
  refine ⟨B.rc q, fun h => ?_⟩
  induction h with
  | one e => exact B.cl 0 (by omega) _ e
  | tail _ e ih =>
    obtain ⟨i, hi, e2⟩ := List.getElem_of_mem ih
    refine B.cl (i + 1) (by omega) _ ?_
    rw [List.getD_cons_succ, getD_lt hi, e2]; exact e
end
/-- how a slice of the row stands for the processes that are still to be looked at -/
def RowV (off len : Nat) (cells r : List Int) : Prop := (cells.drop off).take len = r ∧ len = r.length
theorem RowV.head {off len : Nat} {cells r : List Int} (h : RowV off len cells r) (hl : 0 < len) : cells.getD (off + 0) 0 = r.getD 0 0 := by
  rw [← h.1]
  simp only [List.getD_eq_getElem?_getD, List.getElem?_take, List.getElem?_drop]
  rw [if_pos hl]
theorem RowV.pop {off len : Nat} {cells r : List Int} (h : RowV off len cells r) : RowV (off + 1) (len - 1) cells (r.drop 1) := by
  refine ⟨?_, by rw [List.length_drop, ← h.2]⟩
  rw [← h.1, List.drop_take, List.drop_drop]
theorem RowV.push {off len : Nat} {cells r : List Int} (h : RowV off len cells r) (x : Int) : RowV 0 (((cells.drop off).take len) ++ [x]).length (((cells.drop off).take len) ++ [x]) (r ++ [x]) := by
  rw [h.1]
  refine ⟨by rw [List.drop_zero, List.take_length], rfl⟩

theorem iReached_W {n : Nat} {nt : Network} {k : Int} (h : SmallN nt) (o : OkN nt) (hk : 0 ≤ k) (hk2 : k < (nt.1.length : Int)) (hn : 1048576 < n) :
    W (iReached.f n nt k) (fun r => r.2.1 = true ∧ r.1.length ≤ 12 ∧ ∀ q, q ∈ r.1 ↔ Rc nt k q) := by
  have hp := o.progs
  have hlk := o.links
  unfold iReached.f
  rw [iIsNetwork_spec h hn, show okN nt = true by simp [okN, o]]
  simp only [bind_unit, Option.bind_some, Bool.not_true, br_false]
  rw [br_no (show ¬ k < 0 by omega)]
  simp only [cut_inr]
  rw [br_no (show ¬ (nt.1.length : Int) ≤ k by omega)]
  have hcut : ∀ (out : List Int) (p : Int) (i : Nat), out.length ≤ 12 →
      br (decide ((nt.2.getD i zLink).1 = p)) (br (decide (0 ≤ (nt.2.getD i zLink).2.2.1)) ((containsI.f n out (nt.2.getD i zLink).2.2.1).bind fun r => some (.inr ((!r.1), ()))) (some (.inr (false, ())))) (some (.inr (false, ())))
        = (some (.inr (pushB nt p out i, ())) : Option (Sum (List Int × (Bool × Unit)) (Bool × Unit))) := by
    intro out p i hl
    unfold pushB
    by_cases h1 : (nt.2.getD i zLink).1 = p
    · rw [br_yes h1, decide_eq_true h1, Bool.true_and]
      by_cases h2 : 0 ≤ (nt.2.getD i zLink).2.2.1
      · rw [br_yes h2, decide_eq_true h2, Bool.true_and, containsI_spec (by omega) hn]; rfl
      · rw [br_no h2, decide_eq_false h2, Bool.false_and]
    · rw [br_no h1, decide_eq_false h1, Bool.false_and]
  refine W_up (fun i (s : List Int × List Int) => ((i : Int), (s.1, (s.2, ())))) nt.2.length (fun i s => Inn nt k 0 i s.1 ∧ s.2 = k :: s.1) (s0 := ([], [k])) rfl
    ⟨Inn.start ⟨List.nodup_nil, fun q hq => absurd hq List.not_mem_nil, by simp, fun i hi => absurd hi (Nat.not_lt_zero _)⟩ (by simp), rfl⟩ (by omega) (fun ih s hI => ?_) (fun ih i s hi hI hS => ?_)
  rotate_left
  · obtain ⟨out, row⟩ := s
    simp only at hI ⊢
    obtain ⟨I, rfl⟩ := hI
    have hl := I.b.len o hk
    rw [br_yes (show (i : Int) < (nt.2.length : Int) by omega), chk_true (by omega)]
    simp only [Int.toNat_natCast]
    rw [chk_true (by simp only [List.length_cons]; omega)]
    have e0 : (k :: out).getD 0 0 = k := rfl
    rw [e0, hcut out k i hl]
    simp only [cut_inr]
    cases hb : pushB nt k out i with
    | false =>
      rw [br_false, w64_succ (by omega)]
      exact hS (out, k :: out) ⟨I.skip hb, rfl⟩
    | true =>
      have I' := I.add hi hb
      have hl' := I'.b.len o hk
      rw [br_true, small_chk (by simp; omega), small_chk (by simp; omega), w64_succ (by omega)]
      exact hS (out ++ [_], k :: out ++ [_]) ⟨I', rfl⟩
  obtain ⟨out, row⟩ := s
  simp only at hI ⊢
  obtain ⟨I, rfl⟩ := hI
  have hl := I.b.len o hk
  rw [br_no (Int.lt_irrefl _), chk_true (by simp only [List.length_cons]; omega)]
  refine W_iter (fun x => ∃ d, Bfs nt k d x.2.2.1 ∧ RowV x.1 x.2.1 x.2.2.2.1 ((k :: x.2.2.1).drop d)) (fun x => (12 - x.2.2.1.length) + x.2.1) (fun ih x hI hS => ?_) ⟨1, I.done, by simp [RowV]⟩ (by simp only [Int.toNat_natCast, List.length_cons]; omega)
  obtain ⟨off, len, out, cells, ⟨⟩⟩ := x
  simp only at hI ⊢
  obtain ⟨d, B, V⟩ := hI
  have hl := B.len o hk
  have hle := B.le
  have hlen := V.2
  rw [List.length_drop, List.length_cons] at hlen
  by_cases h0 : (0 : Int) < (len : Int)
  rotate_left
  · rw [br_no h0, W_bind]
    refine W_and (sortI_W hl hn) (fun r hr => W_some.2 ⟨rfl, by rw [hr.length_eq]; exact hl, fun q => ?_⟩)
    have : d = out.length + 1 := by omega
    subst this
    exact hr.mem_iff.trans B.end
  rw [br_yes h0]
  refine W_up (fun i (s : Nat × (Nat × (List Int × List Int))) => (s.1, (s.2.1, ((i : Int), (s.2.2.1, (s.2.2.2, ())))))) nt.2.length
    (fun i s => Inn nt k d i s.2.2.1 ∧ RowV s.1 s.2.1 s.2.2.2 ((k :: s.2.2.1).drop d)) (s0 := (off, (len, (out, cells)))) rfl ⟨Inn.start B (show d < out.length + 1 by omega), V⟩ (by omega) (fun ih2 s hI => ?_) (fun ih2 i s hi hI hS2 => ?_)
  · obtain ⟨off2, len2, out2, cells2⟩ := s
    simp only at hI ⊢
    obtain ⟨I2, V2⟩ := hI
    have lt2 := I2.lt
    have hl2 := I2.b.len o hk
    have hlen2 := V2.2
    rw [List.length_drop, List.length_cons] at hlen2
    rw [br_no (Int.lt_irrefl _), chk_true (by omega)]
    refine hS _ ⟨d + 1, I2.done, ?_⟩ ?_
    · have := V2.pop
      rw [List.drop_drop] at this
      simp only [Int.toNat_natCast]; exact this
    · simp only [Int.toNat_natCast]; omega
  · obtain ⟨off2, len2, out2, cells2⟩ := s
    simp only at hI ⊢
    obtain ⟨I2, V2⟩ := hI
    have lt2 := I2.lt
    have hl2 := I2.b.len o hk
    have hlen2 := V2.2
    rw [List.length_drop, List.length_cons] at hlen2
    have hd : cells2.getD (off2 + 0) 0 = (k :: out2).getD d 0 := by
      rw [V2.head (by omega)]
      simp only [List.getD_eq_getElem?_getD, List.getElem?_drop, Nat.add_zero]
    rw [br_yes (show (i : Int) < (nt.2.length : Int) by omega), chk_true (by omega)]
    simp only [Int.toNat_natCast]
    rw [chk_true (by omega), hd, hcut out2 _ i hl2]
    simp only [cut_inr]
    cases hb : pushB nt ((k :: out2).getD d 0) out2 i with
    | false =>
      rw [br_false, w64_succ (by omega)]
      exact hS2 (off2, (len2, (out2, cells2))) ⟨I2.skip hb, V2⟩
    | true =>
      have I' := I2.add hi hb
      have hl' := I'.b.len o hk
      have V' := V2.push (nt.2.getD i zLink).2.2.1
      have ed : (k :: out2).drop d ++ [(nt.2.getD i zLink).2.2.1] = (k :: (out2 ++ [(nt.2.getD i zLink).2.2.1])).drop d := by
        rw [← List.cons_append, List.drop_append_of_le_length (by simp; omega)]
      rw [ed] at V'
      rw [br_true, small_chk (by simp; omega), small_chk (by rw [V2.1]; simp; omega), w64_succ (by omega)]
      exact hS2 (0, (_, (_, _))) ⟨I', V'⟩

open Classical in
noncomputable def cyc (nt : Network) : Bool := decide (∃ k : Nat, k < nt.1.length ∧ Rc nt (k : Int) (k : Int))
open Classical in
theorem iHasCycle_spec {n : Nat} {nt : Network} (h : SmallN nt) (o : OkN nt) (hn : 1048576 < n) : iHasCycle.f n nt = some (cyc nt, ()) := by
  have hp := o.progs
  have : W (iHasCycle.f n nt) (fun r => (r.1 = true ↔ ∃ k : Nat, k < nt.1.length ∧ Rc nt (k : Int) (k : Int))) := by
    unfold iHasCycle.f
    refine W_up (fun i (_ : Unit) => ((i : Int), ())) nt.1.length (fun i _ => ∀ k : Nat, k < i → ¬ Rc nt (k : Int) (k : Int)) (s0 := ()) rfl (fun k hk => absurd hk (Nat.not_lt_zero _)) (by omega) (fun ih s hI => ?_) (fun ih i s hi hI hS => ?_)
    · simp only [br_no (Int.lt_irrefl _)]
      refine W_some.2 ⟨fun h => (by cases h), fun ⟨k, hk, r⟩ => absurd r (hI k hk)⟩
    · simp only [br_yes (show (i : Int) < (nt.1.length : Int) by omega)]
      rw [W_bind]
      refine W_and (iReached_W h o (by omega) (by omega) hn) (fun r hr => ?_)
      obtain ⟨h1, h2, h3⟩ := hr
      rw [h1, br_true, containsI_spec (by omega) hn, bind_unit]
      by_cases c : 0 ≤ idxI r.1 (i : Int)
      · rw [br_yes c]
        exact W_some.2 ⟨fun _ => ⟨i, hi, (h3 _).1 (idxI_mem.1 c)⟩, fun _ => rfl⟩
      · rw [br_no c, w64_succ (by omega)]
        refine hS () (fun k hk => ?_)
        by_cases e : k = i
        · subst e; exact fun rr => c (idxI_mem.2 ((h3 _).2 rr))
        · exact hI k (by omega)
  obtain ⟨⟨b, ⟨⟩⟩, e, hb⟩ := this
  rw [e]
  congr 2
  unfold cyc
  cases b with
  | true => exact (decide_eq_true (hb.1 rfl)).symm
  | false => exact (decide_eq_false (fun h => by have := hb.2 h; cases this)).symm

/-! ### processes numbered anew -/
end Go.AmT
