/- Schedules of least repetitions, in plain Lean. -/
import Derived.Test.YtfcehikkpoeebaaLSchd
import Derived.Test.YtfcehikkpoeebaaPRepS2
import Derived.Test.YtfcehikkpoeebaaPFirR
namespace Go.AmT
open Go Go.Am
set_option linter.unusedVariables false
set_option linter.unusedSimpArgs false

def canB (g : Graph) (tok : List Int) (k : Nat) : Bool := (List.range tok.length).all (canAt g tok (k : Int))
def ready (g : Graph) (q tok : List Int) (k : Nat) : Bool := decide (0 < qf q k) && canB g tok k
theorem canB_iff {g : Graph} {tok : List Int} {k : Nat} : canB g tok k = true ↔ ∀ i, i < tok.length → canAt g tok (k : Int) i = true := by
  unfold canB; simp

/-- a schedule: always the first node that is left and can fire -/
def schedF (g : Graph) : Nat → List Int → List Int → List Int → List Int × (Bool × Unit)
  | 0, q, tok, out => (out, (true, ()))
  | m + 1, q, tok, out => match (List.range g.1.toNat).find? (ready g q tok) with
    | some k => schedF g m (q.set k (qf q k - 1)) (after g tok (k : Int)) (out ++ [(k : Int)])
    | none => ([], (false, ()))

theorem schedF_fire {g : Graph} {m : Nat} {q tok out : List Int} {k : Nat} (hk : k < g.1.toNat) (h : ready g q tok k = true) (hf : ∀ j, j < k → ready g q tok j = false) :
    schedF g (m + 1) q tok out = schedF g m (q.set k (qf q k - 1)) (after g tok (k : Int)) (out ++ [(k : Int)]) := by
  have : (List.range g.1.toNat).find? (ready g q tok) = some k := List.find?_range_eq_some.2 ⟨h, List.mem_range.2 hk, fun j hj => by rw [hf j hj]; rfl⟩
  simp only [schedF, this]
theorem schedF_stuck {g : Graph} {m : Nat} {q tok out : List Int} (hf : ∀ j, j < g.1.toNat → ready g q tok j = false) : schedF g (m + 1) q tok out = ([], (false, ())) := by
  have : (List.range g.1.toNat).find? (ready g q tok) = none := List.find?_range_eq_none.2 (fun j hj => by rw [hf j hj]; rfl)
  simp only [schedF, this]

theorem sum_set : ∀ {q : List Int} {k : Nat} (h : k < q.length) (x : Int), (q.set k x).sum = q.sum - q.getD k 0 + x
  | a :: q, 0, _, x => by simp only [List.set_cons_zero, List.sum_cons, List.getD_cons_zero]; omega
  | a :: q, k + 1, h, x => by
    simp only [List.length_cons] at h
    simp only [List.set_cons_succ, List.sum_cons, List.getD_cons_succ]
    rw [sum_set (by omega)]; omega

theorem sum_bd : ∀ {q : List Int}, (∀ i, i < q.length → 0 ≤ qf q i ∧ qf q i ≤ 200) → 0 ≤ q.sum ∧ q.sum ≤ 200 * q.length
  | [], _ => by simp
  | a :: q, h => by
    have h0 := h 0 (by simp)
    have := sum_bd (q := q) (fun i hi => by have := h (i + 1) (by simp; omega); simpa [qf] using this)
    simp only [qf, List.getD_cons_zero] at h0
    simp only [List.sum_cons, List.length_cons]
    omega
theorem sum_nn : ∀ {q : List Int}, (∀ i, i < q.length → 0 ≤ qf q i) → 0 ≤ q.sum
  | [], _ => by simp
  | a :: q, h => by
    have h0 := h 0 (by simp)
    have := sum_nn (q := q) (fun i hi => by have := h (i + 1) (by simp; omega); simpa [qf] using this)
    simp only [qf, List.getD_cons_zero] at h0
    simp only [List.sum_cons]; omega
theorem sum_pos : ∀ {q : List Int} {k : Nat}, (∀ i, i < q.length → 0 ≤ qf q i) → k < q.length → qf q k ≤ q.sum
  | a :: q, 0, h, _ => by
    have := sum_nn (q := q) (fun i hi => by have := h (i + 1) (by simp; omega); simpa [qf] using this)
    simp only [qf, List.getD_cons_zero, List.sum_cons]; omega
  | a :: q, k + 1, h, hk => by
    simp only [List.length_cons] at hk
    have h0 := h 0 (by simp)
    simp only [qf, List.getD_cons_zero] at h0
    have := sum_pos (q := q) (k := k) (fun i hi => by have := h (i + 1) (by simp; omega); simpa [qf] using this) (by omega)
    simp only [qf, List.getD_cons_succ, List.sum_cons] at this ⊢
    omega

theorem after_rinv {g : Graph} (h1 : okG g = true) {i : Nat} (hi : i < 1600) {tok : List Int} (R : RInv g i tok tok) {k : Int} (hc : ∀ i, i < tok.length → canAt g tok k i = true) : RInv g (i + 1) (after g tok k) (after g tok k) := by
  have := rinv_step h1 hi R hc
  exact ⟨this.len, this.len, this.bd⟩

/-- what is left of a schedule -/
structure LeftS (g : Graph) (m0 : Nat) (R : List Int × (Bool × Unit)) (m : Nat) (q tok out : List Int) : Prop where
  eq : schedF g m q tok out = R
  ql : q.length = g.1.toNat
  qb : ∀ i, i < q.length → 0 ≤ qf q i ∧ qf q i ≤ 200
  ti : RInv g out.length tok tok
  mm : out.length + m = m0

theorem LeftS.fire {g : Graph} (hg : okG g = true) {m0 : Nat} (hm : m0 ≤ 1600) {R : List Int × (Bool × Unit)} {m : Nat} {q tok out : List Int} (h : LeftS g m0 R (m + 1) q tok out) {k : Nat} (hk : k < g.1.toNat) (hr : ready g q tok k = true) (hf : ∀ j, j < k → ready g q tok j = false) :
    LeftS g m0 R m (q.set k (qf q k - 1)) (after g tok (k : Int)) (out ++ [(k : Int)]) := by
  have hc : canB g tok k = true ∧ 0 < qf q k := by unfold ready at hr; simp only [Bool.and_eq_true, decide_eq_true_eq] at hr; exact ⟨hr.2, hr.1⟩
  have mm := h.mm
  refine ⟨by rw [← schedF_fire hk hr hf]; exact h.eq, by simpa using h.ql, fun i hi => ?_, ?_, by simp only [List.length_append, List.length_singleton]; omega⟩
  · rw [qf_set (by rw [h.ql]; exact hk)]
    have a := h.qb i (by simpa using hi)
    have b := h.qb k (by rw [h.ql]; exact hk)
    split <;> omega
  · rw [List.length_append, List.length_singleton]
    exact after_rinv hg (by omega) h.ti (canB_iff.1 hc.1)

section
variable {Q : List Int × (Bool × Unit) → Prop}
theorem sSched_W {n : Nat} {g : Graph} (hg : okG g = true) (hn : 1048576 < n) {m0 : Nat} (hm : m0 ≤ 1600) {R : List Int × (Bool × Unit)} {left : Int} {q0 tok0 : List Int} (h0 : left = (m0 : Int)) (h : LeftS g m0 R m0 q0 tok0 []) (hQ : Q R) :
    W (iter (α := (Int × (List Int) × (List Int) × (List Int) × Unit)) n (fun ih44 x43 => br (decide (0 < x43.1)) (iter (α := (Bool × (Int × (List Int) × (List Int) × (List Int) × Unit))) n (fun ih64 x63 => cut (α := (Bool × Unit)) (br (decide (x63.2.1 < g.1)) (some (.inr ((!x63.1), ()))) (some (.inr (false, ())))) fun y65 => br y65.1 ((l7Fire.f n g x63.2.2.2.1 x63.2.1).bind fun r66 => cut (α := (Bool × Unit)) (br r66.2.1 (chk (0 ≤ x63.2.1 ∧ x63.2.1 < (x63.2.2.1.length : Int)) (some (.inr ((decide (0 < (x63.2.2.1.getD x63.2.1.toNat 0))), ())))) (some (.inr (false, ())))) fun y67 => br y67.1 (chk (0 ≤ x63.2.1 ∧ x63.2.1 < (x63.2.2.1.length : Int)) (chk (0 ≤ x63.2.1 ∧ x63.2.1 < (x63.2.2.1.length : Int)) (let v68 := (x63.2.2.1.set x63.2.1.toNat (w64 ((x63.2.2.1.getD x63.2.1.toNat 0) - 1))); chk ((x63.2.2.2.2.1.length + ([x63.2.1] : List Int).length) * 8 ≤ maxB) (ih64 (true, ((w64 (x63.2.1 + 1)), (v68, (r66.1, ((x63.2.2.2.2.1 ++ [x63.2.1]), ()))))))))) (ih64 (x63.1, ((w64 (x63.2.1 + 1)), (x63.2.2.1, (x63.2.2.2.1, (x63.2.2.2.2.1, ()))))))) (br (!x63.1) (some ([], (false, ()))) (ih44 ((w64 (x43.1 - 1)), (x63.2.2.1, (x63.2.2.2.1, (x63.2.2.2.2.1, ()))))))) (false, (0, (x43.2.1, (x43.2.2.1, (x43.2.2.2.1, ())))))) (some (x43.2.2.2.1, (true, ())))) (left, (q0, (tok0, ([], ()))))) Q := by
  obtain ⟨g0, g8, g16, ge⟩ := okG_un hg
  subst h0
  refine W_iter (fun x => ∃ m : Nat, x.1 = (m : Int) ∧ LeftS g m0 R m x.2.1 x.2.2.1 x.2.2.2.1) (fun x => x.1.toNat) (fun ih x hx hS => ?_) ⟨m0, rfl, h⟩ (by simp only; omega)
  obtain ⟨left, q, tok, out, ⟨⟩⟩ := x
  obtain ⟨m, hlm, hL⟩ := hx
  simp only at hlm hL
  subst hlm
  simp only
  cases m with
  | zero =>
    rw [br_no (by omega)]
    refine W_some.2 ?_
    have := hL.eq
    simp only [schedF] at this
    rw [this]; exact hQ
  | succ m =>
    rw [br_yes (by omega)]
    have mm := hL.mm
    refine W_iter (fun x => ∃ k : Nat, x.2.1 = (k : Int) ∧ k ≤ g.1.toNat ∧ ((x.1 = false ∧ x.2.2.1 = q ∧ x.2.2.2.1 = tok ∧ x.2.2.2.2.1 = out ∧ ∀ j, j < k → ready g q tok j = false) ∨ (x.1 = true ∧ LeftS g m0 R m x.2.2.1 x.2.2.2.1 x.2.2.2.2.1))) (fun x => (g.1 - x.2.1).toNat) (fun ih2 x hx hS2 => ?_)
      ⟨0, rfl, by omega, Or.inl ⟨rfl, rfl, rfl, rfl, fun j hj => absurd hj (Nat.not_lt_zero _)⟩⟩ (by simp only; omega)
    obtain ⟨fired, k, q', tok', out', ⟨⟩⟩ := x
    obtain ⟨k, hk, hkN, hor⟩ := hx
    simp only at hk hor
    subst hk
    simp only
    rcases hor with ⟨rfl, rfl, rfl, rfl, hno⟩ | ⟨rfl, hL2⟩
    · by_cases hlt : (k : Int) < g.1
      · simp only [br_yes hlt, cut_inr, Bool.not_false, br_true]
        have hf := fine_run hg (i := out'.length) (by omega) hL.ti
        obtain ⟨f1, f2⟩ := l7Fire_spec (n := n) (k := (k : Int)) hf (by rw [hL.ti.len]; omega)
        by_cases hc : ∀ i, i < tok'.length → canAt g tok' (k : Int) i = true
        · rw [f1 hc]
          simp only [bind_unit, br_true, Int.toNat_natCast]
          rw [chk_true (by have := hL.ql; omega)]
          simp only [cut_inr]
          rw [W_brd]
          refine ⟨fun hp => ?_, fun hp => ?_⟩
          · have mB : (maxB : Nat) = 140737488355328 := rfl
            have ql := hL.ql
            have qb := hL.qb k (by omega)
            unfold qf at qb
            rw [chk_true (by omega), chk_true (by omega), chk_true (by rw [mB]; simp only [List.length_singleton]; omega), w64_succ (by omega), w64_id (n := q'.getD k 0 - 1) (by omega) (by omega)]
            have hr : ready g q' tok' k = true := by unfold ready; rw [canB_iff.2 hc, decide_eq_true (show 0 < qf q' k from hp)]; rfl
            exact hS2 _ ⟨k + 1, rfl, by omega, Or.inr ⟨rfl, hL.fire hg hm (by omega) hr hno⟩⟩ (by simp only; omega)
          · rw [w64_succ (by omega)]
            refine hS2 _ ⟨k + 1, rfl, by omega, Or.inl ⟨rfl, rfl, rfl, rfl, fun j hj => ?_⟩⟩ (by simp only; omega)
            rcases Nat.lt_or_ge j k with e | e
            · exact hno j e
            · rw [show j = k by omega]; unfold ready; rw [decide_eq_false (show ¬ 0 < qf q' k from hp)]; rfl
        · rw [f2 hc]
          simp only [bind_unit, br_false, cut_inr]
          rw [w64_succ (by omega)]
          refine hS2 _ ⟨k + 1, rfl, by omega, Or.inl ⟨rfl, rfl, rfl, rfl, fun j hj => ?_⟩⟩ (by simp only; omega)
          rcases Nat.lt_or_ge j k with e | e
          · exact hno j e
          · rw [show j = k by omega]; unfold ready
            have : canB g tok' k = false := by rw [← Bool.not_eq_true]; exact fun h => hc (canB_iff.1 h)
            rw [this]; simp
      · simp only [br_no hlt, cut_inr, br_false, Bool.not_false, br_true]
        refine W_some.2 ?_
        have := hL.eq
        rw [schedF_stuck (fun j hj => hno j (by omega))] at this
        rw [this]; exact hQ
    · have fin : W (ih ((w64 (((m + 1 : Nat) : Int) - 1)), (q', (tok', (out', ()))))) Q := by
        rw [w64_id (by omega) (by omega)]
        exact hS _ ⟨m, by simp only; omega, hL2⟩ (by simp only; omega)
      by_cases hlt : (k : Int) < g.1
      · simp only [br_yes hlt, cut_inr, Bool.not_true, br_false]
        exact fin
      · simp only [br_no hlt, cut_inr, Bool.not_true, br_false]
        exact fin

end

theorem schedF_len {g : Graph} : ∀ (m : Nat) (q tok out : List Int), (schedF g m q tok out).1.length ≤ out.length + m
  | 0, q, tok, out => by simp [schedF]
  | m + 1, q, tok, out => by
    simp only [schedF]
    split
    · rename_i k hk
      have := schedF_len (g := g) m (q.set k (qf q k - 1)) (after g tok (k : Int)) (out ++ [(k : Int)])
      simp only [List.length_append, List.length_singleton] at this
      omega
    · simp

theorem sum_snoc (l : List Int) (x : Int) : (l ++ [x]).sum = l.sum + x := by
  induction l with
  | nil => simp
  | cons a l ih => simp only [List.cons_append, List.sum_cons, ih]; omega

theorem sumq_loop {β : Type} {Q : β → Prop} {n : Nat} (hn : 1048576 < n) {q : List Int} (hq : q.length ≤ 1000) (hb : ∀ i, i < q.length → 0 ≤ qf q i ∧ qf q i ≤ 200) {F : (Int × (Int × Unit) → Option β) → Int × (Int × Unit) → Option β} (K : Option β)
    (hF : ∀ ih (i : Nat) (hi : i < q.length) s, F ih (s, ((i : Int), ())) = ih (w64 (s + q.getD i 0), (((i + 1 : Nat) : Int), ()))) (hE : ∀ ih, F ih (q.sum, ((q.length : Int), ())) = K) (hK : W K Q) : W (iter n F (0, (0, ()))) Q := by
  refine W_up (fun i (s : Int) => (s, ((i : Int), ()))) q.length (fun i s => s = (q.take i).sum) (s0 := 0) rfl (by simp) (by omega) (fun ih s hI => ?_) (fun ih i s hi hI hS => ?_)
  · rw [hI, List.take_length, hE]; exact hK
  · rw [hF ih i hi]
    have tb := sum_bd (q := q.take i) (fun j hj => by
      rw [List.length_take] at hj
      have := hb j (by omega)
      unfold qf at *
      rw [List.getD_eq_getElem?_getD, List.getElem?_take, if_pos (by omega), ← List.getD_eq_getElem?_getD]
      exact this)
    rw [List.length_take] at tb
    have b := hb i hi
    unfold qf at b
    have tl : (q.take (i + 1)).sum = (q.take i).sum + q.getD i 0 := by
      rw [List.take_succ_eq_append_getElem hi, getD_lt hi, sum_snoc]
    refine hS _ ?_
    rw [tl, hI, w64_id (by omega) (by omega)]

theorem sSched_eq {n : Nat} {g : Graph} (hok : okG g = true) (hn : 1000000000000 < n) : ∃ (r x : List Int × (Bool × Unit)), sSchedule.f n g = some r ∧ RepOf g.2 g.1.toNat x ∧
    (x.2.1 = false → r = ([], (false, ()))) ∧ (x.2.1 = true → r = schedF g x.1.sum.toNat x.1 (toks g) []) := by
  obtain ⟨g0, g8, g16, ge⟩ := okG_un hok
  obtain ⟨x, s1, h1⟩ := sRep_W hok hn
  suffices hh : ∃ r : List Int × (Bool × Unit), sSchedule.f n g = some r ∧ (x.2.1 = false → r = ([], (false, ()))) ∧ (x.2.1 = true → r = schedF g x.1.sum.toNat x.1 (toks g) []) by
    obtain ⟨r, a, b⟩ := hh
    exact ⟨r, x, a, h1, b⟩
  unfold sSchedule.f
  rw [s1, bind_unit]
  obtain ⟨xq, xb, ⟨⟩⟩ := x
  simp only at *
  cases xb with
  | false => exact ⟨([], (false, ())), rfl, fun _ => rfl, fun h => absurd h (by simp)⟩
  | true =>
    obtain ⟨-, ql, ha, hb, hle⟩ := h1.resolve_right (fun h => absurd h.1 (by simp))
    simp only at ql ha hb hle
    refine ⟨schedF g xq.sum.toNat xq (toks g) [], ?_, fun h => absurd h (by simp), fun _ => rfl⟩
    have qb : ∀ i, i < xq.length → 0 ≤ qf xq i ∧ qf xq i ≤ 200 := fun i hi => by have := hle i (by omega); omega
    have sb := sum_bd qb
    have hL : LeftS g xq.sum.toNat (schedF g xq.sum.toNat xq (toks g) []) xq.sum.toNat xq (toks g) [] := ⟨rfl, ql, qb, by simpa using start_inv hok, by simp⟩
    simp only [Bool.not_true, br_false]
    refine W_eq.1 ?_
    refine sumq_loop (by omega) (by omega) qb _ (fun ih i hi s => ?_) (fun ih => br_no (Int.lt_irrefl _)) ?_
    · simp only [br_yes (show (i : Int) < (xq.length : Int) by omega), Int.toNat_natCast]
      rw [chk_true (by omega), w64_succ (by omega)]
    · rw [l7Tokens_spec (by omega) (by omega), bind_unit]
      exact sSched_W hok (by omega) (m0 := xq.sum.toNat) (by omega) (by omega) hL rfl

end Go.AmT
