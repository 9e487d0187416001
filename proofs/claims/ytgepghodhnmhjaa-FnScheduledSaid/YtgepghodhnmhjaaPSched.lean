/- Schedules one after the other: the law. -/
import Derived.Test.YtgepghodhnmhjaaLSched
import Derived.Test.YtgepghodhnmhjaaPRunS
import Derived.Test.YtgepghodhnmhjaaPStepN
namespace Go.AmT
open Go Go.Am
set_option linter.unusedVariables false
set_option linter.unusedSimpArgs false

theorem makeSchedule_W {n : Nat} {code : List Int} {nt : Network} (hb : code.length ≤ 1048576) (o : OkN nt) (hn : 1048576 < n) : W (makeSchedule.f n code nt 40) (fun r => r.1.length ≤ 1000) := by
  have hp := o.progs
  unfold makeSchedule.f
  rw [W_bind]
  refine W_and (curNew_W hb hn) (fun r1 c1 => ?_)
  rw [W_bind]
  refine W_and (below_W hb c1) (fun r2 ⟨⟨a0, a1, _⟩, c2⟩ => ?_)
  have a1 := a1 (by omega)
  refine W_iter (fun x => 0 ≤ x.1 ∧ CurR code (x.2.1, (x.2.2.1, (x.2.2.2.1, ()))) ∧ (x.2.2.2.2.1.length : Int) + x.1 ≤ 600) (fun x => x.1.toNat) (fun ih x hx hS => ?_) ⟨a0, c2, by show ((0 : Nat) : Int) + r2.1 ≤ 600; omega⟩ (by show r2.1.toNat < n; omega)
  obtain ⟨k, cb, ci, ch, l, ⟨⟩⟩ := x
  obtain ⟨k0, k1, k2⟩ := hx
  simp only at k0 k1 k2
  by_cases hk : 0 < k
  · simp only [br_yes hk]
    rw [W_bind]
    refine W_and (below_W (c := (cb, (ci, (ch, ())))) hb k1) (fun r24 ⟨_, c24⟩ => ?_)
    rw [small_chk (by simp; omega), w64_id (n := k - 1) (by omega) (by omega)]
    exact hS _ ⟨by simp only; omega, c24, by simp; omega⟩ (by simp only; omega)
  · simp only [br_no hk]
    rw [W_some]
    show l.length ≤ 1000
    omega
theorem sch_shift {nt : Network} (l : List Int) : ∀ (c : Int) (s : State), l.foldl (schOne nt) (c, s) = (c + (schP nt s l).1, (schP nt s l).2) := by
  unfold schP
  induction l with
  | nil => intro c s; simp
  | cons k l ih =>
    intro c s
    rw [List.foldl_cons, List.foldl_cons]
    have h : schOne nt (c, s) k = (c + (schOne nt (0, s) k).1, (schOne nt (0, s) k).2) := by
      unfold schOne; split
      · simp
      · simp
    rw [h, ih, ih (schOne nt (0, s) k).1 (schOne nt (0, s) k).2]
    simp only [Prod.mk.injEq, and_true]
    omega
theorem sch_app {nt : Network} {s : State} (a b : List Int) : schP nt s (a ++ b) = ((schP nt s a).1 + (schP nt (schP nt s a).2 b).1, (schP nt (schP nt s a).2 b).2) := by
  show (a ++ b).foldl (schOne nt) (0, s) = _
  rw [List.foldl_append]
  exact sch_shift b _ _
theorem law_true (code : List Int) : ∃ n, law.f n code = some (true, ()) := by
  refine ⟨1048577, ?_⟩
  have hn : 1048576 < 1048577 := by omega
  unfold law.f
  by_cases hl : code.length ≤ 1048576
  rotate_left
  · rw [br_yes (by omega)]
  rw [br_no (show ¬ (1048576 < (code.length : Int)) by omega)]
  refine W_eq.1 ?_
  rw [W_bind]
  refine W_and (makeNetwork_W (m := 5) hl (by omega) hn) (fun r1 hN => ?_)
  have hS := hN.small
  have hO := hN.ok
  rw [W_bind]
  refine W_and (fresh_W hl hn) (fun r2 h2 => ?_)
  rw [W_bind]
  refine W_and (makeState_W h2 hS hO hn) (fun r3 h3 => ?_)
  rw [W_bind]
  refine W_and (fresh_W hl hn) (fun r4 h4 => ?_)
  rw [W_bind]
  refine W_and (makeSchedule_W h4 hO hn) (fun r5 h5 => ?_)
  rw [W_bind]
  refine W_and (fresh_W hl hn) (fun r6 h6 => ?_)
  rw [W_bind]
  refine W_and (makeSchedule_W h6 hO hn) (fun r7 h7 => ?_)
  obtain ⟨nt, ⟨⟩⟩ := r1
  obtain ⟨s, ⟨⟩⟩ := r3
  obtain ⟨a, ⟨⟩⟩ := r5
  obtain ⟨b, ⟨⟩⟩ := r7
  have h5 : a.length ≤ 1000 := h5
  have h7 : b.length ≤ 1000 := h7
  have o : OkSt nt s := h3.1.ok hO
  have Ja : JS nt (schP nt s a) := sch_good a (x := (0, s)) ⟨o, Int.le_refl _, o.steps.1⟩
  have ox : OkSt nt (schP nt s a).2 := Ja.1
  have Jb : JS nt (schP nt (schP nt s a).2 b) := sch_good b (x := (0, (schP nt s a).2)) ⟨ox, Int.le_refl _, ox.steps.1⟩
  have oy : OkSt nt (schP nt (schP nt s a).2 b).2 := Jb.1
  have hr : ∀ t l, OkSt nt t → runSchedule nt t l = ((schP nt t l).2, (schP nt t l).1) := fun t l h => by unfold runSchedule; rw [if_pos (okSt_true h)]
  have la := Ja.le
  have lb := Jb.le
  rw [W_eq]
  simp only
  rw [iRunSchedule_spec hS (small_of_ok o) (by omega) hn, bind_unit, hr s a o]
  simp only
  rw [iRunSchedule_spec hS (small_of_ok ox) (by omega) hn, bind_unit, hr _ b ox, small_chk (by simp; omega), small_chk (by simp; omega)]
  simp only [List.nil_append]
  rw [iRunSchedule_spec hS (small_of_ok o) (by simp; omega) hn, bind_unit, hr s (a ++ b) o, sch_app]
  simp only
  rw [w64_id (n := (schP nt s a).1 + (schP nt (schP nt s a).2 b).1) (by omega) (by omega), statesB_spec hS oy hn]
  simp only [decide_true, Bool.not_true, br_false, bind_unit, cut_inr]
  have hJ : ∀ i, OkSt nt ((a.take i).foldl (schOne nt) (0, s)).2 := fun i => (sch_good _ (x := (0, s)) ⟨o, Int.le_refl _, o.steps.1⟩).1
  refine (iter_line (fun i => ((i : Int), ((((a.take i).foldl (schOne nt) (0, s)).2).2.2.2, ((((a.take i).foldl (schOne nt) (0, s)).2).1, ((((a.take i).foldl (schOne nt) (0, s)).2).2.1, ((((a.take i).foldl (schOne nt) (0, s)).2).2.2.1, ())))))) a.length (R := some (true, ())) (fun ih i hi => ?_) (fun ih => ?_) (by omega))
  · have e1 : a.getD i 0 = a[i] := getD_lt hi _
    show br (decide ((i : Int) < (a.length : Int))) _ _ = _
    rw [br_yes (show (i : Int) < (a.length : Int) by omega), chk_true (by omega)]
    simp only [Int.toNat_natCast, e1]
    have ho := hJ i
    rw [List.take_succ_eq_append_getElem hi, List.foldl_append, List.foldl_cons, List.foldl_nil]
    generalize (a.take i).foldl (schOne nt) (0, s) = x at ho ⊢
    have hs : iStepN.f 1048577 nt (x.2.1, (x.2.2.1, (x.2.2.2.1, x.2.2.2.2))) a[i] = _ := iStepN_spec (s := x.2) (k := a[i]) hS ho hn
    rw [hs, bind_unit, w64_succ (by omega)]
    unfold schOne canZ
    by_cases hc : 0 ≤ a[i] ∧ a[i] < (nt.1.length : Int) ∧ canP nt x.2 a[i].toNat = true
    · rw [if_pos (decide_eq_true hc), if_pos hc]; rfl
    · rw [if_neg (by rw [decide_eq_false hc]; simp), if_neg hc]; rfl
  · show br (decide ((a.length : Int) < (a.length : Int))) _ _ = _
    rw [br_no (Int.lt_irrefl _), List.take_length]
    show (statesB.f 1048577 nt ((schP nt s a).2.1, ((schP nt s a).2.2.1, ((schP nt s a).2.2.2.1, (schP nt s a).2.2.2.2))) (schP nt s a).2).bind _ = _
    have := statesB_spec hS ox hn
    have e : statesB.f 1048577 nt ((schP nt s a).2.1, ((schP nt s a).2.2.1, ((schP nt s a).2.2.2.1, (schP nt s a).2.2.2.2))) (schP nt s a).2 = some (true, ()) := this
    rw [e]; rfl
end Go.AmT
