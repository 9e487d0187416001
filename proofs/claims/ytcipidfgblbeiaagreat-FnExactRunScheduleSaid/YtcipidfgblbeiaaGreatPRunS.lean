/- Runs under a schedule, in plain Lean: both programs make the same. -/
import Derived.Test.YtcipidfgblbeiaaGreatLRunS
namespace Go.AmT
open Go Go.Am
set_option linter.unusedVariables false
set_option linter.unusedSimpArgs false

/-- an element of a schedule: a step, if there is such a process and it can step -/
def schOne (nt : Network) (x : Int × State) (k : Int) : Int × State := if 0 ≤ k ∧ k < (nt.1.length : Int) ∧ canP nt x.2 k.toNat = true then (x.1 + 1, stepP nt x.2 k.toNat) else x
def schP (nt : Network) (s : State) (l : List Int) : Int × State := l.foldl (schOne nt) (0, s)
theorem schOne_good {nt : Network} {x : Int × State} {k : Int} (hx : JS nt x) : JS nt (schOne nt x k) := by
  unfold schOne
  split
  · rename_i h
    have h1 : k.toNat < nt.1.length := by omega
    exact (good_can (most := x.1 + 1) x _ hx h1 (by omega) h.2.2).1
  · exact hx
theorem sch_good {nt : Network} (l : List Int) : ∀ {x : Int × State}, JS nt x → JS nt (l.foldl (schOne nt) x) := by
  induction l with
  | nil => intro x hx; exact hx
  | cons k l ih => intro x hx; exact ih (schOne_good hx)
noncomputable def runSchedule (nt : Network) (s : State) (l : List Int) : State × Int := if okSt nt s = true then ((schP nt s l).2, (schP nt s l).1) else (([], ([], ([], 0))), 0)
theorem runSchedule_small {nt : Network} {s : State} {l : List Int} : SmallSt (runSchedule nt s l).1 := by
  unfold runSchedule
  split
  · rename_i h; exact small_of_ok (sch_good l (x := (0, s)) ⟨okSt_of h, Int.le_refl _, (okSt_of h).steps.1⟩).1
  · exact zSt_small
theorem sch_loop {γ ρ : Type} {nt : Network} {s : State} (o : OkSt nt s) (l : List Int) (hl : l.length ≤ 1048576) (enc : Int → Int → State → γ) {F : (γ → Option ρ) → γ → Option ρ} {G : Int → State → Option ρ}
    (h1 : ∀ ih i (hi : i < l.length) made s, JS nt (made, s) → F ih (enc made (i : Int) s) = if 0 ≤ l[i] ∧ l[i] < (nt.1.length : Int) ∧ canP nt s l[i].toNat = true then ih (enc (made + 1) ((i + 1 : Nat) : Int) (stepP nt s l[i].toNat)) else ih (enc made ((i + 1 : Nat) : Int) s))
    (h2 : ∀ ih made s, F ih (enc made (l.length : Int) s) = G made s) {n : Nat} (hn : l.length < n) : iter n F (enc 0 0 s) = G (schP nt s l).1 (schP nt s l).2 := by
  have := iter_line (F := F) (fun i => enc ((l.take i).foldl (schOne nt) (0, s)).1 (i : Int) ((l.take i).foldl (schOne nt) (0, s)).2) l.length (R := G (schP nt s l).1 (schP nt s l).2) (fun ih i hi => by
    have hJ : JS nt ((l.take i).foldl (schOne nt) (0, s)) := sch_good _ ⟨o, Int.le_refl _, o.steps.1⟩
    show F ih (enc _ (i : Int) _) = ih (enc _ _ _)
    rw [h1 ih i hi _ _ hJ, List.take_succ_eq_append_getElem hi, List.foldl_append]
    show _ = ih (enc (schOne nt _ l[i]).1 _ (schOne nt _ l[i]).2)
    unfold schOne
    split <;> rfl) (fun ih => by
    show F ih (enc _ (l.length : Int) _) = _
    rw [h2, List.take_length]; rfl) hn
  simpa using this
theorem sRunSchedule_spec {n : Nat} {nt : Network} {s : State} {l : List Int} (h : SmallN nt) (hs : SmallSt s) (hl : l.length ≤ 1048576) (hn : 1048576 < n) : sRunSchedule.f n nt s l = some ((runSchedule nt s l).1, ((runSchedule nt s l).2, ())) := by
  unfold sRunSchedule.f runSchedule
  rw [sIsState_spec h hs hn]
  cases e1 : okSt nt s
  · rfl
  · have o := okSt_of e1
    have hp := o.net.progs
    simp only [Option.bind_some, Bool.not_true, br_false, if_true]
    rw [sL5Copy_spec hs hn]
    simp only [Option.bind_some]
    refine sch_loop o l hl (fun made i s => (made, (i, (s.2.2.2, (s.1, (s.2.1, (s.2.2.1, ()))))))) (G := fun made s => some (s, (made, ()))) (fun ih i hi made s h => ?_) (fun ih made s => br_no (Int.lt_irrefl _)) (by omega)
    have c1 : (i : Int) < (l.length : Int) := by omega
    have c0 : 0 ≤ (i : Int) := by omega
    have e1 : l.getD i 0 = l[i] := getD_lt hi _
    have hle := h.le
    simp only [c1, c0, and_self, chk_T, decide_true, br_true, Int.toNat_natCast, e1]
    unfold sL3Has.f
    by_cases h0 : 0 ≤ l[i]
    · obtain ⟨k, ek⟩ : ∃ k : Nat, l[i] = (k : Int) := ⟨l[i].toNat, by omega⟩
      rw [ek, br_yes (by omega)]
      by_cases h1 : (k : Int) < (nt.1.length : Int)
      · have hk : k < nt.1.length := by omega
        have hc : sL5Can.f n nt (s.1, (s.2.1, (s.2.2.1, s.2.2.2))) (k : Int) = some (canP nt s k, ()) := sL5Can_spec h.1 hk hn
        simp only [Option.bind_some, h1, decide_true, br_true, hc, cut_inr, Int.toNat_natCast, true_and]
        cases hg : canP nt s k
        · rw [br_false, if_neg (by simp), w64_succ (by omega)]
        · rw [br_true, if_pos ⟨by omega, rfl⟩, sL5Step_spec h.1 (small_of_ok h.1) hk hg hn]
          simp only [Option.bind_some]
          rw [w64_succ (by omega), w64_id (n := made + 1) (by simp only at hle; omega) (by simp only at hle; omega)]
      · simp only [Option.bind_some, h1, decide_false, br_false, cut_inr]
        rw [if_neg (by simp), w64_succ (by omega)]
    · rw [br_no h0, if_neg (fun hh => h0 hh.1)]
      simp only [Option.bind_some, br_false, cut_inr]
      rw [w64_succ (by omega)]
theorem iRunSchedule_spec {n : Nat} {nt : Network} {s : State} {l : List Int} (h : SmallN nt) (hs : SmallSt s) (hl : l.length ≤ 1048576) (hn : 1048576 < n) : iRunSchedule.f n nt s l = some ((runSchedule nt s l).1, ((runSchedule nt s l).2, ())) := by
  unfold iRunSchedule.f runSchedule
  rw [iIsState_spec h hs hn]
  cases e1 : okSt nt s
  · rfl
  · have o := okSt_of e1
    have hp := o.net.progs
    simp only [Option.bind_some, Bool.not_true, br_false, if_true]
    refine W_eq.1 (W_bind.2 (W_and (newRun_spec (caps := none) o.net hs hn) (fun r ⟨to, fr, e, T, F⟩ => W_eq.2 ?_)))
    subst e
    have R : IsRun nt s (nt, (s, (to, (fr, none)))) := ⟨rfl, rfl, T, F⟩
    simp only
    refine sch_loop o l hl (fun made i s => (made, (i, (nt.1, (nt.2, (s.2.2.2, ((none : Option (List Int)), (s.1, (s.2.1, (s.2.2.1, (to, (fr, ())))))))))))) (G := fun made s => some (s, (made, ()))) (fun ih i hi made s h => ?_) (fun ih made s => br_no (Int.lt_irrefl _)) (by omega)
    have c1 : (i : Int) < (l.length : Int) := by omega
    have c0 : 0 ≤ (i : Int) := by omega
    have e1 : l.getD i 0 = l[i] := getD_lt hi _
    have hle := h.le
    have R' : IsRun nt s (nt, (s, (to, (fr, none)))) := R.step
    simp only [c1, c0, and_self, chk_T, decide_true, br_true, Int.toNat_natCast, e1]
    unfold isProcess.f
    by_cases h0 : 0 ≤ l[i]
    · obtain ⟨k, ek⟩ : ∃ k : Nat, l[i] = (k : Int) := ⟨l[i].toNat, by omega⟩
      rw [ek, br_yes (by omega)]
      by_cases h1 : (k : Int) < (nt.1.length : Int)
      · have hk : k < nt.1.length := by omega
        have hc : can.f n ((nt.1, nt.2), ((s.1, (s.2.1, (s.2.2.1, s.2.2.2))), (to, (fr, (none : Option (List Int)))))) (k : Int) = some (canP nt s k, ()) := can_spec R' h.1 hk
        simp only [Option.bind_some, h1, decide_true, br_true, hc, cut_inr, Int.toNat_natCast, true_and]
        cases hg : canP nt s k
        · rw [br_false, if_neg (by simp), w64_succ (by omega)]
        · rw [br_true, if_pos ⟨by omega, rfl⟩]
          have hs := runStep_spec (n := n) R' h.1 (small_of_ok h.1) hk hg hn
          simp only at hs
          rw [hs]
          simp only [Option.bind_some]
          rw [w64_succ (by omega), w64_id (n := made + 1) (by simp only at hle; omega) (by simp only at hle; omega)]
      · simp only [Option.bind_some, h1, decide_false, br_false, cut_inr]
        rw [if_neg (by simp), w64_succ (by omega)]
    · rw [br_no h0, if_neg (fun hh => h0 hh.1)]
      simp only [Option.bind_some, br_false, cut_inr]
      rw [w64_succ (by omega)]
theorem mInt_pos {l : List Int} {k : Int} (h : l.length ≤ 1048576) (h0 : 0 ≤ k) : 0 ≤ (mkL mInt l k).2 := by
  have := mInt_le (k := k) h l.length
  rw [mkK_end] at this; omega
theorem law_true (nt : Network) (s : State) (l : List Int) (h : InR tNetwork nt) (hst : InR tState s) : ∃ n, law.f n nt s l = some (true, ()) := by
  refine ⟨1048577, ?_⟩
  have hn : 1048576 < 1048577 := by omega
  unfold law.f
  by_cases hl : l.length ≤ 1048576
  rotate_left
  · rw [br_yes (by omega)]
  rw [br_no (show ¬ (1048576 < (l.length : Int)) by omega)]
  obtain ⟨r, e, r1, r2⟩ := szNetwork_spec (n := 1048577) (left := 1048576) (by omega) h (by omega) (by omega)
  simp only [e, Option.bind_some]
  by_cases hr : r < 0
  · simp [hr, br]
  · rw [br_no hr]
    have hS := r2 (by omega)
    obtain ⟨q, e, q1, q2⟩ := szState_spec (n := 1048577) (left := r) (by omega) hst (by omega) (by omega)
    simp only [e, Option.bind_some]
    by_cases hq : q < 0
    · simp [hq, br]
    · rw [br_no hq]
      have hT := q2 (by omega)
      have hU := runSchedule_small (nt := nt) (s := s) (l := l)
      have k1 := mNetwork_le (k := 1) hS
      have k2 := mState_le (k := (mNetwork nt 1).2) hT
      have k3 := mState_le (k := 1) hU
      have k4 := mInt_le (k := (mState s (mNetwork nt 1).2).2) hl l.length
      rw [mkK_end] at k4
      have c4 : ¬ (mkL mInt l (mState s (mNetwork nt 1).2).2).2 < 0 := by omega
      have m6 := markIntS_spec (n := 1048577) (k := (mState s (mNetwork nt 1).2).2) hl (by omega) (by omega) hn
      have c1 : ¬ (mState s (mNetwork nt 1).2).2 < 0 := by omega
      have c2 : ¬ (mState (runSchedule nt s l).1 1).2 < 0 := by omega
      have m1 := markNetwork_spec (n := 1048577) hS (show (0 : Int) ≤ 1 by omega) (show (1 : Int) ≤ 281474976710656 by omega) hn
      have m2 := markState_spec (n := 1048577) (k := (mNetwork nt 1).2) hT (by omega) (by omega) hn
      have m3 := markState_spec (n := 1048577) hU (show (0 : Int) ≤ 1 by omega) (show (1 : Int) ≤ 281474976710656 by omega) hn
      have m4 := heldState_spec (n := 1048577) hU (show (0 : Int) ≤ 1 by omega) (show (1 : Int) ≤ 281474976710656 by omega) hn
      have m5 : heldState.f 1048577 ((mState (runSchedule nt s l).1 1).1.1, ((mState (runSchedule nt s l).1 1).1.2.1, ((mState (runSchedule nt s l).1 1).1.2.2.1, (runSchedule nt s l).1.2.2.2))) 1 = some ((mState (runSchedule nt s l).1 1).2, ()) := m4
      simp only [toNetwork_spec hS hn, toState_spec hT hn, toIntS_spec hl hn, eqIntS_refl hl hn, m6, c4, sRunSchedule_spec hS hT hl hn, iRunSchedule_spec hS hT hl hn, eqNetwork_refl hS hn, eqState_refl hT hn, eqState_refl hU hn, Option.bind_some, decide_true, Bool.not_true, br_false, cut_inr, m1, m2, m3, m5, c1, c2, decide_false]
end Go.AmT
