/- Runs under a schedule, in plain Lean: both programs make the same. -/
import Derived.Test.YtgepghodhnmhjaaLRunS
import Derived.Test.YtgepghodhnmhjaaPTurnS
import Derived.Test.YtgepghodhnmhjaaPCpS
namespace Go.AmT
open Go Go.Am
set_option linter.unusedVariables false
set_option linter.unusedSimpArgs false

/-- an element of a schedule: a step, if there is such a process and it can step -/
def schOne (nt : Network) (x : Int × State) (k : Int) : Int × State := if 0 ≤ k ∧ k < (nt.1.length : Int) ∧ canP nt x.2 k.toNat = true then (x.1 + 1, stepP nt x.2 k.toNat) else x
def schP (nt : Network) (s : State) (l : List Int) : Int × State := l.foldl (schOne nt) (0, s)
theorem schOne_good {nt : Network} {x : Int × State} {k : Int} (hx : JS nt x) : JS nt (schOne nt x k) := by
  unfold schOne
  split
  · rename_i h
    have h1 : k.toNat < nt.1.length := by omega
    exact (good_can (most := x.1 + 1) x _ hx h1 (by omega) h.2.2).1
  · exact hx
theorem sch_good {nt : Network} (l : List Int) : ∀ {x : Int × State}, JS nt x → JS nt (l.foldl (schOne nt) x) := by
  induction l with
  | nil => intro x hx; exact hx
  | cons k l ih => intro x hx; exact ih (schOne_good hx)
noncomputable def runSchedule (nt : Network) (s : State) (l : List Int) : State × Int := if okSt nt s = true then ((schP nt s l).2, (schP nt s l).1) else (([], ([], ([], 0))), 0)
theorem sch_loop {γ ρ : Type} {nt : Network} {s : State} (o : OkSt nt s) (l : List Int) (hl : l.length ≤ 1048576) (enc : Int → Int → State → γ) {F : (γ → Option ρ) → γ → Option ρ} {G : Int → State → Option ρ}
    (h1 : ∀ ih i (hi : i < l.length) made s, JS nt (made, s) → F ih (enc made (i : Int) s) = if 0 ≤ l[i] ∧ l[i] < (nt.1.length : Int) ∧ canP nt s l[i].toNat = true then ih (enc (made + 1) ((i + 1 : Nat) : Int) (stepP nt s l[i].toNat)) else ih (enc made ((i + 1 : Nat) : Int) s))
    (h2 : ∀ ih made s, F ih (enc made (l.length : Int) s) = G made s) {n : Nat} (hn : l.length < n) : iter n F (enc 0 0 s) = G (schP nt s l).1 (schP nt s l).2 := by
  have := iter_line (F := F) (fun i => enc ((l.take i).foldl (schOne nt) (0, s)).1 (i : Int) ((l.take i).foldl (schOne nt) (0, s)).2) l.length (R := G (schP nt s l).1 (schP nt s l).2) (fun ih i hi => by
    have hJ : JS nt ((l.take i).foldl (schOne nt) (0, s)) := sch_good _ ⟨o, Int.le_refl _, o.steps.1⟩
    show F ih (enc _ (i : Int) _) = ih (enc _ _ _)
    rw [h1 ih i hi _ _ hJ, List.take_succ_eq_append_getElem hi, List.foldl_append]
    show _ = ih (enc (schOne nt _ l[i]).1 _ (schOne nt _ l[i]).2)
    unfold schOne
    split <;> rfl) (fun ih => by
    show F ih (enc _ (l.length : Int) _) = _
    rw [h2, List.take_length]; rfl) hn
  simpa using this
theorem iRunSchedule_spec {n : Nat} {nt : Network} {s : State} {l : List Int} (h : SmallN nt) (hs : SmallSt s) (hl : l.length ≤ 1048576) (hn : 1048576 < n) : iRunSchedule.f n nt s l = some ((runSchedule nt s l).1, ((runSchedule nt s l).2, ())) := by
  unfold iRunSchedule.f runSchedule
  rw [iIsState_spec h hs hn]
  cases e1 : okSt nt s
  · rfl
  · have o := okSt_of e1
    have hp := o.net.progs
    simp only [Option.bind_some, Bool.not_true, br_false, if_true]
    refine W_eq.1 (W_bind.2 (W_and (newRun_spec (caps := none) o.net hs hn) (fun r ⟨to, fr, e, T, F⟩ => W_eq.2 ?_)))
    subst e
    have R : IsRun nt s (nt, (s, (to, (fr, none)))) := ⟨rfl, rfl, T, F⟩
    simp only
    refine sch_loop o l hl (fun made i s => (made, (i, (nt.1, (nt.2, (s.2.2.2, ((none : Option (List Int)), (s.1, (s.2.1, (s.2.2.1, (to, (fr, ())))))))))))) (G := fun made s => some (s, (made, ()))) (fun ih i hi made s h => ?_) (fun ih made s => br_no (Int.lt_irrefl _)) (by omega)
    have c1 : (i : Int) < (l.length : Int) := by omega
    have c0 : 0 ≤ (i : Int) := by omega
    have e1 : l.getD i 0 = l[i] := getD_lt hi _
    have hle := h.le
    have R' : IsRun nt s (nt, (s, (to, (fr, none)))) := R.step
    simp only [c1, c0, and_self, chk_T, decide_true, br_true, Int.toNat_natCast, e1]
    unfold isProcess.f
    by_cases h0 : 0 ≤ l[i]
    · obtain ⟨k, ek⟩ : ∃ k : Nat, l[i] = (k : Int) := ⟨l[i].toNat, by omega⟩
      rw [ek, br_yes (by omega)]
      by_cases h1 : (k : Int) < (nt.1.length : Int)
      · have hk : k < nt.1.length := by omega
        have hc : can.f n ((nt.1, nt.2), ((s.1, (s.2.1, (s.2.2.1, s.2.2.2))), (to, (fr, (none : Option (List Int)))))) (k : Int) = some (canP nt s k, ()) := can_spec R' h.1 hk
        simp only [Option.bind_some, h1, decide_true, br_true, hc, cut_inr, Int.toNat_natCast, true_and]
        cases hg : canP nt s k
        · rw [br_false, if_neg (by simp), w64_succ (by omega)]
        · rw [br_true, if_pos ⟨by omega, rfl⟩]
          have hs := runStep_spec (n := n) R' h.1 (small_of_ok h.1) hk hg hn
          simp only at hs
          rw [hs]
          simp only [Option.bind_some]
          rw [w64_succ (by omega), w64_id (n := made + 1) (by simp only at hle; omega) (by simp only at hle; omega)]
      · simp only [Option.bind_some, h1, decide_false, br_false, cut_inr]
        rw [if_neg (by simp), w64_succ (by omega)]
    · rw [br_no h0, if_neg (fun hh => h0 hh.1)]
      simp only [Option.bind_some, br_false, cut_inr]
      rw [w64_succ (by omega)]
end Go.AmT
