/- Eager runs, in plain Lean: both programs make the same. -/
import Derived.Test.YtgepghodhnmhjaaLRunE
namespace Go.AmT
open Go Go.Am
set_option linter.unusedVariables false
set_option linter.unusedSimpArgs false

def firstK (nt : Network) (s : State) : Nat := (List.range nt.1.length).findIdx (canP nt s)
theorem firstK_eq {nt : Network} {s : State} {k : Nat} (hk : k < nt.1.length) (h : canP nt s k = true) (h2 : ∀ j, j < k → canP nt s j = false) : firstK nt s = k := by
  unfold firstK
  rw [List.findIdx_eq (by simpa using hk)]
  simp only [List.getElem_range]
  exact ⟨h, fun j hj => h2 j hj⟩
def eagC (nt : Network) (most : Int) (x : Int × State) : Bool := decide (x.1 < most) && anyCan nt x.2
def eagF (nt : Network) (x : Int × State) : Int × State := (x.1 + 1, stepP nt x.2 (firstK nt x.2))
theorem any_first {nt : Network} {s : State} (h : anyCan nt s = true) : firstK nt s < nt.1.length ∧ canP nt s (firstK nt s) = true := by
  have h1 : (List.range nt.1.length).findIdx (canP nt s) < (List.range nt.1.length).length := by
    apply List.findIdx_lt_length_of_exists
    obtain ⟨k, hk, e⟩ := any_range.1 h
    exact ⟨k, List.mem_range.2 hk, e⟩
  have h2 := List.findIdx_getElem (w := h1)
  rw [List.getElem_range] at h2
  rw [List.length_range] at h1
  exact ⟨h1, h2⟩
theorem eag_good {nt : Network} {most : Int} (x : Int × State) (hx : JS nt x) (h : eagC nt most x = true) : JS nt (eagF nt x) ∧ muS (eagF nt x) < muS x := by
  unfold eagC at h
  rw [Bool.and_eq_true, decide_eq_true_eq] at h
  obtain ⟨h1, h2⟩ := any_first h.2
  exact good_can (most := most) x _ hx h1 h.1 h2
noncomputable def runEager (nt : Network) (s : State) (most : Int) : State × Bool :=
  if okSt nt s = true then ((whileF (eagC nt most) (eagF nt) 20001 (0, s)).2, !anyCan nt (whileF (eagC nt most) (eagF nt) 20001 (0, s)).2) else (([], ([], ([], 0))), false)
theorem eager_ok {nt : Network} {s : State} {most : Int} (o : OkSt nt s) : OkSt nt (whileF (eagC nt most) (eagF nt) 20001 (0, s)).2 :=
  (whileF_inv (J := JS nt) (fun x hx h => (eag_good x hx h).1) 20001 (0, s) ⟨o, Int.le_refl _, o.steps.1⟩).1
theorem canLoop {n : Nat} {nt : Network} {s : State} {r : Run} (R : IsRun nt s r) (o : OkSt nt s) (hn : 1048576 < n) {ρ : Type} {F : (Int × Unit → Option (Sum ρ (Int × Unit))) → Int × Unit → Option (Sum ρ (Int × Unit))}
    (h1 : ∀ ih x, F ih x = br (decide (x.1 < (nt.1.length : Int))) ((can.f n r x.1).bind fun r73 => br (!r73.1) (ih ((w64 (x.1 + 1)), ())) (some (.inr (x.1, ())))) (some (.inr (x.1, ())))) :
    iter n F (0, ()) = some (.inr (((if anyCan nt s = true then firstK nt s else nt.1.length : Nat) : Int), ())) := by
  have hp := o.net.progs
  refine W_eq.1 (W_up (fun i (_ : Unit) => ((i : Int), ())) nt.1.length (fun i _ => ∀ j, j < i → canP nt s j = false) (s0 := ()) rfl (fun j hj => by omega) (by omega) (fun ih s' hI => ?_) (fun ih i s' hi hI hS => ?_))
  · simp only [h1, br_no (Int.lt_irrefl _)]
    rw [W_some]
    have : anyCan nt s = false := any_no hI
    rw [this]; rfl
  · simp only [h1, br_yes (show (i : Int) < (nt.1.length : Int) by omega), can_spec R o hi, Option.bind_some]
    cases hc : canP nt s i
    · simp only [Bool.not_false, br_true]
      rw [w64_succ (by omega)]
      refine hS () (fun j hj => ?_)
      rcases Nat.lt_or_ge j i with h | h
      · exact hI j h
      · rwa [show j = i by omega]
    · simp only [Bool.not_true, br_false]
      rw [W_some]
      have : anyCan nt s = true := any_of hi hc
      rw [this, if_pos rfl, firstK_eq hi hc hI]
theorem iRunEager_spec {n : Nat} {nt : Network} {s : State} {most : Int} (h : SmallN nt) (hs : SmallSt s) (hn : 1048576 < n) : iRunEager.f n nt s most = some ((runEager nt s most).1, ((runEager nt s most).2, ())) := by
  unfold iRunEager.f runEager
  rw [iIsState_spec h hs hn]
  cases e1 : okSt nt s
  · rfl
  · have o := okSt_of e1
    have hp := o.net.progs
    simp only [Option.bind_some, Bool.not_true, br_false, if_true]
    refine W_eq.1 (W_bind.2 (W_and (newRun_spec (caps := none) o.net hs hn) (fun r ⟨to, fr, e, T, F⟩ => W_eq.2 ?_)))
    subst e
    have R : IsRun nt s (nt, (s, (to, (fr, none)))) := ⟨rfl, rfl, T, F⟩
    simp only
    generalize hw : whileF (eagC nt most) (eagF nt) 20001 (0, s) = w
    refine (cut_of (while_loop (c := eagC nt most) (f := eagF nt) (J := JS nt) (μ := muS) eag_good (fun x => (x.1, (nt.1, (nt.2, (x.2.2.2.2, ((none : Option (List Int)), (x.2.1, (x.2.2.1, (x.2.2.2.1, (to, (fr, ())))))))))))
      (G := fun x => some (Sum.inr (nt.1, (nt.2, (x.2.2.2.2, ((none : Option (List Int)), (x.2.1, (x.2.2.1, (x.2.2.2.1, (to, (fr, ()))))))))))) (n := n) (m := 20001) (x := (0, s)) (fun ih x hx => ?_) ⟨o, Int.le_refl _, o.steps.1⟩ (by have := muS_le (nt := nt) (x := (0, s)) ⟨o, Int.le_refl _, o.steps.1⟩; omega) (by have := muS_le (nt := nt) (x := (0, s)) ⟨o, Int.le_refl _, o.steps.1⟩; omega))).trans ?_
    rotate_left
    · rw [hw]
      have ow : OkSt nt w.2 := by rw [← hw]; exact eager_ok o
      have hq : quiet.f n ((nt.1, nt.2), ((w.2.1, (w.2.2.1, (w.2.2.2.1, w.2.2.2.2))), (to, (fr, none)))) = some (!anyCan nt w.2, ()) := quiet_spec (IsRun.step R) ow hn
      rw [hq]
      rfl
    · obtain ⟨m, s⟩ := x
      have hx' := hx
      obtain ⟨o, h0, h1⟩ := hx
      have hle := hx'.le
      have o : OkSt nt s := o
      have R' : IsRun nt s (nt, (s, (to, (fr, none)))) := R.step
      unfold eagC
      by_cases hm : m < most
      · simp only [br_yes hm]
        refine (cut_of (canLoop R' o hn (fun ih x => rfl))).trans ?_
        cases ha : anyCan nt s
        · simp only [Bool.false_eq_true, if_false]
          rw [br_yes (by trivial), if_neg (by simp)]
        · obtain ⟨f1, f2⟩ := any_first ha
          simp only [if_true]
          rw [br_no (by omega), if_pos (by simp [hm])]
          have hs := runStep_spec (n := n) R' o (small_of_ok o) f1 f2 hn
          simp only at hs
          rw [hs]
          simp only [Option.bind_some]
          rw [w64_id (n := m + 1) (by simp only at hle; omega) (by simp only at hle; omega)]
          rfl
      · simp only [br_no hm]
        rw [if_neg (by simp [hm])]
end Go.AmT
