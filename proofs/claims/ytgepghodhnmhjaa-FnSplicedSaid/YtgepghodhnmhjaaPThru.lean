/- A process that passes tokens on gives what it gets, in plain Lean. -/
import Derived.Test.YtgepghodhnmhjaaPSplK
import Derived.Test.YtgepghodhnmhjaaPKahn3
namespace Go.AmT
open Go Go.Am
set_option linter.unusedVariables false
set_option linter.unusedSimpArgs false

def thS (I : Nat → List Int) (x : Int) (n : Nat) : Lc := ((0, [x, 0, 0, 0]), (fun b => if b = 0 then (I 0).take n else []), fun b => if b = 0 then n else 0)
theorem th_read {I : Nat → List Int} {x : Int} {o : Nat → List Int} {u : Nat → Nat} (h : u 0 < (I 0).length) : lstep through I ((0, [x, 0, 0, 0]), o, u) = some ((1, [(I 0).getD (u 0) 0, 0, 0, 0]), o, upd u 0 (u 0 + 1)) := by
  have hw : wantP through (0, [x, 0, 0, 0]) = (2, 0) := rfl
  unfold lstep
  simp only [hw, Int.reduceEq, if_false, if_true, Int.toNat_zero]
  rw [if_pos h]
  rfl
theorem th_stop {I : Nat → List Int} {x : Int} {o : Nat → List Int} {u : Nat → Nat} (h : ¬ u 0 < (I 0).length) : lstep through I ((0, [x, 0, 0, 0]), o, u) = none := by
  have hw : wantP through (0, [x, 0, 0, 0]) = (2, 0) := rfl
  unfold lstep
  simp only [hw, Int.reduceEq, if_false, if_true, Int.toNat_zero]
  rw [if_neg h]
theorem th_write {I : Nat → List Int} {x : Int} {o : Nat → List Int} {u : Nat → Nat} : lstep through I ((1, [x, 0, 0, 0]), o, u) = some ((2, [x, 0, 0, 0]), upd o 0 (o 0 ++ [x]), u) := by
  have hw : wantP through (1, [x, 0, 0, 0]) = (3, 0) := rfl
  unfold lstep
  simp only [hw, Int.reduceEq, if_false, if_true, Int.toNat_zero]
  rfl
theorem th_jump {I : Nat → List Int} {x : Int} {o : Nat → List Int} {u : Nat → Nat} : lstep through I ((2, [x, 0, 0, 0]), o, u) = some ((0, [x, 0, 0, 0]), o, u) := by
  have hw : wantP through (2, [x, 0, 0, 0]) = (1, 0) := rfl
  unfold lstep
  simp only [hw, Int.reduceEq, if_false, if_true, Int.toNat_zero]
  rfl
theorem th_run {I : Nat → List Int} : ∀ n, n ≤ (I 0).length → ∃ x, lrun through I (3 * n) c0 = some (thS I x n)
  | 0, _ => ⟨0, by
      show some c0 = some _
      congr 1
      unfold c0 thS newA
      refine Prod.ext rfl (Prod.ext ?_ ?_)
      · funext b; simp
      · funext b; simp⟩
  | n + 1, h => by
    obtain ⟨x, e⟩ := th_run (I := I) n (by omega)
    refine ⟨(I 0).getD n 0, ?_⟩
    have h1 := th_read (I := I) (x := x) (o := (thS I x n).2.1) (u := (thS I x n).2.2) (by show n < (I 0).length; omega)
    rw [show 3 * (n + 1) = 3 * n + 3 by omega, lrun_add, e, Option.bind_some]
    show ((((some (thS I x n)).bind (lstep through I)).bind (lstep through I)).bind (lstep through I)) = _
    rw [Option.bind_some]
    have h1' : lstep through I (thS I x n) = _ := h1
    rw [h1', Option.bind_some, th_write, Option.bind_some, th_jump]
    congr 1
    unfold thS
    refine Prod.ext rfl (Prod.ext ?_ ?_)
    · funext b
      show upd _ _ _ b = _
      unfold upd
      by_cases hb : b = 0
      · subst hb
        simp only [if_true]
        rw [List.take_succ_eq_append_getElem (by omega), getD_lt (by omega)]
      · simp [hb]
    · funext b
      show upd _ _ _ b = _
      unfold upd
      by_cases hb : b = 0
      · subst hb; simp
      · simp [hb]
/-- it gives what it gets -/
theorem th_full (I : Nat → List Int) : ∃ M d, Full through I c0 M d ∧ d.2.1 0 = I 0 := by
  obtain ⟨x, e⟩ := th_run (I := I) (I 0).length (Nat.le_refl _)
  refine ⟨_, _, ⟨e, th_stop (by show ¬ (I 0).length < (I 0).length; omega)⟩, ?_⟩
  show (I 0).take (I 0).length = I 0
  rw [List.take_length]
end Go.AmT
