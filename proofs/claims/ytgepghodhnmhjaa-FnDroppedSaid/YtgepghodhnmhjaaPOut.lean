/- The links of a network whose one end is outside, and templates, in plain Lean: both programs tell the same. -/
import Derived.Test.YtgepghodhnmhjaaLFeed
namespace Go.AmT
open Go Go.Am
set_option linter.unusedVariables false
set_option linter.unusedSimpArgs false

theorem concatIG_spec {n : Nat} {a : Int} (h0 : 0 ≤ a) (h1 : a ≤ 4194304) : concatIG.f n a = some ([], ()) := by
  have hm := maxB_eq
  unfold concatIG.f
  rw [br_no (by omega), w64_id (by omega) (by omega)]
  by_cases h : 0 < a - 0
  · rw [br_yes h, chk_true (by omega), chk_true (by omega), chk_true (by simp; omega)]
  · rw [br_no h]
theorem flat_take {α : Type} (ls : List (List α)) (i : Nat) : (ls.take i).flatten.length ≤ ls.flatten.length := by
  conv => rhs; rw [← List.take_append_drop i ls]
  rw [List.flatten_append, List.length_append]; omega
theorem concatI_all {n : Nat} {ls : List (List Int)} (hl : ls.length ≤ 1048576) (ht : ls.flatten.length ≤ 4194304) (hn : 1048576 < n) : concatI.f n ls = some (ls.flatten, ()) := by
  unfold concatI.f
  have hst : ((0 : Int), ((0 : Int), ())) = (fun (i : Nat) => (((ls.take i).flatten.length : Int), ((i : Int), ()))) 0 := by simp
  rw [hst]
  refine iter_line (fun i => (((ls.take i).flatten.length : Int), ((i : Int), ()))) ls.length (fun ih i hi => ?_) (fun ih => ?_) (by omega)
  · have c0 : 0 ≤ (i : Int) := by omega
    have c1 : (i : Int) < (ls.length : Int) := by omega
    have e1 : ls.getD i [] = ls[i] := getD_lt hi _
    have h1 := flat_take ls (i + 1)
    have e2 : (ls.take (i + 1)).flatten = (ls.take i).flatten ++ ls[i] := by rw [List.take_succ_eq_append_getElem hi, List.flatten_append]; simp
    rw [e2, List.length_append] at h1
    show br (decide ((i : Int) < (ls.length : Int))) _ _ = _
    rw [br_yes c1, chk_true ⟨c0, c1⟩]
    simp only [Int.toNat_natCast, e1]
    rw [w64_id (by omega) (by omega), br_no (by omega), w64_succ (by omega), e2, List.length_append, Int.natCast_add (List.take i ls).flatten.length]
  · simp only [List.take_length]
    rw [br_no (Int.lt_irrefl _), concatIG_spec (by omega) (by omega)]
    simp only [Option.bind_some]
    refine Eq.trans (iter_line (fun i => ((i : Int), ((ls.take i).flatten, ()))) ls.length (R := some (ls.flatten, ())) (fun ih i hi => ?_) (fun ih => ?_) (by omega)) rfl
    · have c0 : 0 ≤ (i : Int) := by omega
      have c1 : (i : Int) < (ls.length : Int) := by omega
      have e1 : ls.getD i [] = ls[i] := getD_lt hi _
      have h1 := flat_take ls (i + 1)
      have e2 : (ls.take (i + 1)).flatten = (ls.take i).flatten ++ ls[i] := by rw [List.take_succ_eq_append_getElem hi, List.flatten_append]; simp
      rw [e2, List.length_append] at h1
      show br (decide ((i : Int) < (ls.length : Int))) _ _ = _
      rw [br_yes c1, chk_true ⟨c0, c1⟩]
      simp only [Int.toNat_natCast, e1]
      rw [small_chk (by omega), w64_succ (by omega), e2]
    · simp only [List.take_length]
      exact br_no (Int.lt_irrefl _)
theorem concatI_spec {n : Nat} {a b : List Int} (ha : a.length ≤ 1048576) (hb : b.length ≤ 1048576) (hn : 1048576 < n) : concatI.f n [a, b] = some (a ++ b, ()) := by
  rw [concatI_all (by simp) (by simp; omega) hn]; simp

end Go.AmT
