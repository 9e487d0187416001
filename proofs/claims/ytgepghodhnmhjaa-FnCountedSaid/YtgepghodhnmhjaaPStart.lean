/- The state at the start, in plain Lean: both programs make the same. -/
import Derived.Test.YtgepghodhnmhjaaLStart
namespace Go.AmT
open Go Go.Am
set_option linter.unusedVariables false
set_option linter.unusedSimpArgs false

theorem iNewActor_spec {n : Nat} {p : Program} (hp : SmallP p) (h : okP p = true) (hn : 1048576 < n) : iNewActor.f n p = some (newA, ()) := by
  unfold iNewActor.f
  rw [iIsProgram_spec hp hn, h]
  simp only [Option.bind_some, Bool.not_true, br_false]
  rw [chk_true (by have := maxB_eq; refine ⟨by trivial, ?_⟩; omega)]; rfl
theorem iStartState_spec {n : Nat} {nt : Network} (h : SmallN nt) (o : OkN nt) (hn : 1048576 < n) : iStartState.f n nt = some (start nt, ()) := by
  have ho : okN nt = true := by simp [okN, o]
  have hp := h.progs
  have hl := h.links
  unfold iStartState.f start
  rw [iIsNetwork_spec h hn, ho]
  simp only [Option.bind_some, Bool.not_true, br_false]
  refine push_loopE nt.1 (fun _ => newA) (fun i s => (i, (0, (s, ())))) (fun ih i hi s hs => ?_) (fun ih => ?_) (by omega)
  · have c1 : (i : Int) < (nt.1.length : Int) := by omega
    have e1 : nt.1.getD i zProgram = nt.1[i] := getD_lt hi _
    show br (decide ((i : Int) < (nt.1.length : Int))) _ _ = _
    rw [br_yes c1, chk_true ⟨Int.natCast_nonneg i, c1⟩]
    simp only [Int.toNat_natCast, e1]
    rw [iNewActor_spec (h.prog _ (List.getElem_mem hi)) (o.prog i hi) hn, Option.bind_some, small_chk (by simp; omega), w64_succ (by omega)]
  · show br (decide ((nt.1.length : Int) < (nt.1.length : Int))) _ _ = _
    rw [br_no (Int.lt_irrefl _)]
    generalize (nt.1.map fun _ => newA) = A
    have hst : ((0 : Int), ((0 : Int), (A, (([] : List (List Int)), (([] : List (List Int)), ()))))) = (fun (i : Nat) => ((i : Int), ((0 : Int), (A, ((nt.2.take i).map (fun l : Link => l.2.2.2.2), ((nt.2.take i).map (fun l : Link => l.2.2.2.2), ())))))) 0 := by simp
    show iter n _ ((0 : Int), ((0 : Int), (A, (([] : List (List Int)), (([] : List (List Int)), ()))))) = _
    rw [hst]
    refine iter_line (fun i => ((i : Int), ((0 : Int), (A, ((nt.2.take i).map (fun l : Link => l.2.2.2.2), ((nt.2.take i).map (fun l : Link => l.2.2.2.2), ())))))) nt.2.length (fun ih i hi => ?_) (fun ih => ?_) (by omega)
    · have c1 : (i : Int) < (nt.2.length : Int) := by omega
      have e1 : nt.2.getD i zLink = nt.2[i] := getD_lt hi _
      show br (decide ((i : Int) < (nt.2.length : Int))) _ _ = _
      rw [br_yes c1, chk_true ⟨Int.natCast_nonneg i, c1⟩]
      simp only [Int.toNat_natCast, e1]
      rw [cloneI_run (h.link _ (List.getElem_mem hi)).tokens, Option.bind_some, small_chk (by simp; omega)]
      simp only [Option.bind_some]
      rw [small_chk (by simp; omega), w64_succ (by omega), List.take_succ_eq_append_getElem hi, List.map_append]; rfl
    · show br (decide ((nt.2.length : Int) < (nt.2.length : Int))) _ _ = _
      rw [br_no (Int.lt_irrefl _), List.take_length]
end Go.AmT
