/- The state at the start, in plain Lean: both programs make the same. -/
import Derived.Test.YtfcehikkpoeebaaGreatLStart
namespace Go.AmT
open Go Go.Am
set_option linter.unusedVariables false
set_option linter.unusedSimpArgs false

theorem sL4Tokens_spec {n : Nat} {nt : Network} (h : SmallN nt) (hn : 1048576 < n) : sL4Tokens.f n nt = some (nt.2.map (fun l => l.2.2.2.2), ()) := by
  have hl := h.links
  unfold sL4Tokens.f
  refine push_loop nt.2 (fun l => l.2.2.2.2) (fun i s => (i, (s, ()))) (R := fun s => some (s, ())) (fun ih i hi s hs => ?_) (fun ih s => br_no (Int.lt_irrefl _)) (by omega)
  have c1 : (i : Int) < (nt.2.length : Int) := by omega
  have e1 : nt.2.getD i zLink = nt.2[i] := getD_lt hi _
  show br (decide ((i : Int) < (nt.2.length : Int))) _ _ = _
  rw [br_yes c1, chk_true ⟨Int.natCast_nonneg i, c1⟩]
  simp only [Int.toNat_natCast, e1]
  rw [sL1Copy_run (h.link _ (List.getElem_mem hi)).tokens, Option.bind_some, small_chk (by simp; omega), w64_succ (by omega)]
theorem sNewActor_spec {n : Nat} {p : Program} (hp : SmallP p) (h : okP p = true) (hn : 1048576 < n) : sNewActor.f n p = some (newA, ()) := by
  unfold sNewActor.f
  rw [sIsProgram_spec hp hn, h]; rfl
theorem iNewActor_spec {n : Nat} {p : Program} (hp : SmallP p) (h : okP p = true) (hn : 1048576 < n) : iNewActor.f n p = some (newA, ()) := by
  unfold iNewActor.f
  rw [iIsProgram_spec hp hn, h]
  simp only [Option.bind_some, Bool.not_true, br_false]
  rw [chk_true (by have := maxB_eq; refine ⟨by trivial, ?_⟩; omega)]; rfl
theorem sStartState_spec {n : Nat} {nt : Network} (h : SmallN nt) (o : OkN nt) (hn : 1048576 < n) : sStartState.f n nt = some (start nt, ()) := by
  have ho : okN nt = true := by simp [okN, o]
  have hp := h.progs
  unfold sStartState.f start
  rw [sIsNetwork_spec h hn, ho, sL4Tokens_spec h hn]
  simp only [Option.bind_some, Bool.not_true, br_false]
  generalize nt.2.map (fun l => l.2.2.2.2) = T
  refine push_loop nt.1 (fun _ => newA) (fun i s => (i, (0, (s, (T, (T, ())))))) (R := fun s => some ((s, (T, (T, 0))), ())) (fun ih i hi s hs => ?_) (fun ih s => br_no (Int.lt_irrefl _)) (by omega)
  have c1 : (i : Int) < (nt.1.length : Int) := by omega
  have e1 : nt.1.getD i zProgram = nt.1[i] := getD_lt hi _
  show br (decide ((i : Int) < (nt.1.length : Int))) _ _ = _
  rw [br_yes c1, chk_true ⟨Int.natCast_nonneg i, c1⟩]
  simp only [Int.toNat_natCast, e1]
  rw [sNewActor_spec (h.prog _ (List.getElem_mem hi)) (o.prog i hi) hn, Option.bind_some, small_chk (by simp; omega), w64_succ (by omega)]
end Go.AmT
