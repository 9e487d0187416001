/- Copies of networks, in plain Lean: what is copied is the same. -/
import Derived.Test.YtkgknijpmcagmaaGreatLCopy
namespace Go.AmT
open Go Go.Am
set_option linter.unusedVariables false
set_option linter.unusedSimpArgs false

theorem sL1Copy_spec {n : Nat} {a : List Int} (h : a.length ≤ 1048576) : sL1Copy.f n a = some (a, ()) := by
  unfold sL1Copy.f
  rw [small_chk (by simp; omega)]; rfl
theorem cloneI_spec {n : Nat} {a : List Int} (h : a.length ≤ 1048576) : cloneI.f n a = some (a, ()) := by
  unfold cloneI.f
  rw [small_chk (by simp; omega)]; rfl
theorem cloneIn_spec {n : Nat} {a : List Instr} (h : a.length ≤ 1048576) : cloneIn.f n a = some (a, ()) := by
  unfold cloneIn.f
  rw [small_chk (by simp; omega)]; rfl
theorem sL3Program_spec {n : Nat} {p : Program} (h : SmallP p) : sL3Program.f n p = some (p, ()) := by
  have := h.code
  unfold sL3Program.f
  rw [small_chk (by simp; omega)]; rfl
theorem iCopyProgram_spec {n : Nat} {p : Program} (h : SmallP p) : iCopyProgram.f n p = some (p, ()) := by
  unfold iCopyProgram.f
  rw [cloneIn_spec h.code]; rfl
theorem sL3Link_spec {n : Nat} {p : Link} (h : SmallL p) : sL3Link.f n p = some (p, ()) := by
  unfold sL3Link.f
  rw [sL1Copy_spec h.tokens]; rfl
theorem iCopyNetwork_spec {n : Nat} {nt : Network} (h : SmallN nt) (hn : 1048576 < n) : iCopyNetwork.f n nt = some (nt, ()) := by
  have hp := h.progs
  have hl := h.links
  unfold iCopyNetwork.f
  refine Eq.trans (push_loop nt.1 id (fun i s => (i, (s, ()))) (R := fun ps => some ((ps, nt.2), ())) (fun ih i hi s hs => ?_) (fun ih ps => ?_) (by omega)) (by simp)
  · have c0 : 0 ≤ (i : Int) := by omega
    have c1 : (i : Int) < (nt.1.length : Int) := by omega
    have e1 : nt.1.getD i zProgram = nt.1[i] := getD_lt hi _
    simp only [c1, c0, and_self, chk_T, decide_true, br_true, Int.toNat_natCast, e1, iCopyProgram_spec (h.prog _ (List.getElem_mem hi)), Option.bind_some]
    rw [small_chk (by simp; omega), w64_succ (by omega)]; rfl
  · simp only [br_no (Int.lt_irrefl _)]
    refine Eq.trans (push_loop nt.2 id (fun i s => (i, (ps, (s, ())))) (R := fun ls => some ((ps, ls), ())) (fun ih i hi s hs => ?_) (fun ih ls => br_no (Int.lt_irrefl _)) (by omega)) (by simp)
    have c0 : 0 ≤ (i : Int) := by omega
    have c1 : (i : Int) < (nt.2.length : Int) := by omega
    have e1 : nt.2.getD i zLink = nt.2[i] := getD_lt hi _
    simp only [c1, c0, and_self, chk_T, decide_true, br_true, Int.toNat_natCast, e1, cloneI_spec (h.link _ (List.getElem_mem hi)).tokens, Option.bind_some]
    rw [small_chk (by simp; omega), w64_succ (by omega)]; rfl
theorem iChecked_spec {n : Nat} {nt : Network} (h : SmallN nt) (hn : 1048576 < n) : iChecked.f n nt = some (if okN nt = true then (nt, (true, ())) else (([], []), (false, ()))) := by
  unfold iChecked.f
  rw [iIsNetwork_spec h hn, iCopyNetwork_spec h hn]
  cases okN nt <;> rfl
end Go.AmT
