/- Networks that are held to be as they were marked, in plain Lean: no condition but that they are small. -/
import Derived.Test.YtgddbcdkhfdojaaDoorPMark
namespace Go.AmT
open Go Go.Am
set_option linter.unusedVariables false
set_option linter.unusedSimpArgs false

theorem heldInstrS_spec {n : Nat} {l : List Instr} {k : Int} (hl : l.length ≤ 1048576) (h0 : 0 ≤ k) (h1 : k ≤ 1125899906842624) (hn : 1048576 < n) : heldInstrS.f n (mkL mInstr l k).1 k = some ((mkL mInstr l k).2, ()) := by
  unfold heldInstrS.f
  refine heldL_loop (l := l) (k := k) mInstr (fun k i => (k, ((i : Int), ()))) (fun ih i hi hg => ?_) (fun ih => ?_) (by omega)
  · have hk := mInstr_le (k := k) hl i
    have c0 : 0 ≤ (i : Int) := by omega
    have c1 : (i : Int) < ((mkL mInstr l k).1.length : Int) := by rw [mkL_len]; omega
    simp only [c1, c0, and_self, chk_T, decide_true, br_true, Int.toNat_natCast, hg]
    rw [w64_succ (by omega)]
    rw [w64_k (k := mkK mInstr l k i) (by omega) (by omega), w64_k (k := mkK mInstr l k i + 1) (by omega) (by omega), w64_k (k := mkK mInstr l k i + 1 + 1) (by omega) (by omega), w64_k (k := mkK mInstr l k i + 1 + 1 + 1) (by omega) (by omega)]
    simp [mInstr, br, Int.add_assoc]
  · simp only [br_no (show ¬ (l.length : Int) < ((mkL mInstr l k).1.length : Int) by rw [mkL_len]; omega)]

end Go.AmT
