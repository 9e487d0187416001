/- Programs that are marked, and held to be as they were marked, in plain Lean. -/
import Derived.Test.YtgddbcdkhfdojaaDoorLMarkI
import Derived.Test.YtgddbcdkhfdojaaDoorPMark
import Derived.Test.YtgddbcdkhfdojaaDoorPMarkH
namespace Go.AmT
open Go Go.Am
set_option linter.unusedVariables false
set_option linter.unusedSimpArgs false

theorem markInstrS_spec {n : Nat} {l : List Instr} {k : Int} (hl' : l.length ≤ 1048576) (h0 : 0 ≤ k) (h1 : k ≤ 1125899906842624) (hn : 1048576 < n) : markInstrS.f n l k = some ((mkL mInstr l k).2, ((mkL mInstr l k).1, ())) := by
  unfold markInstrS.f
  refine markL_loop mInstr (fun k i m => (k, ((i : Int), (m, ())))) (fun ih i hi m hm hg => ?_) (fun ih m hm e => ?_) (by omega)
  · have hk := mInstr_le (k := k) hl' i
    have him : i < m.length := by omega
    have c0 : 0 ≤ (i : Int) := by omega
    have c1 : (i : Int) < (m.length : Int) := by omega
    simp only [c1, c0, and_self, chk_T, decide_true, br_true, Int.toNat_natCast, List.set_set, getD_set_same him, List.length_set]
    rw [w64_succ (by omega)]
    rw [w64_k (k := mkK mInstr l k i) (by omega) (by omega), w64_k (k := mkK mInstr l k i + 1) (by omega) (by omega), w64_k (k := mkK mInstr l k i + 1 + 1) (by omega) (by omega), w64_k (k := mkK mInstr l k i + 1 + 1 + 1) (by omega) (by omega)]
    simp only [mInstr, Int.add_assoc]
    rfl
  · simp only [br_no (show ¬ (l.length : Int) < (m.length : Int) by omega)]
    rw [← e]
theorem markProgram_spec {n : Nat} {p : Program} (hp : SmallP p) (hn : 1048576 < n) : markProgram.f n p 1 = some ((mkL mInstr p.2.2 1).2, ((mkL mInstr p.2.2 1).1, ())) := by
  unfold markProgram.f
  rw [markInstrS_spec hp.code (by omega) (by omega) hn]
  rfl
theorem heldProgram_spec {n : Nat} {p : Program} (hp : SmallP p) (hn : 1048576 < n) (a b : Int) : heldProgram.f n (a, (b, (mkL mInstr p.2.2 1).1)) 1 = some ((mkL mInstr p.2.2 1).2, ()) := by
  have hk := mInstr_le (k := 1) hp.code p.2.2.length
  rw [mkK_end] at hk
  unfold heldProgram.f
  rw [heldInstrS_spec hp.code (by omega) (by omega) hn]
  simp only [Option.bind_some]
  rw [br_no (by omega)]
theorem marks_pos {p : Program} (hp : SmallP p) : ¬ (mkL mInstr p.2.2 1).2 < 0 := by
  have hk := mInstr_le (k := 1) hp.code p.2.2.length
  rw [mkK_end] at hk
  omega
end Go.AmT
