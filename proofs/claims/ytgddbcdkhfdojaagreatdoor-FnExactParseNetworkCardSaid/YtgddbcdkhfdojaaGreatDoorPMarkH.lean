/- Networks that are held to be as they were marked, in plain Lean: no condition but that they are small. -/
import Derived.Test.YtgddbcdkhfdojaaGreatDoorPMark
namespace Go.AmT
open Go Go.Am
set_option linter.unusedVariables false
set_option linter.unusedSimpArgs false

theorem heldInstrS_spec {n : Nat} {l : List Instr} {k : Int} (hl : l.length ≤ 1048576) (h0 : 0 ≤ k) (h1 : k ≤ 1125899906842624) (hn : 1048576 < n) : heldInstrS.f n (mkL mInstr l k).1 k = some ((mkL mInstr l k).2, ()) := by
  unfold heldInstrS.f
  refine heldL_loop (l := l) (k := k) mInstr (fun k i => (k, ((i : Int), ()))) (fun ih i hi hg => ?_) (fun ih => ?_) (by omega)
  · have hk := mInstr_le (k := k) hl i
    have c0 : 0 ≤ (i : Int) := by omega
    have c1 : (i : Int) < ((mkL mInstr l k).1.length : Int) := by rw [mkL_len]; omega
    simp only [c1, c0, and_self, chk_T, decide_true, br_true, Int.toNat_natCast, hg]
    rw [w64_succ (by omega)]
    rw [w64_k (k := mkK mInstr l k i) (by omega) (by omega), w64_k (k := mkK mInstr l k i + 1) (by omega) (by omega), w64_k (k := mkK mInstr l k i + 1 + 1) (by omega) (by omega), w64_k (k := mkK mInstr l k i + 1 + 1 + 1) (by omega) (by omega)]
    simp [mInstr, br, Int.add_assoc]
  · simp only [br_no (show ¬ (l.length : Int) < ((mkL mInstr l k).1.length : Int) by rw [mkL_len]; omega)]

theorem heldProgramS_spec {n : Nat} {l : List Program} {k : Int} (hl : l.length ≤ 1048576) (hp : ∀ p ∈ l, SmallP p) (h0 : 0 ≤ k) (h1 : k ≤ 562949953421312) (hn : 1048576 < n) : heldProgramS.f n (mkL mProgram l k).1 k = some ((mkL mProgram l k).2, ()) := by
  unfold heldProgramS.f
  refine heldL_loop (l := l) (k := k) mProgram (fun k i => (k, ((i : Int), ()))) (fun ih i hi hg => ?_) (fun ih => ?_) (by omega)
  · have hk := mProgram_le (k := k) hl hp i
    have hk2 := mInstr_le (k := mkK mProgram l k i + 2) (hp _ (List.getElem_mem hi)).code l[i].2.2.length
    rw [mkK_end] at hk2
    have c0 : 0 ≤ (i : Int) := by omega
    have c1 : (i : Int) < ((mkL mProgram l k).1.length : Int) := by rw [mkL_len]; omega
    simp only [c1, c0, and_self, chk_T, decide_true, br_true, Int.toNat_natCast, hg]
    rw [w64_succ (by omega)]
    rw [w64_k (k := mkK mProgram l k i) (by omega) (by omega), w64_k (k := mkK mProgram l k i + 1) (by omega) (by omega)]
    simp only [mProgram, Int.add_assoc, show (1 : Int) + 1 = 2 from rfl, heldInstrS_spec (hp _ (List.getElem_mem hi)).code (show 0 ≤ mkK mProgram l k i + 2 by omega) (show mkK mProgram l k i + 2 ≤ 1125899906842624 by omega) hn, Option.bind_some]
    have c3 : ¬ (mkL mInstr l[i].2.2 (mkK mProgram l k i + 2)).2 < 0 := by omega
    simp [br, c3]
  · simp only [br_no (show ¬ (l.length : Int) < ((mkL mProgram l k).1.length : Int) by rw [mkL_len]; omega)]

theorem heldLinkS_spec {n : Nat} {l : List Link} {k : Int} (hl : l.length ≤ 1048576) (hp : ∀ p ∈ l, SmallL p) (h0 : 0 ≤ k) (h1 : k ≤ 562949953421312) (hn : 1048576 < n) : heldLinkS.f n (mkL mLink l k).1 k = some ((mkL mLink l k).2, ()) := by
  unfold heldLinkS.f
  refine heldL_loop (l := l) (k := k) mLink (fun k i => (k, ((i : Int), ()))) (fun ih i hi hg => ?_) (fun ih => ?_) (by omega)
  · have hk := mLink_le (k := k) hl hp i
    have hk2 := mInt_le (k := mkK mLink l k i + 4) (hp _ (List.getElem_mem hi)).tokens l[i].2.2.2.2.length
    rw [mkK_end] at hk2
    have c0 : 0 ≤ (i : Int) := by omega
    have c1 : (i : Int) < ((mkL mLink l k).1.length : Int) := by rw [mkL_len]; omega
    simp only [c1, c0, and_self, chk_T, decide_true, br_true, Int.toNat_natCast, hg]
    rw [w64_succ (by omega)]
    rw [w64_k (k := mkK mLink l k i) (by omega) (by omega), w64_k (k := mkK mLink l k i + 1) (by omega) (by omega), w64_k (k := mkK mLink l k i + 1 + 1) (by omega) (by omega), w64_k (k := mkK mLink l k i + 1 + 1 + 1) (by omega) (by omega)]
    simp only [mLink, Int.add_assoc, show (1 : Int) + (1 + (1 + 1)) = 4 from rfl, show (1 : Int) + (1 + 1) = 3 from rfl, show (1 : Int) + 1 = 2 from rfl, heldIntS_spec (hp _ (List.getElem_mem hi)).tokens (show 0 ≤ mkK mLink l k i + 4 by omega) (show mkK mLink l k i + 4 ≤ 1125899906842624 by omega) hn, Option.bind_some]
    have c3 : ¬ (mkL mInt l[i].2.2.2.2 (mkK mLink l k i + 4)).2 < 0 := by omega
    have hh := heldIntS_spec (n := n) (k := mkK mLink l k i + 4) (hp _ (List.getElem_mem hi)).tokens (by omega) (by omega) hn
    simp [br, hh, c3]
  · simp only [br_no (show ¬ (l.length : Int) < ((mkL mLink l k).1.length : Int) by rw [mkL_len]; omega)]

theorem heldNetwork_spec {n : Nat} {nt : Network} {k : Int} (h : SmallN nt) (h0 : 0 ≤ k) (h1 : k ≤ 281474976710656) (hn : 1048576 < n) : heldNetwork.f n (mNetwork nt k).1 k = some ((mNetwork nt k).2, ()) := by
  have a := mNetwork_le (k := k) h
  have b := heldProgramS_spec (k := k) h.progs h.prog h0 (by omega) hn
  have c := heldLinkS_spec (k := (mkL mProgram nt.1 k).2) h.links h.link (by omega) (by omega) hn
  unfold heldNetwork.f
  show ((heldProgramS.f n (mkL mProgram nt.1 k).1 k).bind _) = _
  rw [b, Option.bind_some, br_no (by show ¬ (mkL mProgram nt.1 k).2 < 0; omega)]
  show ((heldLinkS.f n (mkL mLink nt.2 (mkL mProgram nt.1 k).2).1 (mkL mProgram nt.1 k).2).bind _) = _
  have a' : 0 ≤ (mkL mLink nt.2 (mkL mProgram nt.1 k).2).2 := by have := a.2.2.1; unfold mNetwork at this; simp only at this; omega
  rw [c, Option.bind_some, br_no (by show ¬ (mkL mLink nt.2 (mkL mProgram nt.1 k).2).2 < 0; omega)]
  rfl
end Go.AmT
