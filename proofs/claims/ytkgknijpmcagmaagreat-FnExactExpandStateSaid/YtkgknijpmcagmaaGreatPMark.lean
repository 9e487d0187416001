/- Networks that are marked, in plain Lean: no condition but that they are small. -/
import Derived.Test.YtkgknijpmcagmaaGreatLMark
import Derived.Test.YtkgknijpmcagmaaGreatPNet2
import Derived.Test.YtkgknijpmcagmaaGreatPMark0
namespace Go.AmT
open Go Go.Am
set_option linter.unusedVariables false
set_option linter.unusedSimpArgs false

theorem w64_k {k : Int} (h0 : 0 ≤ k) (h1 : k ≤ 1152921504606847000) : w64 (k + 1) = k + 1 := w64_id (by omega) (by omega)

def mInt (_ : Int) (k : Int) : Int × Int := (k, k + 1)
def mInstr (_ : Instr) (k : Int) : Instr × Int := ((k, k + 1, k + 2, k + 3), k + 4)
def mProgram (p : Program) (k : Int) : Program × Int := ((k, k + 1, (mkL mInstr p.2.2 (k + 2)).1), (mkL mInstr p.2.2 (k + 2)).2)
def mLink (l : Link) (k : Int) : Link × Int := ((k, k + 1, k + 2, k + 3, (mkL mInt l.2.2.2.2 (k + 4)).1), (mkL mInt l.2.2.2.2 (k + 4)).2)
def mNetwork (nt : Network) (k : Int) : Network × Int := (((mkL mProgram nt.1 k).1, (mkL mLink nt.2 (mkL mProgram nt.1 k).2).1), (mkL mLink nt.2 (mkL mProgram nt.1 k).2).2)

theorem mInt_le {l : List Int} {k : Int} (hl : l.length ≤ 1048576) (i : Nat) : k ≤ mkK mInt l k i ∧ mkK mInt l k i ≤ k + 1048576 := by
  have := mkK_le (f := mInt) (l := l) (k := k) (B := 1) (by omega) (fun x _ k => by simp [mInt]; omega) i
  omega
theorem mInstr_le {l : List Instr} {k : Int} (hl : l.length ≤ 1048576) (i : Nat) : k ≤ mkK mInstr l k i ∧ mkK mInstr l k i ≤ k + 4194304 := by
  have := mkK_le (f := mInstr) (l := l) (k := k) (B := 4) (by omega) (fun x _ k => by simp [mInstr]; omega) i
  omega
theorem mProgram_le {l : List Program} {k : Int} (hl : l.length ≤ 1048576) (hp : ∀ p ∈ l, SmallP p) (i : Nat) : k ≤ mkK mProgram l k i ∧ mkK mProgram l k i ≤ k + 4398048608256 := by
  have := mkK_le (f := mProgram) (l := l) (k := k) (B := 4194306) (by omega) (fun x hx k => by
    have := mInstr_le (k := k + 2) (hp x hx).code x.2.2.length
    rw [mkK_end] at this
    simp only [mProgram]; omega) i
  omega
theorem mLink_le {l : List Link} {k : Int} (hl : l.length ≤ 1048576) (hp : ∀ p ∈ l, SmallL p) (i : Nat) : k ≤ mkK mLink l k i ∧ mkK mLink l k i ≤ k + 1099515822080 := by
  have := mkK_le (f := mLink) (l := l) (k := k) (B := 1048580) (by omega) (fun x hx k => by
    have := mInt_le (k := k + 4) (hp x hx).tokens x.2.2.2.2.length
    rw [mkK_end] at this
    simp only [mLink]; omega) i
  omega

theorem heldIntS_spec {n : Nat} {l : List Int} {k : Int} (hl : l.length ≤ 1048576) (h0 : 0 ≤ k) (h1 : k ≤ 1125899906842624) (hn : 1048576 < n) : heldIntS.f n (mkL mInt l k).1 k = some ((mkL mInt l k).2, ()) := by
  unfold heldIntS.f
  refine heldL_loop (l := l) (k := k) mInt (fun k i => (k, ((i : Int), ()))) (fun ih i hi hg => ?_) (fun ih => ?_) (by omega)
  · have hk := mInt_le (k := k) hl i
    have c0 : 0 ≤ (i : Int) := by omega
    have c1 : (i : Int) < ((mkL mInt l k).1.length : Int) := by rw [mkL_len]; omega
    simp only [c1, c0, and_self, chk_T, decide_true, br_true, Int.toNat_natCast, hg]
    rw [w64_succ (by omega), w64_k (k := mkK mInt _ k i) (by omega) (by omega)]
    simp [mInt, br]
  · simp only [br_no (show ¬ (l.length : Int) < ((mkL mInt l k).1.length : Int) by rw [mkL_len]; omega)]

theorem markIntN_spec {n : Nat} {ls : List Link} {j : Nat} {k : Int} (hj : j < ls.length) (hl : SmallL ls[j]) (h0 : 0 ≤ k) (h1 : k ≤ 1125899906842624) (hn : 1048576 < n) :
    markIntN.f n j k ls = some ((mkL mInt ls[j].2.2.2.2 k).2, ls.set j (ls[j].1, ls[j].2.1, ls[j].2.2.1, ls[j].2.2.2.1, (mkL mInt ls[j].2.2.2.2 k).1), ()) := by
  have hl' := hl.tokens
  unfold markIntN.f
  refine Eq.trans (congrArg (iter n _) (show _ = (fun (k : Int) (i : Nat) m => (j, (k, ((i : Int), (ls.set j (ls[j].1, ls[j].2.1, ls[j].2.2.1, ls[j].2.2.2.1, m), ()))))) k 0 ls[j].2.2.2.2 from by show _ = (j, (k, (0, (ls.set j ls[j], ())))); rw [List.set_getElem_self hj])) ?_
  refine markL_loop mInt (fun k i m => (j, (k, ((i : Int), (ls.set j (ls[j].1, ls[j].2.1, ls[j].2.2.1, ls[j].2.2.2.1, m), ()))))) (fun ih i hi m hm hg => ?_) (fun ih m hm e => ?_) (by omega)
  · have hk := mInt_le (k := k) hl' i
    have c0 : 0 ≤ (i : Int) := by omega
    have c1 : (i : Int) < (m.length : Int) := by omega
    simp only [getD_set_same hj, c1, c0, and_self, chk_T, decide_true, br_true, Int.toNat_natCast, List.set_set]
    rw [w64_succ (by omega), w64_k (k := mkK mInt _ k i) (by omega) (by omega)]
    rfl
  · simp only [getD_set_same hj, br_no (show ¬ (ls[j].2.2.2.2.length : Int) < (m.length : Int) by omega)]
    rw [← e]
theorem markInstrN_spec {n : Nat} {ls : List Program} {j : Nat} {k : Int} (hj : j < ls.length) (hl : SmallP ls[j]) (h0 : 0 ≤ k) (h1 : k ≤ 1125899906842624) (hn : 1048576 < n) :
    markInstrN.f n j k ls = some ((mkL mInstr ls[j].2.2 k).2, ls.set j (ls[j].1, ls[j].2.1, (mkL mInstr ls[j].2.2 k).1), ()) := by
  have hl' := hl.code
  unfold markInstrN.f
  refine Eq.trans (congrArg (iter n _) (show _ = (fun (k : Int) (i : Nat) m => (j, (k, ((i : Int), (ls.set j (ls[j].1, ls[j].2.1, m), ()))))) k 0 ls[j].2.2 from by show _ = (j, (k, (0, (ls.set j ls[j], ())))); rw [List.set_getElem_self hj])) ?_
  refine markL_loop mInstr (fun k i m => (j, (k, ((i : Int), (ls.set j (ls[j].1, ls[j].2.1, m), ()))))) (fun ih i hi m hm hg => ?_) (fun ih m hm e => ?_) (by omega)
  · have hk := mInstr_le (k := k) hl' i
    have him : i < m.length := by omega
    have c0 : 0 ≤ (i : Int) := by omega
    have c1 : (i : Int) < (m.length : Int) := by omega
    simp only [getD_set_same hj, c1, c0, and_self, chk_T, decide_true, br_true, Int.toNat_natCast, List.set_set, getD_set_same him, List.length_set]
    rw [w64_succ (by omega)]
    rw [w64_k (k := mkK mInstr ls[j].2.2 k i) (by omega) (by omega), w64_k (k := mkK mInstr ls[j].2.2 k i + 1) (by omega) (by omega), w64_k (k := mkK mInstr ls[j].2.2 k i + 1 + 1) (by omega) (by omega), w64_k (k := mkK mInstr ls[j].2.2 k i + 1 + 1 + 1) (by omega) (by omega)]
    simp only [mInstr, Int.add_assoc]
    rfl
  · simp only [getD_set_same hj, br_no (show ¬ (ls[j].2.2.length : Int) < (m.length : Int) by omega)]
    rw [← e]
theorem markProgramS_spec {n : Nat} {l : List Program} {k : Int} (hl : l.length ≤ 1048576) (hp : ∀ p ∈ l, SmallP p) (h0 : 0 ≤ k) (h1 : k ≤ 562949953421312) (hn : 1048576 < n) : markProgramS.f n l k = some ((mkL mProgram l k).2, (mkL mProgram l k).1, ()) := by
  unfold markProgramS.f
  refine markL_loop mProgram (fun k i m => (k, ((i : Int), (m, ())))) (fun ih i hi m hm hg => ?_) (fun ih m hm e => ?_) (by omega)
  · have hk := mProgram_le (k := k) hl hp i
    have him : i < m.length := by omega
    have c0 : 0 ≤ (i : Int) := by omega
    have c1 : (i : Int) < (m.length : Int) := by omega
    simp only [c1, c0, and_self, chk_T, decide_true, br_true, Int.toNat_natCast, List.set_set, getD_set_same him, List.length_set, hg]
    rw [w64_succ (by omega)]
    rw [w64_k (k := mkK mProgram l k i) (by omega) (by omega), w64_k (k := mkK mProgram l k i + 1) (by omega) (by omega)]
    rw [markInstrN_spec (by simpa using him) (by simp; exact ⟨(hp _ (List.getElem_mem hi)).code⟩) (by omega) (by omega) hn]
    simp [mProgram, Int.add_assoc]
  · simp only [br_no (show ¬ (l.length : Int) < (m.length : Int) by omega)]
    rw [← e]
theorem markLinkS_spec {n : Nat} {l : List Link} {k : Int} (hl : l.length ≤ 1048576) (hp : ∀ p ∈ l, SmallL p) (h0 : 0 ≤ k) (h1 : k ≤ 562949953421312) (hn : 1048576 < n) : markLinkS.f n l k = some ((mkL mLink l k).2, (mkL mLink l k).1, ()) := by
  unfold markLinkS.f
  refine markL_loop mLink (fun k i m => (k, ((i : Int), (m, ())))) (fun ih i hi m hm hg => ?_) (fun ih m hm e => ?_) (by omega)
  · have hk := mLink_le (k := k) hl hp i
    have him : i < m.length := by omega
    have c0 : 0 ≤ (i : Int) := by omega
    have c1 : (i : Int) < (m.length : Int) := by omega
    simp only [c1, c0, and_self, chk_T, decide_true, br_true, Int.toNat_natCast, List.set_set, getD_set_same him, List.length_set, hg]
    rw [w64_succ (by omega)]
    rw [w64_k (k := mkK mLink l k i) (by omega) (by omega), w64_k (k := mkK mLink l k i + 1) (by omega) (by omega), w64_k (k := mkK mLink l k i + 1 + 1) (by omega) (by omega), w64_k (k := mkK mLink l k i + 1 + 1 + 1) (by omega) (by omega)]
    rw [markIntN_spec (by simpa using him) (by simp; exact ⟨(hp _ (List.getElem_mem hi)).tokens⟩) (by omega) (by omega) hn]
    simp [mLink, Int.add_assoc]
  · simp only [br_no (show ¬ (l.length : Int) < (m.length : Int) by omega)]
    rw [← e]
theorem mNetwork_le {nt : Network} {k : Int} (h : SmallN nt) : k ≤ (mkL mProgram nt.1 k).2 ∧ (mkL mProgram nt.1 k).2 ≤ k + 4398048608256 ∧ k ≤ (mNetwork nt k).2 ∧ (mNetwork nt k).2 ≤ k + 5497564430336 := by
  have a := mProgram_le (k := k) h.progs h.prog nt.1.length
  have b := mLink_le (k := (mkL mProgram nt.1 k).2) h.links h.link nt.2.length
  rw [mkK_end] at a b
  unfold mNetwork
  simp only
  omega
theorem markNetwork_spec {n : Nat} {nt : Network} {k : Int} (h : SmallN nt) (h0 : 0 ≤ k) (h1 : k ≤ 281474976710656) (hn : 1048576 < n) : markNetwork.f n nt k = some ((mNetwork nt k).2, (mNetwork nt k).1.1, (mNetwork nt k).1.2, ()) := by
  have a := mNetwork_le (k := k) h
  unfold markNetwork.f
  rw [markProgramS_spec h.progs h.prog h0 (by omega) hn, Option.bind_some, markLinkS_spec h.links h.link (by omega) (by omega) hn]
  rfl
end Go.AmT
