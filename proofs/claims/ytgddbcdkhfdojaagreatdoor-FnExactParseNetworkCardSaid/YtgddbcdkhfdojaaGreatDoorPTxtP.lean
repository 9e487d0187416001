/- Programs as texts, in plain Lean: both programs write the same. -/
import Derived.Test.YtgddbcdkhfdojaaGreatDoorLTxtP
import Derived.Test.YtgddbcdkhfdojaaGreatDoorPTxtI
namespace Go.AmT
open Go Go.Am
set_option linter.unusedVariables false
set_option linter.unusedSimpArgs false

theorem okP_all {p : Program} (hp : okP p = true) : (0 ≤ p.1 ∧ p.1 ≤ 3) ∧ (0 ≤ p.2.1 ∧ p.2.1 ≤ 3) ∧ (1 ≤ p.2.2.length ∧ p.2.2.length ≤ 24) ∧ ∀ x ∈ p.2.2, okI p.1 p.2.1 (p.2.2.length : Int) x = true := by
  unfold okP at hp
  simp only [Bool.and_eq_true, decide_eq_true_eq, List.all_eq_true] at hp
  exact ⟨hp.1.1.1, hp.1.1.2, hp.1.2, hp.2⟩
theorem okI_mono {ins outs size : Int} {x : Instr} (h : okI ins outs size x = true) (hi : ins ≤ 3) (ho : outs ≤ 3) (hs : size ≤ 24) : okI 3 3 24 x = true := by
  have O := okI_all h hi ho hs
  obtain ⟨op, a, b, c⟩ := x
  have key := O.op
  unfold okI at h ⊢
  rcases op_cases key with e | e | e | e | e | e | e | e | e | e | e <;>
  · simp only at e
    subst e
    simp (config := { decide := true }) only [if_true, if_false, Bool.and_eq_true, decide_eq_true_eq, or_true, true_or, or_false, false_or] at h ⊢
    first | exact h | omega | (simp only [reg, tok, Bool.and_eq_true, decide_eq_true_eq] at h ⊢; omega)
noncomputable def semiD (x : Instr) : List UInt8 := [59] ++ fmtI x
noncomputable def txtP (p : Program) : List UInt8 := Lib.itoa p.1 ++ [59] ++ Lib.itoa p.2.1 ++ (p.2.2.map semiD).flatten
noncomputable def fmtP (p : Program) : List UInt8 := if okP p then txtP p else []
theorem semiD_len (x : Instr) : (semiD x).length ≤ 41 := by
  have := fmtI_len x
  simp only [semiD, List.length_append, List.length_cons, List.length_nil]
  omega
theorem txtP_len {p : Program} (h : okP p = true) : (txtP p).length ≤ 1100 := by
  obtain ⟨h1, h2, h3, h4⟩ := okP_all h
  have l1 := itoa_len (x := p.1) (by omega) (by omega)
  have l2 := itoa_len (x := p.2.1) (by omega) (by omega)
  have l3 := flat_len semiD 41 p.2.2 (fun x _ => semiD_len x)
  simp only [txtP, List.length_append, List.length_cons, List.length_nil]
  omega
theorem fmtP_len (p : Program) : (fmtP p).length ≤ 1100 := by
  unfold fmtP
  split
  · rename_i h; exact txtP_len h
  · simp
theorem fmtProgram_spec {n : Nat} {p : Program} (hp : SmallP p) (hn : 1048576 < n) : fmtProgram.f n p = some (fmtP p, ()) := by
  unfold fmtProgram.f fmtP
  rw [sIsProgram_spec hp hn, bind_unit]
  cases hk : okP p
  · simp only [Bool.not_false, br_true]; rfl
  · obtain ⟨h1, h2, h3, h4⟩ := okP_all hk
    have l1 := itoa_len (x := p.1) (by omega) (by omega)
    have l2 := itoa_len (x := p.2.1) (by omega) (by omega)
    simp only [Bool.not_true, br_false, if_true]
    rw [number_spec hn (by omega) (by omega), bind_unit, str_chk (by simp only [List.length_cons, List.length_nil]; omega), number_spec hn (by omega) (by omega), bind_unit, str_chk (by simp only [List.length_append, List.length_cons, List.length_nil]; omega)]
    have hm : ∀ i, ((p.2.2.take i).map semiD).flatten.length ≤ 1000 := fun i => by
      have := flat_len semiD 41 (p.2.2.take i) (fun y hy => semiD_len y)
      rw [List.length_take] at this
      have := Nat.min_le_right i p.2.2.length
      omega
    refine cat_list semiD p.2.2 (Lib.itoa p.1 ++ [59] ++ Lib.itoa p.2.1) (fun t i => (t, (i, ()))) (fun ih i hi => ?_) (fun ih => ?_) (by omega)
    · have hlt : (i : Int) < (p.2.2.length : Int) := by omega
      have hmi := hm i
      have hf := fmtI_len (p.2.2.getD i zInstr)
      simp only [br_yes hlt, Int.toNat_natCast]
      rw [chk_true (by omega), str_chk (by simp only [List.length_append, List.length_cons, List.length_nil]; omega), fmtInstr_spec hn, bind_unit, str_chk (by simp only [List.length_append, List.length_cons, List.length_nil]; omega), w64_succ (by omega)]
      rw [flat_snoc semiD p.2.2 i hi, getD_lt hi]
      simp only [semiD, List.append_assoc]
    · simp only [br_no (Int.lt_irrefl _)]
      rfl
theorem join_prog (p : Program) : Lib.join (Lib.itoa p.1 :: Lib.itoa p.2.1 :: p.2.2.map fmtI) [59] = txtP p := by
  rw [Lib.join_cons, Lib.joinTail, List.map_cons, List.map_map, List.flatten_cons]
  unfold txtP
  simp only [List.append_assoc]
  rfl
theorem iFmtProgram_spec {n : Nat} {p : Program} (hp : SmallP p) (hn : 1048576 < n) : iFmtProgram.f n p = some (fmtP p, ()) := by
  have hB := maxB_eq
  unfold iFmtProgram.f fmtP
  rw [iIsProgram_spec hp hn, bind_unit]
  cases hk : okP p
  · simp only [Bool.not_false, br_true]; rfl
  · obtain ⟨h1, h2, h3, h4⟩ := okP_all hk
    have hL := txtP_len hk
    simp only [Bool.not_true, br_false, if_true]
    rw [itoaC_spec (by omega) (by omega), bind_unit, itoaC_spec (by omega) (by omega), bind_unit]
    refine push_from p.2.2 fmtI [Lib.itoa p.1, Lib.itoa p.2.1] (fun i l => (i, (l, ()))) (fun ih i hi l hl => ?_) (fun ih => ?_) (by omega)
    · have hlt : (i : Int) < (p.2.2.length : Int) := by omega
      simp only [List.length_cons, List.length_nil] at hl
      simp only [br_yes hlt, Int.toNat_natCast]
      rw [chk_true (by omega), iFmtInstr_spec, bind_unit, chk_true (by simp only [List.length_cons, List.length_nil]; omega), w64_succ (by omega), getD_lt hi]
    · simp only [br_no (Int.lt_irrefl _)]
      have e : [Lib.itoa p.1, Lib.itoa p.2.1] ++ p.2.2.map fmtI = Lib.itoa p.1 :: Lib.itoa p.2.1 :: p.2.2.map fmtI := rfl
      rw [e, joinC_spec (by simp; omega) (by rw [join_prog]; omega), bind_unit, join_prog]
end Go.AmT
