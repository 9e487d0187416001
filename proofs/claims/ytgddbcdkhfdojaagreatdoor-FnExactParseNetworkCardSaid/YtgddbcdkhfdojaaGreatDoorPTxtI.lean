/- Instructions as texts, in plain Lean: both programs write the same. -/
import Derived.Test.YtgddbcdkhfdojaaGreatDoorLTxtI
import Derived.Test.YtgddbcdkhfdojaaGreatDoorPNum
namespace Go.AmT
open Go Go.Am
set_option linter.unusedVariables false
set_option linter.unusedSimpArgs false

def wordsL : List (List UInt8) := [[], [114, 101, 97, 100], [119, 114, 105, 116, 101], [115, 101, 116], [97, 100, 100], [115, 117, 98], [109, 117, 108], [114, 101, 115, 116], [106, 117, 109, 112], [122, 101, 114, 111], [98, 101, 108, 111, 119], [104, 97, 108, 116]]
theorem l9Words_spec (n : Nat) : l9Words.f n = some (wordsL, ()) := rfl
theorem iOps_spec (n : Nat) : iOps.f n = some (wordsL, ()) := rfl
def opw (op : Int) : List UInt8 := wordsL.getD op.toNat []
theorem op_cases {op : Int} (h : 1 ≤ op ∧ op ≤ 11) : op = 1 ∨ op = 2 ∨ op = 3 ∨ op = 4 ∨ op = 5 ∨ op = 6 ∨ op = 7 ∨ op = 8 ∨ op = 9 ∨ op = 10 ∨ op = 11 := by omega
theorem opw_len {op : Int} (h : 1 ≤ op ∧ op ≤ 11) : (opw op).length ≤ 5 := by
  rcases op_cases h with rfl | rfl | rfl | rfl | rfl | rfl | rfl | rfl | rfl | rfl | rfl <;> decide
def usesL (op : Int) : List Bool := if ptsB op then [true, true, true] else if op = 8 then [false, true, false] else if op = 11 then [false, false, false] else [true, true, false]
theorem l9Uses_spec (n : Nat) (op : Int) : l9Uses.f n op = some (usesL op, ()) := by
  have e : (br (decide (op = 4)) (some (Sum.inr (α := List Bool × Unit) ((decide (op = 4)), ()))) (br (decide (op = 5)) (some (.inr ((decide (op = 5)), ()))) (br (decide (op = 6)) (some (.inr ((decide (op = 6)), ()))) (some (.inr ((decide (op = 7)), ())))))) = some (.inr (ptsB op, ())) := by
    unfold ptsB
    by_cases h4 : op = 4
    · subst h4; rfl
    by_cases h5 : op = 5
    · subst h5; rfl
    by_cases h6 : op = 6
    · subst h6; rfl
    rw [br_no h4, br_no h5, br_no h6]
    simp [h4, h5, h6]
  unfold l9Uses.f usesL
  rw [e]
  simp only [cut_inr]
  cases ptsB op
  · simp only [br_false, Bool.false_eq_true, if_false]
    by_cases h8 : op = 8
    · rw [br_yes h8, if_pos h8]
    · rw [br_no h8, if_neg h8]
      by_cases h11 : op = 11
      · rw [br_yes h11, if_pos h11]
      · rw [br_no h11, if_neg h11]
  · rfl
def smI (x : Int) : Prop := -1000000 ≤ x ∧ x ≤ 1000000
/-- what is known of an instruction -/
structure OkI (x : Instr) : Prop where
  op : 1 ≤ x.1 ∧ x.1 ≤ 11
  a : smI x.2.1
  b : smI x.2.2.1
  c : smI x.2.2.2
  nc : ptsB x.1 = false → x.2.2.2 = 0
  na : ptsA x.1 = false → ptsB x.1 = false → x.2.1 = 0
  nb : x.1 = 11 → x.2.2.1 = 0
theorem okI_all {ins outs size : Int} {x : Instr} (h : okI ins outs size x = true) (hi : ins ≤ 3) (ho : outs ≤ 3) (hs : size ≤ 24) : OkI x := by
  obtain ⟨op, a, b, c⟩ := x
  unfold okI at h
  simp only [reg, tok] at h
  have key : (1 ≤ op ∧ op ≤ 11) := by
    by_cases h0 : 1 ≤ op ∧ op ≤ 11
    · exact h0
    · exfalso
      rw [if_neg (by omega), if_neg (by omega), if_neg (by omega), if_neg (by omega), if_neg (by omega), if_neg (by omega), if_neg (by omega)] at h
      cases h
  rcases op_cases key with rfl | rfl | rfl | rfl | rfl | rfl | rfl | rfl | rfl | rfl | rfl <;>
  · simp (config := { decide := true }) only [if_true, if_false, Bool.and_eq_true, decide_eq_true_eq, or_true, true_or, or_false, false_or] at h
    refine ⟨⟨?_, ?_⟩, ⟨?_, ?_⟩, ⟨?_, ?_⟩, ⟨?_, ?_⟩, fun hb => ?_, fun ha hb => ?_, fun he => ?_⟩ <;> (try dsimp only at *) <;> first | omega | (exfalso; revert hb; decide) | (exfalso; revert ha; decide)
/-- a number with a space before it -/
noncomputable def spD (n : Int) : List UInt8 := [32] ++ Lib.itoa n
noncomputable def txtI (x : Instr) : List UInt8 :=
  opw x.1 ++ (if ptsA x.1 then spD x.2.1 ++ spD x.2.2.1 else if ptsB x.1 then spD x.2.1 ++ (spD x.2.2.1 ++ spD x.2.2.2) else if ptsC x.1 then spD x.2.2.1 else [])
noncomputable def fmtI (x : Instr) : List UInt8 := if okI 3 3 24 x then txtI x else []
theorem spD_len {n : Int} (h : smI n) : (spD n).length ≤ 9 := by
  have := itoa_len h.1 h.2
  simp only [spD, List.length_append, List.length_cons, List.length_nil]
  omega
theorem txtI_len {x : Instr} (h : OkI x) : (txtI x).length ≤ 40 := by
  have h0 := opw_len h.op
  have ha := spD_len h.a
  have hb := spD_len h.b
  have hc := spD_len h.c
  unfold txtI
  rw [List.length_append]
  split
  · rw [List.length_append]; omega
  · split
    · rw [List.length_append, List.length_append]; omega
    · split
      · omega
      · simp only [List.length_nil]; omega
theorem fmtI_len (x : Instr) : (fmtI x).length ≤ 40 := by
  unfold fmtI
  split
  · rename_i h; exact txtI_len (okI_all h (by omega) (by omega) (by omega))
  · simp
theorem fmtInstr_spec {n : Nat} {x : Instr} (hn : 1048576 < n) : fmtInstr.f n x = some (fmtI x, ()) := by
  have hm := maxB_eq
  unfold fmtInstr.f l9Fits.f fmtI
  have hf := sL2Operands_spec n (3, (3, (List.replicate 24 ((0, (0, (0, 0))) : Instr)))) x ⟨by decide, by decide⟩ ⟨by decide, by decide⟩
  rw [chk_true (by refine ⟨rfl, ?_⟩; omega), hf, bind_unit, bind_unit]
  have e24 : (((3, (3, (List.replicate 24 ((0, (0, (0, 0))) : Instr)))) : Program).2.2.length : Int) = 24 := by simp
  rw [e24]
  cases hk : okI 3 3 24 x
  · simp only [Bool.not_false, br_true]
    rfl
  · have O := okI_all hk (by omega) (by omega) (by omega)
    simp only [Bool.not_true, br_false, if_true]
    have hop := O.op
    have hwl : (wordsL.length : Int) = 12 := rfl
    rw [l9Words_spec, bind_unit]
    dsimp only
    rw [chk_true (by rw [hwl]; omega), l9Uses_spec, bind_unit]
    dsimp only
    have hul : (usesL x.1).length = 3 := by
      unfold usesL
      repeat' split
      all_goals rfl
    have sm : ∀ i, i < 3 → smI ([x.2.1, x.2.2.1, x.2.2.2].getD i 0) := fun i hi => by
      have : i = 0 ∨ i = 1 ∨ i = 2 := by omega
      rcases this with rfl | rfl | rfl
      · exact O.a
      · exact O.b
      · exact O.c
    have hend : opw x.1 ++ ((List.range 3).map fun i => if (usesL x.1).getD i false then spD ([x.2.1, x.2.2.1, x.2.2.2].getD i 0) else []).flatten = txtI x := by
      unfold txtI
      congr 1
      show (if (usesL x.1).getD 0 false then spD x.2.1 else []) ++ ((if (usesL x.1).getD 1 false then spD x.2.2.1 else []) ++ ((if (usesL x.1).getD 2 false then spD x.2.2.2 else []) ++ [])) = _
      rcases op_cases hop with h | h | h | h | h | h | h | h | h | h | h <;> (rw [h]; simp [usesL, ptsA, ptsB, ptsC])
    rw [← hend]
    refine cat_loop (fun i => if (usesL x.1).getD i false then spD ([x.2.1, x.2.2.1, x.2.2.2].getD i 0) else []) 3 9 (opw x.1) (fun i hi => ?_) (fun t i => (t, (i, ([x.2.1, x.2.2.1, x.2.2.2], ())))) (fun ih i t hi ht => ?_) (fun ih => ?_) (by omega)
    · split
      · exact spD_len (sm i hi)
      · simp
    · have h0 := opw_len hop
      have hs := sm i hi
      have hl := itoa_len hs.1 hs.2
      simp only [br_yes (show (i : Int) < 3 by omega), Int.toNat_natCast]
      rw [chk_true (by simp only [List.length_cons, List.length_nil]; omega), chk_true (by rw [hul]; omega)]
      cases hu : (usesL x.1).getD i false
      · rw [br_false, w64_succ (by omega)]
        simp
      · rw [br_true, str_chk (by simp only [List.length_cons, List.length_nil]; omega), number_spec hn hs.1 hs.2, bind_unit, str_chk (by simp only [List.length_append, List.length_cons, List.length_nil]; omega), w64_succ (by omega)]
        simp [spD]
    · simp only [br_no (show ¬ ((3 : Nat) : Int) < 3 by omega)]
theorem iFmtInstr_spec {n : Nat} {x : Instr} : iFmtInstr.f n x = some (fmtI x, ()) := by
  unfold iFmtInstr.f fmtI
  rw [isInstr_spec, bind_unit]
  cases hk : okI 3 3 24 x
  · simp only [Bool.not_false, br_true]
    rfl
  · have O := okI_all hk (by omega) (by omega) (by omega)
    simp only [Bool.not_true, br_false, if_true]
    have hop := O.op
    have hwl : (wordsL.length : Int) = 12 := rfl
    have h0 := opw_len hop
    have ha := itoa_len O.a.1 O.a.2
    have hb := itoa_len O.b.1 O.b.2
    have hc := itoa_len O.c.1 O.c.2
    rw [iOps_spec, bind_unit]
    dsimp only
    rw [chk_true (by rw [hwl]; omega)]
    show br (ptsA x.1) ((itoaC.f n x.2.1).bind _) _ = _
    unfold txtI
    have h0' : (wordsL.getD x.1.toNat []).length ≤ 5 := h0
    rw [itoaC_spec O.a.1 O.a.2, itoaC_spec O.b.1 O.b.2, itoaC_spec O.c.1 O.c.2]
    simp only [bind_unit]
    have L : ∀ {m : Nat} {ρ : Type} {y : Option ρ}, m ≤ 1000 → chk (m < maxS) y = y := fun h => str_chk (by omega)
    cases ptsA x.1
    · cases ptsB x.1
      · cases ptsC x.1
        · simp [br, opw]
        · simp only [br_true, br_false, Bool.false_eq_true, if_false, if_true]
          rw [L (by simp only [List.length_cons, List.length_nil]; omega), L (by simp only [List.length_append, List.length_cons, List.length_nil]; omega)]
          rfl
      · simp only [br_true, br_false, Bool.false_eq_true, if_false, if_true]
        rw [L (by simp only [List.length_cons, List.length_nil]; omega), L (by simp only [List.length_append, List.length_cons, List.length_nil]; omega), L (by simp only [List.length_cons, List.length_nil]; omega), L (by simp only [List.length_append, List.length_cons, List.length_nil]; omega), L (by simp only [List.length_cons, List.length_nil]; omega), L (by simp only [List.length_append, List.length_cons, List.length_nil]; omega)]
        simp only [opw, spD, List.append_assoc]
    · simp only [br_true, if_true]
      rw [L (by simp only [List.length_cons, List.length_nil]; omega), L (by simp only [List.length_append, List.length_cons, List.length_nil]; omega), L (by simp only [List.length_cons, List.length_nil]; omega), L (by simp only [List.length_append, List.length_cons, List.length_nil]; omega)]
      simp only [opw, spD, List.append_assoc]
end Go.AmT
