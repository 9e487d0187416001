/- Functions that the law FnSaved reaches, each as a plain Lean function, and that each does what that says. No condition. -/
import Derived.Test.YtgddbcdkhfdojaaGreatDoorMSaved8
namespace Go.AmT
open Go Go.Am Go.Proofs
set_option linter.unusedVariables false
set_option maxRecDepth 100000
def tys15 : List (Nat × TInfo) := [(3, ⟨false, 1, 8, [.int .i64 0], .int .i64, 0, some I, [], false⟩),
  (4, ⟨false, 1, 1, [.bool false], .bool, 0, some .bool, [], false⟩),
  (9, ⟨false, 1, 16, [.str []], .str, 0, some .str, [], false⟩),
  (72, ⟨true, 4, 32, [.int .i64 0, .int .i64 0, .int .i64 0, .int .i64 0], .struct, 0, some tInstr, [(0, 3), (1, 3), (2, 3), (3, 3)], false⟩),
  (77, ⟨false, 1, 24, [.nil], .slice, 9, some (.sl .str), [], false⟩),
  (133, ⟨false, 1, 24, [.nil], .slice, 136, none, [], false⟩),
  (136, ⟨false, 1, 8, [.nilp], .other, 0, none, [], false⟩),
  (188, ⟨false, 1, 24, [.nil], .slice, 4, some (.sl .bool), [], false⟩)]
theorem tys15_ok : (tys15.all fun p => tokB Tryz.prog p.1 p.2) = true := by kernel_rfl

def indexS.las : List (Nat × LA) := [(3, ⟨[(8, .int .i64)], [], [0, 1, 7], []⟩)]
noncomputable def indexS.f (n : Nat) (a0 : List (List UInt8)) (a1 : List UInt8) : Option (Int × Unit) := iter (α := (Int × Unit)) n (fun ih6 x5 => br (decide (x5.1 < (a0.length : Int))) (chk (0 ≤ x5.1 ∧ x5.1 < (a0.length : Int)) (br (decide (a1 = (a0.getD x5.1.toNat []))) (some (x5.1, ())) (ih6 ((w64 (x5.1 + 1)), ())))) (some ((-1), ()))) (0, ())
noncomputable def indexS.mng (n : Nat) : Mng := ⟨[.val (.sl .str), .val .str], [.val I], fun x => indexS.f n x.1 x.2.1⟩
noncomputable def indexS.cfg (n : Nat) : Cfg := ⟨tys15, [], [], []⟩
theorem indexS.eq : ∀ (n : Nat) (a0 : List (List UInt8)) (a1 : List UInt8), runF (indexS.cfg n) n Tryz.f91 (annOf Tryz.f91 indexS.las) [.val (.sl .str), .val .str] [.val I] (a0, (a1, ())) = indexS.f n a0 a1 := by
  intros
  kernel_rfl
theorem indexS.gof : GoF Tryz.prog 91 := ⟨_, Tryz.func91, by kernel_rfl, by kernel_rfl⟩
theorem indexS.sound (n : Nat) : Sound Tryz.prog 91 (indexS.mng n) := runF_sound (fn := Tryz.f91) (m := indexS.mng n) (c := indexS.cfg n) (regOK mixed (opOK (.of (c := indexS.cfg n) trivial) (.of (c := indexS.cfg n) trivial)) (tysOK tys15_ok)) (tysOK tys15_ok) Tryz.func91 (fun x => (indexS.eq n x.1 x.2.1).symm)

def iParseInstr.las : List (Nat × LA) := [(500012, ⟨[], [], [], []⟩)]
noncomputable def iParseInstr.f (n : Nat) (a0 : List UInt8) : Option (Instr × (Bool × Unit)) := (splitC.f n a0 ([32] : List UInt8)).bind fun r1 => (iOps.f n ).bind fun r2 => chk ((0 : Int) ≤ 0 ∧ (0 : Int) < (r1.1.length : Int)) ((indexS.f n r2.1 (r1.1.getD 0 [])).bind fun r3 => br (decide (r3.1 < 1)) (some ((0, (0, (0, 0))), (false, ()))) (br (ptsA r3.1) (br (!decide (2 = (w64 ((r1.1.length : Int) - 1)))) (some ((0, (0, (0, 0))), (false, ()))) (chk ((0 : Int) ≤ 1 ∧ (1 : Int) < (r1.1.length : Int)) ((iNumber.f n (r1.1.getD 1 [])).bind fun r6 => br (!r6.2.1) (some ((0, (0, (0, 0))), (false, ()))) (chk ((0 : Int) ≤ 2 ∧ (2 : Int) < (r1.1.length : Int)) ((iNumber.f n (r1.1.getD 2 [])).bind fun r7 => br (!r7.2.1) (some ((0, (0, (0, 0))), (false, ()))) ((iFmtInstr.f n (r3.1, (r6.1, (r7.1, 0)))).bind fun r8 => br (!decide (r8.1 = a0)) (some ((0, (0, (0, 0))), (false, ()))) (some ((r3.1, (r6.1, (r7.1, 0))), (true, ()))))))))) (br (ptsB r3.1) (br (!decide (3 = (w64 ((r1.1.length : Int) - 1)))) (some ((0, (0, (0, 0))), (false, ()))) (chk ((0 : Int) ≤ 1 ∧ (1 : Int) < (r1.1.length : Int)) ((iNumber.f n (r1.1.getD 1 [])).bind fun r9 => br (!r9.2.1) (some ((0, (0, (0, 0))), (false, ()))) (chk ((0 : Int) ≤ 2 ∧ (2 : Int) < (r1.1.length : Int)) ((iNumber.f n (r1.1.getD 2 [])).bind fun r10 => br (!r10.2.1) (some ((0, (0, (0, 0))), (false, ()))) (chk ((0 : Int) ≤ 3 ∧ (3 : Int) < (r1.1.length : Int)) ((iNumber.f n (r1.1.getD 3 [])).bind fun r11 => br (!r11.2.1) (some ((0, (0, (0, 0))), (false, ()))) ((iFmtInstr.f n (r3.1, (r9.1, (r10.1, r11.1)))).bind fun r12 => br (!decide (r12.1 = a0)) (some ((0, (0, (0, 0))), (false, ()))) (some ((r3.1, (r9.1, (r10.1, r11.1))), (true, ()))))))))))) (br (ptsC r3.1) (br (!decide (1 = (w64 ((r1.1.length : Int) - 1)))) (some ((0, (0, (0, 0))), (false, ()))) (chk ((0 : Int) ≤ 1 ∧ (1 : Int) < (r1.1.length : Int)) ((iNumber.f n (r1.1.getD 1 [])).bind fun r13 => br (!r13.2.1) (some ((0, (0, (0, 0))), (false, ()))) ((iFmtInstr.f n (r3.1, (0, (r13.1, 0)))).bind fun r14 => br (!decide (r14.1 = a0)) (some ((0, (0, (0, 0))), (false, ()))) (some ((r3.1, (0, (r13.1, 0))), (true, ()))))))) (br (!decide (0 = (w64 ((r1.1.length : Int) - 1)))) (some ((0, (0, (0, 0))), (false, ()))) ((iFmtInstr.f n (r3.1, (0, (0, 0)))).bind fun r15 => br (!decide (r15.1 = a0)) (some ((0, (0, (0, 0))), (false, ()))) (some ((r3.1, (0, (0, 0))), (true, ())))))))))
noncomputable def iParseInstr.mng (n : Nat) : Mng := ⟨[.val .str], [.val tInstr, .val .bool], fun x => iParseInstr.f n x.1⟩
noncomputable def iParseInstr.cfg (n : Nat) : Cfg := ⟨tys15, [(61, splitC.mng n), (92, iOps.mng n), (91, indexS.mng n), (62, iNumber.mng n), (36, iFmtInstr.mng n)], [], [3000093]⟩
theorem iParseInstr.eq : ∀ (n : Nat) (a0 : List UInt8), runF (iParseInstr.cfg n) n Tryz.f35 (annOf Tryz.f35 iParseInstr.las) [.val .str] [.val tInstr, .val .bool] (a0, ()) = iParseInstr.f n a0 := by
  intros
  kernel_rfl
theorem iParseInstr.gof : GoF Tryz.prog 35 := ⟨_, Tryz.func35, by kernel_rfl, by kernel_rfl⟩
theorem iParseInstr.sound (n : Nat) : Sound Tryz.prog 35 (iParseInstr.mng n) := runF_sound (fn := Tryz.f35) (m := iParseInstr.mng n) (c := iParseInstr.cfg n) (regOK mixed (opOK (.of (c := iParseInstr.cfg n) ⟨⟨splitC.sound n, splitC.gof⟩, ⟨⟨iOps.sound n, iOps.gof⟩, ⟨⟨indexS.sound n, indexS.gof⟩, ⟨⟨iNumber.sound n, iNumber.gof⟩, ⟨⟨iFmtInstr.sound n, iFmtInstr.gof⟩, trivial⟩⟩⟩⟩⟩ (ptsAll_one (f := 93) rfl iPts.pts iPts.gof)) (.of (c := iParseInstr.cfg n) trivial)) (tysOK tys15_ok)) (tysOK tys15_ok) Tryz.func35 (fun x => (iParseInstr.eq n x.1).symm)

end Go.AmT

namespace Go.AmT
open Go Go.Am
set_option linter.unusedVariables false
set_option linter.unusedSimpArgs false

abbrev zeroI : Instr := (0, (0, (0, 0)))
theorem opw_no {op : Int} (h : 1 ≤ op ∧ op ≤ 11) {c : UInt8} (hc : c.toNat < 97) : c ∉ opw op := by
  have : ∀ d ∈ opw op, 97 ≤ d.toNat := by
    rcases op_cases h with rfl | rfl | rfl | rfl | rfl | rfl | rfl | rfl | rfl | rfl | rfl <;> decide
  intro hm
  have := this c hm
  omega
/-- the words of an instruction's text -/
noncomputable def partsI (x : Instr) : List (List UInt8) :=
  opw x.1 :: (if ptsA x.1 then [Lib.itoa x.2.1, Lib.itoa x.2.2.1] else if ptsB x.1 then [Lib.itoa x.2.1, Lib.itoa x.2.2.1, Lib.itoa x.2.2.2] else if ptsC x.1 then [Lib.itoa x.2.2.1] else [])
theorem txtI_split {x : Instr} (O : OkI x) : splitR 32 (txtI x) = partsI x := by
  have h0 : (32 : UInt8) ∉ opw x.1 := opw_no O.op (by decide)
  have ha : (32 : UInt8) ∉ Lib.itoa x.2.1 := notin_itoa O.a (by decide) (by decide)
  have hb : (32 : UInt8) ∉ Lib.itoa x.2.2.1 := notin_itoa O.b (by decide) (by decide)
  have hc : (32 : UInt8) ∉ Lib.itoa x.2.2.2 := notin_itoa O.c (by decide) (by decide)
  unfold txtI partsI spD
  split
  · have : opw x.1 ++ ([32] ++ Lib.itoa x.2.1 ++ ([32] ++ Lib.itoa x.2.2.1)) = opw x.1 ++ 32 :: (Lib.itoa x.2.1 ++ 32 :: Lib.itoa x.2.2.1) := by simp
    rw [this, splitR_app _ h0, splitR_app _ ha, splitR_no hb]
  · split
    · have : opw x.1 ++ ([32] ++ Lib.itoa x.2.1 ++ ([32] ++ Lib.itoa x.2.2.1 ++ ([32] ++ Lib.itoa x.2.2.2))) = opw x.1 ++ 32 :: (Lib.itoa x.2.1 ++ 32 :: (Lib.itoa x.2.2.1 ++ 32 :: Lib.itoa x.2.2.2)) := by simp
      rw [this, splitR_app _ h0, splitR_app _ ha, splitR_app _ hb, splitR_no hc]
    · split
      · have : opw x.1 ++ ([32] ++ Lib.itoa x.2.2.1) = opw x.1 ++ 32 :: Lib.itoa x.2.2.1 := by simp
        rw [this, splitR_app _ h0, splitR_no hb]
      · rw [List.append_nil, splitR_no h0]
structure ToldI (s : List UInt8) (r : Instr × (Bool × Unit)) : Prop where
  all : ∀ x, okI 3 3 24 x = true → txtI x = s → r = (x, (true, ()))
  non : (∃ x, okI 3 3 24 x = true ∧ txtI x = s) ∨ r = (zeroI, (false, ()))
theorem ToldI.one {s : List UInt8} {r r' : Instr × (Bool × Unit)} (h : ToldI s r) (h' : ToldI s r') : r = r' := by
  rcases h.non with ⟨x, o, e⟩ | e
  · rw [h.all x o e, h'.all x o e]
  · rcases h'.non with ⟨x, o, e'⟩ | e'
    · rw [h.all x o e', h'.all x o e']
    · rw [e, e']
theorem words_at {op : Int} (h : 1 ≤ op ∧ op ≤ 11) (i : Nat) (hi : i < 12) : wordsL.getD i [] = opw op ↔ (i : Int) = op := by
  constructor
  · intro e
    have : ∀ i : Fin 12, ∀ j : Fin 12, wordsL.getD i.val [] = wordsL.getD j.val [] → i = j := by decide
    have h2 := this ⟨i, hi⟩ ⟨op.toNat, by omega⟩ e
    have := congrArg Fin.val h2
    simp only at this
    omega
  · intro e
    rw [← e]
    unfold opw
    rw [Int.toNat_natCast]
theorem indexS_spec {n : Nat} {op : Int} (h : 1 ≤ op ∧ op ≤ 11) (hn : 1048576 < n) : indexS.f n wordsL (opw op) = some (op, ()) := by
  have hwl : wordsL.length = 12 := rfl
  unfold indexS.f
  refine W_eq.1 (W_up (fun (i : Nat) (_ : Unit) => ((i : Int), ())) 12 (fun i _ => (i : Int) ≤ op) (s0 := ()) rfl (by omega) (by omega) (fun ih _ hI => ?_) (fun ih i _ hi hI hS => ?_))
  · have hI : ((12 : Nat) : Int) ≤ op := hI
    omega
  · have hI : (i : Int) ≤ op := hI
    simp only [br_yes (show (i : Int) < (wordsL.length : Int) by rw [hwl]; omega), Int.toNat_natCast]
    rw [chk_true (by rw [hwl]; omega), W_brd]
    refine ⟨fun e => ?_, fun e => ?_⟩
    · rw [W_some, (words_at h i hi).1 e.symm]
    · rw [w64_succ (by omega)]
      refine hS () ?_
      have : ¬ (i : Int) = op := fun c => e ((words_at h i hi).2 c).symm
      show ((i + 1 : Nat) : Int) ≤ op
      omega
/-! ### the program -/
theorem ptsB_of {op : Int} (h : ptsA op = true) : ptsB op = false := by
  simp only [ptsA, ptsB, decide_eq_true_eq, decide_eq_false_iff_not] at h ⊢
  omega
theorem halt_of {op : Int} (h : 1 ≤ op ∧ op ≤ 11) (ha : ptsA op = false) (hb : ptsB op = false) (hc : ptsC op = false) : op = 11 := by
  simp only [ptsA, ptsB, ptsC, decide_eq_false_iff_not] at ha hb hc
  omega
theorem eta3 {x : Instr} {a b c : Int} (h1 : a = x.2.1) (h2 : b = x.2.2.1) (h3 : c = x.2.2.2) : (x.1, (a, (b, c))) = x := by subst h1; subst h2; subst h3; rfl
theorem iParseInstr_txt {n : Nat} {x : Instr} (h : okI 3 3 24 x = true) (hn : 1048577 < n) : iParseInstr.f n (txtI x) = some (x, (true, ())) := by
  have O := okI_all h (by omega) (by omega) (by omega)
  have hl := txtI_len O
  have hf : fmtI x = txtI x := if_pos h
  have hop := O.op
  unfold iParseInstr.f
  rw [splitC_spec (by omega), txtI_split O, bind_unit, iOps_spec, bind_unit]
  have g0 : (partsI x).getD 0 [] = opw x.1 := rfl
  dsimp only
  rw [chk_true (by simp [partsI]), g0, indexS_spec hop (by omega), bind_unit]
  dsimp only
  rw [br_no (by omega)]
  cases hA : ptsA x.1
  · cases hB : ptsB x.1
    · cases hC : ptsC x.1
      · have hp : partsI x = [opw x.1] := by simp [partsI, hA, hB, hC]
        have e11 := halt_of hop hA hB hC
        simp only [br_false]
        rw [hp]
        have w0 : w64 (([opw x.1].length : Int) - 1) = 0 := w64_id (n := 0) (by omega) (by omega)
        rw [w0, decide_eq_true rfl, eta3 (O.na hA hB).symm (O.nb e11).symm (O.nc hB).symm, iFmtInstr_spec, hf, bind_unit, decide_eq_true rfl]
        rfl
      · have hp : partsI x = [opw x.1, Lib.itoa x.2.2.1] := by simp [partsI, hA, hB, hC]
        simp only [br_false, br_true]
        rw [hp]
        have w0 : w64 (([opw x.1, Lib.itoa x.2.2.1].length : Int) - 1) = 1 := w64_id (n := 1) (by omega) (by omega)
        have g1 : [opw x.1, Lib.itoa x.2.2.1].getD 1 [] = Lib.itoa x.2.2.1 := rfl
        rw [w0, decide_eq_true rfl]
        simp only [Bool.not_true, br_false]
        rw [chk_true (by simp), g1, iNumber_spec O.b.1 O.b.2, bind_unit]
        simp only [Bool.not_true, br_false]
        rw [eta3 (O.na hA hB).symm rfl (O.nc hB).symm, iFmtInstr_spec, hf, bind_unit, decide_eq_true rfl]
        rfl
    · have hp : partsI x = [opw x.1, Lib.itoa x.2.1, Lib.itoa x.2.2.1, Lib.itoa x.2.2.2] := by simp [partsI, hA, hB]
      simp only [br_false, br_true]
      rw [hp]
      have w0 : w64 (([opw x.1, Lib.itoa x.2.1, Lib.itoa x.2.2.1, Lib.itoa x.2.2.2].length : Int) - 1) = 3 := w64_id (n := 3) (by omega) (by omega)
      have g1 : [opw x.1, Lib.itoa x.2.1, Lib.itoa x.2.2.1, Lib.itoa x.2.2.2].getD 1 [] = Lib.itoa x.2.1 := rfl
      have g2 : [opw x.1, Lib.itoa x.2.1, Lib.itoa x.2.2.1, Lib.itoa x.2.2.2].getD 2 [] = Lib.itoa x.2.2.1 := rfl
      have g3 : [opw x.1, Lib.itoa x.2.1, Lib.itoa x.2.2.1, Lib.itoa x.2.2.2].getD 3 [] = Lib.itoa x.2.2.2 := rfl
      rw [w0, decide_eq_true rfl]
      simp only [Bool.not_true, br_false]
      rw [chk_true (by simp), g1, iNumber_spec O.a.1 O.a.2, bind_unit]
      simp only [Bool.not_true, br_false]
      rw [chk_true (by simp), g2, iNumber_spec O.b.1 O.b.2, bind_unit]
      simp only [Bool.not_true, br_false]
      rw [chk_true (by simp), g3, iNumber_spec O.c.1 O.c.2, bind_unit]
      simp only [Bool.not_true, br_false]
      rw [eta3 rfl rfl rfl, iFmtInstr_spec, hf, bind_unit, decide_eq_true rfl]
      rfl
  · have hB := ptsB_of hA
    have hp : partsI x = [opw x.1, Lib.itoa x.2.1, Lib.itoa x.2.2.1] := by simp [partsI, hA]
    simp only [br_false, br_true]
    rw [hp]
    have w0 : w64 (([opw x.1, Lib.itoa x.2.1, Lib.itoa x.2.2.1].length : Int) - 1) = 2 := w64_id (n := 2) (by omega) (by omega)
    have g1 : [opw x.1, Lib.itoa x.2.1, Lib.itoa x.2.2.1].getD 1 [] = Lib.itoa x.2.1 := rfl
    have g2 : [opw x.1, Lib.itoa x.2.1, Lib.itoa x.2.2.1].getD 2 [] = Lib.itoa x.2.2.1 := rfl
    rw [w0, decide_eq_true rfl]
    simp only [Bool.not_true, br_false]
    rw [chk_true (by simp), g1, iNumber_spec O.a.1 O.a.2, bind_unit]
    simp only [Bool.not_true, br_false]
    rw [chk_true (by simp), g2, iNumber_spec O.b.1 O.b.2, bind_unit]
    simp only [Bool.not_true, br_false]
    rw [eta3 rfl rfl (O.nc hB).symm, iFmtInstr_spec, hf, bind_unit, decide_eq_true rfl]
    rfl
/-! ### the reference -/
end Go.AmT

namespace Go.AmT
open Go Go.Am Go.Proofs
set_option linter.unusedVariables false
set_option maxRecDepth 100000
def tys16 : List (Nat × TInfo) := [(3, ⟨false, 1, 8, [.int .i64 0], .int .i64, 0, some I, [], false⟩),
  (9, ⟨false, 1, 16, [.str []], .str, 0, some .str, [], false⟩),
  (60, ⟨false, 1, 24, [.nil], .slice, 72, some (.sl tInstr), [], false⟩),
  (62, ⟨true, 3, 40, [.int .i64 0, .int .i64 0, .nil], .struct, 0, some tProgram, [(0, 3), (1, 3), (2, 60)], false⟩),
  (72, ⟨true, 4, 32, [.int .i64 0, .int .i64 0, .int .i64 0, .int .i64 0], .struct, 0, some tInstr, [(0, 3), (1, 3), (2, 3), (3, 3)], false⟩),
  (77, ⟨false, 1, 24, [.nil], .slice, 9, some (.sl .str), [], false⟩)]
theorem tys16_ok : (tys16.all fun p => tokB Tryz.prog p.1 p.2) = true := by kernel_rfl

def iFmtProgram.las : List (Nat × LA) := [(7, ⟨[(3, .own 1000 .str), (19, .int .i64)], [(1000, .row true .str)], [17, 18], []⟩)]
noncomputable def iFmtProgram.f (n : Nat) (a0 : Program) : Option ((List UInt8) × Unit) := (iIsProgram.f n a0).bind fun r1 => br (!r1.1) (some ([], ())) ((itoaC.f n a0.1).bind fun r2 => (itoaC.f n a0.2.1).bind fun r3 => iter (α := (Int × (List (List UInt8)) × Unit)) n (fun ih11 x10 => br (decide (x10.1 < (a0.2.2.length : Int))) (chk (0 ≤ x10.1 ∧ x10.1 < (a0.2.2.length : Int)) (let v12 := (a0.2.2.getD x10.1.toNat zInstr); (iFmtInstr.f n v12).bind fun r13 => chk ((x10.2.1.length + ([r13.1] : List (List UInt8)).length) * 16 ≤ maxB) (ih11 ((w64 (x10.1 + 1)), ((x10.2.1 ++ [r13.1]), ()))))) ((joinC.f n x10.2.1 ([59] : List UInt8)).bind fun r14 => some (r14.1, ()))) (0, ([r2.1, r3.1], ())))
noncomputable def iFmtProgram.mng (n : Nat) : Mng := ⟨[.val tProgram], [.val .str], fun x => iFmtProgram.f n x.1⟩
noncomputable def iFmtProgram.cfg (n : Nat) : Cfg := ⟨tys16, [(90, iIsProgram.mng n), (81, itoaC.mng n), (36, iFmtInstr.mng n), (89, joinC.mng n)], [], []⟩
theorem iFmtProgram.eq : ∀ (n : Nat) (a0 : Program), runF (iFmtProgram.cfg n) n Tryz.f34 (annOf Tryz.f34 iFmtProgram.las) [.val tProgram] [.val .str] (a0, ()) = iFmtProgram.f n a0 := by
  intros
  kernel_rfl
theorem iFmtProgram.gof : GoF Tryz.prog 34 := ⟨_, Tryz.func34, by kernel_rfl, by kernel_rfl⟩
theorem iFmtProgram.sound (n : Nat) : Sound Tryz.prog 34 (iFmtProgram.mng n) := runF_sound (fn := Tryz.f34) (m := iFmtProgram.mng n) (c := iFmtProgram.cfg n) (regOK mixed (opOK (.of (c := iFmtProgram.cfg n) ⟨⟨iIsProgram.sound n, iIsProgram.gof⟩, ⟨⟨itoaC.sound n, itoaC.gof⟩, ⟨⟨iFmtInstr.sound n, iFmtInstr.gof⟩, ⟨⟨joinC.sound n, joinC.gof⟩, trivial⟩⟩⟩⟩) (.of (c := iFmtProgram.cfg n) trivial)) (tysOK tys16_ok)) (tysOK tys16_ok) Tryz.func34 (fun x => (iFmtProgram.eq n x.1).symm)
end Go.AmT

namespace Go.AmT
open Go Go.Am
set_option linter.unusedVariables false
set_option linter.unusedSimpArgs false

theorem okP_all {p : Program} (hp : okP p = true) : (0 ≤ p.1 ∧ p.1 ≤ 3) ∧ (0 ≤ p.2.1 ∧ p.2.1 ≤ 3) ∧ (1 ≤ p.2.2.length ∧ p.2.2.length ≤ 24) ∧ ∀ x ∈ p.2.2, okI p.1 p.2.1 (p.2.2.length : Int) x = true := by
  unfold okP at hp
  simp only [Bool.and_eq_true, decide_eq_true_eq, List.all_eq_true] at hp
  exact ⟨hp.1.1.1, hp.1.1.2, hp.1.2, hp.2⟩
theorem okI_mono {ins outs size : Int} {x : Instr} (h : okI ins outs size x = true) (hi : ins ≤ 3) (ho : outs ≤ 3) (hs : size ≤ 24) : okI 3 3 24 x = true := by
  have O := okI_all h hi ho hs
  obtain ⟨op, a, b, c⟩ := x
  have key := O.op
  unfold okI at h ⊢
  rcases op_cases key with e | e | e | e | e | e | e | e | e | e | e <;>
  · simp only at e
    subst e
    simp (config := { decide := true }) only [if_true, if_false, Bool.and_eq_true, decide_eq_true_eq, or_true, true_or, or_false, false_or] at h ⊢
    first | exact h | omega | (simp only [reg, tok, Bool.and_eq_true, decide_eq_true_eq] at h ⊢; omega)
noncomputable def semiD (x : Instr) : List UInt8 := [59] ++ fmtI x
noncomputable def txtP (p : Program) : List UInt8 := Lib.itoa p.1 ++ [59] ++ Lib.itoa p.2.1 ++ (p.2.2.map semiD).flatten
noncomputable def fmtP (p : Program) : List UInt8 := if okP p then txtP p else []
theorem semiD_len (x : Instr) : (semiD x).length ≤ 41 := by
  have := fmtI_len x
  simp only [semiD, List.length_append, List.length_cons, List.length_nil]
  omega
theorem txtP_len {p : Program} (h : okP p = true) : (txtP p).length ≤ 1100 := by
  obtain ⟨h1, h2, h3, h4⟩ := okP_all h
  have l1 := itoa_len (x := p.1) (by omega) (by omega)
  have l2 := itoa_len (x := p.2.1) (by omega) (by omega)
  have l3 := flat_len semiD 41 p.2.2 (fun x _ => semiD_len x)
  simp only [txtP, List.length_append, List.length_cons, List.length_nil]
  omega
theorem fmtP_len (p : Program) : (fmtP p).length ≤ 1100 := by
  unfold fmtP
  split
  · rename_i h; exact txtP_len h
  · simp
theorem join_prog (p : Program) : Lib.join (Lib.itoa p.1 :: Lib.itoa p.2.1 :: p.2.2.map fmtI) [59] = txtP p := by
  rw [Lib.join_cons, Lib.joinTail, List.map_cons, List.map_map, List.flatten_cons]
  unfold txtP
  simp only [List.append_assoc]
  rfl
theorem iFmtProgram_spec {n : Nat} {p : Program} (hp : SmallP p) (hn : 1048576 < n) : iFmtProgram.f n p = some (fmtP p, ()) := by
  have hB := maxB_eq
  unfold iFmtProgram.f fmtP
  rw [iIsProgram_spec hp hn, bind_unit]
  cases hk : okP p
  · simp only [Bool.not_false, br_true]; rfl
  · obtain ⟨h1, h2, h3, h4⟩ := okP_all hk
    have hL := txtP_len hk
    simp only [Bool.not_true, br_false, if_true]
    rw [itoaC_spec (by omega) (by omega), bind_unit, itoaC_spec (by omega) (by omega), bind_unit]
    refine push_from p.2.2 fmtI [Lib.itoa p.1, Lib.itoa p.2.1] (fun i l => (i, (l, ()))) (fun ih i hi l hl => ?_) (fun ih => ?_) (by omega)
    · have hlt : (i : Int) < (p.2.2.length : Int) := by omega
      simp only [List.length_cons, List.length_nil] at hl
      simp only [br_yes hlt, Int.toNat_natCast]
      rw [chk_true (by omega), iFmtInstr_spec, bind_unit, chk_true (by simp only [List.length_cons, List.length_nil]; omega), w64_succ (by omega), getD_lt hi]
    · simp only [br_no (Int.lt_irrefl _)]
      have e : [Lib.itoa p.1, Lib.itoa p.2.1] ++ p.2.2.map fmtI = Lib.itoa p.1 :: Lib.itoa p.2.1 :: p.2.2.map fmtI := rfl
      rw [e, joinC_spec (by simp; omega) (by rw [join_prog]; omega), bind_unit, join_prog]
end Go.AmT

namespace Go.AmT
open Go Go.Am Go.Proofs
set_option linter.unusedVariables false
set_option maxRecDepth 100000
def tys17 : List (Nat × TInfo) := [(3, ⟨false, 1, 8, [.int .i64 0], .int .i64, 0, some I, [], false⟩),
  (9, ⟨false, 1, 16, [.str []], .str, 0, some .str, [], false⟩),
  (60, ⟨false, 1, 24, [.nil], .slice, 72, some (.sl tInstr), [], false⟩),
  (62, ⟨true, 3, 40, [.int .i64 0, .int .i64 0, .nil], .struct, 0, some tProgram, [(0, 3), (1, 3), (2, 60)], false⟩),
  (72, ⟨true, 4, 32, [.int .i64 0, .int .i64 0, .int .i64 0, .int .i64 0], .struct, 0, some tInstr, [(0, 3), (1, 3), (2, 3), (3, 3)], false⟩),
  (77, ⟨false, 1, 24, [.nil], .slice, 9, some (.sl .str), [], false⟩)]
theorem tys17_ok : (tys17.all fun p => tokB Tryz.prog p.1 p.2) = true := by kernel_rfl

def iParseProgram.las : List (Nat × LA) := [(10, ⟨[(9, .vptr 1000 0), (40, .int .i64)], [(1000, .cells [] [.int .i64, .int .i64, .own 1001 tInstr]), (1001, .row true tInstr)], [2, 6, 8, 38, 39], []⟩), (21, ⟨[(69, .bool)], [], [2, 9], []⟩)]
noncomputable def iParseProgram.f (n : Nat) (a0 : List UInt8) : Option (Program × (Bool × Unit)) := (splitC.f n a0 ([59] : List UInt8)).bind fun r1 => br (decide ((r1.1.length : Int) < 3)) (some ((0, (0, [])), (false, ()))) (chk ((0 : Int) ≤ 0 ∧ (0 : Int) < (r1.1.length : Int)) ((iNumber.f n (r1.1.getD 0 [])).bind fun r2 => chk ((0 : Int) ≤ 1 ∧ (1 : Int) < (r1.1.length : Int)) ((iNumber.f n (r1.1.getD 1 [])).bind fun r3 => chk ((0 : Int) ≤ 2 ∧ (2 : Int) ≤ (r1.1.length : Int) ∧ (r1.1.length : Int) ≤ (r1.1.length : Int)) (iter (α := (Int × (Int × (Int × (List Instr) × Unit)))) n (fun ih30 x29 => br (decide (x29.1 < (((r1.1.take (r1.1.length : Int).toNat).drop 2).length : Int))) (chk (0 ≤ x29.1 ∧ x29.1 < (((r1.1.take (r1.1.length : Int).toNat).drop 2).length : Int)) (let v31 := (((r1.1.take (r1.1.length : Int).toNat).drop 2).getD x29.1.toNat []); (iParseInstr.f n v31).bind fun r32 => br (!r32.2.1) (some ((0, (0, [])), (false, ()))) (chk ((x29.2.2.2.1.length + ([r32.1] : List Instr).length) * 32 ≤ maxB) (ih30 ((w64 (x29.1 + 1)), (x29.2.1, (x29.2.2.1, ((x29.2.2.2.1 ++ [r32.1]), ())))))))) (cut (α := (Bool × Unit)) (br (!r2.2.1) (some (.inr (true, ()))) (br (!r3.2.1) (some (.inr (true, ()))) ((iIsProgram.f n (x29.2.1, (x29.2.2.1, x29.2.2.2.1))).bind fun r35 => some (.inr ((!r35.1), ()))))) fun y34 => br y34.1 (some ((0, (0, [])), (false, ()))) (some ((x29.2.1, (x29.2.2.1, x29.2.2.2.1)), (true, ()))))) (0, (r2.1, (r3.1, ([], ()))))))))
noncomputable def iParseProgram.mng (n : Nat) : Mng := ⟨[.val .str], [.val tProgram, .val .bool], fun x => iParseProgram.f n x.1⟩
noncomputable def iParseProgram.cfg (n : Nat) : Cfg := ⟨tys17, [(61, splitC.mng n), (62, iNumber.mng n), (35, iParseInstr.mng n), (90, iIsProgram.mng n)], [], []⟩
theorem iParseProgram.eq : ∀ (n : Nat) (a0 : List UInt8), runF (iParseProgram.cfg n) n Tryz.f33 (annOf Tryz.f33 iParseProgram.las) [.val .str] [.val tProgram, .val .bool] (a0, ()) = iParseProgram.f n a0 := by
  intros
  kernel_rfl
theorem iParseProgram.gof : GoF Tryz.prog 33 := ⟨_, Tryz.func33, by kernel_rfl, by kernel_rfl⟩
theorem iParseProgram.sound (n : Nat) : Sound Tryz.prog 33 (iParseProgram.mng n) := runF_sound (fn := Tryz.f33) (m := iParseProgram.mng n) (c := iParseProgram.cfg n) (regOK mixed (opOK (.of (c := iParseProgram.cfg n) ⟨⟨splitC.sound n, splitC.gof⟩, ⟨⟨iNumber.sound n, iNumber.gof⟩, ⟨⟨iParseInstr.sound n, iParseInstr.gof⟩, ⟨⟨iIsProgram.sound n, iIsProgram.gof⟩, trivial⟩⟩⟩⟩) (.of (c := iParseProgram.cfg n) trivial)) (tysOK tys17_ok)) (tysOK tys17_ok) Tryz.func33 (fun x => (iParseProgram.eq n x.1).symm)

end Go.AmT

namespace Go.AmT
open Go Go.Am
set_option linter.unusedVariables false
set_option linter.unusedSimpArgs false

theorem splitR_list {α : Type} (c : UInt8) (g : α → List UInt8) : ∀ (l : List α) (a : List UInt8), c ∉ a → (∀ x ∈ l, c ∉ g x) → splitR c (a ++ (l.map fun x => c :: g x).flatten) = a :: l.map g
  | [], a, ha, _ => by simp [splitR_no ha]
  | x :: l, a, ha, h => by
    have e : a ++ ((x :: l).map fun x => c :: g x).flatten = a ++ c :: (g x ++ (l.map fun x => c :: g x).flatten) := by simp
    rw [e, splitR_app _ ha, splitR_list c g l (g x) (h x (by simp)) (fun y hy => h y (by simp [hy]))]
    rfl
theorem txtI_no {x : Instr} (O : OkI x) : (59 : UInt8) ∉ txtI x ∧ (10 : UInt8) ∉ txtI x := by
  have key : ∀ c : UInt8, c = 59 ∨ c = 10 → c ∉ txtI x := fun c hc => by
    have hn : c.toNat < 97 ∧ c ≠ 45 ∧ ¬ (48 ≤ c.toNat ∧ c.toNat ≤ 57) ∧ c ≠ 32 := by rcases hc with rfl | rfl <;> decide
    have h0 := opw_no O.op hn.1
    have sp : ∀ {v : Int}, smI v → c ∉ spD v := fun hv => by
      simp only [spD, List.mem_append, List.mem_singleton, not_or]
      exact ⟨hn.2.2.2, notin_itoa hv hn.2.1 hn.2.2.1⟩
    unfold txtI
    rw [List.mem_append, not_or]
    refine ⟨h0, ?_⟩
    split
    · rw [List.mem_append, not_or]; exact ⟨sp O.a, sp O.b⟩
    · split
      · rw [List.mem_append, List.mem_append, not_or, not_or]; exact ⟨sp O.a, sp O.b, sp O.c⟩
      · split
        · exact sp O.b
        · simp
  exact ⟨key 59 (.inl rfl), key 10 (.inr rfl)⟩
theorem okP_instr {p : Program} (h : okP p = true) : ∀ x ∈ p.2.2, okI 3 3 24 x = true := fun x hx => by
  obtain ⟨h1, h2, h3, h4⟩ := okP_all h
  exact okI_mono (h4 x hx) (by omega) (by omega) (by omega)
theorem semi_eq {l : List Instr} (h : ∀ x ∈ l, okI 3 3 24 x = true) : l.map semiD = l.map fun x => 59 :: txtI x := by
  refine List.map_congr_left (fun x hx => ?_)
  rw [semiD, fmtI, if_pos (h x hx)]
  rfl
theorem txtP_split {p : Program} (h : okP p = true) : splitR 59 (txtP p) = Lib.itoa p.1 :: Lib.itoa p.2.1 :: p.2.2.map txtI := by
  obtain ⟨h1, h2, h3, h4⟩ := okP_all h
  have hi := okP_instr h
  have e : txtP p = Lib.itoa p.1 ++ 59 :: (Lib.itoa p.2.1 ++ (p.2.2.map fun x => 59 :: txtI x).flatten) := by
    rw [txtP, semi_eq hi]; simp
  rw [e, splitR_app _ (notin_itoa ⟨by omega, by omega⟩ (by decide) (by decide)), splitR_list 59 txtI _ _ (notin_itoa ⟨by omega, by omega⟩ (by decide) (by decide)) (fun x hx => (txtI_no (okI_all (hi x hx) (by omega) (by omega) (by omega))).1)]
abbrev zeroP : Program := (0, (0, []))
structure ToldP (s : List UInt8) (r : Program × (Bool × Unit)) : Prop where
  all : ∀ p, okP p = true → txtP p = s → r = (p, (true, ()))
  non : (∃ p, okP p = true ∧ txtP p = s) ∨ r = (zeroP, (false, ()))
theorem ToldP.one {s : List UInt8} {r r' : Program × (Bool × Unit)} (h : ToldP s r) (h' : ToldP s r') : r = r' := by
  rcases h.non with ⟨x, o, e⟩ | e
  · rw [h.all x o e, h'.all x o e]
  · rcases h'.non with ⟨x, o, e'⟩ | e'
    · rw [h.all x o e', h'.all x o e']
    · rw [e, e']
/-! ### the program -/
theorem iParseProgram_txt {n : Nat} {p : Program} (h : okP p = true) (hn : 1048577 < n) : iParseProgram.f n (txtP p) = some (p, (true, ())) := by
  have hB := maxB_eq
  have hl := txtP_len h
  obtain ⟨h1, h2, h3, h4⟩ := okP_all h
  have hi4 := okP_instr h
  unfold iParseProgram.f
  rw [splitC_spec (by omega), txtP_split h, bind_unit]
  dsimp only
  have hl3 : (Lib.itoa p.1 :: Lib.itoa p.2.1 :: p.2.2.map txtI).length = p.2.2.length + 2 := by simp
  have g0 : (Lib.itoa p.1 :: Lib.itoa p.2.1 :: p.2.2.map txtI).getD 0 [] = Lib.itoa p.1 := rfl
  have g1 : (Lib.itoa p.1 :: Lib.itoa p.2.1 :: p.2.2.map txtI).getD 1 [] = Lib.itoa p.2.1 := rfl
  have eD : ((Lib.itoa p.1 :: Lib.itoa p.2.1 :: p.2.2.map txtI).take ((Lib.itoa p.1 :: Lib.itoa p.2.1 :: p.2.2.map txtI).length : Int).toNat).drop 2 = p.2.2.map txtI := by rw [Int.toNat_natCast, List.take_length]; rfl
  rw [br_no (by rw [hl3]; omega), chk_true (by rw [hl3]; omega), g0, iNumber_spec (by omega) (by omega), bind_unit, chk_true (by rw [hl3]; omega), g1, iNumber_spec (by omega) (by omega), bind_unit, chk_true (by rw [hl3]; omega), eD]
  refine push_loopE p.2.2 (fun x => x) (fun i l => (i, (p.1, (p.2.1, (l, ()))))) (fun ih i hi l hli => ?_) (fun ih => ?_) (by omega)
  · have hlt : (i : Int) < ((p.2.2.map txtI).length : Int) := by rw [List.length_map]; omega
    have hg : (p.2.2.map txtI).getD i [] = txtI p.2.2[i] := by rw [getD_lt (by rw [List.length_map]; exact hi), List.getElem_map]
    simp only [br_yes hlt, Int.toNat_natCast]
    rw [chk_true (by omega), hg, iParseInstr_txt (hi4 _ (List.getElem_mem hi)) hn, bind_unit]
    simp only [Bool.not_true, br_false]
    rw [chk_true (by simp only [List.length_cons, List.length_nil]; omega), w64_succ (by omega)]
  · have hlt : ¬ ((p.2.2.length : Int) < ((p.2.2.map txtI).length : Int)) := by rw [List.length_map]; omega
    simp only [br_no hlt, Bool.not_true, br_false]
    rw [List.map_id'' (fun _ => rfl)]
    show cut ((iIsProgram.f n p).bind _) _ = _
    rw [iIsProgram_spec ⟨by omega⟩ (by omega), h, bind_unit]
    rfl

/-! ### the reference -/
end Go.AmT

namespace Go.AmT
open Go Go.Am Go.Proofs
set_option linter.unusedVariables false
set_option maxRecDepth 100000
def tys18 : List (Nat × TInfo) := [(3, ⟨false, 1, 8, [.int .i64 0], .int .i64, 0, some I, [], false⟩),
  (9, ⟨false, 1, 16, [.str []], .str, 0, some .str, [], false⟩),
  (22, ⟨false, 1, 24, [.nil], .slice, 62, some (.sl tProgram), [], false⟩),
  (23, ⟨false, 1, 24, [.nil], .slice, 80, some (.sl tLink), [], false⟩),
  (25, ⟨true, 2, 48, [.nil, .nil], .struct, 0, some tNetwork, [(0, 22), (1, 23)], false⟩),
  (49, ⟨false, 1, 24, [.nil], .slice, 3, some IS, [], false⟩),
  (62, ⟨true, 3, 40, [.int .i64 0, .int .i64 0, .nil], .struct, 0, some tProgram, [(0, 3), (1, 3), (2, 60)], false⟩),
  (80, ⟨true, 5, 56, [.int .i64 0, .int .i64 0, .int .i64 0, .int .i64 0, .nil], .struct, 0, some tLink, [(0, 3), (1, 3), (2, 3), (3, 3), (4, 49)], false⟩)]
theorem tys18_ok : (tys18.all fun p => tokB Tryz.prog p.1 p.2) = true := by kernel_rfl

def iFmtNetwork.las : List (Nat × LA) := [(7, ⟨[(3, .str), (14, .int .i64)], [], [1, 12, 13], []⟩), (16, ⟨[(3, .str), (28, .int .i64)], [], [26, 27], []⟩)]
noncomputable def iFmtNetwork.f (n : Nat) (a0 : Network) : Option ((List UInt8) × Unit) := (iIsNetwork.f n a0).bind fun r1 => br (!r1.1) (some ([], ())) (iter (α := ((List UInt8) × (Int × Unit))) n (fun ih15 x14 => br (decide (x14.2.1 < (a0.1.length : Int))) (chk (0 ≤ x14.2.1 ∧ x14.2.1 < (a0.1.length : Int)) (let v16 := (a0.1.getD x14.2.1.toNat zProgram); (iFmtProgram.f n v16).bind fun r17 => chk (([112, 114, 111, 99, 101, 115, 115, 32] : List UInt8).length + r17.1.length < maxS) (chk ((([112, 114, 111, 99, 101, 115, 115, 32] : List UInt8) ++ r17.1).length + ([10] : List UInt8).length < maxS) (chk (x14.1.length + ((([112, 114, 111, 99, 101, 115, 115, 32] : List UInt8) ++ r17.1) ++ ([10] : List UInt8)).length < maxS) (ih15 ((x14.1 ++ ((([112, 114, 111, 99, 101, 115, 115, 32] : List UInt8) ++ r17.1) ++ ([10] : List UInt8))), ((w64 (x14.2.1 + 1)), ()))))))) (iter (α := ((List UInt8) × (Int × Unit))) n (fun ih26 x25 => br (decide (x25.2.1 < (a0.2.length : Int))) (chk (0 ≤ x25.2.1 ∧ x25.2.1 < (a0.2.length : Int)) (let v27 := (a0.2.getD x25.2.1.toNat zLink); (iListed.f n ([v27.1, v27.2.1, v27.2.2.1, v27.2.2.2.1] : List Int)).bind fun r28 => chk (([108, 105, 110, 107, 32] : List UInt8).length + r28.1.length < maxS) ((iFmtStream.f n v27.2.2.2.2).bind fun r29 => chk ((([108, 105, 110, 107, 32] : List UInt8) ++ r28.1).length + r29.1.length < maxS) (chk (((([108, 105, 110, 107, 32] : List UInt8) ++ r28.1) ++ r29.1).length + ([10] : List UInt8).length < maxS) (chk (x25.1.length + (((([108, 105, 110, 107, 32] : List UInt8) ++ r28.1) ++ r29.1) ++ ([10] : List UInt8)).length < maxS) (ih26 ((x25.1 ++ (((([108, 105, 110, 107, 32] : List UInt8) ++ r28.1) ++ r29.1) ++ ([10] : List UInt8))), ((w64 (x25.2.1 + 1)), ())))))))) (some (x25.1, ()))) (x14.1, (0, ())))) ([], (0, ())))
noncomputable def iFmtNetwork.mng (n : Nat) : Mng := ⟨[.val tNetwork], [.val .str], fun x => iFmtNetwork.f n x.1⟩
noncomputable def iFmtNetwork.cfg (n : Nat) : Cfg := ⟨tys18, [(47, iIsNetwork.mng n), (34, iFmtProgram.mng n), (80, iListed.mng n), (32, iFmtStream.mng n)], [], []⟩
theorem iFmtNetwork.eq : ∀ (n : Nat) (a0 : Network), runF (iFmtNetwork.cfg n) n Tryz.f25 (annOf Tryz.f25 iFmtNetwork.las) [.val tNetwork] [.val .str] (a0, ()) = iFmtNetwork.f n a0 := by
  intros
  kernel_rfl
theorem iFmtNetwork.gof : GoF Tryz.prog 25 := ⟨_, Tryz.func25, by kernel_rfl, by kernel_rfl⟩
theorem iFmtNetwork.sound (n : Nat) : Sound Tryz.prog 25 (iFmtNetwork.mng n) := runF_sound (fn := Tryz.f25) (m := iFmtNetwork.mng n) (c := iFmtNetwork.cfg n) (regOK mixed (opOK (.of (c := iFmtNetwork.cfg n) ⟨⟨iIsNetwork.sound n, iIsNetwork.gof⟩, ⟨⟨iFmtProgram.sound n, iFmtProgram.gof⟩, ⟨⟨iListed.sound n, iListed.gof⟩, ⟨⟨iFmtStream.sound n, iFmtStream.gof⟩, trivial⟩⟩⟩⟩) (.of (c := iFmtNetwork.cfg n) trivial)) (tysOK tys18_ok)) (tysOK tys18_ok) Tryz.func25 (fun x => (iFmtNetwork.eq n x.1).symm)
end Go.AmT

namespace Go.AmT
open Go Go.Am
set_option linter.unusedVariables false
set_option linter.unusedSimpArgs false

noncomputable def lineP (p : Program) : List UInt8 := [112, 114, 111, 99, 101, 115, 115, 32] ++ fmtP p ++ [10]
noncomputable def lineL (l : Link) : List UInt8 := [108, 105, 110, 107, 32] ++ Lib.itoa l.1 ++ [32] ++ Lib.itoa l.2.1 ++ [32] ++ Lib.itoa l.2.2.1 ++ [32] ++ Lib.itoa l.2.2.2.1 ++ [32] ++ fmtS l.2.2.2.2 ++ [10]
noncomputable def txtN (nt : Network) : List UInt8 := ((List.range nt.1.length).map fun i => lineP (nt.1.getD i zProgram)).flatten ++ ((List.range nt.2.length).map fun i => lineL (nt.2.getD i zLink)).flatten
noncomputable def fmtN (nt : Network) : List UInt8 := if okN nt then txtN nt else []
theorem okN_of {nt : Network} (h : okN nt = true) : OkN nt := of_decide_eq_true h
/-- the numbers of a link -/
structure LnkB (l : Link) : Prop where
  a : -1 ≤ l.1 ∧ l.1 ≤ 12
  b : 0 ≤ l.2.1 ∧ l.2.1 ≤ 3
  c : -1 ≤ l.2.2.1 ∧ l.2.2.1 ≤ 12
  d : 0 ≤ l.2.2.2.1 ∧ l.2.2.2.1 ≤ 3
  t : okS l.2.2.2.2 = true
theorem ports_le {nt : Network} (o : OkN nt) (k : Int) (h0 : 0 ≤ k) (h1 : k < (nt.1.length : Int)) : (nt.1.getD k.toNat zProgram).1 ≤ 3 ∧ (nt.1.getD k.toNat zProgram).2.1 ≤ 3 := by
  have hk : k.toNat < nt.1.length := by omega
  rw [getD_lt hk]
  have := okP_all (o.prog k.toNat hk)
  exact ⟨this.1.2, this.2.1.2⟩
theorem lnk_bd {nt : Network} (o : OkN nt) {i : Nat} (hi : i < nt.2.length) : LnkB (nt.2.getD i zLink) := by
  rw [getD_lt hi]
  have E := o.ends i hi
  have hp := o.progs
  refine ⟨?_, ?_, ?_, ?_, o.toks i hi⟩
  · rcases E.out with h | h
    · omega
    · have := h.1; have := h.2.1; omega
  · rcases E.out with h | h
    · omega
    · have := (ports_le o _ h.1 h.2.1).2; have := h.2.2.1; have := h.2.2.2; omega
  · rcases E.inn with h | h
    · omega
    · have := h.1; have := h.2.1; omega
  · rcases E.inn with h | h
    · omega
    · have := (ports_le o _ h.1 h.2.1).1; have := h.2.2.1; have := h.2.2.2; omega
theorem lineP_len (p : Program) : (lineP p).length ≤ 1200 := by
  have := fmtP_len p
  simp only [lineP, List.length_append, List.length_cons, List.length_nil]
  omega
theorem lineL_len {l : Link} (B : LnkB l) : (lineL l).length ≤ 4100 := by
  have h1 := B.a
  have h2 := B.b
  have h3 := B.c
  have h4 := B.d
  have l1 := itoa_len (x := l.1) (by omega) (by omega)
  have l2 := itoa_len (x := l.2.1) (by omega) (by omega)
  have l3 := itoa_len (x := l.2.2.1) (by omega) (by omega)
  have l4 := itoa_len (x := l.2.2.2.1) (by omega) (by omega)
  have l5 := fmtS_len l.2.2.2.2
  simp only [lineL, List.length_append, List.length_cons, List.length_nil]
  omega
theorem procs_len (nt : Network) (o : OkN nt) : (((List.range nt.1.length).map fun i => lineP (nt.1.getD i zProgram)).flatten).length ≤ 20000 := by
  have := flat_len (fun i => lineP (nt.1.getD i zProgram)) 1200 (List.range nt.1.length) (fun x hx => lineP_len _)
  rw [List.length_range] at this
  have := o.progs
  omega
theorem txtN_len {nt : Network} (o : OkN nt) : (txtN nt).length ≤ 150000 := by
  have h1 := procs_len nt o
  have h2 := flat_len (fun i => lineL (nt.2.getD i zLink)) 4100 (List.range nt.2.length) (fun x hx => lineL_len (lnk_bd o (List.mem_range.1 hx)))
  rw [List.length_range] at h2
  have := o.links
  unfold txtN
  rw [List.length_append]
  omega
theorem smallP_of {nt : Network} (h : SmallN nt) {i : Nat} (hi : i < nt.1.length) : SmallP (nt.1.getD i zProgram) := by
  rw [getD_lt hi]; exact h.prog _ (List.getElem_mem _)
theorem iFmtNetwork_spec {n : Nat} {nt : Network} (h : SmallN nt) (hn : 1048576 < n) : iFmtNetwork.f n nt = some (fmtN nt, ()) := by
  unfold iFmtNetwork.f fmtN
  rw [iIsNetwork_spec h hn, bind_unit]
  cases hk : okN nt
  · simp only [Bool.not_false, br_true]; rfl
  · have o := okN_of hk
    have hli := o.links
    have hpr := o.progs
    simp only [Bool.not_true, br_false, if_true]
    refine cat_loop (fun i => lineP (nt.1.getD i zProgram)) nt.1.length 1200 [] (fun i hi => lineP_len _) (fun t i => (t, (i, ()))) (fun ih i t hi ht => ?_) (fun ih => ?_) (by omega)
    · have hf := fmtP_len (nt.1.getD i zProgram)
      simp only [List.length_nil] at ht
      simp only [br_yes (show (i : Int) < (nt.1.length : Int) by omega), Int.toNat_natCast]
      rw [chk_true (by omega), iFmtProgram_spec (smallP_of h hi) hn, bind_unit, str_chk (by simp only [List.length_cons, List.length_nil]; omega), str_chk (by simp only [List.length_append, List.length_cons, List.length_nil]; omega), str_chk (by simp only [List.length_append, List.length_cons, List.length_nil]; omega), w64_succ (by omega)]
      simp only [lineP, List.append_assoc]
    · simp only [br_no (Int.lt_irrefl _)]
      rw [List.nil_append]
      have hL := procs_len nt o
      refine cat_loop (fun i => lineL (nt.2.getD i zLink)) nt.2.length 4100 _ (fun i hi => lineL_len (lnk_bd o hi)) (fun t i => (t, (i, ()))) (fun ih i t hi ht => ?_) (fun ih => ?_) (by omega)
      · have ht : t.length ≤ 200000 := by omega
        obtain ⟨b1, b2, b3, b4, b5⟩ := lnk_bd o hi
        have l1 := itoa_len (x := (nt.2.getD i zLink).1) (by omega) (by omega)
        have l2 := itoa_len (x := (nt.2.getD i zLink).2.1) (by omega) (by omega)
        have l3 := itoa_len (x := (nt.2.getD i zLink).2.2.1) (by omega) (by omega)
        have l4 := itoa_len (x := (nt.2.getD i zLink).2.2.2.1) (by omega) (by omega)
        have l5 := fmtS_len (nt.2.getD i zLink).2.2.2.2
        have l6 := (okS_bd b5).1
        simp only [br_yes (show (i : Int) < (nt.2.length : Int) by omega), Int.toNat_natCast]
        have L : ∀ {m : Nat} {ρ : Type} {y : Option ρ}, m ≤ 300000 → chk (m < maxS) y = y := fun h => str_chk (by omega)
        rw [chk_true (by omega), iListed_four hn (by omega) (by omega) (by omega) (by omega), bind_unit, L (by simp only [List.length_append, List.length_cons, List.length_nil]; omega), iFmtStream_spec (by omega) hn, bind_unit]
        rw [L (by simp only [List.length_append, List.length_cons, List.length_nil]; omega), L (by simp only [List.length_append, List.length_cons, List.length_nil]; omega), L (by simp only [List.length_append, List.length_cons, List.length_nil]; omega), w64_succ (by omega)]
        simp only [lineL, List.append_assoc]
      · simp only [br_no (Int.lt_irrefl _)]
        rfl
end Go.AmT

namespace Go.AmT
open Go Go.Am Go.Proofs
set_option linter.unusedVariables false
set_option maxRecDepth 100000
def tys19 : List (Nat × TInfo) := [(9, ⟨false, 1, 16, [.str []], .str, 0, some .str, [], false⟩)]
theorem tys19_ok : (tys19.all fun p => tokB Tryz.prog p.1 p.2) = true := by kernel_rfl

noncomputable def hasSufC.f (n : Nat) (a0 : List UInt8) (a1 : List UInt8) : Option (Bool × Unit) := hasSufF a0 a1
noncomputable def hasSufC.mng (n : Nat) : Mng := ⟨[.val .str, .val .str], [.val .bool], fun x => hasSufC.f n x.1 x.2.1⟩
theorem hasSufC.gof : GoF Tryz.prog 107 := ⟨_, Tryz.func107, by kernel_rfl, by kernel_rfl⟩
theorem hasSufC.sound (n : Nat) : Sound Tryz.prog 107 (hasSufC.mng n) := hasSuf_sound (fun s p w h => Tryz.strings_HasSuffix s p w h)

noncomputable def trimSufC.f (n : Nat) (a0 : List UInt8) (a1 : List UInt8) : Option (List UInt8 × Unit) := trimSufF a0 a1
noncomputable def trimSufC.mng (n : Nat) : Mng := ⟨[.val .str, .val .str], [.val .str], fun x => trimSufC.f n x.1 x.2.1⟩
theorem trimSufC.gof : GoF Tryz.prog 108 := ⟨_, Tryz.func108, by kernel_rfl, by kernel_rfl⟩
theorem trimSufC.sound (n : Nat) : Sound Tryz.prog 108 (trimSufC.mng n) := trimSuf_sound (fun s p w h => Tryz.strings_TrimSuffix s p w h)

def iLines.las : List (Nat × LA) := []
noncomputable def iLines.f (n : Nat) (a0 : List UInt8) : Option ((List (List UInt8)) × (Bool × Unit)) := br (decide (a0 = ([] : List UInt8))) (some ([], (true, ()))) ((hasSufC.f n a0 ([10] : List UInt8)).bind fun r1 => br (!r1.1) (some ([], (false, ()))) ((trimSufC.f n a0 ([10] : List UInt8)).bind fun r2 => (splitC.f n r2.1 ([10] : List UInt8)).bind fun r3 => some (r3.1, (true, ()))))
noncomputable def iLines.mng (n : Nat) : Mng := ⟨[.val .str], [.sh (.sl .str), .val .bool], fun x => iLines.f n x.1⟩
noncomputable def iLines.cfg (n : Nat) : Cfg := ⟨tys19, [(107, hasSufC.mng n), (108, trimSufC.mng n), (61, splitC.mng n)], [], []⟩
theorem iLines.eq : ∀ (n : Nat) (a0 : List UInt8), runF (iLines.cfg n) n Tryz.f44 (annOf Tryz.f44 iLines.las) [.val .str] [.sh (.sl .str), .val .bool] (a0, ()) = iLines.f n a0 := by
  intros
  kernel_rfl
theorem iLines.gof : GoF Tryz.prog 44 := ⟨_, Tryz.func44, by kernel_rfl, by kernel_rfl⟩
theorem iLines.sound (n : Nat) : Sound Tryz.prog 44 (iLines.mng n) := runF_sound (fn := Tryz.f44) (m := iLines.mng n) (c := iLines.cfg n) (regOK mixed (opOK (.of (c := iLines.cfg n) ⟨⟨hasSufC.sound n, hasSufC.gof⟩, ⟨⟨trimSufC.sound n, trimSufC.gof⟩, ⟨⟨splitC.sound n, splitC.gof⟩, trivial⟩⟩⟩) (.of (c := iLines.cfg n) trivial)) (tysOK tys19_ok)) (tysOK tys19_ok) Tryz.func44 (fun x => (iLines.eq n x.1).symm)
end Go.AmT

namespace Go.AmT
open Go Go.Am
set_option linter.unusedVariables false
set_option linter.unusedSimpArgs false

theorem suf_end (t : List UInt8) : Lib.hasSuffix (t ++ [10]) [10] = true := by
  unfold Lib.hasSuffix
  rw [List.isSuffixOf_iff_suffix]
  exact List.suffix_append t [10]
theorem iLines_txt {n : Nat} {t : List UInt8} (hl : (t ++ [10]).length ≤ 1048576) : iLines.f n (t ++ [10]) = some (splitR 10 t, (true, ())) := by
  have hl' : t.length ≤ 1048575 := by simp at hl; omega
  unfold iLines.f
  rw [br_no (by simp)]
  have e1 : hasSufC.f n (t ++ [10]) [10] = some (true, ()) := by
    unfold hasSufC.f hasSufF
    rw [if_pos (by omega), suf_end]
    rfl
  have e2 : trimSufC.f n (t ++ [10]) [10] = some (t, ()) := by
    unfold trimSufC.f trimSufF Lib.trimSuffix
    rw [if_pos (by omega), suf_end]
    simp
    rfl
  rw [e1, bind_unit]
  simp only [Bool.not_true, br_false]
  rw [e2, bind_unit, splitC_spec (by show t.length ≤ _; omega), bind_unit]
theorem iLines_lines {n : Nat} {l : List (List UInt8)} (h : ∀ a ∈ l, (10 : UInt8) ∉ a) (hl : ((l.map (· ++ [10])).flatten).length ≤ 1048576) : iLines.f n ((l.map (· ++ [10])).flatten) = some (l, (true, ())) := by
  by_cases hne : l = []
  · subst hne
    unfold iLines.f
    rw [br_yes (by rfl)]
  · have hs := splitR_lines l h
    have := List.dropLast_concat_getLast hne
    have e : (l.map (· ++ [10])).flatten = ((l.dropLast).map (· ++ [10])).flatten ++ l.getLast hne ++ [10] := by
      conv => lhs; rw [← this]
      simp
    rw [e] at hl hs ⊢
    rw [splitR_end] at hs
    rw [iLines_txt hl, List.append_cancel_right hs]
end Go.AmT

namespace Go.AmT
open Go Go.Am Go.Proofs
set_option linter.unusedVariables false
set_option maxRecDepth 100000
def tys20 : List (Nat × TInfo) := [(3, ⟨false, 1, 8, [.int .i64 0], .int .i64, 0, some I, [], false⟩),
  (9, ⟨false, 1, 16, [.str []], .str, 0, some .str, [], false⟩),
  (22, ⟨false, 1, 24, [.nil], .slice, 62, some (.sl tProgram), [], false⟩),
  (23, ⟨false, 1, 24, [.nil], .slice, 80, some (.sl tLink), [], false⟩),
  (25, ⟨true, 2, 48, [.nil, .nil], .struct, 0, some tNetwork, [(0, 22), (1, 23)], false⟩),
  (49, ⟨false, 1, 24, [.nil], .slice, 3, some IS, [], false⟩),
  (62, ⟨true, 3, 40, [.int .i64 0, .int .i64 0, .nil], .struct, 0, some tProgram, [(0, 3), (1, 3), (2, 60)], false⟩),
  (77, ⟨false, 1, 24, [.nil], .slice, 9, some (.sl .str), [], false⟩),
  (80, ⟨true, 5, 56, [.int .i64 0, .int .i64 0, .int .i64 0, .int .i64 0, .nil], .struct, 0, some tLink, [(0, 3), (1, 3), (2, 3), (3, 3), (4, 49)], false⟩),
  (133, ⟨false, 1, 24, [.nil], .slice, 136, none, [], false⟩),
  (136, ⟨false, 1, 8, [.nilp], .other, 0, none, [], false⟩)]
theorem tys20_ok : (tys20.all fun p => tokB Tryz.prog p.1 p.2) = true := by kernel_rfl

noncomputable def cutC.f (n : Nat) (a0 : List UInt8) (a1 : List UInt8) : Option (List UInt8 × (List UInt8 × (Bool × Unit))) := cutF a0 a1
noncomputable def cutC.mng (n : Nat) : Mng := ⟨[.val .str, .val .str], [.val .str, .val .str, .val .bool], fun x => cutC.f n x.1 x.2.1⟩
theorem cutC.gof : GoF Tryz.prog 45 := ⟨_, Tryz.func45, by kernel_rfl, by kernel_rfl⟩
theorem cutC.sound (n : Nat) : Sound Tryz.prog 45 (cutC.mng n) := cut_sound (b := 0) (by kernel_rfl) (fun s sep m w hs hm => Tryz.strings_Cut s sep m w hs hm)

def iParseLink.las : List (Nat × LA) := [(7, ⟨[(5, .vptr 1000 0), (6, .bool)], [(1000, .cells [] [.int .i64, .int .i64, .int .i64, .int .i64, .con (.nil)])], [2, 4], []⟩), (500008, ⟨[], [], [], []⟩)]
noncomputable def iParseLink.f (n : Nat) (a0 : List UInt8) : Option (Link × (Bool × Unit)) := (splitC.f n a0 ([32] : List UInt8)).bind fun r1 => br (!decide ((r1.1.length : Int) = 5)) (some ((0, (0, (0, (0, [])))), (false, ()))) (cut (α := (Bool × (Int × (Int × (Int × (Int × Unit)))))) (chk ((0 : Int) ≤ 0 ∧ (0 : Int) < (r1.1.length : Int)) ((iNumber.f n (r1.1.getD 0 [])).bind fun r10 => chk ((0 : Int) ≤ 1 ∧ (1 : Int) < (r1.1.length : Int)) ((iNumber.f n (r1.1.getD 1 [])).bind fun r11 => br r10.2.1 (chk ((0 : Int) ≤ 2 ∧ (2 : Int) < (r1.1.length : Int)) ((iNumber.f n (r1.1.getD 2 [])).bind fun r12 => br r11.2.1 (chk ((0 : Int) ≤ 3 ∧ (3 : Int) < (r1.1.length : Int)) ((iNumber.f n (r1.1.getD 3 [])).bind fun r13 => br r12.2.1 (some (.inr (r13.2.1, (r10.1, (r11.1, (r12.1, (r13.1, ()))))))) (some (.inr (false, (r10.1, (r11.1, (r12.1, (r13.1, ()))))))))) (chk ((0 : Int) ≤ 3 ∧ (3 : Int) < (r1.1.length : Int)) ((iNumber.f n (r1.1.getD 3 [])).bind fun r14 => some (.inr (false, (r10.1, (r11.1, (r12.1, (r14.1, ())))))))))) (chk ((0 : Int) ≤ 2 ∧ (2 : Int) < (r1.1.length : Int)) ((iNumber.f n (r1.1.getD 2 [])).bind fun r15 => chk ((0 : Int) ≤ 3 ∧ (3 : Int) < (r1.1.length : Int)) ((iNumber.f n (r1.1.getD 3 [])).bind fun r16 => some (.inr (false, (r10.1, (r11.1, (r15.1, (r16.1, ())))))))))))) fun y9 => chk ((0 : Int) ≤ 4 ∧ (4 : Int) < (r1.1.length : Int)) ((iParseStream.f n (r1.1.getD 4 [])).bind fun r17 => br y9.1 (some ((y9.2.1, (y9.2.2.1, (y9.2.2.2.1, (y9.2.2.2.2.1, r17.1)))), (r17.2.1, ()))) (some ((y9.2.1, (y9.2.2.1, (y9.2.2.2.1, (y9.2.2.2.2.1, r17.1)))), (false, ())))))
noncomputable def iParseLink.mng (n : Nat) : Mng := ⟨[.val .str], [.val tLink, .val .bool], fun x => iParseLink.f n x.1⟩
noncomputable def iParseLink.cfg (n : Nat) : Cfg := ⟨tys20, [(61, splitC.mng n), (62, iNumber.mng n), (31, iParseStream.mng n)], [], []⟩
theorem iParseLink.eq : ∀ (n : Nat) (a0 : List UInt8), runF (iParseLink.cfg n) n Tryz.f46 (annOf Tryz.f46 iParseLink.las) [.val .str] [.val tLink, .val .bool] (a0, ()) = iParseLink.f n a0 := by
  intros
  kernel_rfl
theorem iParseLink.gof : GoF Tryz.prog 46 := ⟨_, Tryz.func46, by kernel_rfl, by kernel_rfl⟩
theorem iParseLink.sound (n : Nat) : Sound Tryz.prog 46 (iParseLink.mng n) := runF_sound (fn := Tryz.f46) (m := iParseLink.mng n) (c := iParseLink.cfg n) (regOK mixed (opOK (.of (c := iParseLink.cfg n) ⟨⟨splitC.sound n, splitC.gof⟩, ⟨⟨iNumber.sound n, iNumber.gof⟩, ⟨⟨iParseStream.sound n, iParseStream.gof⟩, trivial⟩⟩⟩) (.of (c := iParseLink.cfg n) trivial)) (tysOK tys20_ok)) (tysOK tys20_ok) Tryz.func46 (fun x => (iParseLink.eq n x.1).symm)

def iParseNetwork.las : List (Nat × LA) := [(5, ⟨[(5, .bool), (6, .vptr 1000 0), (24, .int .i64)], [(1000, .cells [] [.own 1001 tProgram, .own 1002 tLink]), (1001, .row true tProgram), (1002, .row true tLink)], [0, 2, 22, 23], []⟩), (12, ⟨[(34, .bool)], [], [0, 2, 5, 6, 9, 10, 22, 23, 24], []⟩), (22, ⟨[(89, .bool)], [], [2, 6], []⟩)]
noncomputable def iParseNetwork.f (n : Nat) (a0 : List UInt8) : Option (Network × (Bool × Unit)) := (iLines.f n a0).bind fun r1 => iter (α := (Bool × (Int × (List Program) × (List Link) × Unit))) n (fun ih30 x29 => br (decide (x29.2.1 < (r1.1.length : Int))) (chk (0 ≤ x29.2.1 ∧ x29.2.1 < (r1.1.length : Int)) (let v31 := (r1.1.getD x29.2.1.toNat []); (cutC.f n v31 ([32] : List UInt8)).bind fun r32 => cut (α := (Bool × Unit)) (br (decide (r32.1 = ([112, 114, 111, 99, 101, 115, 115] : List UInt8))) (some (.inr ((decide ((x29.2.2.2.1.length : Int) = 0)), ()))) (some (.inr (false, ())))) fun y33 => br y33.1 ((iParseProgram.f n r32.2.1).bind fun r34 => chk ((x29.2.2.1.length + ([r34.1] : List Program).length) * 40 ≤ maxB) (br x29.1 (ih30 (r34.2.1, ((w64 (x29.2.1 + 1)), ((x29.2.2.1 ++ [r34.1]), (x29.2.2.2.1, ()))))) (ih30 (false, ((w64 (x29.2.1 + 1)), ((x29.2.2.1 ++ [r34.1]), (x29.2.2.2.1, ()))))))) (br (decide (r32.1 = ([108, 105, 110, 107] : List UInt8))) ((iParseLink.f n r32.2.1).bind fun r35 => chk ((x29.2.2.2.1.length + ([r35.1] : List Link).length) * 56 ≤ maxB) (br x29.1 (ih30 (r35.2.1, ((w64 (x29.2.1 + 1)), (x29.2.2.1, ((x29.2.2.2.1 ++ [r35.1]), ()))))) (ih30 (false, ((w64 (x29.2.1 + 1)), (x29.2.2.1, ((x29.2.2.2.1 ++ [r35.1]), ()))))))) (ih30 (false, ((w64 (x29.2.1 + 1)), (x29.2.2.1, (x29.2.2.2.1, ())))))))) (cut (α := (Bool × Unit)) (br (!x29.1) (some (.inr (true, ()))) ((iIsNetwork.f n (x29.2.2.1, x29.2.2.2.1)).bind fun r39 => br (!r39.1) (some (.inr (true, ()))) ((iFmtNetwork.f n (x29.2.2.1, x29.2.2.2.1)).bind fun r40 => some (.inr ((!decide (r40.1 = a0)), ()))))) fun y38 => br y38.1 (some (([], []), (false, ()))) (some ((x29.2.2.1, x29.2.2.2.1), (true, ()))))) (r1.2.1, (0, ([], ([], ()))))
noncomputable def iParseNetwork.mng (n : Nat) : Mng := ⟨[.val .str], [.sh tNetwork, .val .bool], fun x => iParseNetwork.f n x.1⟩
noncomputable def iParseNetwork.cfg (n : Nat) : Cfg := ⟨tys20, [(44, iLines.mng n), (45, cutC.mng n), (33, iParseProgram.mng n), (46, iParseLink.mng n), (47, iIsNetwork.mng n), (25, iFmtNetwork.mng n)], [], []⟩
theorem iParseNetwork.eq : ∀ (n : Nat) (a0 : List UInt8), runF (iParseNetwork.cfg n) n Tryz.f8 (annOf Tryz.f8 iParseNetwork.las) [.val .str] [.sh tNetwork, .val .bool] (a0, ()) = iParseNetwork.f n a0 := by
  intros
  kernel_rfl
theorem iParseNetwork.gof : GoF Tryz.prog 8 := ⟨_, Tryz.func8, by kernel_rfl, by kernel_rfl⟩
theorem iParseNetwork.sound (n : Nat) : Sound Tryz.prog 8 (iParseNetwork.mng n) := runF_sound (fn := Tryz.f8) (m := iParseNetwork.mng n) (c := iParseNetwork.cfg n) (regOK mixed (opOK (.of (c := iParseNetwork.cfg n) ⟨⟨iLines.sound n, iLines.gof⟩, ⟨⟨cutC.sound n, cutC.gof⟩, ⟨⟨iParseProgram.sound n, iParseProgram.gof⟩, ⟨⟨iParseLink.sound n, iParseLink.gof⟩, ⟨⟨iIsNetwork.sound n, iIsNetwork.gof⟩, ⟨⟨iFmtNetwork.sound n, iFmtNetwork.gof⟩, trivial⟩⟩⟩⟩⟩⟩) (.of (c := iParseNetwork.cfg n) trivial)) (tysOK tys20_ok)) (tysOK tys20_ok) Tryz.func8 (fun x => (iParseNetwork.eq n x.1).symm)

end Go.AmT
