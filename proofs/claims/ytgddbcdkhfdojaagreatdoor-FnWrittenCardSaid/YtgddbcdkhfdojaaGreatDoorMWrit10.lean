/- Functions that the law FnWritten reaches, each as a plain Lean function, and that each does what that says. No condition. -/
import Derived.Test.YtgddbcdkhfdojaaGreatDoorMWrit9
import Derived.Test.YtgddbcdkhfdojaaGreatDoorMWrit2
import Derived.Test.YtgddbcdkhfdojaaGreatDoorMWrit8
import Derived.Test.YtgddbcdkhfdojaaGreatDoorMWrit5
namespace Go.AmT
open Go Go.Am Go.Proofs
set_option linter.unusedVariables false
set_option maxRecDepth 100000
def tys21 : List (Nat × TInfo) := [(3, ⟨false, 1, 8, [.int .i64 0], .int .i64, 0, some I, [], false⟩),
  (9, ⟨false, 1, 16, [.str []], .str, 0, some .str, [], false⟩),
  (25, ⟨true, 2, 48, [.nil, .nil], .struct, 0, some tNetwork, [(0, 22), (1, 23)], false⟩),
  (36, ⟨false, 1, 24, [.nil], .slice, 103, some (.sl tActor), [], false⟩),
  (37, ⟨false, 1, 24, [.nil], .slice, 49, some (.sl IS), [], false⟩),
  (39, ⟨true, 4, 80, [.nil, .nil, .nil, .int .i64 0], .struct, 0, some tState, [(0, 36), (1, 37), (2, 37), (3, 3)], false⟩),
  (49, ⟨false, 1, 24, [.nil], .slice, 3, some IS, [], false⟩),
  (77, ⟨false, 1, 24, [.nil], .slice, 9, some (.sl .str), [], false⟩),
  (103, ⟨true, 2, 32, [.int .i64 0, .nil], .struct, 0, some tActor, [(0, 3), (1, 49)], false⟩)]
theorem tys21_ok : (tys21.all fun p => tokB Tryz.prog p.1 p.2) = true := by kernel_rfl

def iParseState.las : List (Nat × LA) := [(5, ⟨[(7, .bool), (8, .vptr 1000 0), (30, .int .i64)], [(1000, .cells [] [.own 1001 tActor, .own 1002 IS, .own 1003 IS, .int .i64]), (1001, .row true tActor), (1002, .row true IS), (1003, .row true IS)], [1, 2, 4, 28, 29], []⟩), (12, ⟨[(36, .bool)], [], [1, 2, 4, 7, 8, 11, 28, 29, 30], []⟩), (16, ⟨[(59, .bool)], [], [1, 2, 4, 7, 8, 11, 28, 29, 30], []⟩), (21, ⟨[(98, .bool)], [], [1, 2, 4, 7, 8, 11, 28, 29, 30], []⟩), (28, ⟨[(156, .bool)], [], [4, 8], []⟩)]
noncomputable def iParseState.f (n : Nat) (a0 : Network) (a1 : List UInt8) : Option (State × (Bool × Unit)) := (iLines.f n a1).bind fun r1 => iter (α := (Bool × (Int × (Int × (List Actor) × (List (List Int)) × (List (List Int)) × Unit)))) n (fun ih54 x53 => br (decide (x53.2.1 < (r1.1.length : Int))) (chk (0 ≤ x53.2.1 ∧ x53.2.1 < (r1.1.length : Int)) (let v55 := (r1.1.getD x53.2.1.toNat []); (splitC.f n v55 ([32] : List UInt8)).bind fun r56 => cut (α := (Bool × Unit)) (chk ((0 : Int) ≤ 0 ∧ (0 : Int) < (r56.1.length : Int)) (br (decide ((r56.1.getD 0 []) = ([115, 116, 101, 112, 115] : List UInt8))) (some (.inr ((decide ((r56.1.length : Int) = 2)), ()))) (some (.inr (false, ()))))) fun y57 => br y57.1 (chk ((0 : Int) ≤ 1 ∧ (1 : Int) < (r56.1.length : Int)) ((iNumber.f n (r56.1.getD 1 [])).bind fun r58 => br x53.1 (ih54 (r58.2.1, ((w64 (x53.2.1 + 1)), (r58.1, (x53.2.2.2.1, (x53.2.2.2.2.1, (x53.2.2.2.2.2.1, ()))))))) (ih54 (false, ((w64 (x53.2.1 + 1)), (r58.1, (x53.2.2.2.1, (x53.2.2.2.2.1, (x53.2.2.2.2.2.1, ()))))))))) (cut (α := (Bool × Unit)) (chk ((0 : Int) ≤ 0 ∧ (0 : Int) < (r56.1.length : Int)) (br (decide ((r56.1.getD 0 []) = ([97, 99, 116, 111, 114] : List UInt8))) (some (.inr ((decide ((r56.1.length : Int) = 3)), ()))) (some (.inr (false, ()))))) fun y59 => br y59.1 (chk ((0 : Int) ≤ 1 ∧ (1 : Int) < (r56.1.length : Int)) ((iNumber.f n (r56.1.getD 1 [])).bind fun r60 => chk ((0 : Int) ≤ 2 ∧ (2 : Int) < (r56.1.length : Int)) ((iParseStream.f n (r56.1.getD 2 [])).bind fun r61 => chk ((x53.2.2.2.1.length + ([(r60.1, r61.1)] : List Actor).length) * 32 ≤ maxB) (br x53.1 (br r60.2.1 (ih54 (r61.2.1, ((w64 (x53.2.1 + 1)), (x53.2.2.1, ((x53.2.2.2.1 ++ [(r60.1, r61.1)]), (x53.2.2.2.2.1, (x53.2.2.2.2.2.1, ()))))))) (ih54 (false, ((w64 (x53.2.1 + 1)), (x53.2.2.1, ((x53.2.2.2.1 ++ [(r60.1, r61.1)]), (x53.2.2.2.2.1, (x53.2.2.2.2.2.1, ())))))))) (ih54 (false, ((w64 (x53.2.1 + 1)), (x53.2.2.1, ((x53.2.2.2.1 ++ [(r60.1, r61.1)]), (x53.2.2.2.2.1, (x53.2.2.2.2.2.1, ()))))))))))) (cut (α := (Bool × Unit)) (chk ((0 : Int) ≤ 0 ∧ (0 : Int) < (r56.1.length : Int)) (br (decide ((r56.1.getD 0 []) = ([113, 117, 101, 117, 101] : List UInt8))) (some (.inr ((decide ((r56.1.length : Int) = 3)), ()))) (some (.inr (false, ()))))) fun y62 => br y62.1 (chk ((0 : Int) ≤ 1 ∧ (1 : Int) < (r56.1.length : Int)) ((iParseStream.f n (r56.1.getD 1 [])).bind fun r63 => chk ((0 : Int) ≤ 2 ∧ (2 : Int) < (r56.1.length : Int)) ((iParseStream.f n (r56.1.getD 2 [])).bind fun r64 => chk ((x53.2.2.2.2.1.length + ([r63.1] : List (List Int)).length) * 24 ≤ maxB) (chk ((x53.2.2.2.2.2.1.length + ([r64.1] : List (List Int)).length) * 24 ≤ maxB) (br x53.1 (br r63.2.1 (ih54 (r64.2.1, ((w64 (x53.2.1 + 1)), (x53.2.2.1, (x53.2.2.2.1, ((x53.2.2.2.2.1 ++ [r63.1]), ((x53.2.2.2.2.2.1 ++ [r64.1]), ()))))))) (ih54 (false, ((w64 (x53.2.1 + 1)), (x53.2.2.1, (x53.2.2.2.1, ((x53.2.2.2.2.1 ++ [r63.1]), ((x53.2.2.2.2.2.1 ++ [r64.1]), ())))))))) (ih54 (false, ((w64 (x53.2.1 + 1)), (x53.2.2.1, (x53.2.2.2.1, ((x53.2.2.2.2.1 ++ [r63.1]), ((x53.2.2.2.2.2.1 ++ [r64.1]), ())))))))))))) (ih54 (false, ((w64 (x53.2.1 + 1)), (x53.2.2.1, (x53.2.2.2.1, (x53.2.2.2.2.1, (x53.2.2.2.2.2.1, ()))))))))))) (cut (α := (Bool × Unit)) (br (!x53.1) (some (.inr (true, ()))) ((iIsState.f n a0 (x53.2.2.2.1, (x53.2.2.2.2.1, (x53.2.2.2.2.2.1, x53.2.2.1)))).bind fun r68 => br (!r68.1) (some (.inr (true, ()))) ((iFmtState.f n a0 (x53.2.2.2.1, (x53.2.2.2.2.1, (x53.2.2.2.2.2.1, x53.2.2.1)))).bind fun r69 => some (.inr ((!decide (r69.1 = a1)), ()))))) fun y67 => br y67.1 (some (([], ([], ([], 0))), (false, ()))) (some ((x53.2.2.2.1, (x53.2.2.2.2.1, (x53.2.2.2.2.2.1, x53.2.2.1))), (true, ()))))) (r1.2.1, (0, (0, ([], ([], ([], ()))))))
noncomputable def iParseState.mng (n : Nat) : Mng := ⟨[.val tNetwork, .val .str], [.val tState, .val .bool], fun x => iParseState.f n x.1 x.2.1⟩
noncomputable def iParseState.cfg (n : Nat) : Cfg := ⟨tys21, [(44, iLines.mng n), (61, splitC.mng n), (62, iNumber.mng n), (31, iParseStream.mng n), (63, iIsState.mng n), (26, iFmtState.mng n)], [], []⟩
theorem iParseState.eq : ∀ (n : Nat) (a0 : Network) (a1 : List UInt8), runF (iParseState.cfg n) n Tryz.f15 (annOf Tryz.f15 iParseState.las) [.val tNetwork, .val .str] [.val tState, .val .bool] (a0, (a1, ())) = iParseState.f n a0 a1 := by
  intros
  kernel_rfl
theorem iParseState.gof : GoF Tryz.prog 15 := ⟨_, Tryz.func15, by kernel_rfl, by kernel_rfl⟩
theorem iParseState.sound (n : Nat) : Sound Tryz.prog 15 (iParseState.mng n) := runF_sound (fn := Tryz.f15) (m := iParseState.mng n) (c := iParseState.cfg n) (regOK mixed (opOK (.of (c := iParseState.cfg n) ⟨⟨iLines.sound n, iLines.gof⟩, ⟨⟨splitC.sound n, splitC.gof⟩, ⟨⟨iNumber.sound n, iNumber.gof⟩, ⟨⟨iParseStream.sound n, iParseStream.gof⟩, ⟨⟨iIsState.sound n, iIsState.gof⟩, ⟨⟨iFmtState.sound n, iFmtState.gof⟩, trivial⟩⟩⟩⟩⟩⟩) (.of (c := iParseState.cfg n) trivial)) (tysOK tys21_ok)) (tysOK tys21_ok) Tryz.func15 (fun x => (iParseState.eq n x.1 x.2.1).symm)

end Go.AmT

namespace Go.AmT
open Go Go.Am
set_option linter.unusedVariables false
set_option linter.unusedSimpArgs false

/-! ### the lines of a state -/
noncomputable def lnS (s : State) : List UInt8 := [115, 116, 101, 112, 115] ++ 32 :: Lib.itoa s.2.2.2
noncomputable def lnA (a : Actor) : List UInt8 := [97, 99, 116, 111, 114] ++ 32 :: (Lib.itoa a.1 ++ 32 :: txtS a.2)
noncomputable def lnQ (q h : List Int) : List UInt8 := [113, 117, 101, 117, 101] ++ 32 :: (txtS q ++ 32 :: txtS h)
noncomputable def lnOf (s : State) (i : Nat) : List UInt8 :=
  if i = 0 then lnS s else if i ≤ s.1.length then lnA (s.1.getD (i - 1) zActor) else lnQ (s.2.1.getD (i - 1 - s.1.length) []) (s.2.2.1.getD (i - 1 - s.1.length) [])
noncomputable def linesSt (s : State) : List (List UInt8) := (List.range (1 + s.1.length + s.2.1.length)).map (lnOf s)
theorem linesSt_len (s : State) : (linesSt s).length = 1 + s.1.length + s.2.1.length := by simp [linesSt]
theorem linesSt_get (s : State) {i : Nat} (h : i < 1 + s.1.length + s.2.1.length) : (linesSt s).getD i [] = lnOf s i := by
  rw [getD_lt (by rw [linesSt_len]; exact h)]
  simp [linesSt]
theorem linesSt_eq (s : State) : linesSt s = lnS s :: (((List.range s.1.length).map fun i => lnA (s.1.getD i zActor)) ++ ((List.range s.2.1.length).map fun i => lnQ (s.2.1.getD i []) (s.2.2.1.getD i []))) := by
  refine List.ext_getElem (by simp [linesSt]; omega) (fun i h1 h2 => ?_)
  rw [linesSt_len] at h1
  simp only [linesSt, List.getElem_map, List.getElem_range]
  cases i with
  | zero => rfl
  | succ i =>
    rw [List.getElem_cons_succ]
    by_cases hi : i < s.1.length
    · rw [List.getElem_append_left (by simpa using hi)]
      simp only [List.getElem_map, List.getElem_range, lnOf]
      rw [if_neg (by omega), if_pos (by omega)]
      rfl
    · rw [List.getElem_append_right (by simpa using hi)]
      simp only [List.getElem_map, List.getElem_range, lnOf, List.length_map, List.length_range]
      rw [if_neg (by omega), if_neg (by omega)]
      rfl
theorem act_ok {nt : Network} {s : State} (o : OkSt nt s) {i : Nat} (hi : i < s.1.length) : okS (s.1.getD i zActor).2 = true := (okA_bd (o.act i (by have := o.na; omega))).2.2
theorem fmtS_ok {s : List Int} (h : okS s = true) : fmtS s = txtS s := if_pos h
theorem txtSt_lines {nt : Network} {s : State} (o : OkSt nt s) : txtSt s = ((linesSt s).map (· ++ [10])).flatten := by
  have hnq := o.nq
  rw [linesSt_eq]
  unfold txtSt
  have e1 : ((List.range s.1.length).map fun i => lineA (s.1.getD i zActor)) = (((List.range s.1.length).map fun i => lnA (s.1.getD i zActor))).map (· ++ [10]) := by
    rw [List.map_map]
    refine List.map_congr_left (fun i hi => ?_)
    have hi := List.mem_range.1 hi
    simp only [lineA, lnA, Function.comp, fmtS_ok (act_ok o hi)]
    simp
  have e2 : ((List.range s.2.1.length).map fun i => lineQ (s.2.1.getD i []) (s.2.2.1.getD i [])) = (((List.range s.2.1.length).map fun i => lnQ (s.2.1.getD i []) (s.2.2.1.getD i []))).map (· ++ [10]) := by
    rw [List.map_map]
    refine List.map_congr_left (fun i hi => ?_)
    have hi := List.mem_range.1 hi
    have L := o.lnk i (by omega)
    simp only [lineQ, lnQ, Function.comp, fmtS_ok L.qs, fmtS_ok L.hs]
    simp
  rw [e1, e2]
  simp [lnS]
theorem lnA_split {a : Actor} (h : okS a.2 = true) (h0 : 0 ≤ a.1) (h1 : a.1 ≤ 24) : splitR 32 (lnA a) = [[97, 99, 116, 111, 114], Lib.itoa a.1, txtS a.2] ∧ 10 ∉ lnA a := by
  have ht := (okS_bd h).2
  refine ⟨?_, ?_⟩
  · unfold lnA
    rw [splitR_app _ (by decide), splitR_app _ (notin_itoa ⟨by omega, by omega⟩ (by decide) (by decide)), splitR_no (txtS_mem ht (by decide) (by decide) (by decide) (by decide))]
  · have n1 := notin_itoa (x := a.1) ⟨by omega, by omega⟩ (c := 10) (by decide) (by decide)
    have n2 := txtS_mem ht (c := 10) (by decide) (by decide) (by decide) (by decide)
    simp only [lnA, List.mem_append, List.mem_cons, List.not_mem_nil, or_false, not_or]
    exact ⟨by decide, by decide, n1, by decide, n2⟩
theorem lnQ_split {q h : List Int} (h1 : okS q = true) (h2 : okS h = true) : splitR 32 (lnQ q h) = [[113, 117, 101, 117, 101], txtS q, txtS h] ∧ 10 ∉ lnQ q h := by
  have t1 := (okS_bd h1).2
  have t2 := (okS_bd h2).2
  refine ⟨?_, ?_⟩
  · unfold lnQ
    rw [splitR_app _ (by decide), splitR_app _ (txtS_mem t1 (by decide) (by decide) (by decide) (by decide)), splitR_no (txtS_mem t2 (by decide) (by decide) (by decide) (by decide))]
  · have n1 := txtS_mem t1 (c := 10) (by decide) (by decide) (by decide) (by decide)
    have n2 := txtS_mem t2 (c := 10) (by decide) (by decide) (by decide) (by decide)
    simp only [lnQ, List.mem_append, List.mem_cons, List.not_mem_nil, or_false, not_or]
    exact ⟨by decide, by decide, n1, by decide, n2⟩
theorem lnS_split {s : State} (h0 : 0 ≤ s.2.2.2) (h1 : s.2.2.2 ≤ 20000) : splitR 32 (lnS s) = [[115, 116, 101, 112, 115], Lib.itoa s.2.2.2] ∧ 10 ∉ lnS s := by
  refine ⟨?_, ?_⟩
  · unfold lnS
    rw [splitR_app _ (by decide), splitR_no (notin_itoa ⟨by omega, by omega⟩ (by decide) (by decide))]
  · have n1 := notin_itoa (x := s.2.2.2) ⟨by omega, by omega⟩ (c := 10) (by decide) (by decide)
    simp only [lnS, List.mem_append, List.mem_cons, List.not_mem_nil, or_false, not_or]
    exact ⟨by decide, by decide, n1⟩
theorem lines_no {nt : Network} {s : State} (o : OkSt nt s) : ∀ l ∈ linesSt s, (10 : UInt8) ∉ l := by
  have hnq := o.nq
  have hst := o.steps
  rw [linesSt_eq]
  intro l hl
  simp only [List.mem_cons, List.mem_append, List.mem_map, List.mem_range] at hl
  rcases hl with rfl | ⟨i, hi, rfl⟩ | ⟨i, hi, rfl⟩
  · exact (lnS_split hst.1 hst.2).2
  · have hb := (act_bd o hi).1
    exact (lnA_split (act_ok o hi) hb.1 hb.2).2
  · have L := o.lnk i (by omega)
    exact (lnQ_split L.qs L.hs).2
theorem linesSt_ne (s : State) : linesSt s ≠ [] := by rw [linesSt_eq]; simp
theorem txtSt_split {nt : Network} {s : State} (o : OkSt nt s) : splitR 10 (txtSt s) = linesSt s ++ [[]] := by
  rw [txtSt_lines o, splitR_lines _ (lines_no o)]
theorem txtSt_last {nt : Network} {s : State} (o : OkSt nt s) : ∃ t, txtSt s = t ++ [10] := by
  rw [txtSt_lines o]
  have hne := linesSt_ne s
  have := List.dropLast_concat_getLast hne
  refine ⟨(((linesSt s).dropLast).map (· ++ [10])).flatten ++ (linesSt s).getLast hne, ?_⟩
  conv => lhs; rw [← this]
  simp
theorem txtSt_trim {nt : Network} {s : State} (o : OkSt nt s) {t : List UInt8} (h : txtSt s = t ++ [10]) : splitR 10 t = linesSt s := by
  have h1 := txtSt_split o
  rw [h, splitR_end] at h1
  exact List.append_cancel_right h1

/-! ### what is read -/
abbrev zeroSt : State := ([], ([], ([], 0)))
/-- the state that a text tells -/
structure Told (nt : Network) (text : List UInt8) (r : State × (Bool × Unit)) : Prop where
  all : ∀ s, OkSt nt s → txtSt s = text → r = (s, (true, ()))
  non : (∃ s, OkSt nt s ∧ txtSt s = text) ∨ r = (zeroSt, (false, ()))
theorem Told.one {nt : Network} {text : List UInt8} {r r' : State × (Bool × Unit)} (h : Told nt text r) (h' : Told nt text r') : r = r' := by
  rcases h.non with ⟨s, o, e⟩ | e
  · rw [h.all s o e, h'.all s o e]
  · rcases h'.non with ⟨s, o, e'⟩ | e'
    · rw [h.all s o e', h'.all s o e']
    · rw [e, e']
/-- what has been read so far -/
structure Inv3 (k : Nat) (A : List Actor) (Q H : List (List Int)) : Prop where
  la : A.length ≤ k
  lq : Q.length ≤ k
  lh : H.length ≤ k
  ra : ∀ a ∈ A, okS a.2 = true
  rq : ∀ q ∈ Q, okS q = true
  rh : ∀ q ∈ H, okS q = true
theorem Inv3.nil : Inv3 0 [] [] [] := ⟨by simp, by simp, by simp, fun _ h => (by simp at h), fun _ h => (by simp at h), fun _ h => (by simp at h)⟩
theorem Inv3.mono {k k' : Nat} {A : List Actor} {Q H : List (List Int)} (I : Inv3 k A Q H) (h : k ≤ k') : Inv3 k' A Q H := ⟨by have := I.la; omega, by have := I.lq; omega, by have := I.lh; omega, I.ra, I.rq, I.rh⟩
theorem Inv3.act {k : Nat} {A : List Actor} {Q H : List (List Int)} (I : Inv3 k A Q H) {pc : Int} {r : List Int} (h : okS r = true) : Inv3 (k + 1) (A ++ [(pc, r)]) Q H :=
  ⟨by have := I.la; simp; omega, by have := I.lq; omega, by have := I.lh; omega, mem_snoc I.ra h, I.rq, I.rh⟩
theorem Inv3.small {k : Nat} {A : List Actor} {Q H : List (List Int)} (I : Inv3 k A Q H) (h : k ≤ 1048576) (st : Int) : SmallSt (A, (Q, (H, st))) := by
  refine ⟨?_, fun a ha => ?_, ?_, fun q hq => ?_, ?_, fun q hq => ?_⟩
  · have := I.la; show A.length ≤ _; omega
  · have := (okS_bd (I.ra a ha)).1; omega
  · have := I.lq; show Q.length ≤ _; omega
  · have := (okS_bd (I.rq q hq)).1; omega
  · have := I.lh; show H.length ≤ _; omega
  · have := (okS_bd (I.rh q hq)).1; omega
theorem wordcut {ρ : Type} {L : List (List UInt8)} (h : L ≠ []) (wd : List UInt8) (k : Int) :
    chk ((0 : Int) ≤ 0 ∧ (0 : Int) < (L.length : Int)) (br (decide ((L.getD 0 []) = wd)) (some (Sum.inr (α := ρ) ((decide ((L.length : Int) = k)), ()))) (some (.inr (false, ())))) = some (.inr ((decide ((L.getD 0 []) = wd) && decide ((L.length : Int) = k)), ())) := by
  have := List.length_pos_iff.2 h
  rw [chk_true (by omega)]
  by_cases e : (L.getD 0 []) = wd
  · rw [br_yes e, decide_eq_true e, Bool.true_and]
  · rw [br_no e, decide_eq_false e, Bool.false_and]
theorem small_ok {nt : Network} {s : State} (o : OkSt nt s) : SmallSt s := by
  have h1 := o.na
  have h2 := o.nq
  have h3 := o.ns
  have hp := o.net.progs
  have hl := o.net.links
  refine ⟨by omega, fun a ha => ?_, by omega, fun q hq => ?_, by omega, fun q hq => ?_⟩
  · obtain ⟨i, hi, rfl⟩ := List.mem_iff_getElem.1 ha
    have := (okS_bd (act_ok o hi)).1
    rw [getD_lt hi] at this
    omega
  · obtain ⟨i, hi, rfl⟩ := List.mem_iff_getElem.1 hq
    have := (okS_bd (o.lnk i (by omega)).qs).1
    rw [getD_lt hi] at this
    omega
  · obtain ⟨i, hi, rfl⟩ := List.mem_iff_getElem.1 hq
    have := (okS_bd (o.lnk i (by omega)).hs).1
    rw [getD_lt hi] at this
    omega

/-! ### the reference -/
theorem lnS_len {s : State} (h0 : 0 ≤ s.2.2.2) (h1 : s.2.2.2 ≤ 20000) : (lnS s).length ≤ 1000000 := by
  have := itoa_len (x := s.2.2.2) (by omega) (by omega)
  simp only [lnS, List.length_append, List.length_cons, List.length_nil]
  omega
theorem lnA_len {a : Actor} (h : okS a.2 = true) (h0 : 0 ≤ a.1) (h1 : a.1 ≤ 24) : (lnA a).length ≤ 1000000 := by
  have := itoa_len (x := a.1) (by omega) (by omega)
  have := txtS_len h
  simp only [lnA, List.length_append, List.length_cons, List.length_nil]
  omega
theorem lnQ_len {q h : List Int} (h1 : okS q = true) (h2 : okS h = true) : (lnQ q h).length ≤ 1000000 := by
  have := txtS_len h1
  have := txtS_len h2
  simp only [lnQ, List.length_append, List.length_cons, List.length_nil]
  omega
/-- how far a state has been read before line i -/
noncomputable def soFar (s : State) (i : Nat) : Int × (List Actor × (List (List Int) × (List (List Int) × Unit))) :=
  (if i = 0 then 0 else s.2.2.2, (s.1.take (i - 1), (s.2.1.take (i - 1 - s.1.length), (s.2.2.1.take (i - 1 - s.1.length), ()))))
theorem soFar_succ (s : State) (j : Nat) : soFar s (j + 1) = (s.2.2.2, (s.1.take j, (s.2.1.take (j - s.1.length), (s.2.2.1.take (j - s.1.length), ())))) := by
  unfold soFar
  rw [if_neg (by omega), Nat.add_sub_cancel]
theorem lnOf_A (s : State) {j : Nat} (h : j < s.1.length) : lnOf s (j + 1) = lnA (s.1.getD j zActor) := by
  unfold lnOf
  rw [if_neg (by omega), if_pos (by omega), Nat.add_sub_cancel]
theorem lnOf_Q (s : State) {j : Nat} (h : ¬ j < s.1.length) : lnOf s (j + 1) = lnQ (s.2.1.getD (j - s.1.length) []) (s.2.2.1.getD (j - s.1.length) []) := by
  unfold lnOf
  rw [if_neg (by omega), if_neg (by omega), Nat.add_sub_cancel]
theorem soFar_end {nt : Network} {s : State} (o : OkSt nt s) : soFar s (1 + s.1.length + s.2.1.length) = (s.2.2.2, (s.1, (s.2.1, (s.2.2.1, ())))) := by
  have hnq := o.nq
  have hns := o.ns
  unfold soFar
  rw [if_neg (by omega), List.take_of_length_le (by omega), List.take_of_length_le (by omega), List.take_of_length_le (by omega)]
/-! ### the program -/
theorem line_cases {nt : Network} {s : State} (o : OkSt nt s) {i : Nat} (hi : i < 1 + s.1.length + s.2.1.length) :
    (∃ st A Q H, soFar s i = (st, (A, (Q, (H, ())))) ∧ lnOf s i = lnS s ∧ soFar s (i + 1) = (s.2.2.2, (A, (Q, (H, ()))))) ∨
    (∃ st A Q H, ∃ a : Actor, soFar s i = (st, (A, (Q, (H, ())))) ∧ lnOf s i = lnA a ∧ soFar s (i + 1) = (st, (A ++ [a], (Q, (H, ())))) ∧ okS a.2 = true ∧ 0 ≤ a.1 ∧ a.1 ≤ 24 ∧ A.length ≤ 1000) ∨
    (∃ st A Q H q h, soFar s i = (st, (A, (Q, (H, ())))) ∧ lnOf s i = lnQ q h ∧ soFar s (i + 1) = (st, (A, (Q ++ [q], (H ++ [h], ())))) ∧ okS q = true ∧ okS h = true ∧ Q.length ≤ 1000 ∧ H.length ≤ 1000) := by
  have hnq := o.nq
  have hns := o.ns
  have hna := o.na
  have hli := o.net.links
  have hpr := o.net.progs
  by_cases h0 : i = 0
  · subst h0
    exact .inl ⟨_, _, _, _, rfl, rfl, by rw [soFar_succ]⟩
  · obtain ⟨j, rfl⟩ : ∃ j, i = j + 1 := ⟨i - 1, by omega⟩
    refine .inr ?_
    by_cases hA : j < s.1.length
    · have hb := (act_bd o hA).1
      refine .inl ⟨_, _, _, _, _, soFar_succ s j, lnOf_A s hA, ?_, act_ok o hA, hb.1, hb.2, by rw [List.length_take]; omega⟩
      have e1 : s.1.take (j + 1) = s.1.take j ++ [s.1.getD j zActor] := by rw [List.take_succ_eq_append_getElem hA, getD_lt hA]
      have e2 : j - s.1.length = 0 := by omega
      have e3 : j + 1 - s.1.length = 0 := by omega
      rw [soFar_succ, e1, e2, e3]
    · have hq : j - s.1.length < s.2.1.length := by omega
      have hh : j - s.1.length < s.2.2.1.length := by omega
      have L := o.lnk (j - s.1.length) (by omega)
      refine .inr ⟨_, _, _, _, _, _, soFar_succ s j, lnOf_Q s hA, ?_, L.qs, L.hs, by rw [List.length_take]; omega, by rw [List.length_take]; omega⟩
      have e1 : s.1.take (j + 1) = s.1.take j := by rw [List.take_of_length_le (by omega), List.take_of_length_le (by omega)]
      have e3 : j + 1 - s.1.length = (j - s.1.length) + 1 := by omega
      rw [soFar_succ, e1, e3, List.take_succ_eq_append_getElem hq, List.take_succ_eq_append_getElem hh, getD_lt hq, getD_lt hh]
theorem soFar_zero (s : State) : soFar s 0 = (0, ([], ([], ([], ())))) := by simp [soFar]
theorem iParseState_txt {n : Nat} {nt : Network} {s : State} (hN : SmallN nt) (o : OkSt nt s) (hl : (txtSt s).length ≤ 1048576) (hn : 1048577 < n) : iParseState.f n nt (txtSt s) = some (s, (true, ())) := by
  have hB := maxB_eq
  have hst := o.steps
  obtain ⟨t, ht⟩ := txtSt_last o
  have hsp := txtSt_trim o ht
  have hli := iLines_txt (n := n) (t := t) (by rw [← ht]; exact hl)
  rw [hsp, ← ht] at hli
  have hlen := linesSt_len s
  have hnet := o.net
  have hna := o.na
  have hnq := o.nq
  have hl1 := hnet.links
  have hl2 := hnet.progs
  unfold iParseState.f
  rw [hli, bind_unit]
  dsimp only
  refine Eq.trans (congrArg (iter n _) (show _ = (true, (((0 : Nat) : Int), soFar s 0)) from by rw [soFar_zero]; rfl)) ?_
  refine iter_line (n := n) (fun i => (true, ((i : Int), soFar s i))) (1 + s.1.length + s.2.1.length) (fun ih i hi => ?_) (fun ih => ?_) (by omega)
  · have hi' : (i : Int) < ((linesSt s).length : Int) := by omega
    simp only [br_yes hi', Int.toNat_natCast]
    rw [chk_true (by omega), linesSt_get s hi, w64_succ (by omega)]
    rcases line_cases o hi with ⟨st, A, Q, H, e1, e2, e3⟩ | ⟨st, A, Q, H, a, e1, e2, e3, h, h0, h1, hA⟩ | ⟨st, A, Q, H, q, h, e1, e2, e3, h1, h2, hQ, hH⟩
    · rw [e1, e2, e3]
      have hlen := lnS_len hst.1 hst.2
      rw [splitC_spec (by omega), (lnS_split hst.1 hst.2).1, bind_unit, wordcut (by simp)]
      simp only [cut_inr]
      have e : (decide (([[115, 116, 101, 112, 115], Lib.itoa s.2.2.2] : List (List UInt8)).getD 0 [] = [115, 116, 101, 112, 115]) && decide ((([[115, 116, 101, 112, 115], Lib.itoa s.2.2.2] : List (List UInt8)).length : Int) = 2)) = true := by rfl
      rw [e, br_true, chk_true (by simp)]
      have g1 : ([[115, 116, 101, 112, 115], Lib.itoa s.2.2.2] : List (List UInt8)).getD 1 [] = Lib.itoa s.2.2.2 := rfl
      rw [g1, iNumber_spec (by omega) (by omega), bind_unit, br_true]
    · rw [e1, e2, e3]
      have hlen := lnA_len h h0 h1
      rw [splitC_spec (by omega), (lnA_split h h0 h1).1, bind_unit, wordcut (by simp)]
      simp only [cut_inr]
      have e : (decide (([[97, 99, 116, 111, 114], Lib.itoa a.1, txtS a.2] : List (List UInt8)).getD 0 [] = [115, 116, 101, 112, 115]) && decide ((([[97, 99, 116, 111, 114], Lib.itoa a.1, txtS a.2] : List (List UInt8)).length : Int) = 2)) = false := by rfl
      rw [e, br_false, wordcut (by simp)]
      simp only [cut_inr]
      have e' : (decide (([[97, 99, 116, 111, 114], Lib.itoa a.1, txtS a.2] : List (List UInt8)).getD 0 [] = [97, 99, 116, 111, 114]) && decide ((([[97, 99, 116, 111, 114], Lib.itoa a.1, txtS a.2] : List (List UInt8)).length : Int) = 3)) = true := by rfl
      rw [e', br_true, chk_true (by simp)]
      have g1 : ([[97, 99, 116, 111, 114], Lib.itoa a.1, txtS a.2] : List (List UInt8)).getD 1 [] = Lib.itoa a.1 := rfl
      have g2 : ([[97, 99, 116, 111, 114], Lib.itoa a.1, txtS a.2] : List (List UInt8)).getD 2 [] = txtS a.2 := rfl
      rw [g1, g2, iNumber_spec (by omega) (by omega), bind_unit, chk_true (by simp), iParseStream_txt h hn, bind_unit, chk_true (by simp only [List.length_cons, List.length_nil]; omega)]
      simp only [br_true]
    · rw [e1, e2, e3]
      have hlen := lnQ_len h1 h2
      rw [splitC_spec (by omega), (lnQ_split h1 h2).1, bind_unit, wordcut (by simp)]
      simp only [cut_inr]
      have e : (decide (([[113, 117, 101, 117, 101], txtS q, txtS h] : List (List UInt8)).getD 0 [] = [115, 116, 101, 112, 115]) && decide ((([[113, 117, 101, 117, 101], txtS q, txtS h] : List (List UInt8)).length : Int) = 2)) = false := by rfl
      rw [e, br_false, wordcut (by simp)]
      simp only [cut_inr]
      have e' : (decide (([[113, 117, 101, 117, 101], txtS q, txtS h] : List (List UInt8)).getD 0 [] = [97, 99, 116, 111, 114]) && decide ((([[113, 117, 101, 117, 101], txtS q, txtS h] : List (List UInt8)).length : Int) = 3)) = false := by rfl
      rw [e', br_false, wordcut (by simp)]
      simp only [cut_inr]
      have e'' : (decide (([[113, 117, 101, 117, 101], txtS q, txtS h] : List (List UInt8)).getD 0 [] = [113, 117, 101, 117, 101]) && decide ((([[113, 117, 101, 117, 101], txtS q, txtS h] : List (List UInt8)).length : Int) = 3)) = true := by rfl
      rw [e'', br_true, chk_true (by simp)]
      have g1 : ([[113, 117, 101, 117, 101], txtS q, txtS h] : List (List UInt8)).getD 1 [] = txtS q := rfl
      have g2 : ([[113, 117, 101, 117, 101], txtS q, txtS h] : List (List UInt8)).getD 2 [] = txtS h := rfl
      rw [g1, g2, iParseStream_txt h1 hn, bind_unit, chk_true (by simp), iParseStream_txt h2 hn, bind_unit, chk_true (by simp only [List.length_cons, List.length_nil]; omega), chk_true (by simp only [List.length_cons, List.length_nil]; omega)]
      simp only [br_true]
  · have hi' : ¬ (((1 + s.1.length + s.2.1.length : Nat) : Int) < ((linesSt s).length : Int)) := by omega
    simp only [br_no hi', Bool.not_true, br_false]
    rw [soFar_end o]
    show cut ((iIsState.f n nt s).bind _) _ = _
    rw [iIsState_spec hN (small_ok o) (by omega), show okSt nt s = true from decide_eq_true o, bind_unit]
    simp only [Bool.not_true, br_false]
    show cut ((iFmtState.f n nt s).bind _) _ = _
    rw [iFmtState_spec hN (small_ok o) (by omega), bind_unit, fmtSt, if_pos (show okSt nt s = true from decide_eq_true o), decide_eq_true rfl]
    rfl
end Go.AmT

namespace Go.AmT
open Go Go.Am
set_option linter.unusedVariables false
set_option linter.unusedSimpArgs false

/-- a line of code as an instruction -/
def padI (x : List Int) : Instr := ((x ++ [0, 0, 0]).getD 0 0, ((x ++ [0, 0, 0]).getD 1 0, ((x ++ [0, 0, 0]).getD 2 0, (x ++ [0, 0, 0]).getD 3 0)))
theorem make_eq {n : Nat} {ins outs : Int} {l : List (List Int)} (hl : l.length ≤ 1000) (hx : ∀ x ∈ l, 1 ≤ x.length ∧ x.length ≤ 1000) (hn : 1048576 < n) : sL2Make.f n ins outs l = some ((ins, (outs, l.map padI ++ [(8, (0, (0, 0)))])), ()) := by
  unfold sL2Make.f
  refine push_loopE l padI (fun i c => (i, (ins, (outs, (c, ()))))) (fun ih i hi c hc => ?_) (fun ih => ?_) (by omega)
  · have e1 : l.getD i [] = l[i] := getD_lt hi _
    have hxi := hx _ (List.getElem_mem hi)
    simp only [br_yes (show (i : Int) < (l.length : Int) by omega), Int.toNat_natCast, e1]
    rw [chk_true (by omega), sL1Copy_run (by omega), Option.bind_some, small_chk (by simp only [List.length_cons, List.length_nil]; omega)]
    have e2 : (((l[i], ()) : List Int × Unit).1 ++ [0, 0, 0]).length = l[i].length + 3 := by simp
    have e3 : ∀ a : Instr, [a].length = 1 := fun _ => rfl
    rw [e2, chk_true (by omega), chk_true (by omega), chk_true (by omega), chk_true (by omega), e3, small_chk (by omega), w64_succ (by omega)]
    rfl
  · simp only [br_no (Int.lt_irrefl _)]
    rw [small_chk (by simp only [List.length_singleton, List.length_map]; omega)]
theorem okI_size {ins outs T T' : Int} {x : Instr} (h : okI ins outs T x = true) (ht : T ≤ T') : okI ins outs T' x = true := by
  obtain ⟨op, a, b, c⟩ := x
  unfold okI at h ⊢
  by_cases key : (1 ≤ op ∧ op ≤ 11)
  · rcases op_cases key with e | e | e | e | e | e | e | e | e | e | e <;>
    · subst e
      simp (config := { decide := true }) only [if_true, if_false, Bool.and_eq_true, decide_eq_true_eq, or_true, true_or, or_false, false_or] at h ⊢
      first | exact h | omega | (simp only [reg, Bool.and_eq_true, decide_eq_true_eq] at h ⊢; omega)
  · exfalso
    rw [if_neg (by omega), if_neg (by omega), if_neg (by omega), if_neg (by omega), if_neg (by omega), if_neg (by omega), if_neg (by omega)] at h
    cases h
/-- lines of code that were drawn, each of them valid -/
def LinesV (ins outs m : Int) (l : List (List Int)) : Prop := (l.length : Int) ≤ m ∧ ∀ x ∈ l, (1 ≤ x.length ∧ x.length ≤ 1000) ∧ okI ins outs ((l.length : Int) + 1) (padI x) = true
theorem LinesV.add {ins outs m : Int} {l : List (List Int)} {x : List Int} (h : LinesV ins outs m l) (hx : 1 ≤ x.length ∧ x.length ≤ 1000) (hv : okI ins outs ((l.length : Int) + 2) (padI x) = true) : LinesV ins outs (m + 1) (l ++ [x]) := by
  have e : (((l ++ [x]).length : Nat) : Int) + 1 = (l.length : Int) + 2 := by simp; omega
  refine ⟨by rw [List.length_append, List.length_singleton]; have := h.1; omega, fun y hy => ?_⟩
  rw [e]
  rcases List.mem_append.1 hy with hy | hy
  · exact ⟨(h.2 y hy).1, okI_size (h.2 y hy).2 (by omega)⟩
  · rw [List.mem_singleton.1 hy]; exact ⟨hx, hv⟩
theorem LinesV.le {ins outs m m' : Int} {l : List (List Int)} (h : LinesV ins outs m l) (hm : m ≤ m') : LinesV ins outs m' l := ⟨Int.le_trans h.1 hm, h.2⟩
theorem ok_read {ins outs T r k : Int} (hr : 0 ≤ r ∧ r ≤ 3) (hk : 0 ≤ k ∧ k < ins) : okI ins outs T (padI [1, r, k]) = true := by
  show okI ins outs T (1, (r, (k, 0))) = true
  simp [okI, reg, hr.1, hr.2, hk.1, hk.2]
theorem ok_write {ins outs T r k : Int} (hr : 0 ≤ r ∧ r ≤ 3) (hk : 0 ≤ k ∧ k < outs) : okI ins outs T (padI [2, r, k]) = true := by
  show okI ins outs T (2, (r, (k, 0))) = true
  simp [okI, reg, hr.1, hr.2, hk.1, hk.2]
theorem ok_arith {ins outs T o r k j : Int} (ho : o ∈ [(4 : Int), 5, 6, 7]) (hr : 0 ≤ r ∧ r ≤ 3) (hk : 0 ≤ k ∧ k ≤ 3) (hj : 0 ≤ j ∧ j ≤ 3) : okI ins outs T (padI [o, r, k, j]) = true := by
  show okI ins outs T (o, (r, (k, j))) = true
  simp only [List.mem_cons, List.not_mem_nil, or_false] at ho
  rcases ho with rfl | rfl | rfl | rfl <;> simp [okI, reg, hr.1, hr.2, hk.1, hk.2, hj.1, hj.2]
theorem ok_set {ins outs T r v : Int} (hr : 0 ≤ r ∧ r ≤ 3) (hv : -999999 ≤ v ∧ v ≤ 999999) : okI ins outs T (padI [3, r, v]) = true := by
  show okI ins outs T (3, (r, (v, 0))) = true
  simp [okI, reg, tok, hr.1, hr.2, hv.1, hv.2]
theorem ok_jump {ins outs T o r v : Int} (ho : o ∈ [(9 : Int), 10]) (hr : 0 ≤ r ∧ r ≤ 3) (hv : 0 ≤ v ∧ v ≤ T) : okI ins outs T (padI [o, r, v]) = true := by
  show okI ins outs T (o, (r, (v, 0))) = true
  simp only [List.mem_cons, List.not_mem_nil, or_false] at ho
  rcases ho with rfl | rfl <;> simp [okI, reg, hr.1, hr.2, hv.1, hv.2]
theorem ok_halt {ins outs T : Int} : okI ins outs T (padI [11]) = true := by
  show okI ins outs T (11, (0, (0, 0))) = true
  simp [okI]
theorem made_ok {ins outs : Int} {l : List (List Int)} {m : Int} (hi : 0 ≤ ins ∧ ins ≤ 3) (ho : 0 ≤ outs ∧ outs ≤ 3) (hm : (l.length : Int) ≤ 20) (h : LinesV ins outs m l) : okP (ins, (outs, l.map padI ++ [(8, (0, (0, 0)))])) = true := by
  unfold okP
  have e : (((l.map padI ++ [((8, (0, (0, 0))) : Instr)]).length : Nat) : Int) = (l.length : Int) + 1 := by simp
  simp only [Bool.and_eq_true, decide_eq_true_eq, List.all_eq_true]
  refine ⟨⟨⟨hi, ho⟩, ⟨by simp, by simp; omega⟩⟩, fun x hx => ?_⟩
  rw [e]
  rcases List.mem_append.1 hx with hx | hx
  · obtain ⟨y, hy, rfl⟩ := List.mem_map.1 hx
    exact (h.2 y hy).2
  · rw [List.mem_singleton.1 hx]
    simp [okI]
    omega
theorem program_ok {n : Nat} {b : List Int} (hb : b.length ≤ 1048576) {ins outs : Int} (hi : 0 ≤ ins ∧ ins ≤ 3) (ho : 0 ≤ outs ∧ outs ≤ 3) (hio : ins + outs ≤ 4) (hn : 1048576 < n) {c : List Int × (Int × (Int × Unit))} (hc : CurR b c) :
    W (l2Program.f n ins outs c.1 c.2.1 c.2.2.1) (fun r => okP (r.1, (r.2.1, r.2.2.1)) = true) := by
  unfold l2Program.f
  refine W_up (fun i (x : (List Int × (Int × (Int × Unit))) × List (List Int)) => ((i : Int), (x.1.1, (x.1.2.1, (x.1.2.2.1, (x.2, ())))))) ins.toNat (fun i x => CurR b x.1 ∧ LinesV ins outs i x.2) (s0 := (c, [])) rfl ⟨hc, by simp, fun x hx => by simp at hx⟩ (by omega) (fun ih x hI => ?_) (fun ih i x hi2 hI hS => ?_)
  rotate_left
  · obtain ⟨h1, h2⟩ := hI
    simp only [br_yes (show (i : Int) < ins by omega)]
    rw [W_bind]
    refine W_and (below_W hb h1) (fun r ⟨⟨q0, q1, _⟩, h3⟩ => ?_)
    have q1 := q1 (by omega)
    have := h2.1
    rw [small_chk (by simp only [List.length_singleton]; omega), w64_succ (by omega)]
    exact hS (r.2, _) ⟨h3, (h2.add (by simp) (ok_read (by omega) (by omega))).le (by omega)⟩
  obtain ⟨h1, h2⟩ := hI
  simp only [br_no (show ¬ ((ins.toNat : Nat) : Int) < ins by omega)]
  rw [W_bind]
  refine W_and (below_W hb h1) (fun r17 ⟨⟨a0, a1, _⟩, h3⟩ => ?_)
  have a1 := a1 (by omega)
  have h2 : LinesV ins outs 3 x.2 := h2.le (by omega)
  refine W_iter (fun y => 0 ≤ y.1 ∧ y.1 ≤ 2 ∧ CurR b (y.2.1, (y.2.2.1, (y.2.2.2.1, ()))) ∧ LinesV ins outs (5 - y.1) y.2.2.2.2.1) (fun y => y.1.toNat) (fun ih y hy hS => ?_) ⟨a0, by simp only; omega, h3, h2.le (by simp only; omega)⟩ (by show r17.1.toNat < n; omega)
  obtain ⟨k, cb, ci, ch, l, ⟨⟩⟩ := y
  obtain ⟨k0, k1, k2, k3⟩ := hy
  simp only at k0 k1 k2 k3
  by_cases hk : 0 < k
  · simp only [br_yes hk]
    rw [W_bind]
    refine W_and (int_W (c := (cb, (ci, (ch, ())))) hb (by simp) k2) (fun r39 ⟨m39, h39⟩ => ?_)
    rw [W_bind]
    refine W_and (below_W hb h39) (fun r40 ⟨⟨p40, s40, _⟩, h40⟩ => ?_)
    have s40 := s40 (by omega)
    rw [W_bind]
    refine W_and (below_W hb h40) (fun r41 ⟨⟨p41, s41, _⟩, h41⟩ => ?_)
    have s41 := s41 (by omega)
    rw [W_bind]
    refine W_and (below_W hb h41) (fun r42 ⟨⟨p42, s42, _⟩, h42⟩ => ?_)
    have s42 := s42 (by omega)
    have := k3.1
    rw [small_chk (by simp only [List.length_singleton]; omega), w64_id (n := k - 1) (by omega) (by omega)]
    exact hS _ ⟨by simp only; omega, by simp only; omega, h42, (k3.add (by simp) (ok_arith m39 (by omega) (by omega) (by omega))).le (by simp only; omega)⟩ (by simp only; omega)
  · have k3 : LinesV ins outs 5 l := k3.le (by omega)
    have kl := k3.1
    simp only [br_no hk]
    rw [W_bind]
    refine W_and (once_W (c := (cb, (ci, (ch, ())))) hb k2) (fun r43 h43 => ?_)
    rw [W_cut]
    have step1 : W (br r43.1 ((l01Below.f n 4 r43.2.1 r43.2.2.1 r43.2.2.2.1).bind fun r47 => (l01Below.f n 7 r47.2.1 r47.2.2.1 r47.2.2.2.1).bind fun r48 => chk ((l.length + ([[3, r47.1, (w64 (r48.1 - 2))]] : List (List Int)).length) * 24 ≤ maxB) (some (Sum.inr (α := Int × (Int × (List Instr) × (List Int) × (Int × (Int × Unit)))) (r48.2.1, (r48.2.2.1, (r48.2.2.2.1, ((l ++ [[3, r47.1, (w64 (r48.1 - 2))]]), ()))))))) (some (.inr (r43.2.1, (r43.2.2.1, (r43.2.2.2.1, (l, ())))))))
        (fun s => ∃ y : List Int × (Int × (Int × (List (List Int) × Unit))), s = .inr y ∧ CurR b (y.1, (y.2.1, (y.2.2.1, ()))) ∧ LinesV ins outs 6 y.2.2.2.1) := by
      rw [W_br]
      refine ⟨fun _ => ?_, fun _ => ?_⟩
      · rw [W_bind]
        refine W_and (below_W hb h43) (fun r47 ⟨⟨p47, s47, _⟩, h47⟩ => ?_)
        have s47 := s47 (by omega)
        rw [W_bind]
        refine W_and (below_W hb h47) (fun r48 ⟨⟨p48, s48, _⟩, h48⟩ => ?_)
        have s48 := s48 (by omega)
        rw [small_chk (by simp only [List.length_singleton]; omega), W_some]
        exact ⟨_, rfl, h48, (k3.add (by simp) (ok_set (by omega) (by rw [w64_id (by omega) (by omega)]; omega))).le (by omega)⟩
      · rw [W_some]
        exact ⟨_, rfl, h43, k3.le (by omega)⟩
    refine W_and step1 (fun s hs => ?_)
    obtain ⟨y46, rfl, h46, l46⟩ := hs
    obtain ⟨cb, ci, ch, l, ⟨⟩⟩ := y46
    simp only at h46 l46 ⊢
    have kl := l46.1
    rw [W_bind]
    refine W_and (once_W (c := (cb, (ci, (ch, ())))) hb h46) (fun r49 h49 => ?_)
    rw [W_cut]
    have step2 : W (br r49.1 ((l01Int.f n r49.2.1 r49.2.2.1 r49.2.2.2.1 ([9, 10] : List Int)).bind fun r54 => (l01Below.f n 4 r54.2.1 r54.2.2.1 r54.2.2.2.1).bind fun r55 => (l01Below.f n 2 r55.2.1 r55.2.2.1 r55.2.2.2.1).bind fun r56 => chk ((l.length + ([[r54.1, r55.1, (w64 ((w64 ((l.length : Int) + 1)) + r56.1))]] : List (List Int)).length) * 24 ≤ maxB) (some (Sum.inr (α := Int × (Int × (List Instr) × (List Int) × (Int × (Int × Unit)))) (r56.2.1, (r56.2.2.1, (r56.2.2.2.1, ((l ++ [[r54.1, r55.1, (w64 ((w64 ((l.length : Int) + 1)) + r56.1))]]), ()))))))) (some (.inr (r49.2.1, (r49.2.2.1, (r49.2.2.2.1, (l, ())))))))
        (fun s => ∃ y : List Int × (Int × (Int × (List (List Int) × Unit))), s = .inr y ∧ CurR b (y.1, (y.2.1, (y.2.2.1, ()))) ∧ LinesV ins outs 7 y.2.2.2.1) := by
      rw [W_br]
      refine ⟨fun _ => ?_, fun _ => ?_⟩
      · rw [W_bind]
        refine W_and (int_W hb (by simp) h49) (fun r54 ⟨m54, h54⟩ => ?_)
        rw [W_bind]
        refine W_and (below_W hb h54) (fun r55 ⟨⟨p55, s55, _⟩, h55⟩ => ?_)
        have s55 := s55 (by omega)
        rw [W_bind]
        refine W_and (below_W hb h55) (fun r56 ⟨⟨p56, s56, _⟩, h56⟩ => ?_)
        have s56 := s56 (by omega)
        rw [small_chk (by simp only [List.length_singleton]; omega), W_some]
        exact ⟨_, rfl, h56, (l46.add (by simp) (ok_jump m54 (by omega) (by rw [w64_id (n := (l.length : Int) + 1) (by omega) (by omega), w64_id (by omega) (by omega)]; omega))).le (by omega)⟩
      · rw [W_some]
        exact ⟨_, rfl, h49, l46.le (by omega)⟩
    refine W_and step2 (fun s hs => ?_)
    obtain ⟨y53, rfl, h53, l53⟩ := hs
    obtain ⟨cb, ci, ch, l, ⟨⟩⟩ := y53
    simp only at h53 l53 ⊢
    have kl := l53.1
    refine W_up (fun i (x : (List Int × (Int × (Int × Unit))) × List (List Int)) => ((i : Int), (x.1.1, (x.1.2.1, (x.1.2.2.1, (x.2, ())))))) outs.toNat (fun i x => CurR b x.1 ∧ LinesV ins outs (7 + 2 * i) x.2) (s0 := ((cb, (ci, (ch, ()))), l)) rfl ⟨h53, l53.le (by omega)⟩ (by omega) (fun ih x hI => ?_) (fun ih i x hi2 hI hS => ?_)
    rotate_left
    · obtain ⟨h1, h2⟩ := hI
      have hl := h2.1
      simp only [br_yes (show (i : Int) < outs by omega)]
      rw [W_bind]
      refine W_and (below_W hb h1) (fun r76 ⟨⟨p76, s76, _⟩, h76⟩ => ?_)
      have s76 := s76 (by omega)
      rw [small_chk (by simp only [List.length_singleton]; omega), W_bind]
      refine W_and (once_W hb h76) (fun r77 h77 => ?_)
      rw [W_br]
      refine ⟨fun _ => ?_, fun _ => ?_⟩
      · rw [W_bind]
        refine W_and (below_W hb h77) (fun r78 ⟨⟨p78, s78, _⟩, h78⟩ => ?_)
        have s78 := s78 (by omega)
        rw [small_chk (by simp only [List.length_append, List.length_singleton]; omega), w64_succ (by omega)]
        exact hS (r78.2, _) ⟨h78, ((h2.add (by simp) (ok_write (by omega) (by omega))).add (by simp) (ok_write (by omega) (by omega))).le (by omega)⟩
      · rw [w64_succ (by omega)]
        exact hS (r77.2, _) ⟨h77, (h2.add (by simp) (ok_write (by omega) (by omega))).le (by omega)⟩
    obtain ⟨h1, h2⟩ := hI
    have h2 : LinesV ins outs 13 x.2 := h2.le (by omega)
    have hl := h2.1
    simp only [br_no (show ¬ ((outs.toNat : Nat) : Int) < outs by omega)]
    rw [W_bind]
    refine W_and (once_W hb h1) (fun r79 h79 => ?_)
    rw [W_cut]
    have step3 : W (br r79.1 (chk ((x.2.length + ([[11]] : List (List Int)).length) * 24 ≤ maxB) (some (Sum.inr (α := Int × (Int × (List Instr) × (List Int) × (Int × (Int × Unit)))) ((x.2 ++ [[11]]), ())))) (some (.inr (x.2, ())))) (fun s => ∃ y : List (List Int) × Unit, s = .inr y ∧ LinesV ins outs 14 y.1) := by
      rw [W_br]
      refine ⟨fun _ => ?_, fun _ => ?_⟩
      · rw [small_chk (by simp only [List.length_singleton]; omega), W_some]
        exact ⟨_, rfl, (h2.add (by simp) ok_halt).le (by omega)⟩
      · rw [W_some]
        exact ⟨_, rfl, h2.le (by omega)⟩
    refine W_and step3 (fun s hs => ?_)
    obtain ⟨y80, rfl, l80⟩ := hs
    simp only
    have hl := l80.1
    rw [W_bind]
    rw [make_eq (by omega) (fun x hx => (l80.2 x hx).1) hn, W_some, W_some]
    exact made_ok hi ho (by omega) l80
end Go.AmT

namespace Go.AmT
open Go Go.Am Go.Proofs
set_option linter.unusedVariables false
set_option maxRecDepth 100000
def tys22 : List (Nat × TInfo) := [(3, ⟨false, 1, 8, [.int .i64 0], .int .i64, 0, some I, [], false⟩),
  (9, ⟨false, 1, 16, [.str []], .str, 0, some .str, [], false⟩),
  (25, ⟨true, 2, 48, [.nil, .nil], .struct, 0, some tNetwork, [(0, 22), (1, 23)], false⟩),
  (39, ⟨true, 4, 80, [.nil, .nil, .nil, .int .i64 0], .struct, 0, some tState, [(0, 36), (1, 37), (2, 37), (3, 3)], false⟩),
  (46, ⟨false, 1, 24, [.nil], .slice, 5, some (.sl U8), [], false⟩),
  (49, ⟨false, 1, 24, [.nil], .slice, 3, some IS, [], false⟩),
  (60, ⟨false, 1, 24, [.nil], .slice, 72, some (.sl tInstr), [], false⟩),
  (62, ⟨true, 3, 40, [.int .i64 0, .int .i64 0, .nil], .struct, 0, some tProgram, [(0, 3), (1, 3), (2, 60)], false⟩),
  (72, ⟨true, 4, 32, [.int .i64 0, .int .i64 0, .int .i64 0, .int .i64 0], .struct, 0, some tInstr, [(0, 3), (1, 3), (2, 3), (3, 3)], true⟩)]
theorem tys22_ok : (tys22.all fun p => tokB Tryz.prog p.1 p.2) = true := by kernel_rfl

def makeStream.las : List (Nat × LA) := []
noncomputable def makeStream.f (n : Nat) (a0 : List Int) (a1 : Int) : Option ((List Int) × Unit) := (curNew.f n a0).bind fun r1 => (l3Tokens.f n (max 0 (min a1 100)) r1.1 r1.2.1 r1.2.2.1).bind fun r2 => some (r2.1, ())
noncomputable def makeStream.mng (n : Nat) : Mng := ⟨[.val (.sl U8), .val I], [.val IS], fun x => makeStream.f n x.1 x.2.1⟩
noncomputable def makeStream.cfg (n : Nat) : Cfg := ⟨tys22, [], [(70, curNew.mng n), (82, l3Tokens.mng n)], []⟩
theorem makeStream.eq : ∀ (n : Nat) (a0 : List Int) (a1 : Int), runF (makeStream.cfg n) n Tryz.f28 (annOf Tryz.f28 makeStream.las) [.val (.sl U8), .val I] [.val IS] (a0, (a1, ())) = makeStream.f n a0 a1 := by
  intros
  kernel_rfl
theorem makeStream.gof : GoF Tryz.prog 28 := ⟨_, Tryz.func28, by kernel_rfl, by kernel_rfl⟩
theorem makeStream.sound (n : Nat) : Sound Tryz.prog 28 (makeStream.mng n) := runF_sound (fn := Tryz.f28) (m := makeStream.mng n) (c := makeStream.cfg n) (regOK mixed (opOK (.of (c := makeStream.cfg n) trivial) (.of (c := makeStream.cfg n) ⟨⟨curNew.sound n, curNew.gof⟩, ⟨⟨l3Tokens.sound n, l3Tokens.gof⟩, trivial⟩⟩)) (tysOK tys22_ok)) (tysOK tys22_ok) Tryz.func28 (fun x => (makeStream.eq n x.1 x.2.1).symm)

def makeProgram.las : List (Nat × LA) := []
noncomputable def makeProgram.f (n : Nat) (a0 : List Int) (a1 : Int) (a2 : Int) : Option (Program × Unit) := (curNew.f n a0).bind fun r1 => (l2Program.f n (max 1 (min a1 3)) (max 0 (min a2 3)) r1.1 r1.2.1 r1.2.2.1).bind fun r2 => some ((r2.1, (r2.2.1, r2.2.2.1)), ())
noncomputable def makeProgram.mng (n : Nat) : Mng := ⟨[.val (.sl U8), .val I, .val I], [.val tProgram], fun x => makeProgram.f n x.1 x.2.1 x.2.2.1⟩
noncomputable def makeProgram.cfg (n : Nat) : Cfg := ⟨tys22, [], [(70, curNew.mng n), (83, l2Program.mng n)], []⟩
theorem makeProgram.eq : ∀ (n : Nat) (a0 : List Int) (a1 : Int) (a2 : Int), runF (makeProgram.cfg n) n Tryz.f29 (annOf Tryz.f29 makeProgram.las) [.val (.sl U8), .val I, .val I] [.val tProgram] (a0, (a1, (a2, ()))) = makeProgram.f n a0 a1 a2 := by
  intros
  kernel_rfl
theorem makeProgram.gof : GoF Tryz.prog 29 := ⟨_, Tryz.func29, by kernel_rfl, by kernel_rfl⟩
theorem makeProgram.sound (n : Nat) : Sound Tryz.prog 29 (makeProgram.mng n) := runF_sound (fn := Tryz.f29) (m := makeProgram.mng n) (c := makeProgram.cfg n) (regOK mixed (opOK (.of (c := makeProgram.cfg n) trivial) (.of (c := makeProgram.cfg n) ⟨⟨curNew.sound n, curNew.gof⟩, ⟨⟨l2Program.sound n, l2Program.gof⟩, trivial⟩⟩)) (tysOK tys22_ok)) (tysOK tys22_ok) Tryz.func29 (fun x => (makeProgram.eq n x.1 x.2.1 x.2.2.1).symm)

def ints.las : List (Nat × LA) := [(6, ⟨[(13, .int .i64)], [], [0, 1, 12], []⟩)]
noncomputable def ints.f (n : Nat) (a0 : List Int) (a1 : List Int) : Option (Bool × Unit) := br (!decide ((a0.length : Int) = (a1.length : Int))) (some (false, ())) (iter (α := (Int × Unit)) n (fun ih6 x5 => br (decide (x5.1 < (a0.length : Int))) (chk (0 ≤ x5.1 ∧ x5.1 < (a0.length : Int)) (chk (0 ≤ x5.1 ∧ x5.1 < (a1.length : Int)) (br (!decide ((a0.getD x5.1.toNat 0) = (a1.getD x5.1.toNat 0))) (some (false, ())) (ih6 ((w64 (x5.1 + 1)), ()))))) (some (true, ()))) (0, ()))
noncomputable def ints.mng (n : Nat) : Mng := ⟨[.val IS, .val IS], [.val .bool], fun x => ints.f n x.1 x.2.1⟩
noncomputable def ints.cfg (n : Nat) : Cfg := ⟨tys22, [], [], []⟩
theorem ints.eq : ∀ (n : Nat) (a0 : List Int) (a1 : List Int), runF (ints.cfg n) n Tryz.f37 (annOf Tryz.f37 ints.las) [.val IS, .val IS] [.val .bool] (a0, (a1, ())) = ints.f n a0 a1 := by
  intros
  kernel_rfl
theorem ints.gof : GoF Tryz.prog 37 := ⟨_, Tryz.func37, by kernel_rfl, by kernel_rfl⟩
theorem ints.sound (n : Nat) : Sound Tryz.prog 37 (ints.mng n) := runF_sound (fn := Tryz.f37) (m := ints.mng n) (c := ints.cfg n) (regOK mixed (opOK (.of (c := ints.cfg n) trivial) (.of (c := ints.cfg n) trivial)) (tysOK tys22_ok)) (tysOK tys22_ok) Tryz.func37 (fun x => (ints.eq n x.1 x.2.1).symm)

def statesB.las : List (Nat × LA) := []
noncomputable def statesB.f (n : Nat) (a0 : Network) (a1 : State) (a2 : State) : Option (Bool × Unit) := (fmtState.f n a0 a1).bind fun r1 => br (!decide (r1.1 = ([] : List UInt8))) ((fmtState.f n a0 a2).bind fun r2 => some ((decide (r1.1 = r2.1)), ())) (some (false, ()))
noncomputable def statesB.mng (n : Nat) : Mng := ⟨[.val tNetwork, .val tState, .val tState], [.val .bool], fun x => statesB.f n x.1 x.2.1 x.2.2.1⟩
noncomputable def statesB.cfg (n : Nat) : Cfg := ⟨tys22, [(58, fmtState.mng n)], [], []⟩
theorem statesB.eq : ∀ (n : Nat) (a0 : Network) (a1 : State) (a2 : State), runF (statesB.cfg n) n Tryz.f27 (annOf Tryz.f27 statesB.las) [.val tNetwork, .val tState, .val tState] [.val .bool] (a0, (a1, (a2, ()))) = statesB.f n a0 a1 a2 := by
  intros
  kernel_rfl
theorem statesB.gof : GoF Tryz.prog 27 := ⟨_, Tryz.func27, by kernel_rfl, by kernel_rfl⟩
theorem statesB.sound (n : Nat) : Sound Tryz.prog 27 (statesB.mng n) := runF_sound (fn := Tryz.f27) (m := statesB.mng n) (c := statesB.cfg n) (regOK mixed (opOK (.of (c := statesB.cfg n) ⟨⟨fmtState.sound n, fmtState.gof⟩, trivial⟩) (.of (c := statesB.cfg n) trivial)) (tysOK tys22_ok)) (tysOK tys22_ok) Tryz.func27 (fun x => (statesB.eq n x.1 x.2.1 x.2.2.1).symm)

def law.las : List (Nat × LA) := [(14, ⟨[(63, .int .i64)], [], [3, 4, 5, 6, 7, 8, 9, 10, 11, 12, 13, 14, 61, 62], []⟩)]
noncomputable def law.f (n : Nat) (a0 : List Int) : Option (Bool × Unit) := br (decide (1048576 < (a0.length : Int))) (some (true, ())) ((makeStream.f n a0 12).bind fun r1 => (fresh.f n a0 3).bind fun r2 => (makeProgram.f n r2.1 2 2).bind fun r3 => (fresh.f n a0 5).bind fun r4 => (makeNetwork.f n r4.1 6).bind fun r5 => (fresh.f n a0 7).bind fun r6 => (makeState.f n r6.1 r5.1 80).bind fun r7 => (iFmtStream.f n r1.1).bind fun r8 => (iParseStream.f n r8.1).bind fun r9 => (iFmtProgram.f n r3.1).bind fun r10 => (iParseProgram.f n r10.1).bind fun r11 => (iFmtNetwork.f n r5.1).bind fun r12 => (iParseNetwork.f n r12.1).bind fun r13 => (iFmtState.f n r5.1 r7.1).bind fun r14 => (iParseState.f n r5.1 r14.1).bind fun r15 => iter (α := (Int × Unit)) n (fun ih49 x48 => br (decide (x48.1 < (r3.1.2.2.length : Int))) (chk (0 ≤ x48.1 ∧ x48.1 < (r3.1.2.2.length : Int)) ((iFmtInstr.f n (r3.1.2.2.getD x48.1.toNat zInstr)).bind fun r50 => (iParseInstr.f n r50.1).bind fun r51 => br (!r51.2.1) (some (false, ())) (br (!(decide (r51.1.1 = (r3.1.2.2.getD x48.1.toNat zInstr).1) && (decide (r51.1.2.1 = (r3.1.2.2.getD x48.1.toNat zInstr).2.1) && (decide (r51.1.2.2.1 = (r3.1.2.2.getD x48.1.toNat zInstr).2.2.1) && (decide (r51.1.2.2.2 = (r3.1.2.2.getD x48.1.toNat zInstr).2.2.2) && true))))) (some (false, ())) (ih49 ((w64 (x48.1 + 1)), ()))))) (br r9.2.1 (br r11.2.1 (br r13.2.1 (br r15.2.1 ((ints.f n r9.1 r1.1).bind fun r52 => br r52.1 ((fmtProgram.f n r11.1).bind fun r53 => (fmtProgram.f n r3.1).bind fun r54 => br (decide (r53.1 = r54.1)) ((fmtNetwork.f n r13.1).bind fun r55 => (fmtNetwork.f n r5.1).bind fun r56 => br (decide (r55.1 = r56.1)) ((statesB.f n r5.1 r15.1 r7.1).bind fun r57 => some (r57.1, ())) (some (false, ()))) (some (false, ()))) (some (false, ()))) (some (false, ()))) (some (false, ()))) (some (false, ()))) (some (false, ())))) (0, ()))
noncomputable def law.mng (n : Nat) : Mng := ⟨[.val (.sl U8)], [.val .bool], fun x => law.f n x.1⟩
noncomputable def law.cfg (n : Nat) : Cfg := ⟨tys22, [(28, makeStream.mng n), (22, fresh.mng n), (29, makeProgram.mng n), (19, makeNetwork.mng n), (30, makeState.mng n), (32, iFmtStream.mng n), (31, iParseStream.mng n), (34, iFmtProgram.mng n), (33, iParseProgram.mng n), (25, iFmtNetwork.mng n), (8, iParseNetwork.mng n), (26, iFmtState.mng n), (15, iParseState.mng n), (36, iFmtInstr.mng n), (35, iParseInstr.mng n), (37, ints.mng n), (38, fmtProgram.mng n), (39, fmtNetwork.mng n), (27, statesB.mng n)], [], []⟩
theorem law.eq : ∀ (n : Nat) (a0 : List Int), runF (law.cfg n) n Tryz.f6 (annOf Tryz.f6 law.las) [.val (.sl U8)] [.val .bool] (a0, ()) = law.f n a0 := by
  intros
  kernel_rfl
theorem law.sound (n : Nat) : Sound Tryz.prog 6 (law.mng n) := runF_sound (fn := Tryz.f6) (m := law.mng n) (c := law.cfg n) (regOK mixed (opOK (.of (c := law.cfg n) ⟨⟨makeStream.sound n, makeStream.gof⟩, ⟨⟨fresh.sound n, fresh.gof⟩, ⟨⟨makeProgram.sound n, makeProgram.gof⟩, ⟨⟨makeNetwork.sound n, makeNetwork.gof⟩, ⟨⟨makeState.sound n, makeState.gof⟩, ⟨⟨iFmtStream.sound n, iFmtStream.gof⟩, ⟨⟨iParseStream.sound n, iParseStream.gof⟩, ⟨⟨iFmtProgram.sound n, iFmtProgram.gof⟩, ⟨⟨iParseProgram.sound n, iParseProgram.gof⟩, ⟨⟨iFmtNetwork.sound n, iFmtNetwork.gof⟩, ⟨⟨iParseNetwork.sound n, iParseNetwork.gof⟩, ⟨⟨iFmtState.sound n, iFmtState.gof⟩, ⟨⟨iParseState.sound n, iParseState.gof⟩, ⟨⟨iFmtInstr.sound n, iFmtInstr.gof⟩, ⟨⟨iParseInstr.sound n, iParseInstr.gof⟩, ⟨⟨ints.sound n, ints.gof⟩, ⟨⟨fmtProgram.sound n, fmtProgram.gof⟩, ⟨⟨fmtNetwork.sound n, fmtNetwork.gof⟩, ⟨⟨statesB.sound n, statesB.gof⟩, trivial⟩⟩⟩⟩⟩⟩⟩⟩⟩⟩⟩⟩⟩⟩⟩⟩⟩⟩⟩) (.of (c := law.cfg n) trivial)) (tysOK tys22_ok)) (tysOK tys22_ok) Tryz.func6 (fun x => (law.eq n x.1).symm)
end Go.AmT

namespace Go.AmT
open Go Go.Am
set_option linter.unusedVariables false
set_option linter.unusedSimpArgs false

theorem makeStream_ok {n : Nat} {code : List Int} {m : Nat} (hm : m ≤ 100) (hb : code.length ≤ 1048576) (hn : 1048576 < n) : W (makeStream.f n code (m : Int)) (fun r => okS r.1 = true) := by
  unfold makeStream.f
  rw [W_bind]
  refine W_and (curNew_W hb hn) (fun r1 c1 => ?_)
  rw [show max (0 : Int) (min (m : Int) 100) = (m : Int) by omega, W_bind]
  refine W_and (tokens_W hb (by omega) hn c1) (fun r2 ⟨h, _⟩ => ?_)
  rw [W_some]
  unfold okS
  simp only [Bool.and_eq_true, decide_eq_true_eq, List.all_eq_true]
  exact ⟨by have := h.1; omega, h.2⟩
theorem makeProgram_ok {n : Nat} {code : List Int} (hb : code.length ≤ 1048576) (hn : 1048576 < n) : W (makeProgram.f n code 2 2) (fun r => okP r.1 = true) := by
  unfold makeProgram.f
  rw [W_bind]
  refine W_and (curNew_W hb hn) (fun r1 c1 => ?_)
  rw [show max (1 : Int) (min 2 3) = 2 by decide, show max (0 : Int) (min 2 3) = 2 by decide, W_bind]
  exact W_and (program_ok hb (by omega) (by omega) (by omega) hn c1) (fun r h => W_some.2 h)
theorem txtSt_len {nt : Network} {s : State} (o : OkSt nt s) : (txtSt s).length ≤ 1000000 := by
  have h1 := flat_len (fun i => lineA (s.1.getD i zActor)) 5000 (List.range s.1.length) (fun x hx => lineA_len o (List.mem_range.1 hx))
  have h2 := flat_len (fun i => lineQ (s.2.1.getD i []) (s.2.2.1.getD i [])) 9000 (List.range s.2.1.length) (fun x hx => lineQ_len _ _)
  rw [List.length_range] at h1 h2
  have hst := o.steps
  have h3 := itoa_len (x := s.2.2.2) (by omega) (by omega)
  have hna := o.na
  have hnq := o.nq
  have hli := o.net.links
  have hpr := o.net.progs
  simp only [txtSt, List.length_append, List.length_cons, List.length_nil]
  omega
theorem ints_refl {n : Nat} {a : List Int} (hl : a.length ≤ 1048576) (hn : 1048576 < n) : ints.f n a a = some (true, ()) := by
  unfold ints.f
  rw [decide_eq_true rfl]
  simp only [Bool.not_true, br_false]
  refine iter_line (n := n) (fun i => ((i : Int), ())) a.length (fun ih i hi => ?_) (fun ih => ?_) (by omega)
  · simp only [br_yes (show (i : Int) < (a.length : Int) by omega), Int.toNat_natCast]
    rw [chk_true (by omega), chk_true (by omega), w64_succ (by omega)]
    simp only [decide_true, Bool.not_true, br_false]
  · simp only [br_no (Int.lt_irrefl _)]
theorem states_refl {n : Nat} {nt : Network} {s : State} (h : SmallN nt) (o : OkSt nt s) (hn : 1048576 < n) : statesB.f n nt s s = some (true, ()) := by
  have hne : fmtSt nt s ≠ [] := by
    rw [fmtSt, if_pos (show okSt nt s = true from decide_eq_true o)]
    simp [txtSt]
  unfold statesB.f
  rw [fmtState_spec h (small_ok o) hn, bind_unit, decide_eq_false hne, Bool.not_false, br_true, bind_unit, decide_eq_true rfl]
theorem law_true (code : List Int) : ∃ n, law.f n code = some (true, ()) := by
  refine ⟨1048578, ?_⟩
  have hn : 1048576 < 1048578 := by omega
  have hn7 : 1048577 < 1048578 := by omega
  refine W_eq.1 ?_
  unfold law.f
  rw [W_brd]
  refine ⟨fun _ => W_some.2 rfl, fun hb => ?_⟩
  have hb : code.length ≤ 1048576 := by omega
  rw [W_bind]
  refine W_and (makeStream_ok (m := 12) (by omega) hb hn) (fun r1 h1 => ?_)
  rw [W_bind]
  refine W_and (fresh_W hb hn) (fun r2 h2 => ?_)
  rw [W_bind]
  refine W_and (makeProgram_ok h2 hn) (fun r3 h3 => ?_)
  rw [W_bind]
  refine W_and (fresh_W hb hn) (fun r4 h4 => ?_)
  rw [W_bind]
  refine W_and (makeNetwork_W (m := 6) h4 (by omega) hn) (fun r5 h5 => ?_)
  have hN := h5.small
  have oN := h5.ok
  rw [W_bind]
  refine W_and (fresh_W hb hn) (fun r6 h6 => ?_)
  rw [W_bind]
  refine W_and (makeState_W h6 hN oN hn) (fun r7 ⟨h7, _⟩ => ?_)
  have oS := h7.ok oN
  obtain ⟨s, ⟨⟩⟩ := r1
  obtain ⟨p, ⟨⟩⟩ := r3
  obtain ⟨nt, ⟨⟩⟩ := r5
  obtain ⟨st, ⟨⟩⟩ := r7
  dsimp only at h1 h3 h5 h7 hN oN oS ⊢
  have hP : SmallP p := ⟨by have := (okP_all h3).2.2.1; omega⟩
  have es : fmtS s = txtS s := if_pos h1
  have ep : fmtP p = txtP p := if_pos h3
  have en : fmtN nt = txtN nt := if_pos (show okN nt = true from decide_eq_true oN)
  have et : fmtSt nt st = txtSt st := if_pos (show okSt nt st = true from decide_eq_true oS)
  have hl := (okS_bd h1).1
  rw [iFmtStream_spec (by omega) hn, bind_unit]
  dsimp only
  rw [es, iParseStream_txt h1 hn7, bind_unit, iFmtProgram_spec hP hn, bind_unit]
  dsimp only
  rw [ep, iParseProgram_txt h3 hn7, bind_unit, iFmtNetwork_spec hN hn, bind_unit]
  dsimp only
  rw [en, iParseNetwork_txt oN hn7, bind_unit, iFmtState_spec hN (small_ok oS) hn, bind_unit]
  dsimp only
  rw [et, iParseState_txt hN oS (by have := txtSt_len oS; omega) hn7, bind_unit]
  dsimp only
  refine W_eq.2 ?_
  have hc := (okP_all h3).2.2.1
  refine iter_line (n := 1048578) (fun i => ((i : Int), ())) p.2.2.length (fun ih i hi => ?_) (fun ih => ?_) (by omega)
  · have hx := okP_instr h3 (p.2.2.getD i zInstr) (by rw [getD_lt hi]; exact List.getElem_mem _)
    simp only [br_yes (show (i : Int) < (p.2.2.length : Int) by omega), Int.toNat_natCast]
    rw [chk_true (by omega), iFmtInstr_spec, bind_unit]
    dsimp only
    rw [fmtI, if_pos hx, iParseInstr_txt hx hn7, bind_unit, w64_succ (by omega)]
    simp only [Bool.not_true, br_false, decide_true, Bool.and_self]
  · simp only [br_no (Int.lt_irrefl _), br_true]
    rw [ints_refl (by omega) hn, bind_unit, br_true, fmtProgram_spec hP hn, bind_unit, bind_unit, decide_eq_true rfl, br_true, fmtNetwork_spec hN hn, bind_unit, bind_unit, decide_eq_true rfl, br_true, states_refl hN oS hn, bind_unit]
end Go.AmT
