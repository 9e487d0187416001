/- States that are read from texts, in plain Lean: both programs read the same. -/
import Derived.Test.YtgddbcdkhfdojaaGreatDoorMSaved10
import Derived.Test.YtgddbcdkhfdojaaGreatDoorMSaved9
import Derived.Test.YtgddbcdkhfdojaaGreatDoorMSaved8
import Derived.Test.YtgddbcdkhfdojaaGreatDoorMSaved3
import Derived.Test.YtgddbcdkhfdojaaGreatDoorMSaved6
import Derived.Test.YtgddbcdkhfdojaaGreatDoorMSaved4
namespace Go.AmT
open Go Go.Am
set_option linter.unusedVariables false
set_option linter.unusedSimpArgs false

/-! ### the lines of a state -/
noncomputable def lnS (s : State) : List UInt8 := [115, 116, 101, 112, 115] ++ 32 :: Lib.itoa s.2.2.2
noncomputable def lnA (a : Actor) : List UInt8 := [97, 99, 116, 111, 114] ++ 32 :: (Lib.itoa a.1 ++ 32 :: txtS a.2)
noncomputable def lnQ (q h : List Int) : List UInt8 := [113, 117, 101, 117, 101] ++ 32 :: (txtS q ++ 32 :: txtS h)
noncomputable def lnOf (s : State) (i : Nat) : List UInt8 :=
  if i = 0 then lnS s else if i ≤ s.1.length then lnA (s.1.getD (i - 1) zActor) else lnQ (s.2.1.getD (i - 1 - s.1.length) []) (s.2.2.1.getD (i - 1 - s.1.length) [])
noncomputable def linesSt (s : State) : List (List UInt8) := (List.range (1 + s.1.length + s.2.1.length)).map (lnOf s)
theorem linesSt_len (s : State) : (linesSt s).length = 1 + s.1.length + s.2.1.length := by simp [linesSt]
theorem linesSt_get (s : State) {i : Nat} (h : i < 1 + s.1.length + s.2.1.length) : (linesSt s).getD i [] = lnOf s i := by
  rw [getD_lt (by rw [linesSt_len]; exact h)]
  simp [linesSt]
theorem linesSt_eq (s : State) : linesSt s = lnS s :: (((List.range s.1.length).map fun i => lnA (s.1.getD i zActor)) ++ ((List.range s.2.1.length).map fun i => lnQ (s.2.1.getD i []) (s.2.2.1.getD i []))) := by
  refine List.ext_getElem (by simp [linesSt]; omega) (fun i h1 h2 => ?_)
  rw [linesSt_len] at h1
  simp only [linesSt, List.getElem_map, List.getElem_range]
  cases i with
  | zero => rfl
  | succ i =>
    rw [List.getElem_cons_succ]
    by_cases hi : i < s.1.length
    · rw [List.getElem_append_left (by simpa using hi)]
      simp only [List.getElem_map, List.getElem_range, lnOf]
      rw [if_neg (by omega), if_pos (by omega)]
      rfl
    · rw [List.getElem_append_right (by simpa using hi)]
      simp only [List.getElem_map, List.getElem_range, lnOf, List.length_map, List.length_range]
      rw [if_neg (by omega), if_neg (by omega)]
      rfl
theorem act_ok {nt : Network} {s : State} (o : OkSt nt s) {i : Nat} (hi : i < s.1.length) : okS (s.1.getD i zActor).2 = true := (okA_bd (o.act i (by have := o.na; omega))).2.2
theorem fmtS_ok {s : List Int} (h : okS s = true) : fmtS s = txtS s := if_pos h
theorem txtSt_lines {nt : Network} {s : State} (o : OkSt nt s) : txtSt s = ((linesSt s).map (· ++ [10])).flatten := by
  have hnq := o.nq
  rw [linesSt_eq]
  unfold txtSt
  have e1 : ((List.range s.1.length).map fun i => lineA (s.1.getD i zActor)) = (((List.range s.1.length).map fun i => lnA (s.1.getD i zActor))).map (· ++ [10]) := by
    rw [List.map_map]
    refine List.map_congr_left (fun i hi => ?_)
    have hi := List.mem_range.1 hi
    simp only [lineA, lnA, Function.comp, fmtS_ok (act_ok o hi)]
    simp
  have e2 : ((List.range s.2.1.length).map fun i => lineQ (s.2.1.getD i []) (s.2.2.1.getD i [])) = (((List.range s.2.1.length).map fun i => lnQ (s.2.1.getD i []) (s.2.2.1.getD i []))).map (· ++ [10]) := by
    rw [List.map_map]
    refine List.map_congr_left (fun i hi => ?_)
    have hi := List.mem_range.1 hi
    have L := o.lnk i (by omega)
    simp only [lineQ, lnQ, Function.comp, fmtS_ok L.qs, fmtS_ok L.hs]
    simp
  rw [e1, e2]
  simp [lnS]
theorem lnA_split {a : Actor} (h : okS a.2 = true) (h0 : 0 ≤ a.1) (h1 : a.1 ≤ 24) : splitR 32 (lnA a) = [[97, 99, 116, 111, 114], Lib.itoa a.1, txtS a.2] ∧ 10 ∉ lnA a := by
  have ht := (okS_bd h).2
  refine ⟨?_, ?_⟩
  · unfold lnA
    rw [splitR_app _ (by decide), splitR_app _ (notin_itoa ⟨by omega, by omega⟩ (by decide) (by decide)), splitR_no (txtS_mem ht (by decide) (by decide) (by decide) (by decide))]
  · have n1 := notin_itoa (x := a.1) ⟨by omega, by omega⟩ (c := 10) (by decide) (by decide)
    have n2 := txtS_mem ht (c := 10) (by decide) (by decide) (by decide) (by decide)
    simp only [lnA, List.mem_append, List.mem_cons, List.not_mem_nil, or_false, not_or]
    exact ⟨by decide, by decide, n1, by decide, n2⟩
theorem lnQ_split {q h : List Int} (h1 : okS q = true) (h2 : okS h = true) : splitR 32 (lnQ q h) = [[113, 117, 101, 117, 101], txtS q, txtS h] ∧ 10 ∉ lnQ q h := by
  have t1 := (okS_bd h1).2
  have t2 := (okS_bd h2).2
  refine ⟨?_, ?_⟩
  · unfold lnQ
    rw [splitR_app _ (by decide), splitR_app _ (txtS_mem t1 (by decide) (by decide) (by decide) (by decide)), splitR_no (txtS_mem t2 (by decide) (by decide) (by decide) (by decide))]
  · have n1 := txtS_mem t1 (c := 10) (by decide) (by decide) (by decide) (by decide)
    have n2 := txtS_mem t2 (c := 10) (by decide) (by decide) (by decide) (by decide)
    simp only [lnQ, List.mem_append, List.mem_cons, List.not_mem_nil, or_false, not_or]
    exact ⟨by decide, by decide, n1, by decide, n2⟩
theorem lnS_split {s : State} (h0 : 0 ≤ s.2.2.2) (h1 : s.2.2.2 ≤ 20000) : splitR 32 (lnS s) = [[115, 116, 101, 112, 115], Lib.itoa s.2.2.2] ∧ 10 ∉ lnS s := by
  refine ⟨?_, ?_⟩
  · unfold lnS
    rw [splitR_app _ (by decide), splitR_no (notin_itoa ⟨by omega, by omega⟩ (by decide) (by decide))]
  · have n1 := notin_itoa (x := s.2.2.2) ⟨by omega, by omega⟩ (c := 10) (by decide) (by decide)
    simp only [lnS, List.mem_append, List.mem_cons, List.not_mem_nil, or_false, not_or]
    exact ⟨by decide, by decide, n1⟩
theorem lines_no {nt : Network} {s : State} (o : OkSt nt s) : ∀ l ∈ linesSt s, (10 : UInt8) ∉ l := by
  have hnq := o.nq
  have hst := o.steps
  rw [linesSt_eq]
  intro l hl
  simp only [List.mem_cons, List.mem_append, List.mem_map, List.mem_range] at hl
  rcases hl with rfl | ⟨i, hi, rfl⟩ | ⟨i, hi, rfl⟩
  · exact (lnS_split hst.1 hst.2).2
  · have hb := (act_bd o hi).1
    exact (lnA_split (act_ok o hi) hb.1 hb.2).2
  · have L := o.lnk i (by omega)
    exact (lnQ_split L.qs L.hs).2
theorem linesSt_ne (s : State) : linesSt s ≠ [] := by rw [linesSt_eq]; simp
theorem txtSt_split {nt : Network} {s : State} (o : OkSt nt s) : splitR 10 (txtSt s) = linesSt s ++ [[]] := by
  rw [txtSt_lines o, splitR_lines _ (lines_no o)]
theorem txtSt_last {nt : Network} {s : State} (o : OkSt nt s) : ∃ t, txtSt s = t ++ [10] := by
  rw [txtSt_lines o]
  have hne := linesSt_ne s
  have := List.dropLast_concat_getLast hne
  refine ⟨(((linesSt s).dropLast).map (· ++ [10])).flatten ++ (linesSt s).getLast hne, ?_⟩
  conv => lhs; rw [← this]
  simp
theorem txtSt_trim {nt : Network} {s : State} (o : OkSt nt s) {t : List UInt8} (h : txtSt s = t ++ [10]) : splitR 10 t = linesSt s := by
  have h1 := txtSt_split o
  rw [h, splitR_end] at h1
  exact List.append_cancel_right h1

/-! ### what is read -/
abbrev zeroSt : State := ([], ([], ([], 0)))
/-- the state that a text tells -/
structure Told (nt : Network) (text : List UInt8) (r : State × (Bool × Unit)) : Prop where
  all : ∀ s, OkSt nt s → txtSt s = text → r = (s, (true, ()))
  non : (∃ s, OkSt nt s ∧ txtSt s = text) ∨ r = (zeroSt, (false, ()))
theorem Told.one {nt : Network} {text : List UInt8} {r r' : State × (Bool × Unit)} (h : Told nt text r) (h' : Told nt text r') : r = r' := by
  rcases h.non with ⟨s, o, e⟩ | e
  · rw [h.all s o e, h'.all s o e]
  · rcases h'.non with ⟨s, o, e'⟩ | e'
    · rw [h.all s o e', h'.all s o e']
    · rw [e, e']
/-- what has been read so far -/
structure Inv3 (k : Nat) (A : List Actor) (Q H : List (List Int)) : Prop where
  la : A.length ≤ k
  lq : Q.length ≤ k
  lh : H.length ≤ k
  ra : ∀ a ∈ A, okS a.2 = true
  rq : ∀ q ∈ Q, okS q = true
  rh : ∀ q ∈ H, okS q = true
theorem Inv3.nil : Inv3 0 [] [] [] := ⟨by simp, by simp, by simp, fun _ h => (by simp at h), fun _ h => (by simp at h), fun _ h => (by simp at h)⟩
theorem Inv3.mono {k k' : Nat} {A : List Actor} {Q H : List (List Int)} (I : Inv3 k A Q H) (h : k ≤ k') : Inv3 k' A Q H := ⟨by have := I.la; omega, by have := I.lq; omega, by have := I.lh; omega, I.ra, I.rq, I.rh⟩
theorem Inv3.act {k : Nat} {A : List Actor} {Q H : List (List Int)} (I : Inv3 k A Q H) {pc : Int} {r : List Int} (h : okS r = true) : Inv3 (k + 1) (A ++ [(pc, r)]) Q H :=
  ⟨by have := I.la; simp; omega, by have := I.lq; omega, by have := I.lh; omega, mem_snoc I.ra h, I.rq, I.rh⟩
theorem Inv3.small {k : Nat} {A : List Actor} {Q H : List (List Int)} (I : Inv3 k A Q H) (h : k ≤ 1048576) (st : Int) : SmallSt (A, (Q, (H, st))) := by
  refine ⟨?_, fun a ha => ?_, ?_, fun q hq => ?_, ?_, fun q hq => ?_⟩
  · have := I.la; show A.length ≤ _; omega
  · have := (okS_bd (I.ra a ha)).1; omega
  · have := I.lq; show Q.length ≤ _; omega
  · have := (okS_bd (I.rq q hq)).1; omega
  · have := I.lh; show H.length ≤ _; omega
  · have := (okS_bd (I.rh q hq)).1; omega
theorem wordcut {ρ : Type} {L : List (List UInt8)} (h : L ≠ []) (wd : List UInt8) (k : Int) :
    chk ((0 : Int) ≤ 0 ∧ (0 : Int) < (L.length : Int)) (br (decide ((L.getD 0 []) = wd)) (some (Sum.inr (α := ρ) ((decide ((L.length : Int) = k)), ()))) (some (.inr (false, ())))) = some (.inr ((decide ((L.getD 0 []) = wd) && decide ((L.length : Int) = k)), ())) := by
  have := List.length_pos_iff.2 h
  rw [chk_true (by omega)]
  by_cases e : (L.getD 0 []) = wd
  · rw [br_yes e, decide_eq_true e, Bool.true_and]
  · rw [br_no e, decide_eq_false e, Bool.false_and]
theorem small_ok {nt : Network} {s : State} (o : OkSt nt s) : SmallSt s := by
  have h1 := o.na
  have h2 := o.nq
  have h3 := o.ns
  have hp := o.net.progs
  have hl := o.net.links
  refine ⟨by omega, fun a ha => ?_, by omega, fun q hq => ?_, by omega, fun q hq => ?_⟩
  · obtain ⟨i, hi, rfl⟩ := List.mem_iff_getElem.1 ha
    have := (okS_bd (act_ok o hi)).1
    rw [getD_lt hi] at this
    omega
  · obtain ⟨i, hi, rfl⟩ := List.mem_iff_getElem.1 hq
    have := (okS_bd (o.lnk i (by omega)).qs).1
    rw [getD_lt hi] at this
    omega
  · obtain ⟨i, hi, rfl⟩ := List.mem_iff_getElem.1 hq
    have := (okS_bd (o.lnk i (by omega)).hs).1
    rw [getD_lt hi] at this
    omega

/-! ### the reference -/
theorem lnS_len {s : State} (h0 : 0 ≤ s.2.2.2) (h1 : s.2.2.2 ≤ 20000) : (lnS s).length ≤ 1000000 := by
  have := itoa_len (x := s.2.2.2) (by omega) (by omega)
  simp only [lnS, List.length_append, List.length_cons, List.length_nil]
  omega
theorem lnA_len {a : Actor} (h : okS a.2 = true) (h0 : 0 ≤ a.1) (h1 : a.1 ≤ 24) : (lnA a).length ≤ 1000000 := by
  have := itoa_len (x := a.1) (by omega) (by omega)
  have := txtS_len h
  simp only [lnA, List.length_append, List.length_cons, List.length_nil]
  omega
theorem lnQ_len {q h : List Int} (h1 : okS q = true) (h2 : okS h = true) : (lnQ q h).length ≤ 1000000 := by
  have := txtS_len h1
  have := txtS_len h2
  simp only [lnQ, List.length_append, List.length_cons, List.length_nil]
  omega
/-- how far a state has been read before line i -/
noncomputable def soFar (s : State) (i : Nat) : Int × (List Actor × (List (List Int) × (List (List Int) × Unit))) :=
  (if i = 0 then 0 else s.2.2.2, (s.1.take (i - 1), (s.2.1.take (i - 1 - s.1.length), (s.2.2.1.take (i - 1 - s.1.length), ()))))
theorem soFar_succ (s : State) (j : Nat) : soFar s (j + 1) = (s.2.2.2, (s.1.take j, (s.2.1.take (j - s.1.length), (s.2.2.1.take (j - s.1.length), ())))) := by
  unfold soFar
  rw [if_neg (by omega), Nat.add_sub_cancel]
theorem lnOf_A (s : State) {j : Nat} (h : j < s.1.length) : lnOf s (j + 1) = lnA (s.1.getD j zActor) := by
  unfold lnOf
  rw [if_neg (by omega), if_pos (by omega), Nat.add_sub_cancel]
theorem lnOf_Q (s : State) {j : Nat} (h : ¬ j < s.1.length) : lnOf s (j + 1) = lnQ (s.2.1.getD (j - s.1.length) []) (s.2.2.1.getD (j - s.1.length) []) := by
  unfold lnOf
  rw [if_neg (by omega), if_neg (by omega), Nat.add_sub_cancel]
theorem soFar_end {nt : Network} {s : State} (o : OkSt nt s) : soFar s (1 + s.1.length + s.2.1.length) = (s.2.2.2, (s.1, (s.2.1, (s.2.2.1, ())))) := by
  have hnq := o.nq
  have hns := o.ns
  unfold soFar
  rw [if_neg (by omega), List.take_of_length_le (by omega), List.take_of_length_le (by omega), List.take_of_length_le (by omega)]
/-! ### the program -/
theorem line_cases {nt : Network} {s : State} (o : OkSt nt s) {i : Nat} (hi : i < 1 + s.1.length + s.2.1.length) :
    (∃ st A Q H, soFar s i = (st, (A, (Q, (H, ())))) ∧ lnOf s i = lnS s ∧ soFar s (i + 1) = (s.2.2.2, (A, (Q, (H, ()))))) ∨
    (∃ st A Q H, ∃ a : Actor, soFar s i = (st, (A, (Q, (H, ())))) ∧ lnOf s i = lnA a ∧ soFar s (i + 1) = (st, (A ++ [a], (Q, (H, ())))) ∧ okS a.2 = true ∧ 0 ≤ a.1 ∧ a.1 ≤ 24 ∧ A.length ≤ 1000) ∨
    (∃ st A Q H q h, soFar s i = (st, (A, (Q, (H, ())))) ∧ lnOf s i = lnQ q h ∧ soFar s (i + 1) = (st, (A, (Q ++ [q], (H ++ [h], ())))) ∧ okS q = true ∧ okS h = true ∧ Q.length ≤ 1000 ∧ H.length ≤ 1000) := by
  have hnq := o.nq
  have hns := o.ns
  have hna := o.na
  have hli := o.net.links
  have hpr := o.net.progs
  by_cases h0 : i = 0
  · subst h0
    exact .inl ⟨_, _, _, _, rfl, rfl, by rw [soFar_succ]⟩
  · obtain ⟨j, rfl⟩ : ∃ j, i = j + 1 := ⟨i - 1, by omega⟩
    refine .inr ?_
    by_cases hA : j < s.1.length
    · have hb := (act_bd o hA).1
      refine .inl ⟨_, _, _, _, _, soFar_succ s j, lnOf_A s hA, ?_, act_ok o hA, hb.1, hb.2, by rw [List.length_take]; omega⟩
      have e1 : s.1.take (j + 1) = s.1.take j ++ [s.1.getD j zActor] := by rw [List.take_succ_eq_append_getElem hA, getD_lt hA]
      have e2 : j - s.1.length = 0 := by omega
      have e3 : j + 1 - s.1.length = 0 := by omega
      rw [soFar_succ, e1, e2, e3]
    · have hq : j - s.1.length < s.2.1.length := by omega
      have hh : j - s.1.length < s.2.2.1.length := by omega
      have L := o.lnk (j - s.1.length) (by omega)
      refine .inr ⟨_, _, _, _, _, _, soFar_succ s j, lnOf_Q s hA, ?_, L.qs, L.hs, by rw [List.length_take]; omega, by rw [List.length_take]; omega⟩
      have e1 : s.1.take (j + 1) = s.1.take j := by rw [List.take_of_length_le (by omega), List.take_of_length_le (by omega)]
      have e3 : j + 1 - s.1.length = (j - s.1.length) + 1 := by omega
      rw [soFar_succ, e1, e3, List.take_succ_eq_append_getElem hq, List.take_succ_eq_append_getElem hh, getD_lt hq, getD_lt hh]
theorem soFar_zero (s : State) : soFar s 0 = (0, ([], ([], ([], ())))) := by simp [soFar]
theorem iParseState_txt {n : Nat} {nt : Network} {s : State} (hN : SmallN nt) (o : OkSt nt s) (hl : (txtSt s).length ≤ 1048576) (hn : 1048577 < n) : iParseState.f n nt (txtSt s) = some (s, (true, ())) := by
  have hB := maxB_eq
  have hst := o.steps
  obtain ⟨t, ht⟩ := txtSt_last o
  have hsp := txtSt_trim o ht
  have hli := iLines_txt (n := n) (t := t) (by rw [← ht]; exact hl)
  rw [hsp, ← ht] at hli
  have hlen := linesSt_len s
  have hnet := o.net
  have hna := o.na
  have hnq := o.nq
  have hl1 := hnet.links
  have hl2 := hnet.progs
  unfold iParseState.f
  rw [hli, bind_unit]
  dsimp only
  refine Eq.trans (congrArg (iter n _) (show _ = (true, (((0 : Nat) : Int), soFar s 0)) from by rw [soFar_zero]; rfl)) ?_
  refine iter_line (n := n) (fun i => (true, ((i : Int), soFar s i))) (1 + s.1.length + s.2.1.length) (fun ih i hi => ?_) (fun ih => ?_) (by omega)
  · have hi' : (i : Int) < ((linesSt s).length : Int) := by omega
    simp only [br_yes hi', Int.toNat_natCast]
    rw [chk_true (by omega), linesSt_get s hi, w64_succ (by omega)]
    rcases line_cases o hi with ⟨st, A, Q, H, e1, e2, e3⟩ | ⟨st, A, Q, H, a, e1, e2, e3, h, h0, h1, hA⟩ | ⟨st, A, Q, H, q, h, e1, e2, e3, h1, h2, hQ, hH⟩
    · rw [e1, e2, e3]
      have hlen := lnS_len hst.1 hst.2
      rw [splitC_spec (by omega), (lnS_split hst.1 hst.2).1, bind_unit, wordcut (by simp)]
      simp only [cut_inr]
      have e : (decide (([[115, 116, 101, 112, 115], Lib.itoa s.2.2.2] : List (List UInt8)).getD 0 [] = [115, 116, 101, 112, 115]) && decide ((([[115, 116, 101, 112, 115], Lib.itoa s.2.2.2] : List (List UInt8)).length : Int) = 2)) = true := by rfl
      rw [e, br_true, chk_true (by simp)]
      have g1 : ([[115, 116, 101, 112, 115], Lib.itoa s.2.2.2] : List (List UInt8)).getD 1 [] = Lib.itoa s.2.2.2 := rfl
      rw [g1, iNumber_spec (by omega) (by omega), bind_unit, br_true]
    · rw [e1, e2, e3]
      have hlen := lnA_len h h0 h1
      rw [splitC_spec (by omega), (lnA_split h h0 h1).1, bind_unit, wordcut (by simp)]
      simp only [cut_inr]
      have e : (decide (([[97, 99, 116, 111, 114], Lib.itoa a.1, txtS a.2] : List (List UInt8)).getD 0 [] = [115, 116, 101, 112, 115]) && decide ((([[97, 99, 116, 111, 114], Lib.itoa a.1, txtS a.2] : List (List UInt8)).length : Int) = 2)) = false := by rfl
      rw [e, br_false, wordcut (by simp)]
      simp only [cut_inr]
      have e' : (decide (([[97, 99, 116, 111, 114], Lib.itoa a.1, txtS a.2] : List (List UInt8)).getD 0 [] = [97, 99, 116, 111, 114]) && decide ((([[97, 99, 116, 111, 114], Lib.itoa a.1, txtS a.2] : List (List UInt8)).length : Int) = 3)) = true := by rfl
      rw [e', br_true, chk_true (by simp)]
      have g1 : ([[97, 99, 116, 111, 114], Lib.itoa a.1, txtS a.2] : List (List UInt8)).getD 1 [] = Lib.itoa a.1 := rfl
      have g2 : ([[97, 99, 116, 111, 114], Lib.itoa a.1, txtS a.2] : List (List UInt8)).getD 2 [] = txtS a.2 := rfl
      rw [g1, g2, iNumber_spec (by omega) (by omega), bind_unit, chk_true (by simp), iParseStream_txt h hn, bind_unit, chk_true (by simp only [List.length_cons, List.length_nil]; omega)]
      simp only [br_true]
    · rw [e1, e2, e3]
      have hlen := lnQ_len h1 h2
      rw [splitC_spec (by omega), (lnQ_split h1 h2).1, bind_unit, wordcut (by simp)]
      simp only [cut_inr]
      have e : (decide (([[113, 117, 101, 117, 101], txtS q, txtS h] : List (List UInt8)).getD 0 [] = [115, 116, 101, 112, 115]) && decide ((([[113, 117, 101, 117, 101], txtS q, txtS h] : List (List UInt8)).length : Int) = 2)) = false := by rfl
      rw [e, br_false, wordcut (by simp)]
      simp only [cut_inr]
      have e' : (decide (([[113, 117, 101, 117, 101], txtS q, txtS h] : List (List UInt8)).getD 0 [] = [97, 99, 116, 111, 114]) && decide ((([[113, 117, 101, 117, 101], txtS q, txtS h] : List (List UInt8)).length : Int) = 3)) = false := by rfl
      rw [e', br_false, wordcut (by simp)]
      simp only [cut_inr]
      have e'' : (decide (([[113, 117, 101, 117, 101], txtS q, txtS h] : List (List UInt8)).getD 0 [] = [113, 117, 101, 117, 101]) && decide ((([[113, 117, 101, 117, 101], txtS q, txtS h] : List (List UInt8)).length : Int) = 3)) = true := by rfl
      rw [e'', br_true, chk_true (by simp)]
      have g1 : ([[113, 117, 101, 117, 101], txtS q, txtS h] : List (List UInt8)).getD 1 [] = txtS q := rfl
      have g2 : ([[113, 117, 101, 117, 101], txtS q, txtS h] : List (List UInt8)).getD 2 [] = txtS h := rfl
      rw [g1, g2, iParseStream_txt h1 hn, bind_unit, chk_true (by simp), iParseStream_txt h2 hn, bind_unit, chk_true (by simp only [List.length_cons, List.length_nil]; omega), chk_true (by simp only [List.length_cons, List.length_nil]; omega)]
      simp only [br_true]
  · have hi' : ¬ (((1 + s.1.length + s.2.1.length : Nat) : Int) < ((linesSt s).length : Int)) := by omega
    simp only [br_no hi', Bool.not_true, br_false]
    rw [soFar_end o]
    show cut ((iIsState.f n nt s).bind _) _ = _
    rw [iIsState_spec hN (small_ok o) (by omega), show okSt nt s = true from decide_eq_true o, bind_unit]
    simp only [Bool.not_true, br_false]
    show cut ((iFmtState.f n nt s).bind _) _ = _
    rw [iFmtState_spec hN (small_ok o) (by omega), bind_unit, fmtSt, if_pos (show okSt nt s = true from decide_eq_true o), decide_eq_true rfl]
    rfl
end Go.AmT

namespace Go.AmT
open Go Go.Am Go.Proofs
set_option linter.unusedVariables false
set_option maxRecDepth 100000
def tys23 : List (Nat × TInfo) := [(3, ⟨false, 1, 8, [.int .i64 0], .int .i64, 0, some I, [], false⟩),
  (9, ⟨false, 1, 16, [.str []], .str, 0, some .str, [], false⟩),
  (25, ⟨true, 2, 48, [.nil, .nil], .struct, 0, some tNetwork, [(0, 22), (1, 23)], false⟩),
  (39, ⟨true, 4, 80, [.nil, .nil, .nil, .int .i64 0], .struct, 0, some tState, [(0, 36), (1, 37), (2, 37), (3, 3)], false⟩),
  (46, ⟨false, 1, 24, [.nil], .slice, 5, some (.sl U8), [], false⟩),
  (49, ⟨false, 1, 24, [.nil], .slice, 3, some IS, [], false⟩)]
theorem tys23_ok : (tys23.all fun p => tokB Tryz.prog p.1 p.2) = true := by kernel_rfl

def statesB.las : List (Nat × LA) := []
noncomputable def statesB.f (n : Nat) (a0 : Network) (a1 : State) (a2 : State) : Option (Bool × Unit) := (fmtState.f n a0 a1).bind fun r1 => br (!decide (r1.1 = ([] : List UInt8))) ((fmtState.f n a0 a2).bind fun r2 => some ((decide (r1.1 = r2.1)), ())) (some (false, ()))
noncomputable def statesB.mng (n : Nat) : Mng := ⟨[.val tNetwork, .val tState, .val tState], [.val .bool], fun x => statesB.f n x.1 x.2.1 x.2.2.1⟩
noncomputable def statesB.cfg (n : Nat) : Cfg := ⟨tys23, [(58, fmtState.mng n)], [], []⟩
theorem statesB.eq : ∀ (n : Nat) (a0 : Network) (a1 : State) (a2 : State), runF (statesB.cfg n) n Tryz.f27 (annOf Tryz.f27 statesB.las) [.val tNetwork, .val tState, .val tState] [.val .bool] (a0, (a1, (a2, ()))) = statesB.f n a0 a1 a2 := by
  intros
  kernel_rfl
theorem statesB.gof : GoF Tryz.prog 27 := ⟨_, Tryz.func27, by kernel_rfl, by kernel_rfl⟩
theorem statesB.sound (n : Nat) : Sound Tryz.prog 27 (statesB.mng n) := runF_sound (fn := Tryz.f27) (m := statesB.mng n) (c := statesB.cfg n) (regOK mixed (opOK (.of (c := statesB.cfg n) ⟨⟨fmtState.sound n, fmtState.gof⟩, trivial⟩) (.of (c := statesB.cfg n) trivial)) (tysOK tys23_ok)) (tysOK tys23_ok) Tryz.func27 (fun x => (statesB.eq n x.1 x.2.1 x.2.2.1).symm)

def law.las : List (Nat × LA) := [(10, ⟨[(3, .vptr 1000 0), (5, .vptr 1001 0), (31, .int .i64)], [(1000, .cells [] [.sh tProgram, .sh tLink]), (1001, .cells [] [.own 1002 tActor, .own 1003 IS, .own 1004 IS, .int .i64]), (1002, .row true tActor), (1003, .row true IS), (1004, .row true IS)], [0, 4, 6, 29, 30], []⟩), (16, ⟨[(49, .bool)], [], [0, 3, 4, 5, 6, 7, 9, 29, 30, 31], []⟩), (1000010, ⟨[], [], [], []⟩), (2000016, ⟨[(49, .bool)], [], [0, 3, 4, 5, 6, 7, 9, 29, 30, 31], []⟩)]
noncomputable def law.f (n : Nat) (a0 : List Int) : Option (Bool × Unit) := br (decide (1048576 < (a0.length : Int))) (some (true, ())) ((makeNetwork.f n a0 5).bind fun r1 => (iStartState.f n r1.1).bind fun r2 => (fresh.f n a0 3).bind fun r3 => (makeSchedule.f n r3.1 r1.1 60).bind fun r4 => br (decide (0 < (r4.1.length : Int))) (chk ((0 : Int) ≤ 0 ∧ (0 : Int) < (r4.1.length : Int)) ((iRunSchedule.f n r1.1 r2.1 ([(r4.1.getD 0 0)] : List Int)).bind fun r5 => cut (α := (Bool × Unit)) (br (decide (r5.2.1 < 0)) (some (.inr (true, ()))) (some (.inr ((decide (1 < r5.2.1)), ())))) fun y6 => br y6.1 (some (false, ())) ((lawAt.f n a0 0).bind fun r7 => br (decide ((r7.1.tmod 5) = 0)) ((iFmtNetwork.f n r1.1).bind fun r8 => (iParseNetwork.f n r8.1).bind fun r9 => (iFmtState.f n r1.1 r5.1).bind fun r10 => (iParseState.f n r9.1 r10.1).bind fun r11 => br (!r9.2.1) (some (false, ())) (br (!r11.2.1) (some (false, ())) (iter (α := (Int × (List Program) × (List Link) × (Int × (List Actor) × (List (List Int)) × (List (List Int)) × Unit))) n (fun ih35 x34 => br (decide (x34.1 < (r4.1.length : Int))) (chk (0 ≤ x34.1 ∧ x34.1 < (r4.1.length : Int)) (let v36 := (r4.1.getD x34.1.toNat 0); (iRunSchedule.f n (x34.2.1, x34.2.2.1) (x34.2.2.2.2.1, (x34.2.2.2.2.2.1, (x34.2.2.2.2.2.2.1, x34.2.2.2.1))) ([v36] : List Int)).bind fun r37 => cut (α := (Bool × Unit)) (br (decide (r37.2.1 < 0)) (some (.inr (true, ()))) (some (.inr ((decide (1 < r37.2.1)), ())))) fun y38 => br y38.1 (some (false, ())) ((lawAt.f n a0 x34.1).bind fun r39 => br (decide ((r39.1.tmod 5) = 0)) ((iFmtNetwork.f n (x34.2.1, x34.2.2.1)).bind fun r40 => (iParseNetwork.f n r40.1).bind fun r41 => (iFmtState.f n (x34.2.1, x34.2.2.1) r37.1).bind fun r42 => (iParseState.f n r41.1 r42.1).bind fun r43 => br (!r41.2.1) (some (false, ())) (br (!r43.2.1) (some (false, ())) (ih35 ((w64 (x34.1 + 1)), (r41.1.1, (r41.1.2, (r43.1.2.2.2, (r43.1.1, (r43.1.2.1, (r43.1.2.2.1, ())))))))))) (ih35 ((w64 (x34.1 + 1)), (x34.2.1, (x34.2.2.1, (r37.1.2.2.2, (r37.1.1, (r37.1.2.1, (r37.1.2.2.1, ()))))))))))) ((iRunSchedule.f n (x34.2.1, x34.2.2.1) r2.1 r4.1).bind fun r44 => (statesB.f n (x34.2.1, x34.2.2.1) (x34.2.2.2.2.1, (x34.2.2.2.2.2.1, (x34.2.2.2.2.2.2.1, x34.2.2.2.1))) r44.1).bind fun r45 => some (r45.1, ()))) (1, (r9.1.1, (r9.1.2, (r11.1.2.2.2, (r11.1.1, (r11.1.2.1, (r11.1.2.2.1, ())))))))))) (iter (α := (Int × (List Program) × (List Link) × (Int × (List Actor) × (List (List Int)) × (List (List Int)) × Unit))) n (fun ih47 x46 => br (decide (x46.1 < (r4.1.length : Int))) (chk (0 ≤ x46.1 ∧ x46.1 < (r4.1.length : Int)) (let v48 := (r4.1.getD x46.1.toNat 0); (iRunSchedule.f n (x46.2.1, x46.2.2.1) (x46.2.2.2.2.1, (x46.2.2.2.2.2.1, (x46.2.2.2.2.2.2.1, x46.2.2.2.1))) ([v48] : List Int)).bind fun r49 => cut (α := (Bool × Unit)) (br (decide (r49.2.1 < 0)) (some (.inr (true, ()))) (some (.inr ((decide (1 < r49.2.1)), ())))) fun y50 => br y50.1 (some (false, ())) ((lawAt.f n a0 x46.1).bind fun r51 => br (decide ((r51.1.tmod 5) = 0)) ((iFmtNetwork.f n (x46.2.1, x46.2.2.1)).bind fun r52 => (iParseNetwork.f n r52.1).bind fun r53 => (iFmtState.f n (x46.2.1, x46.2.2.1) r49.1).bind fun r54 => (iParseState.f n r53.1 r54.1).bind fun r55 => br (!r53.2.1) (some (false, ())) (br (!r55.2.1) (some (false, ())) (ih47 ((w64 (x46.1 + 1)), (r53.1.1, (r53.1.2, (r55.1.2.2.2, (r55.1.1, (r55.1.2.1, (r55.1.2.2.1, ())))))))))) (ih47 ((w64 (x46.1 + 1)), (x46.2.1, (x46.2.2.1, (r49.1.2.2.2, (r49.1.1, (r49.1.2.1, (r49.1.2.2.1, ()))))))))))) ((iRunSchedule.f n (x46.2.1, x46.2.2.1) r2.1 r4.1).bind fun r56 => (statesB.f n (x46.2.1, x46.2.2.1) (x46.2.2.2.2.1, (x46.2.2.2.2.2.1, (x46.2.2.2.2.2.2.1, x46.2.2.2.1))) r56.1).bind fun r57 => some (r57.1, ()))) (1, (r1.1.1, (r1.1.2, (r5.1.2.2.2, (r5.1.1, (r5.1.2.1, (r5.1.2.2.1, ()))))))))))) ((iRunSchedule.f n r1.1 r2.1 r4.1).bind fun r58 => (statesB.f n r1.1 r2.1 r58.1).bind fun r59 => some (r59.1, ())))
noncomputable def law.mng (n : Nat) : Mng := ⟨[.val (.sl U8)], [.val .bool], fun x => law.f n x.1⟩
noncomputable def law.cfg (n : Nat) : Cfg := ⟨tys23, [(19, makeNetwork.mng n), (20, iStartState.mng n), (22, fresh.mng n), (21, makeSchedule.mng n), (23, iRunSchedule.mng n), (24, lawAt.mng n), (25, iFmtNetwork.mng n), (8, iParseNetwork.mng n), (26, iFmtState.mng n), (15, iParseState.mng n), (27, statesB.mng n)], [], []⟩
theorem law.eq : ∀ (n : Nat) (a0 : List Int), runF (law.cfg n) n Tryz.f5 (annOf Tryz.f5 law.las) [.val (.sl U8)] [.val .bool] (a0, ()) = law.f n a0 := by
  intros
  kernel_rfl
theorem law.sound (n : Nat) : Sound Tryz.prog 5 (law.mng n) := runF_sound (fn := Tryz.f5) (m := law.mng n) (c := law.cfg n) (regOK mixed (opOK (.of (c := law.cfg n) ⟨⟨makeNetwork.sound n, makeNetwork.gof⟩, ⟨⟨iStartState.sound n, iStartState.gof⟩, ⟨⟨fresh.sound n, fresh.gof⟩, ⟨⟨makeSchedule.sound n, makeSchedule.gof⟩, ⟨⟨iRunSchedule.sound n, iRunSchedule.gof⟩, ⟨⟨lawAt.sound n, lawAt.gof⟩, ⟨⟨iFmtNetwork.sound n, iFmtNetwork.gof⟩, ⟨⟨iParseNetwork.sound n, iParseNetwork.gof⟩, ⟨⟨iFmtState.sound n, iFmtState.gof⟩, ⟨⟨iParseState.sound n, iParseState.gof⟩, ⟨⟨statesB.sound n, statesB.gof⟩, trivial⟩⟩⟩⟩⟩⟩⟩⟩⟩⟩⟩) (.of (c := law.cfg n) trivial)) (tysOK tys23_ok)) (tysOK tys23_ok) Tryz.func5 (fun x => (law.eq n x.1).symm)
end Go.AmT

namespace Go.AmT
open Go Go.Am
set_option linter.unusedVariables false
set_option linter.unusedSimpArgs false

theorem makeSchedule_W {n : Nat} {code : List Int} {nt : Network} (hb : code.length ≤ 1048576) (o : OkN nt) (hn : 1048576 < n) : W (makeSchedule.f n code nt 60) (fun r => r.1.length ≤ 1000) := by
  have hp := o.progs
  unfold makeSchedule.f
  rw [W_bind]
  refine W_and (curNew_W hb hn) (fun r1 c1 => ?_)
  rw [W_bind]
  refine W_and (below_W hb c1) (fun r2 ⟨⟨a0, a1, _⟩, c2⟩ => ?_)
  have a1 := a1 (by omega)
  refine W_iter (fun x => 0 ≤ x.1 ∧ CurR code (x.2.1, (x.2.2.1, (x.2.2.2.1, ()))) ∧ (x.2.2.2.2.1.length : Int) + x.1 ≤ 600) (fun x => x.1.toNat) (fun ih x hx hS => ?_) ⟨a0, c2, by show ((0 : Nat) : Int) + r2.1 ≤ 600; omega⟩ (by show r2.1.toNat < n; omega)
  obtain ⟨k, cb, ci, ch, l, ⟨⟩⟩ := x
  obtain ⟨k0, k1, k2⟩ := hx
  simp only at k0 k1 k2
  by_cases hk : 0 < k
  · simp only [br_yes hk]
    rw [W_bind]
    refine W_and (below_W (c := (cb, (ci, (ch, ())))) hb k1) (fun r24 ⟨_, c24⟩ => ?_)
    rw [small_chk (by simp; omega), w64_id (n := k - 1) (by omega) (by omega)]
    exact hS _ ⟨by simp only; omega, c24, by simp; omega⟩ (by simp only; omega)
  · simp only [br_no hk]
    rw [W_some]
    show l.length ≤ 1000
    omega
theorem txtSt_len {nt : Network} {s : State} (o : OkSt nt s) : (txtSt s).length ≤ 1000000 := by
  have h1 := flat_len (fun i => lineA (s.1.getD i zActor)) 5000 (List.range s.1.length) (fun x hx => lineA_len o (List.mem_range.1 hx))
  have h2 := flat_len (fun i => lineQ (s.2.1.getD i []) (s.2.2.1.getD i [])) 9000 (List.range s.2.1.length) (fun x hx => lineQ_len _ _)
  rw [List.length_range] at h1 h2
  have hst := o.steps
  have h3 := itoa_len (x := s.2.2.2) (by omega) (by omega)
  have hna := o.na
  have hnq := o.nq
  have hli := o.net.links
  have hpr := o.net.progs
  simp only [txtSt, List.length_append, List.length_cons, List.length_nil]
  omega
theorem states_refl {n : Nat} {nt : Network} {s : State} (h : SmallN nt) (o : OkSt nt s) (hn : 1048576 < n) : statesB.f n nt s s = some (true, ()) := by
  have hne : fmtSt nt s ≠ [] := by
    rw [fmtSt, if_pos (show okSt nt s = true from decide_eq_true o)]
    simp [txtSt]
  unfold statesB.f
  rw [fmtState_spec h (small_ok o) hn, bind_unit, decide_eq_false hne, Bool.not_false, br_true, bind_unit, decide_eq_true rfl]
theorem sch_step {nt : Network} (l : List Int) (k : Int) : ∀ (c : Int) (s : State), ((l ++ [k]).foldl (schOne nt) (c, s)).2 = (schOne nt (0, (l.foldl (schOne nt) (c, s)).2) k).2 := by
  intro c s
  rw [List.foldl_append, List.foldl_cons, List.foldl_nil]
  unfold schOne; split <;> rfl
/-- after some steps -/
def afterS (nt : Network) (l : List Int) (i : Nat) : State := ((l.take i).foldl (schOne nt) (0, start nt)).2
theorem afterS_ok {nt : Network} (o : OkN nt) (l : List Int) (i : Nat) : OkSt nt (afterS nt l i) :=
  have s := start_ok o
  (sch_good (l.take i) (x := (0, start nt)) ⟨s, Int.le_refl _, s.steps.1⟩).1
theorem oneS {n : Nat} {nt : Network} (hS : SmallN nt) (o : OkN nt) (l : List Int) {i : Nat} (hi : i < l.length) (hn : 1048576 < n) : ∃ c, 0 ≤ c ∧ c ≤ 1 ∧ iRunSchedule.f n nt (afterS nt l i) [l.getD i 0] = some (afterS nt l (i + 1), (c, ())) := by
  have ho := afterS_ok o l i
  have e1 : l.getD i 0 = l[i] := getD_lt hi _
  refine ⟨(schP nt (afterS nt l i) [l[i]]).1, ?_, ?_, ?_⟩
  · unfold schP schOne; simp only [List.foldl_cons, List.foldl_nil]; split <;> simp
  · unfold schP schOne; simp only [List.foldl_cons, List.foldl_nil]; split <;> simp
  · rw [iRunSchedule_spec hS (small_ok ho) (by simp) hn, e1]
    unfold runSchedule
    rw [if_pos (okSt_true ho)]
    have e2 : afterS nt l (i + 1) = (schP nt (afterS nt l i) [l[i]]).2 := by
      show ((l.take (i + 1)).foldl (schOne nt) (0, start nt)).2 = _
      rw [List.take_succ_eq_append_getElem hi, sch_step]
      rfl
    rw [e2]
/-- what is written is read back -/
theorem backS {n : Nat} {nt : Network} {s : State} (hS : SmallN nt) (o : OkN nt) (os : OkSt nt s) (hn : 1048577 < n) :
    iFmtNetwork.f n nt = some (txtN nt, ()) ∧ iParseNetwork.f n (txtN nt) = some (nt, (true, ())) ∧ iFmtState.f n nt s = some (txtSt s, ()) ∧ iParseState.f n nt (txtSt s) = some (s, (true, ())) := by
  have en : fmtN nt = txtN nt := if_pos (show okN nt = true from decide_eq_true o)
  have et : fmtSt nt s = txtSt s := if_pos (show okSt nt s = true from decide_eq_true os)
  exact ⟨by rw [iFmtNetwork_spec hS (by omega), en], iParseNetwork_txt o hn, by rw [iFmtState_spec hS (small_ok os) (by omega), et], iParseState_txt hS os (by have := txtSt_len os; omega) hn⟩
theorem law_true (code : List Int) (hc : InR (.sl U8) code) : ∃ n, law.f n code = some (true, ()) := by
  refine ⟨1048578, ?_⟩
  have hn : 1048576 < 1048578 := by omega
  have hn7 : 1048577 < 1048578 := by omega
  refine W_eq.1 ?_
  unfold law.f
  rw [W_brd]
  refine ⟨fun _ => W_some.2 rfl, fun hb => ?_⟩
  have hb : code.length ≤ 1048576 := by omega
  rw [W_bind]
  refine W_and (makeNetwork_W (m := 5) hb (by omega) hn) (fun r1 h1 => ?_)
  have hS := h1.small
  have hO := h1.ok
  obtain ⟨nt, ⟨⟩⟩ := r1
  dsimp only at hS hO ⊢
  rw [iStartState_spec hS hO hn, bind_unit, W_bind]
  refine W_and (fresh_W hb hn) (fun r3 h3 => ?_)
  rw [W_bind]
  refine W_and (makeSchedule_W h3 hO hn) (fun r4 h4 => ?_)
  obtain ⟨l, ⟨⟩⟩ := r4
  dsimp only at h4 ⊢
  rw [W_eq]
  have h0 : afterS nt l 0 = start nt := rfl
  have hend : iRunSchedule.f 1048578 nt (start nt) l = some (afterS nt l l.length, ((schP nt (start nt) l).1, ())) := by
    rw [iRunSchedule_spec hS (small_ok (start_ok hO)) (by omega) hn]
    unfold runSchedule
    rw [if_pos (okSt_true (start_ok hO))]
    show some ((schP nt (start nt) l).2, _) = some (((l.take l.length).foldl (schOne nt) (0, start nt)).2, _)
    rw [List.take_length]; rfl
  by_cases hl : 0 < l.length
  rotate_left
  · have hz : l.length = 0 := by omega
    rw [br_no (by omega), hend, bind_unit]
    dsimp only
    rw [hz, h0, states_refl hS (start_ok hO) hn, bind_unit]
  have at_is : ∀ i : Nat, i ≤ 1000 → ∃ v, lawAt.f 1048578 code (i : Int) = some (v, ()) := fun i hi => by
    obtain ⟨⟨v, ⟨⟩⟩, e, _⟩ := lawAt_W (n := 1048578) hb hc (i := (i : Int)) ⟨by omega, by omega⟩
    exact ⟨v, e⟩
  obtain ⟨c, c0, c1, e1⟩ := oneS (n := 1048578) hS hO l hl hn
  obtain ⟨v, ev⟩ := at_is 0 (by omega)
  obtain ⟨b1, b2, b3, b4⟩ := backS hS hO (afterS_ok hO l 1) hn7
  rw [h0] at e1
  rw [br_yes (show (0 : Int) < (l.length : Int) by omega), chk_true ⟨by omega, by omega⟩, e1, bind_unit]
  dsimp only
  rw [decide_eq_false (show ¬ c < 0 by omega), decide_eq_false (show ¬ 1 < c by omega), br_false, cut_inr]
  dsimp only
  have ev' : lawAt.f 1048578 code 0 = some (v, ()) := ev
  rw [br_false, ev', bind_unit]
  have key : ∀ F : ((Int × (List Program) × (List Link) × (Int × (List Actor) × (List (List Int)) × (List (List Int)) × Unit)) → Option (Bool × Unit)) → (Int × (List Program) × (List Link) × (Int × (List Actor) × (List (List Int)) × (List (List Int)) × Unit)) → Option (Bool × Unit),
      (∀ ih i, i + 1 < l.length → F ih (((i + 1 : Nat) : Int), (nt.1, (nt.2, ((afterS nt l (i + 1)).2.2.2, ((afterS nt l (i + 1)).1, ((afterS nt l (i + 1)).2.1, ((afterS nt l (i + 1)).2.2.1, ()))))))) = ih (((i + 1 + 1 : Nat) : Int), (nt.1, (nt.2, ((afterS nt l (i + 1 + 1)).2.2.2, ((afterS nt l (i + 1 + 1)).1, ((afterS nt l (i + 1 + 1)).2.1, ((afterS nt l (i + 1 + 1)).2.2.1, ())))))))) →
      (∀ ih, F ih ((l.length : Int), (nt.1, (nt.2, ((afterS nt l l.length).2.2.2, ((afterS nt l l.length).1, ((afterS nt l l.length).2.1, ((afterS nt l l.length).2.2.1, ()))))))) = some (true, ())) →
      iter 1048578 F (1, (nt.1, (nt.2, ((afterS nt l 1).2.2.2, ((afterS nt l 1).1, ((afterS nt l 1).2.1, ((afterS nt l 1).2.2.1, ()))))))) = some (true, ()) := by
    intro F f1 f2
    refine iter_line (fun i => (((i + 1 : Nat) : Int), (nt.1, (nt.2, ((afterS nt l (i + 1)).2.2.2, ((afterS nt l (i + 1)).1, ((afterS nt l (i + 1)).2.1, ((afterS nt l (i + 1)).2.2.1, ())))))))) (l.length - 1) (fun ih i hi => f1 ih i (by omega)) (fun ih => ?_) (by omega)
    rw [show l.length - 1 + 1 = l.length by omega]
    exact f2 ih
  have step : ∀ i, i + 1 < l.length → ∃ c v, 0 ≤ c ∧ c ≤ 1 ∧ iRunSchedule.f 1048578 (nt.1, nt.2) ((afterS nt l (i + 1)).1, ((afterS nt l (i + 1)).2.1, ((afterS nt l (i + 1)).2.2.1, (afterS nt l (i + 1)).2.2.2))) [l.getD (i + 1) 0] = some (afterS nt l (i + 1 + 1), (c, ())) ∧ lawAt.f 1048578 code ((i + 1 : Nat) : Int) = some (v, ()) := fun i hi => by
    obtain ⟨c, c0, c1, e1⟩ := oneS (n := 1048578) hS hO l hi hn
    obtain ⟨v, ev⟩ := at_is (i + 1) (by omega)
    exact ⟨c, v, c0, c1, e1, ev⟩
  have back : ∀ i, iFmtNetwork.f 1048578 (nt.1, nt.2) = some (txtN nt, ()) ∧ iParseNetwork.f 1048578 (txtN nt) = some (nt, (true, ())) ∧ iFmtState.f 1048578 (nt.1, nt.2) (afterS nt l i) = some (txtSt (afterS nt l i), ()) ∧ iParseState.f 1048578 nt (txtSt (afterS nt l i)) = some (afterS nt l i, (true, ())) := fun i => backS hS hO (afterS_ok hO l i) hn7
  have fin : iRunSchedule.f 1048578 (nt.1, nt.2) (start nt) l = some (afterS nt l l.length, ((schP nt (start nt) l).1, ())) := hend
  have hend2 : statesB.f 1048578 (nt.1, nt.2) ((afterS nt l l.length).1, ((afterS nt l l.length).2.1, ((afterS nt l l.length).2.2.1, (afterS nt l l.length).2.2.2))) (afterS nt l l.length) = some (true, ()) := states_refl hS (afterS_ok hO l l.length) hn
  cases hv : decide ((v.tmod 5) = 0)
  · rw [br_false]
    refine key _ (fun ih i hi => ?_) (fun ih => ?_)
    · obtain ⟨c, w, c0, c1, e1, ew⟩ := step i hi
      obtain ⟨b1, b2, b3, b4⟩ := back (i + 1 + 1)
      dsimp only
      rw [br_yes (show ((i + 1 : Nat) : Int) < (l.length : Int) by omega), chk_true ⟨by omega, by omega⟩, Int.toNat_natCast, e1, bind_unit]
      dsimp only
      rw [decide_eq_false (show ¬ c < 0 by omega), decide_eq_false (show ¬ 1 < c by omega), br_false, cut_inr]
      dsimp only
      rw [br_false, ew, bind_unit, w64_succ (by omega)]
      dsimp only
      cases decide ((w.tmod 5) = 0)
      · rfl
      · rw [br_true, b1, bind_unit]
        dsimp only
        rw [b2, bind_unit, b3, bind_unit]
        dsimp only
        rw [b4, bind_unit]
        rfl
    · dsimp only
      rw [br_no (Int.lt_irrefl _), fin, bind_unit]
      dsimp only
      rw [hend2, bind_unit]
  · rw [br_true, b1, bind_unit]
    dsimp only
    rw [b2, bind_unit, b3, bind_unit]
    dsimp only
    rw [b4, bind_unit]
    dsimp only
    rw [Bool.not_true, br_false, br_false]
    refine key _ (fun ih i hi => ?_) (fun ih => ?_)
    · obtain ⟨c, w, c0, c1, e1, ew⟩ := step i hi
      obtain ⟨b1, b2, b3, b4⟩ := back (i + 1 + 1)
      dsimp only
      rw [br_yes (show ((i + 1 : Nat) : Int) < (l.length : Int) by omega), chk_true ⟨by omega, by omega⟩, Int.toNat_natCast, e1, bind_unit]
      dsimp only
      rw [decide_eq_false (show ¬ c < 0 by omega), decide_eq_false (show ¬ 1 < c by omega), br_false, cut_inr]
      dsimp only
      rw [br_false, ew, bind_unit, w64_succ (by omega)]
      dsimp only
      cases decide ((w.tmod 5) = 0)
      · rfl
      · rw [br_true, b1, bind_unit]
        dsimp only
        rw [b2, bind_unit, b3, bind_unit]
        dsimp only
        rw [b4, bind_unit]
        rfl
    · dsimp only
      rw [br_no (Int.lt_irrefl _), fin, bind_unit]
      dsimp only
      rw [hend2, bind_unit]
end Go.AmT
