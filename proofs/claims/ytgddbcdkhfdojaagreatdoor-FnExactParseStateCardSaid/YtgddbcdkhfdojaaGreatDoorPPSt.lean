/- States that are read from texts, in plain Lean: both programs read the same. -/
import Derived.Test.YtgddbcdkhfdojaaGreatDoorLPSt
import Derived.Test.YtgddbcdkhfdojaaGreatDoorPTxtR
import Derived.Test.YtgddbcdkhfdojaaGreatDoorPTxtS
import Derived.Test.YtgddbcdkhfdojaaGreatDoorPMarkS
namespace Go.AmT
open Go Go.Am
set_option linter.unusedVariables false
set_option linter.unusedSimpArgs false

/-! ### the lines of a state -/
noncomputable def lnS (s : State) : List UInt8 := [115, 116, 101, 112, 115] ++ 32 :: Lib.itoa s.2.2.2
noncomputable def lnA (a : Actor) : List UInt8 := [97, 99, 116, 111, 114] ++ 32 :: (Lib.itoa a.1 ++ 32 :: txtS a.2)
noncomputable def lnQ (q h : List Int) : List UInt8 := [113, 117, 101, 117, 101] ++ 32 :: (txtS q ++ 32 :: txtS h)
noncomputable def lnOf (s : State) (i : Nat) : List UInt8 :=
  if i = 0 then lnS s else if i ≤ s.1.length then lnA (s.1.getD (i - 1) zActor) else lnQ (s.2.1.getD (i - 1 - s.1.length) []) (s.2.2.1.getD (i - 1 - s.1.length) [])
noncomputable def linesSt (s : State) : List (List UInt8) := (List.range (1 + s.1.length + s.2.1.length)).map (lnOf s)
theorem linesSt_len (s : State) : (linesSt s).length = 1 + s.1.length + s.2.1.length := by simp [linesSt]
theorem linesSt_get (s : State) {i : Nat} (h : i < 1 + s.1.length + s.2.1.length) : (linesSt s).getD i [] = lnOf s i := by
  rw [getD_lt (by rw [linesSt_len]; exact h)]
  simp [linesSt]
theorem linesSt_eq (s : State) : linesSt s = lnS s :: (((List.range s.1.length).map fun i => lnA (s.1.getD i zActor)) ++ ((List.range s.2.1.length).map fun i => lnQ (s.2.1.getD i []) (s.2.2.1.getD i []))) := by
  refine List.ext_getElem (by simp [linesSt]; omega) (fun i h1 h2 => ?_)
  rw [linesSt_len] at h1
  simp only [linesSt, List.getElem_map, List.getElem_range]
  cases i with
  | zero => rfl
  | succ i =>
    rw [List.getElem_cons_succ]
    by_cases hi : i < s.1.length
    · rw [List.getElem_append_left (by simpa using hi)]
      simp only [List.getElem_map, List.getElem_range, lnOf]
      rw [if_neg (by omega), if_pos (by omega)]
      rfl
    · rw [List.getElem_append_right (by simpa using hi)]
      simp only [List.getElem_map, List.getElem_range, lnOf, List.length_map, List.length_range]
      rw [if_neg (by omega), if_neg (by omega)]
      rfl
theorem act_ok {nt : Network} {s : State} (o : OkSt nt s) {i : Nat} (hi : i < s.1.length) : okS (s.1.getD i zActor).2 = true := (okA_bd (o.act i (by have := o.na; omega))).2.2
theorem fmtS_ok {s : List Int} (h : okS s = true) : fmtS s = txtS s := if_pos h
theorem txtSt_lines {nt : Network} {s : State} (o : OkSt nt s) : txtSt s = ((linesSt s).map (· ++ [10])).flatten := by
  have hnq := o.nq
  rw [linesSt_eq]
  unfold txtSt
  have e1 : ((List.range s.1.length).map fun i => lineA (s.1.getD i zActor)) = (((List.range s.1.length).map fun i => lnA (s.1.getD i zActor))).map (· ++ [10]) := by
    rw [List.map_map]
    refine List.map_congr_left (fun i hi => ?_)
    have hi := List.mem_range.1 hi
    simp only [lineA, lnA, Function.comp, fmtS_ok (act_ok o hi)]
    simp
  have e2 : ((List.range s.2.1.length).map fun i => lineQ (s.2.1.getD i []) (s.2.2.1.getD i [])) = (((List.range s.2.1.length).map fun i => lnQ (s.2.1.getD i []) (s.2.2.1.getD i []))).map (· ++ [10]) := by
    rw [List.map_map]
    refine List.map_congr_left (fun i hi => ?_)
    have hi := List.mem_range.1 hi
    have L := o.lnk i (by omega)
    simp only [lineQ, lnQ, Function.comp, fmtS_ok L.qs, fmtS_ok L.hs]
    simp
  rw [e1, e2]
  simp [lnS]
theorem lnA_split {a : Actor} (h : okS a.2 = true) (h0 : 0 ≤ a.1) (h1 : a.1 ≤ 24) : splitR 32 (lnA a) = [[97, 99, 116, 111, 114], Lib.itoa a.1, txtS a.2] ∧ 10 ∉ lnA a := by
  have ht := (okS_bd h).2
  refine ⟨?_, ?_⟩
  · unfold lnA
    rw [splitR_app _ (by decide), splitR_app _ (notin_itoa ⟨by omega, by omega⟩ (by decide) (by decide)), splitR_no (txtS_mem ht (by decide) (by decide) (by decide) (by decide))]
  · have n1 := notin_itoa (x := a.1) ⟨by omega, by omega⟩ (c := 10) (by decide) (by decide)
    have n2 := txtS_mem ht (c := 10) (by decide) (by decide) (by decide) (by decide)
    simp only [lnA, List.mem_append, List.mem_cons, List.not_mem_nil, or_false, not_or]
    exact ⟨by decide, by decide, n1, by decide, n2⟩
theorem lnQ_split {q h : List Int} (h1 : okS q = true) (h2 : okS h = true) : splitR 32 (lnQ q h) = [[113, 117, 101, 117, 101], txtS q, txtS h] ∧ 10 ∉ lnQ q h := by
  have t1 := (okS_bd h1).2
  have t2 := (okS_bd h2).2
  refine ⟨?_, ?_⟩
  · unfold lnQ
    rw [splitR_app _ (by decide), splitR_app _ (txtS_mem t1 (by decide) (by decide) (by decide) (by decide)), splitR_no (txtS_mem t2 (by decide) (by decide) (by decide) (by decide))]
  · have n1 := txtS_mem t1 (c := 10) (by decide) (by decide) (by decide) (by decide)
    have n2 := txtS_mem t2 (c := 10) (by decide) (by decide) (by decide) (by decide)
    simp only [lnQ, List.mem_append, List.mem_cons, List.not_mem_nil, or_false, not_or]
    exact ⟨by decide, by decide, n1, by decide, n2⟩
theorem lnS_split {s : State} (h0 : 0 ≤ s.2.2.2) (h1 : s.2.2.2 ≤ 20000) : splitR 32 (lnS s) = [[115, 116, 101, 112, 115], Lib.itoa s.2.2.2] ∧ 10 ∉ lnS s := by
  refine ⟨?_, ?_⟩
  · unfold lnS
    rw [splitR_app _ (by decide), splitR_no (notin_itoa ⟨by omega, by omega⟩ (by decide) (by decide))]
  · have n1 := notin_itoa (x := s.2.2.2) ⟨by omega, by omega⟩ (c := 10) (by decide) (by decide)
    simp only [lnS, List.mem_append, List.mem_cons, List.not_mem_nil, or_false, not_or]
    exact ⟨by decide, by decide, n1⟩
theorem lines_no {nt : Network} {s : State} (o : OkSt nt s) : ∀ l ∈ linesSt s, (10 : UInt8) ∉ l := by
  have hnq := o.nq
  have hst := o.steps
  rw [linesSt_eq]
  intro l hl
  simp only [List.mem_cons, List.mem_append, List.mem_map, List.mem_range] at hl
  rcases hl with rfl | ⟨i, hi, rfl⟩ | ⟨i, hi, rfl⟩
  · exact (lnS_split hst.1 hst.2).2
  · have hb := (act_bd o hi).1
    exact (lnA_split (act_ok o hi) hb.1 hb.2).2
  · have L := o.lnk i (by omega)
    exact (lnQ_split L.qs L.hs).2
theorem linesSt_ne (s : State) : linesSt s ≠ [] := by rw [linesSt_eq]; simp
theorem txtSt_split {nt : Network} {s : State} (o : OkSt nt s) : splitR 10 (txtSt s) = linesSt s ++ [[]] := by
  rw [txtSt_lines o, splitR_lines _ (lines_no o)]
theorem txtSt_last {nt : Network} {s : State} (o : OkSt nt s) : ∃ t, txtSt s = t ++ [10] := by
  rw [txtSt_lines o]
  have hne := linesSt_ne s
  have := List.dropLast_concat_getLast hne
  refine ⟨(((linesSt s).dropLast).map (· ++ [10])).flatten ++ (linesSt s).getLast hne, ?_⟩
  conv => lhs; rw [← this]
  simp
theorem txtSt_trim {nt : Network} {s : State} (o : OkSt nt s) {t : List UInt8} (h : txtSt s = t ++ [10]) : splitR 10 t = linesSt s := by
  have h1 := txtSt_split o
  rw [h, splitR_end] at h1
  exact List.append_cancel_right h1

/-! ### what is read -/
abbrev zeroSt : State := ([], ([], ([], 0)))
/-- the state that a text tells -/
structure Told (nt : Network) (text : List UInt8) (r : State × (Bool × Unit)) : Prop where
  all : ∀ s, OkSt nt s → txtSt s = text → r = (s, (true, ()))
  non : (∃ s, OkSt nt s ∧ txtSt s = text) ∨ r = (zeroSt, (false, ()))
theorem Told.one {nt : Network} {text : List UInt8} {r r' : State × (Bool × Unit)} (h : Told nt text r) (h' : Told nt text r') : r = r' := by
  rcases h.non with ⟨s, o, e⟩ | e
  · rw [h.all s o e, h'.all s o e]
  · rcases h'.non with ⟨s, o, e'⟩ | e'
    · rw [h.all s o e', h'.all s o e']
    · rw [e, e']
theorem told_of {nt : Network} {text : List UInt8} {m : Option (State × (Bool × Unit))} (h1 : W m (fun r => r = (zeroSt, (false, ())) ∨ (OkSt nt r.1 ∧ txtSt r.1 = text))) (h2 : ∀ s, OkSt nt s → txtSt s = text → m = some (s, (true, ()))) : W m (Told nt text) := by
  obtain ⟨r, e, h⟩ := h1
  refine ⟨r, e, ⟨fun s o et => ?_, ?_⟩⟩
  · rw [h2 s o et] at e
    exact (Option.some.inj e).symm
  · rcases h with h | ⟨o, et⟩
    · exact .inr h
    · exact .inl ⟨_, o, et⟩
/-- what has been read so far -/
structure Inv3 (k : Nat) (A : List Actor) (Q H : List (List Int)) : Prop where
  la : A.length ≤ k
  lq : Q.length ≤ k
  lh : H.length ≤ k
  ra : ∀ a ∈ A, okS a.2 = true
  rq : ∀ q ∈ Q, okS q = true
  rh : ∀ q ∈ H, okS q = true
theorem Inv3.nil : Inv3 0 [] [] [] := ⟨by simp, by simp, by simp, fun _ h => (by simp at h), fun _ h => (by simp at h), fun _ h => (by simp at h)⟩
theorem Inv3.mono {k k' : Nat} {A : List Actor} {Q H : List (List Int)} (I : Inv3 k A Q H) (h : k ≤ k') : Inv3 k' A Q H := ⟨by have := I.la; omega, by have := I.lq; omega, by have := I.lh; omega, I.ra, I.rq, I.rh⟩
theorem mem_snoc {α : Type} {P : α → Prop} {l : List α} {x : α} (h : ∀ a ∈ l, P a) (hx : P x) : ∀ a ∈ l ++ [x], P a := by
  intro a ha
  rcases List.mem_append.1 ha with ha | ha
  · exact h a ha
  · rw [List.mem_singleton.1 ha]; exact hx
theorem Inv3.act {k : Nat} {A : List Actor} {Q H : List (List Int)} (I : Inv3 k A Q H) {pc : Int} {r : List Int} (h : okS r = true) : Inv3 (k + 1) (A ++ [(pc, r)]) Q H :=
  ⟨by have := I.la; simp; omega, by have := I.lq; omega, by have := I.lh; omega, mem_snoc I.ra h, I.rq, I.rh⟩
theorem Inv3.que {k : Nat} {A : List Actor} {Q H : List (List Int)} (I : Inv3 k A Q H) {q h : List Int} (h1 : okS q = true) (h2 : okS h = true) : Inv3 (k + 1) A (Q ++ [q]) (H ++ [h]) :=
  ⟨by have := I.la; omega, by have := I.lq; simp; omega, by have := I.lh; simp; omega, I.ra, mem_snoc I.rq h1, mem_snoc I.rh h2⟩
theorem Inv3.small {k : Nat} {A : List Actor} {Q H : List (List Int)} (I : Inv3 k A Q H) (h : k ≤ 1048576) (st : Int) : SmallSt (A, (Q, (H, st))) := by
  refine ⟨?_, fun a ha => ?_, ?_, fun q hq => ?_, ?_, fun q hq => ?_⟩
  · have := I.la; show A.length ≤ _; omega
  · have := (okS_bd (I.ra a ha)).1; omega
  · have := I.lq; show Q.length ≤ _; omega
  · have := (okS_bd (I.rq q hq)).1; omega
  · have := I.lh; show H.length ≤ _; omega
  · have := (okS_bd (I.rh q hq)).1; omega
theorem wordcut {ρ : Type} {L : List (List UInt8)} (h : L ≠ []) (wd : List UInt8) (k : Int) :
    chk ((0 : Int) ≤ 0 ∧ (0 : Int) < (L.length : Int)) (br (decide ((L.getD 0 []) = wd)) (some (Sum.inr (α := ρ) ((decide ((L.length : Int) = k)), ()))) (some (.inr (false, ())))) = some (.inr ((decide ((L.getD 0 []) = wd) && decide ((L.length : Int) = k)), ())) := by
  have := List.length_pos_iff.2 h
  rw [chk_true (by omega)]
  by_cases e : (L.getD 0 []) = wd
  · rw [br_yes e, decide_eq_true e, Bool.true_and]
  · rw [br_no e, decide_eq_false e, Bool.false_and]
theorem small_ok {nt : Network} {s : State} (o : OkSt nt s) : SmallSt s := by
  have h1 := o.na
  have h2 := o.nq
  have h3 := o.ns
  have hp := o.net.progs
  have hl := o.net.links
  refine ⟨by omega, fun a ha => ?_, by omega, fun q hq => ?_, by omega, fun q hq => ?_⟩
  · obtain ⟨i, hi, rfl⟩ := List.mem_iff_getElem.1 ha
    have := (okS_bd (act_ok o hi)).1
    rw [getD_lt hi] at this
    omega
  · obtain ⟨i, hi, rfl⟩ := List.mem_iff_getElem.1 hq
    have := (okS_bd (o.lnk i (by omega)).qs).1
    rw [getD_lt hi] at this
    omega
  · obtain ⟨i, hi, rfl⟩ := List.mem_iff_getElem.1 hq
    have := (okS_bd (o.lnk i (by omega)).hs).1
    rw [getD_lt hi] at this
    omega

/-! ### the reference -/
theorem l9Line_any {n : Nat} {st : Int} {line : List UInt8} {A : List Actor} {Q H : List (List Int)} {k : Nat} (I : Inv3 k A Q H) (hk : k ≤ 1048576) (hl : line.length ≤ 1048575) (hn : 1048577 < n) :
    W (l9Line.f n st line A Q H) (fun r => Inv3 (k + 1) r.2.2.1 r.2.2.2.1 r.2.2.2.2.1) := by
  have hB := maxB_eq
  have hla := I.la
  have hlq := I.lq
  have hlh := I.lh
  unfold l9Line.f
  rw [l1Split_spec (by omega) (by omega) (by omega) hn, bind_unit]
  have e32 : UInt8.ofNat (32 : Int).toNat = 32 := rfl
  rw [e32]
  have hne := splitR_ne 32 line
  have hp := splitR_sum 32 line
  generalize splitR 32 line = L at hne hp
  have piece : ∀ i, i < L.length → 3 ≤ L.length → (L.getD i []).length ≤ 1048575 := fun i hi h3 => by
    have := hp (L.getD i []) (by rw [getD_lt hi]; exact List.getElem_mem _)
    omega
  rw [wordcut hne]
  simp only [cut_inr]
  rw [W_br]
  refine ⟨fun c => ?_, fun _ => ?_⟩
  · simp only [Bool.and_eq_true, decide_eq_true_eq] at c
    have := hp (L.getD 1 []) (by rw [getD_lt (by omega)]; exact List.getElem_mem _)
    rw [chk_true (by omega), W_bind]
    exact W_and (read_any (by omega) (by omega)) (fun r _ => W_some.2 (I.mono (by omega)))
  rw [wordcut hne]
  simp only [cut_inr]
  rw [W_br]
  refine ⟨fun c => ?_, fun _ => ?_⟩
  · simp only [Bool.and_eq_true, decide_eq_true_eq] at c
    have p1 := piece 1 (by omega) (by omega)
    have p2 := piece 2 (by omega) (by omega)
    rw [chk_true (by omega), W_bind]
    refine W_and (read_any (by omega) (by omega)) (fun r _ => ?_)
    rw [chk_true (by omega), W_bind]
    refine W_and (sParseStream_any p2 hn) (fun r2 h2 => ?_)
    rw [chk_true (by simp only [List.length_cons, List.length_nil]; omega), W_br]
    exact ⟨fun _ => W_some.2 (I.act h2), fun _ => W_some.2 (I.act h2)⟩
  rw [wordcut hne]
  simp only [cut_inr]
  rw [W_br]
  refine ⟨fun c => ?_, fun _ => W_some.2 (I.mono (by omega))⟩
  simp only [Bool.and_eq_true, decide_eq_true_eq] at c
  have p1 := piece 1 (by omega) (by omega)
  have p2 := piece 2 (by omega) (by omega)
  rw [chk_true (by omega), W_bind]
  refine W_and (sParseStream_any p1 hn) (fun r h1 => ?_)
  rw [chk_true (by omega), W_bind]
  refine W_and (sParseStream_any p2 hn) (fun r2 h2 => ?_)
  rw [chk_true (by simp only [List.length_cons, List.length_nil]; omega), chk_true (by simp only [List.length_cons, List.length_nil]; omega), W_br]
  exact ⟨fun _ => W_some.2 (I.que h1 h2), fun _ => W_some.2 (I.que h1 h2)⟩
theorem lnS_len {s : State} (h0 : 0 ≤ s.2.2.2) (h1 : s.2.2.2 ≤ 20000) : (lnS s).length ≤ 1000000 := by
  have := itoa_len (x := s.2.2.2) (by omega) (by omega)
  simp only [lnS, List.length_append, List.length_cons, List.length_nil]
  omega
theorem lnA_len {a : Actor} (h : okS a.2 = true) (h0 : 0 ≤ a.1) (h1 : a.1 ≤ 24) : (lnA a).length ≤ 1000000 := by
  have := itoa_len (x := a.1) (by omega) (by omega)
  have := txtS_len h
  simp only [lnA, List.length_append, List.length_cons, List.length_nil]
  omega
theorem lnQ_len {q h : List Int} (h1 : okS q = true) (h2 : okS h = true) : (lnQ q h).length ≤ 1000000 := by
  have := txtS_len h1
  have := txtS_len h2
  simp only [lnQ, List.length_append, List.length_cons, List.length_nil]
  omega
theorem l9Line_S {n : Nat} {st : Int} {s : State} {A : List Actor} {Q H : List (List Int)} (h0 : 0 ≤ s.2.2.2) (h1 : s.2.2.2 ≤ 20000) (hn : 1048577 < n) : l9Line.f n st (lnS s) A Q H = some (s.2.2.2, (true, (A, (Q, (H, ()))))) := by
  have hl := lnS_len h0 h1
  unfold l9Line.f
  rw [l1Split_spec (by omega) (by omega) (by omega) hn, bind_unit]
  have e32 : UInt8.ofNat (32 : Int).toNat = 32 := rfl
  rw [e32, (lnS_split h0 h1).1, wordcut (by simp)]
  simp only [cut_inr]
  have e : (decide (([[115, 116, 101, 112, 115], Lib.itoa s.2.2.2] : List (List UInt8)).getD 0 [] = [115, 116, 101, 112, 115]) && decide ((([[115, 116, 101, 112, 115], Lib.itoa s.2.2.2] : List (List UInt8)).length : Int) = 2)) = true := by rfl
  rw [e, br_true, chk_true (by simp)]
  have g1 : ([[115, 116, 101, 112, 115], Lib.itoa s.2.2.2] : List (List UInt8)).getD 1 [] = Lib.itoa s.2.2.2 := rfl
  rw [g1, read_spec (by omega) (by omega) (by omega), bind_unit]
theorem l9Line_A {n : Nat} {st : Int} {a : Actor} {A : List Actor} {Q H : List (List Int)} (h : okS a.2 = true) (h0 : 0 ≤ a.1) (h1 : a.1 ≤ 24) (hA : A.length ≤ 1000) (hn : 1048577 < n) : l9Line.f n st (lnA a) A Q H = some (st, (true, (A ++ [a], (Q, (H, ()))))) := by
  have hB := maxB_eq
  have hl := lnA_len h h0 h1
  unfold l9Line.f
  rw [l1Split_spec (by omega) (by omega) (by omega) hn, bind_unit]
  have e32 : UInt8.ofNat (32 : Int).toNat = 32 := rfl
  rw [e32, (lnA_split h h0 h1).1, wordcut (by simp)]
  simp only [cut_inr]
  have e : (decide (([[97, 99, 116, 111, 114], Lib.itoa a.1, txtS a.2] : List (List UInt8)).getD 0 [] = [115, 116, 101, 112, 115]) && decide ((([[97, 99, 116, 111, 114], Lib.itoa a.1, txtS a.2] : List (List UInt8)).length : Int) = 2)) = false := by rfl
  rw [e, br_false, wordcut (by simp)]
  simp only [cut_inr]
  have e' : (decide (([[97, 99, 116, 111, 114], Lib.itoa a.1, txtS a.2] : List (List UInt8)).getD 0 [] = [97, 99, 116, 111, 114]) && decide ((([[97, 99, 116, 111, 114], Lib.itoa a.1, txtS a.2] : List (List UInt8)).length : Int) = 3)) = true := by rfl
  rw [e', br_true, chk_true (by simp)]
  have g1 : ([[97, 99, 116, 111, 114], Lib.itoa a.1, txtS a.2] : List (List UInt8)).getD 1 [] = Lib.itoa a.1 := rfl
  have g2 : ([[97, 99, 116, 111, 114], Lib.itoa a.1, txtS a.2] : List (List UInt8)).getD 2 [] = txtS a.2 := rfl
  rw [g1, g2, read_spec (by omega) (by omega) (by omega), bind_unit, chk_true (by simp), sParseStream_txt h hn, bind_unit, chk_true (by simp only [List.length_cons, List.length_nil]; omega)]
  rfl
theorem l9Line_Q {n : Nat} {st : Int} {q h : List Int} {A : List Actor} {Q H : List (List Int)} (h1 : okS q = true) (h2 : okS h = true) (hQ : Q.length ≤ 1000) (hH : H.length ≤ 1000) (hn : 1048577 < n) : l9Line.f n st (lnQ q h) A Q H = some (st, (true, (A, (Q ++ [q], (H ++ [h], ()))))) := by
  have hB := maxB_eq
  have hl := lnQ_len h1 h2
  unfold l9Line.f
  rw [l1Split_spec (by omega) (by omega) (by omega) hn, bind_unit]
  have e32 : UInt8.ofNat (32 : Int).toNat = 32 := rfl
  rw [e32, (lnQ_split h1 h2).1, wordcut (by simp)]
  simp only [cut_inr]
  have e : (decide (([[113, 117, 101, 117, 101], txtS q, txtS h] : List (List UInt8)).getD 0 [] = [115, 116, 101, 112, 115]) && decide ((([[113, 117, 101, 117, 101], txtS q, txtS h] : List (List UInt8)).length : Int) = 2)) = false := by rfl
  rw [e, br_false, wordcut (by simp)]
  simp only [cut_inr]
  have e' : (decide (([[113, 117, 101, 117, 101], txtS q, txtS h] : List (List UInt8)).getD 0 [] = [97, 99, 116, 111, 114]) && decide ((([[113, 117, 101, 117, 101], txtS q, txtS h] : List (List UInt8)).length : Int) = 3)) = false := by rfl
  rw [e', br_false, wordcut (by simp)]
  simp only [cut_inr]
  have e'' : (decide (([[113, 117, 101, 117, 101], txtS q, txtS h] : List (List UInt8)).getD 0 [] = [113, 117, 101, 117, 101]) && decide ((([[113, 117, 101, 117, 101], txtS q, txtS h] : List (List UInt8)).length : Int) = 3)) = true := by rfl
  rw [e'', br_true, chk_true (by simp)]
  have g1 : ([[113, 117, 101, 117, 101], txtS q, txtS h] : List (List UInt8)).getD 1 [] = txtS q := rfl
  have g2 : ([[113, 117, 101, 117, 101], txtS q, txtS h] : List (List UInt8)).getD 2 [] = txtS h := rfl
  rw [g1, g2, sParseStream_txt h1 hn, bind_unit, chk_true (by simp), sParseStream_txt h2 hn, bind_unit, chk_true (by simp only [List.length_cons, List.length_nil]; omega), chk_true (by simp only [List.length_cons, List.length_nil]; omega)]
  rfl
/-- how far a state has been read before line i -/
noncomputable def soFar (s : State) (i : Nat) : Int × (List Actor × (List (List Int) × (List (List Int) × Unit))) :=
  (if i = 0 then 0 else s.2.2.2, (s.1.take (i - 1), (s.2.1.take (i - 1 - s.1.length), (s.2.2.1.take (i - 1 - s.1.length), ()))))
theorem soFar_succ (s : State) (j : Nat) : soFar s (j + 1) = (s.2.2.2, (s.1.take j, (s.2.1.take (j - s.1.length), (s.2.2.1.take (j - s.1.length), ())))) := by
  unfold soFar
  rw [if_neg (by omega), Nat.add_sub_cancel]
theorem lnOf_A (s : State) {j : Nat} (h : j < s.1.length) : lnOf s (j + 1) = lnA (s.1.getD j zActor) := by
  unfold lnOf
  rw [if_neg (by omega), if_pos (by omega), Nat.add_sub_cancel]
theorem lnOf_Q (s : State) {j : Nat} (h : ¬ j < s.1.length) : lnOf s (j + 1) = lnQ (s.2.1.getD (j - s.1.length) []) (s.2.2.1.getD (j - s.1.length) []) := by
  unfold lnOf
  rw [if_neg (by omega), if_neg (by omega), Nat.add_sub_cancel]
/-- one line more -/
theorem soFar_step {nt : Network} {s : State} (o : OkSt nt s) {i : Nat} (hi : i < 1 + s.1.length + s.2.1.length) {β : Type} (G : Int → List UInt8 → List Actor → List (List Int) → List (List Int) → β) (K : Int × (List Actor × (List (List Int) × (List (List Int) × Unit))) → β)
    (gS : ∀ st A Q H, G st (lnS s) A Q H = K (s.2.2.2, (A, (Q, (H, ())))))
    (gA : ∀ st (a : Actor) A Q H, okS a.2 = true → 0 ≤ a.1 → a.1 ≤ 24 → A.length ≤ 1000 → G st (lnA a) A Q H = K (st, (A ++ [a], (Q, (H, ())))))
    (gQ : ∀ st q h A Q H, okS q = true → okS h = true → Q.length ≤ 1000 → H.length ≤ 1000 → G st (lnQ q h) A Q H = K (st, (A, (Q ++ [q], (H ++ [h], ()))))) :
    G (soFar s i).1 (lnOf s i) (soFar s i).2.1 (soFar s i).2.2.1 (soFar s i).2.2.2.1 = K (soFar s (i + 1)) := by
  have hnq := o.nq
  have hns := o.ns
  have hna := o.na
  have hli := o.net.links
  have hpr := o.net.progs
  by_cases h0 : i = 0
  · subst h0
    show G 0 (lnS s) (s.1.take 0) (s.2.1.take (0 - 1 - s.1.length)) (s.2.2.1.take (0 - 1 - s.1.length)) = K (soFar s (0 + 1))
    rw [gS, soFar_succ]
  · obtain ⟨j, rfl⟩ : ∃ j, i = j + 1 := ⟨i - 1, by omega⟩
    rw [soFar_succ, soFar_succ]
    by_cases hA : j < s.1.length
    · rw [lnOf_A s hA]
      have hb := (act_bd o hA).1
      rw [gA _ _ _ _ _ (act_ok o hA) hb.1 hb.2 (by rw [List.length_take]; omega)]
      have e1 : s.1.take (j + 1) = s.1.take j ++ [s.1.getD j zActor] := by rw [List.take_succ_eq_append_getElem hA, getD_lt hA]
      have e2 : j - s.1.length = 0 := by omega
      have e3 : j + 1 - s.1.length = 0 := by omega
      rw [e1, e2, e3]
    · rw [lnOf_Q s hA]
      have hq : j - s.1.length < s.2.1.length := by omega
      have hh : j - s.1.length < s.2.2.1.length := by omega
      have L := o.lnk (j - s.1.length) (by omega)
      rw [gQ _ _ _ _ _ _ L.qs L.hs (by rw [List.length_take]; omega) (by rw [List.length_take]; omega)]
      have e1 : s.1.take (j + 1) = s.1.take j := by rw [List.take_of_length_le (by omega), List.take_of_length_le (by omega)]
      have e3 : j + 1 - s.1.length = (j - s.1.length) + 1 := by omega
      rw [e1, e3, List.take_succ_eq_append_getElem hq, List.take_succ_eq_append_getElem hh, getD_lt hq, getD_lt hh]
theorem soFar_end {nt : Network} {s : State} (o : OkSt nt s) : soFar s (1 + s.1.length + s.2.1.length) = (s.2.2.2, (s.1, (s.2.1, (s.2.2.1, ())))) := by
  have hnq := o.nq
  have hns := o.ns
  unfold soFar
  rw [if_neg (by omega), List.take_of_length_le (by omega), List.take_of_length_le (by omega), List.take_of_length_le (by omega)]
theorem sParseState_txt {n : Nat} {nt : Network} {s : State} (hN : SmallN nt) (o : OkSt nt s) (hl : (txtSt s).length ≤ 1048576) (hn : 1048577 < n) : sParseState.f n nt (txtSt s) = some (s, (true, ())) := by
  have hnq := o.nq
  have hna := o.na
  have hli := o.net.links
  have hpr := o.net.progs
  unfold sParseState.f
  rw [l1Split_spec (by omega) (by omega) hl hn, bind_unit]
  have e10 : UInt8.ofNat (10 : Int).toNat = 10 := rfl
  rw [e10, txtSt_split o]
  dsimp only
  have hlen : (linesSt s ++ [[]]).length = (1 + s.1.length + s.2.1.length) + 1 := by simp [linesSt_len]
  have hw : w64 (((linesSt s ++ [[]]).length : Int) - 1) = ((1 + s.1.length + s.2.1.length : Nat) : Int) := by rw [hlen, w64_id] <;> omega
  rw [br_no (by rw [hlen]; omega), hw, chk_true (by rw [hlen]; omega)]
  simp only [Int.toNat_natCast, Int.sub_zero]
  have hz : soFar s 0 = (0, ([], ([], ([], ())))) := by simp [soFar]
  refine Eq.trans (congrArg (iter n _) (show _ = (((0 : Nat) : Int), soFar s 0) from by rw [hz]; rfl)) ?_
  refine iter_line (n := n) (fun i => ((i : Int), soFar s i)) (1 + s.1.length + s.2.1.length) (fun ih i hi => ?_) (fun ih => ?_) (by omega)
  · have hi' : (i : Int) < ((1 + s.1.length + s.2.1.length : Nat) : Int) := by omega
    simp only [br_yes hi', Int.toNat_natCast, Nat.zero_add]
    have hg : (linesSt s ++ [[]]).getD i [] = lnOf s i := by
      rw [← linesSt_get s hi, List.getD_eq_getElem?_getD, List.getElem?_append_left (by rw [linesSt_len]; exact hi), ← List.getD_eq_getElem?_getD]
    rw [chk_true (by omega), hg]
    rw [soFar_step o hi (fun st l A Q H => l9Line.f n st l A Q H) (fun r => some (r.1, (true, r.2))) (fun st A Q H => l9Line_S o.steps.1 o.steps.2 hn) (fun st a A Q H h h0 h1 hA => l9Line_A h h0 h1 hA hn) (fun st q h A Q H h1 h2 hQ hH => l9Line_Q h1 h2 hQ hH hn), bind_unit]
    simp only [Bool.not_true, br_false]
    rw [w64_succ (by omega)]
  · simp only [br_no (Int.lt_irrefl _)]
    rw [soFar_end o]
    show cut ((sIsState.f n nt s).bind _) _ = _
    rw [sIsState_spec hN (small_ok o) (by omega), show okSt nt s = true from decide_eq_true o, bind_unit]
    simp only [Bool.not_true, br_false]
    show cut ((fmtState.f n nt s).bind _) _ = _
    rw [fmtState_spec hN (small_ok o) (by omega), bind_unit, fmtSt, if_pos (show okSt nt s = true from decide_eq_true o), decide_eq_true rfl]
    rfl
theorem sParseState_any {n : Nat} {nt : Network} {t : List UInt8} (hN : SmallN nt) (hl : t.length ≤ 1048576) (hn : 1048577 < n) : W (sParseState.f n nt t) (fun r => r = (zeroSt, (false, ())) ∨ (OkSt nt r.1 ∧ txtSt r.1 = t)) := by
  unfold sParseState.f
  rw [l1Split_spec (by omega) (by omega) hl hn, bind_unit]
  have hne := splitR_ne (UInt8.ofNat (10 : Int).toNat) t
  have hp := splitR_sum (UInt8.ofNat (10 : Int).toNat) t
  dsimp only
  generalize splitR (UInt8.ofNat (10 : Int).toNat) t = L at hne hp
  have hpos := List.length_pos_iff.2 hne
  rw [W_brd]
  refine ⟨fun _ => W_some.2 (.inl rfl), fun h44 => ?_⟩
  have hw : w64 ((L.length : Int) - 1) = ((L.length - 1 : Nat) : Int) := by rw [w64_id] <;> omega
  rw [hw, chk_true (by omega)]
  simp only [Int.toNat_natCast, Int.sub_zero]
  refine W_up (fun (i : Nat) (o : Int × (List Actor × (List (List Int) × List (List Int)))) => ((i : Int), (o.1, (o.2.1, (o.2.2.1, (o.2.2.2, ())))))) (L.length - 1) (fun i o => Inv3 i o.2.1 o.2.2.1 o.2.2.2) (s0 := (0, ([], ([], [])))) rfl Inv3.nil (by omega) (fun ih o I => ?_) (fun ih i o hi I hS => ?_)
  · simp only [br_no (Int.lt_irrefl _)]
    have hS := I.small (by omega) o.1
    refine W_cut.2 (W_and (P := fun z => ∃ y : Bool × Unit, z = .inr y ∧ (y.1 = false → OkSt nt (o.2.1, (o.2.2.1, (o.2.2.2, o.1))) ∧ txtSt (o.2.1, (o.2.2.1, (o.2.2.2, o.1))) = t)) ?_ (fun z hz => ?_))
    · rw [sIsState_spec hN hS (by omega), bind_unit, W_br]
      refine ⟨fun _ => W_some.2 ⟨_, rfl, fun h => by cases h⟩, fun hk => ?_⟩
      have hk : okSt nt (o.2.1, (o.2.2.1, (o.2.2.2, o.1))) = true := by simpa using hk
      rw [fmtState_spec hN hS (by omega), bind_unit]
      refine W_some.2 ⟨_, rfl, fun h => ⟨okSt_of' hk, ?_⟩⟩
      rw [fmtSt, if_pos hk] at h
      simpa using h
    · obtain ⟨y, rfl, hy⟩ := hz
      simp only
      rw [W_br]
      exact ⟨fun _ => W_some.2 (.inl rfl), fun h => W_some.2 (.inr (hy h))⟩
  · simp only [br_yes (show (i : Int) < ((L.length - 1 : Nat) : Int) by omega), Int.toNat_natCast, Nat.zero_add]
    have hq := hp (L.getD i []) (by rw [getD_lt (by omega)]; exact List.getElem_mem _)
    rw [chk_true (by omega), W_bind]
    refine W_and (l9Line_any I (by omega) (by omega) hn) (fun r hr => ?_)
    rw [W_br]
    refine ⟨fun _ => W_some.2 (.inl rfl), fun _ => ?_⟩
    rw [w64_succ (by omega)]
    exact hS (r.1, (r.2.2.1, (r.2.2.2.1, r.2.2.2.2.1))) hr
/-! ### the program -/
theorem suf_end (t : List UInt8) : Lib.hasSuffix (t ++ [10]) [10] = true := by
  unfold Lib.hasSuffix
  rw [List.isSuffixOf_iff_suffix]
  exact List.suffix_append t [10]
theorem iLines_txt {n : Nat} {t : List UInt8} (hl : (t ++ [10]).length ≤ 1048576) : iLines.f n (t ++ [10]) = some (splitR 10 t, (true, ())) := by
  have hl' : t.length ≤ 1048575 := by simp at hl; omega
  unfold iLines.f
  rw [br_no (by simp)]
  have e1 : hasSufC.f n (t ++ [10]) [10] = some (true, ()) := by
    unfold hasSufC.f hasSufF
    rw [if_pos (by omega), suf_end]
    rfl
  have e2 : trimSufC.f n (t ++ [10]) [10] = some (t, ()) := by
    unfold trimSufC.f trimSufF Lib.trimSuffix
    rw [if_pos (by omega), suf_end]
    simp
    rfl
  rw [e1, bind_unit]
  simp only [Bool.not_true, br_false]
  rw [e2, bind_unit, splitC_spec (by show t.length ≤ _; omega), bind_unit]
theorem iLines_any {n : Nat} {t : List UInt8} (hl : t.length ≤ 1048576) : W (iLines.f n t) (fun r => r.1.length ≤ 1048576 ∧ ∀ p ∈ r.1, p.length ≤ 1048575) := by
  by_cases h0 : t = []
  · unfold iLines.f
    rw [br_yes h0]
    exact W_some.2 ⟨by simp, fun p h => by simp at h⟩
  · by_cases hs : Lib.hasSuffix t [10] = true
    · obtain ⟨u, rfl⟩ : ∃ u, t = u ++ [10] := by
        unfold Lib.hasSuffix at hs
        rw [List.isSuffixOf_iff_suffix] at hs
        obtain ⟨u, e⟩ := hs
        exact ⟨u, e.symm⟩
      rw [iLines_txt hl]
      refine W_some.2 ⟨?_, fun p hp => ?_⟩
      · have := splitR_len 10 u
        simp at hl
        show (splitR 10 u).length ≤ _
        omega
      · have := splitR_sum 10 u p hp
        have := List.length_pos_iff.2 (splitR_ne 10 u)
        simp at hl
        omega
    · unfold iLines.f
      rw [br_no h0]
      have e1 : hasSufC.f n t [10] = some (false, ()) := by
        unfold hasSufC.f hasSufF
        rw [if_pos (by omega), show Lib.hasSuffix t [10] = false by simpa using hs]
        rfl
      rw [e1, bind_unit]
      simp only [Bool.not_false, br_true]
      exact W_some.2 ⟨by simp, fun p h => by simp at h⟩
theorem line_cases {nt : Network} {s : State} (o : OkSt nt s) {i : Nat} (hi : i < 1 + s.1.length + s.2.1.length) :
    (∃ st A Q H, soFar s i = (st, (A, (Q, (H, ())))) ∧ lnOf s i = lnS s ∧ soFar s (i + 1) = (s.2.2.2, (A, (Q, (H, ()))))) ∨
    (∃ st A Q H, ∃ a : Actor, soFar s i = (st, (A, (Q, (H, ())))) ∧ lnOf s i = lnA a ∧ soFar s (i + 1) = (st, (A ++ [a], (Q, (H, ())))) ∧ okS a.2 = true ∧ 0 ≤ a.1 ∧ a.1 ≤ 24 ∧ A.length ≤ 1000) ∨
    (∃ st A Q H q h, soFar s i = (st, (A, (Q, (H, ())))) ∧ lnOf s i = lnQ q h ∧ soFar s (i + 1) = (st, (A, (Q ++ [q], (H ++ [h], ())))) ∧ okS q = true ∧ okS h = true ∧ Q.length ≤ 1000 ∧ H.length ≤ 1000) := by
  have hnq := o.nq
  have hns := o.ns
  have hna := o.na
  have hli := o.net.links
  have hpr := o.net.progs
  by_cases h0 : i = 0
  · subst h0
    exact .inl ⟨_, _, _, _, rfl, rfl, by rw [soFar_succ]⟩
  · obtain ⟨j, rfl⟩ : ∃ j, i = j + 1 := ⟨i - 1, by omega⟩
    refine .inr ?_
    by_cases hA : j < s.1.length
    · have hb := (act_bd o hA).1
      refine .inl ⟨_, _, _, _, _, soFar_succ s j, lnOf_A s hA, ?_, act_ok o hA, hb.1, hb.2, by rw [List.length_take]; omega⟩
      have e1 : s.1.take (j + 1) = s.1.take j ++ [s.1.getD j zActor] := by rw [List.take_succ_eq_append_getElem hA, getD_lt hA]
      have e2 : j - s.1.length = 0 := by omega
      have e3 : j + 1 - s.1.length = 0 := by omega
      rw [soFar_succ, e1, e2, e3]
    · have hq : j - s.1.length < s.2.1.length := by omega
      have hh : j - s.1.length < s.2.2.1.length := by omega
      have L := o.lnk (j - s.1.length) (by omega)
      refine .inr ⟨_, _, _, _, _, _, soFar_succ s j, lnOf_Q s hA, ?_, L.qs, L.hs, by rw [List.length_take]; omega, by rw [List.length_take]; omega⟩
      have e1 : s.1.take (j + 1) = s.1.take j := by rw [List.take_of_length_le (by omega), List.take_of_length_le (by omega)]
      have e3 : j + 1 - s.1.length = (j - s.1.length) + 1 := by omega
      rw [soFar_succ, e1, e3, List.take_succ_eq_append_getElem hq, List.take_succ_eq_append_getElem hh, getD_lt hq, getD_lt hh]
theorem soFar_zero (s : State) : soFar s 0 = (0, ([], ([], ([], ())))) := by simp [soFar]
theorem iParseState_txt {n : Nat} {nt : Network} {s : State} (hN : SmallN nt) (o : OkSt nt s) (hl : (txtSt s).length ≤ 1048576) (hn : 1048577 < n) : iParseState.f n nt (txtSt s) = some (s, (true, ())) := by
  have hB := maxB_eq
  have hst := o.steps
  obtain ⟨t, ht⟩ := txtSt_last o
  have hsp := txtSt_trim o ht
  have hli := iLines_txt (n := n) (t := t) (by rw [← ht]; exact hl)
  rw [hsp, ← ht] at hli
  have hlen := linesSt_len s
  have hnet := o.net
  have hna := o.na
  have hnq := o.nq
  have hl1 := hnet.links
  have hl2 := hnet.progs
  unfold iParseState.f
  rw [hli, bind_unit]
  dsimp only
  refine Eq.trans (congrArg (iter n _) (show _ = (true, (((0 : Nat) : Int), soFar s 0)) from by rw [soFar_zero]; rfl)) ?_
  refine iter_line (n := n) (fun i => (true, ((i : Int), soFar s i))) (1 + s.1.length + s.2.1.length) (fun ih i hi => ?_) (fun ih => ?_) (by omega)
  · have hi' : (i : Int) < ((linesSt s).length : Int) := by omega
    simp only [br_yes hi', Int.toNat_natCast]
    rw [chk_true (by omega), linesSt_get s hi, w64_succ (by omega)]
    rcases line_cases o hi with ⟨st, A, Q, H, e1, e2, e3⟩ | ⟨st, A, Q, H, a, e1, e2, e3, h, h0, h1, hA⟩ | ⟨st, A, Q, H, q, h, e1, e2, e3, h1, h2, hQ, hH⟩
    · rw [e1, e2, e3]
      have hlen := lnS_len hst.1 hst.2
      rw [splitC_spec (by omega), (lnS_split hst.1 hst.2).1, bind_unit, wordcut (by simp)]
      simp only [cut_inr]
      have e : (decide (([[115, 116, 101, 112, 115], Lib.itoa s.2.2.2] : List (List UInt8)).getD 0 [] = [115, 116, 101, 112, 115]) && decide ((([[115, 116, 101, 112, 115], Lib.itoa s.2.2.2] : List (List UInt8)).length : Int) = 2)) = true := by rfl
      rw [e, br_true, chk_true (by simp)]
      have g1 : ([[115, 116, 101, 112, 115], Lib.itoa s.2.2.2] : List (List UInt8)).getD 1 [] = Lib.itoa s.2.2.2 := rfl
      rw [g1, iNumber_spec (by omega) (by omega), bind_unit, br_true]
    · rw [e1, e2, e3]
      have hlen := lnA_len h h0 h1
      rw [splitC_spec (by omega), (lnA_split h h0 h1).1, bind_unit, wordcut (by simp)]
      simp only [cut_inr]
      have e : (decide (([[97, 99, 116, 111, 114], Lib.itoa a.1, txtS a.2] : List (List UInt8)).getD 0 [] = [115, 116, 101, 112, 115]) && decide ((([[97, 99, 116, 111, 114], Lib.itoa a.1, txtS a.2] : List (List UInt8)).length : Int) = 2)) = false := by rfl
      rw [e, br_false, wordcut (by simp)]
      simp only [cut_inr]
      have e' : (decide (([[97, 99, 116, 111, 114], Lib.itoa a.1, txtS a.2] : List (List UInt8)).getD 0 [] = [97, 99, 116, 111, 114]) && decide ((([[97, 99, 116, 111, 114], Lib.itoa a.1, txtS a.2] : List (List UInt8)).length : Int) = 3)) = true := by rfl
      rw [e', br_true, chk_true (by simp)]
      have g1 : ([[97, 99, 116, 111, 114], Lib.itoa a.1, txtS a.2] : List (List UInt8)).getD 1 [] = Lib.itoa a.1 := rfl
      have g2 : ([[97, 99, 116, 111, 114], Lib.itoa a.1, txtS a.2] : List (List UInt8)).getD 2 [] = txtS a.2 := rfl
      rw [g1, g2, iNumber_spec (by omega) (by omega), bind_unit, chk_true (by simp), iParseStream_txt h hn, bind_unit, chk_true (by simp only [List.length_cons, List.length_nil]; omega)]
      simp only [br_true]
    · rw [e1, e2, e3]
      have hlen := lnQ_len h1 h2
      rw [splitC_spec (by omega), (lnQ_split h1 h2).1, bind_unit, wordcut (by simp)]
      simp only [cut_inr]
      have e : (decide (([[113, 117, 101, 117, 101], txtS q, txtS h] : List (List UInt8)).getD 0 [] = [115, 116, 101, 112, 115]) && decide ((([[113, 117, 101, 117, 101], txtS q, txtS h] : List (List UInt8)).length : Int) = 2)) = false := by rfl
      rw [e, br_false, wordcut (by simp)]
      simp only [cut_inr]
      have e' : (decide (([[113, 117, 101, 117, 101], txtS q, txtS h] : List (List UInt8)).getD 0 [] = [97, 99, 116, 111, 114]) && decide ((([[113, 117, 101, 117, 101], txtS q, txtS h] : List (List UInt8)).length : Int) = 3)) = false := by rfl
      rw [e', br_false, wordcut (by simp)]
      simp only [cut_inr]
      have e'' : (decide (([[113, 117, 101, 117, 101], txtS q, txtS h] : List (List UInt8)).getD 0 [] = [113, 117, 101, 117, 101]) && decide ((([[113, 117, 101, 117, 101], txtS q, txtS h] : List (List UInt8)).length : Int) = 3)) = true := by rfl
      rw [e'', br_true, chk_true (by simp)]
      have g1 : ([[113, 117, 101, 117, 101], txtS q, txtS h] : List (List UInt8)).getD 1 [] = txtS q := rfl
      have g2 : ([[113, 117, 101, 117, 101], txtS q, txtS h] : List (List UInt8)).getD 2 [] = txtS h := rfl
      rw [g1, g2, iParseStream_txt h1 hn, bind_unit, chk_true (by simp), iParseStream_txt h2 hn, bind_unit, chk_true (by simp only [List.length_cons, List.length_nil]; omega), chk_true (by simp only [List.length_cons, List.length_nil]; omega)]
      simp only [br_true]
  · have hi' : ¬ (((1 + s.1.length + s.2.1.length : Nat) : Int) < ((linesSt s).length : Int)) := by omega
    simp only [br_no hi', Bool.not_true, br_false]
    rw [soFar_end o]
    show cut ((iIsState.f n nt s).bind _) _ = _
    rw [iIsState_spec hN (small_ok o) (by omega), show okSt nt s = true from decide_eq_true o, bind_unit]
    simp only [Bool.not_true, br_false]
    show cut ((iFmtState.f n nt s).bind _) _ = _
    rw [iFmtState_spec hN (small_ok o) (by omega), bind_unit, fmtSt, if_pos (show okSt nt s = true from decide_eq_true o), decide_eq_true rfl]
    rfl
theorem iParseState_any {n : Nat} {nt : Network} {t : List UInt8} (hN : SmallN nt) (hl : t.length ≤ 1048576) (hn : 1048577 < n) : W (iParseState.f n nt t) (fun r => r = (zeroSt, (false, ())) ∨ (OkSt nt r.1 ∧ txtSt r.1 = t)) := by
  have hB := maxB_eq
  unfold iParseState.f
  rw [W_bind]
  refine W_and (iLines_any hl) (fun r1 ⟨hL, hP⟩ => ?_)
  obtain ⟨L, ok0, ⟨⟩⟩ := r1
  dsimp only at hL hP ⊢
  refine W_up (fun (i : Nat) (o : Bool × (Int × (List Actor × (List (List Int) × List (List Int))))) => (o.1, ((i : Int), (o.2.1, (o.2.2.1, (o.2.2.2.1, (o.2.2.2.2, ()))))))) L.length (fun i o => Inv3 i o.2.2.1 o.2.2.2.1 o.2.2.2.2) (s0 := (ok0, (0, ([], ([], []))))) rfl Inv3.nil (by omega) (fun ih o I => ?_) (fun ih i o hi I hS => ?_)
  · simp only [br_no (Int.lt_irrefl _)]
    have hS := I.small (by omega) o.2.1
    refine W_cut.2 (W_and (P := fun z => ∃ y : Bool × Unit, z = .inr y ∧ (y.1 = false → OkSt nt (o.2.2.1, (o.2.2.2.1, (o.2.2.2.2, o.2.1))) ∧ txtSt (o.2.2.1, (o.2.2.2.1, (o.2.2.2.2, o.2.1))) = t)) ?_ (fun z hz => ?_))
    · rw [W_br]
      refine ⟨fun _ => W_some.2 ⟨_, rfl, fun h => by cases h⟩, fun _ => ?_⟩
      rw [iIsState_spec hN hS (by omega), bind_unit, W_br]
      refine ⟨fun _ => W_some.2 ⟨_, rfl, fun h => by cases h⟩, fun hk => ?_⟩
      have hk : okSt nt (o.2.2.1, (o.2.2.2.1, (o.2.2.2.2, o.2.1))) = true := by simpa using hk
      rw [iFmtState_spec hN hS (by omega), bind_unit]
      refine W_some.2 ⟨_, rfl, fun h => ⟨okSt_of' hk, ?_⟩⟩
      rw [fmtSt, if_pos hk] at h
      simpa using h
    · obtain ⟨y, rfl, hy⟩ := hz
      simp only
      rw [W_br]
      exact ⟨fun _ => W_some.2 (.inl rfl), fun h => W_some.2 (.inr (hy h))⟩
  · simp only [br_yes (show (i : Int) < (L.length : Int) by omega), Int.toNat_natCast]
    have hla := I.la
    have hlq := I.lq
    have hlh := I.lh
    have hline := hP (L.getD i []) (by rw [getD_lt hi]; exact List.getElem_mem _)
    rw [chk_true (by omega), splitC_spec (by omega), bind_unit, w64_succ (by omega)]
    have hne := splitR_ne 32 (L.getD i [])
    have hp := splitR_sum 32 (L.getD i [])
    dsimp only
    generalize splitR 32 (L.getD i []) = M at hne hp
    have piece : ∀ j, j < M.length → 3 ≤ M.length → (M.getD j []).length ≤ 1048575 := fun j hj h3 => by
      have := hp (M.getD j []) (by rw [getD_lt hj]; exact List.getElem_mem _)
      omega
    rw [wordcut hne]
    simp only [cut_inr]
    rw [W_br]
    refine ⟨fun c => ?_, fun _ => ?_⟩
    · simp only [Bool.and_eq_true, decide_eq_true_eq] at c
      have := hp (M.getD 1 []) (by rw [getD_lt (by omega)]; exact List.getElem_mem _)
      rw [chk_true (by omega), W_bind]
      refine W_and (iNumber_any (by omega)) (fun r _ => ?_)
      rw [W_br]
      exact ⟨fun _ => hS (_, (_, (_, (_, _)))) (I.mono (by omega)), fun _ => hS (_, (_, (_, (_, _)))) (I.mono (by omega))⟩
    rw [wordcut hne]
    simp only [cut_inr]
    rw [W_br]
    refine ⟨fun c => ?_, fun _ => ?_⟩
    · simp only [Bool.and_eq_true, decide_eq_true_eq] at c
      have p1 := piece 1 (by omega) (by omega)
      have p2 := piece 2 (by omega) (by omega)
      rw [chk_true (by omega), W_bind]
      refine W_and (iNumber_any (by omega)) (fun r _ => ?_)
      rw [chk_true (by omega), W_bind]
      refine W_and (iParseStream_any p2 hn) (fun r2 h2 => ?_)
      rw [chk_true (by simp only [List.length_cons, List.length_nil]; omega), W_br]
      refine ⟨fun _ => ?_, fun _ => hS (_, (_, (_, (_, _)))) (I.act h2)⟩
      rw [W_br]
      exact ⟨fun _ => hS (_, (_, (_, (_, _)))) (I.act h2), fun _ => hS (_, (_, (_, (_, _)))) (I.act h2)⟩
    rw [wordcut hne]
    simp only [cut_inr]
    rw [W_br]
    refine ⟨fun c => ?_, fun _ => hS (_, (_, (_, (_, _)))) (I.mono (by omega))⟩
    simp only [Bool.and_eq_true, decide_eq_true_eq] at c
    have p1 := piece 1 (by omega) (by omega)
    have p2 := piece 2 (by omega) (by omega)
    rw [chk_true (by omega), W_bind]
    refine W_and (iParseStream_any p1 hn) (fun r h1 => ?_)
    rw [chk_true (by omega), W_bind]
    refine W_and (iParseStream_any p2 hn) (fun r2 h2 => ?_)
    rw [chk_true (by simp only [List.length_cons, List.length_nil]; omega), chk_true (by simp only [List.length_cons, List.length_nil]; omega), W_br]
    refine ⟨fun _ => ?_, fun _ => hS (false, (o.2.1, (o.2.2.1, (o.2.2.2.1 ++ [r.1], o.2.2.2.2 ++ [r2.1])))) (I.que h1 h2)⟩
    rw [W_br]
    exact ⟨fun _ => hS (r2.2.1, (o.2.1, (o.2.2.1, (o.2.2.2.1 ++ [r.1], o.2.2.2.2 ++ [r2.1])))) (I.que h1 h2), fun _ => hS (false, (o.2.1, (o.2.2.1, (o.2.2.2.1 ++ [r.1], o.2.2.2.2 ++ [r2.1])))) (I.que h1 h2)⟩
/-- both programs read the same -/
theorem parse_same {n : Nat} {nt : Network} {t : List UInt8} (hN : SmallN nt) (hl : t.length ≤ 1048576) (hn : 1048577 < n) : ∃ r, sParseState.f n nt t = some r ∧ iParseState.f n nt t = some r ∧ SmallSt r.1 := by
  obtain ⟨r, e, h⟩ := told_of (sParseState_any hN hl hn) (fun s o et => by subst et; exact sParseState_txt hN o hl hn)
  obtain ⟨r', e', h'⟩ := told_of (iParseState_any hN hl hn) (fun s o et => by subst et; exact iParseState_txt hN o hl hn)
  have := h.one h'
  subst this
  refine ⟨r, e, e', ?_⟩
  rcases h.non with ⟨s, o, et⟩ | e0
  · rw [h.all s o et]; exact small_ok o
  · rw [e0]; exact Inv3.nil.small (by omega) 0
theorem law_true (nt : Network) (t : List UInt8) (h : InR tNetwork nt) : ∃ n, law.f n nt t = some (true, ()) := by
  refine ⟨1048578, ?_⟩
  have hn : 1048576 < 1048578 := by omega
  unfold law.f
  by_cases hl : t.length ≤ 1048576
  · have hl' : ¬ (1048576 < (t.length : Int)) := by omega
    rw [br_no hl']
    obtain ⟨r, e, r1, r2⟩ := szNetwork_spec (n := 1048578) (left := 1048576) (by omega) h (by omega) (by omega)
    simp only [e, Option.bind_some]
    by_cases hr : r < 0
    · simp [hr, br]
    · rw [br_no hr]
      have hS := r2 (by omega)
      obtain ⟨p, e1, e2, hU⟩ := parse_same (n := 1048578) hS hl (by omega)
      have k1 := mNetwork_le (k := 1) hS
      have k3 := mState_le (k := 1) hU
      have c1 : ¬ (mNetwork nt 1).2 < 0 := by omega
      have c2 : ¬ (mState p.1 1).2 < 0 := by omega
      have m1 := markNetwork_spec (n := 1048578) hS (show (0 : Int) ≤ 1 by omega) (show (1 : Int) ≤ 281474976710656 by omega) hn
      have m3 := markState_spec (n := 1048578) hU (show (0 : Int) ≤ 1 by omega) (show (1 : Int) ≤ 281474976710656 by omega) hn
      have m4 := heldState_spec (n := 1048578) hU (show (0 : Int) ≤ 1 by omega) (show (1 : Int) ≤ 281474976710656 by omega) hn
      have m5 : heldState.f 1048578 ((mState p.1 1).1.1, ((mState p.1 1).1.2.1, ((mState p.1 1).1.2.2.1, p.1.2.2.2))) 1 = some ((mState p.1 1).2, ()) := m4
      simp only [toNetwork_spec hS hn, e1, e2, eqNetwork_refl hS hn, eqState_refl hU hn, Option.bind_some, decide_true, Bool.not_true, br_false, cut_inr, m1, m3, m5, c1, c2, decide_false]
  · rw [br_yes (by omega)]
end Go.AmT
