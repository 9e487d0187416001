/- Networks that are read from texts, in plain Lean: both programs read the same. -/
import Derived.Test.YtgddbcdkhfdojaaGreatDoorLTxtM
import Derived.Test.YtgddbcdkhfdojaaGreatDoorPTxtK
import Derived.Test.YtgddbcdkhfdojaaGreatDoorPTxtNt
import Derived.Test.YtgddbcdkhfdojaaGreatDoorPTxtL
namespace Go.AmT
open Go Go.Am
set_option linter.unusedVariables false
set_option linter.unusedSimpArgs false

/-! ### the lines of a network -/
noncomputable def lnP (p : Program) : List UInt8 := [112, 114, 111, 99, 101, 115, 115] ++ 32 :: txtP p
noncomputable def restL (l : Link) : List UInt8 := Lib.itoa l.1 ++ 32 :: (Lib.itoa l.2.1 ++ 32 :: (Lib.itoa l.2.2.1 ++ 32 :: (Lib.itoa l.2.2.2.1 ++ 32 :: txtS l.2.2.2.2)))
noncomputable def lnL (l : Link) : List UInt8 := [108, 105, 110, 107] ++ 32 :: restL l
noncomputable def lnN (nt : Network) (i : Nat) : List UInt8 := if i < nt.1.length then lnP (nt.1.getD i zProgram) else lnL (nt.2.getD (i - nt.1.length) zLink)
noncomputable def linesN (nt : Network) : List (List UInt8) := (List.range (nt.1.length + nt.2.length)).map (lnN nt)
theorem linesN_len (nt : Network) : (linesN nt).length = nt.1.length + nt.2.length := by simp [linesN]
theorem linesN_get (nt : Network) {i : Nat} (h : i < nt.1.length + nt.2.length) : (linesN nt).getD i [] = lnN nt i := by
  rw [getD_lt (by rw [linesN_len]; exact h)]
  simp [linesN]
theorem linesN_eq (nt : Network) : linesN nt = ((List.range nt.1.length).map fun i => lnP (nt.1.getD i zProgram)) ++ ((List.range nt.2.length).map fun i => lnL (nt.2.getD i zLink)) := by
  refine List.ext_getElem (by simp [linesN]) (fun i h1 h2 => ?_)
  rw [linesN_len] at h1
  simp only [linesN, List.getElem_map, List.getElem_range]
  by_cases hi : i < nt.1.length
  · rw [List.getElem_append_left (by simpa using hi)]
    simp only [List.getElem_map, List.getElem_range, lnN]
    rw [if_pos hi]
  · rw [List.getElem_append_right (by simpa using hi)]
    simp only [List.getElem_map, List.getElem_range, lnN, List.length_map, List.length_range]
    rw [if_neg hi]
theorem okP_at {nt : Network} (o : OkN nt) {i : Nat} (hi : i < nt.1.length) : okP (nt.1.getD i zProgram) = true := by rw [getD_lt hi]; exact o.prog i hi
theorem fmtS_txt {s : List Int} (h : okS s = true) : fmtS s = txtS s := if_pos h
theorem txtN_lines {nt : Network} (o : OkN nt) : txtN nt = ((linesN nt).map (· ++ [10])).flatten := by
  rw [linesN_eq]
  unfold txtN
  have e1 : ((List.range nt.1.length).map fun i => lineP (nt.1.getD i zProgram)) = (((List.range nt.1.length).map fun i => lnP (nt.1.getD i zProgram))).map (· ++ [10]) := by
    rw [List.map_map]
    refine List.map_congr_left (fun i hi => ?_)
    have hi := List.mem_range.1 hi
    simp only [lineP, lnP, Function.comp, fmtP, if_pos (okP_at o hi)]
    simp
  have e2 : ((List.range nt.2.length).map fun i => lineL (nt.2.getD i zLink)) = (((List.range nt.2.length).map fun i => lnL (nt.2.getD i zLink))).map (· ++ [10]) := by
    rw [List.map_map]
    refine List.map_congr_left (fun i hi => ?_)
    have hi := List.mem_range.1 hi
    simp only [lineL, lnL, restL, Function.comp, fmtS_txt (lnk_bd o hi).t]
    simp
  rw [e1, e2]
  simp
theorem txtP_no {p : Program} (h : okP p = true) {c : UInt8} (hc : c = 10) : c ∉ txtP p := by
  subst hc
  obtain ⟨h1, h2, h3, h4⟩ := okP_all h
  have n1 := notin_itoa (x := p.1) ⟨by omega, by omega⟩ (c := 10) (by decide) (by decide)
  have n2 := notin_itoa (x := p.2.1) ⟨by omega, by omega⟩ (c := 10) (by decide) (by decide)
  have hi := okP_instr h
  rw [txtP, semi_eq hi]
  simp only [List.mem_append, List.mem_singleton, List.mem_flatten, List.mem_map, not_or, not_exists, not_and]
  refine ⟨⟨⟨n1, by decide⟩, n2⟩, ?_⟩
  rintro l ⟨x, hx, rfl⟩ hm
  rcases List.mem_cons.1 hm with e | hm
  · exact absurd e (by decide)
  · exact (txtI_no (okI_all (hi x hx) (by omega) (by omega) (by omega))).2 hm
theorem restL_split {l : Link} (B : LnkB l) : splitR 32 (restL l) = [Lib.itoa l.1, Lib.itoa l.2.1, Lib.itoa l.2.2.1, Lib.itoa l.2.2.2.1, txtS l.2.2.2.2] ∧ (10 : UInt8) ∉ restL l := by
  obtain ⟨a, b, c, d, t⟩ := B
  have ht := (okS_bd t).2
  have n : ∀ {v : Int}, -1 ≤ v → v ≤ 12 → ∀ c : UInt8, c = 32 ∨ c = 10 → c ∉ Lib.itoa v := fun h0 h1 c hc => notin_itoa ⟨by omega, by omega⟩ (by rcases hc with rfl | rfl <;> decide) (by rcases hc with rfl | rfl <;> decide)
  have m : ∀ c : UInt8, c = 32 ∨ c = 10 → c ∉ txtS l.2.2.2.2 := fun c hc => by
    rcases hc with rfl | rfl
    · exact txtS_mem ht (by decide) (by decide) (by decide) (by decide)
    · exact txtS_mem ht (by decide) (by decide) (by decide) (by decide)
  refine ⟨?_, ?_⟩
  · unfold restL
    rw [splitR_app _ (n a.1 a.2 32 (.inl rfl)), splitR_app _ (n (by omega) (by omega) 32 (.inl rfl)), splitR_app _ (n c.1 c.2 32 (.inl rfl)), splitR_app _ (n (by omega) (by omega) 32 (.inl rfl)), splitR_no (m 32 (.inl rfl))]
  · have n1 := n a.1 a.2 10 (.inr rfl)
    have n2 := n (v := l.2.1) (by omega) (by omega) 10 (.inr rfl)
    have n3 := n c.1 c.2 10 (.inr rfl)
    have n4 := n (v := l.2.2.2.1) (by omega) (by omega) 10 (.inr rfl)
    have n5 := m 10 (.inr rfl)
    simp only [restL, List.mem_append, List.mem_cons, not_or]
    exact ⟨n1, by decide, n2, by decide, n3, by decide, n4, by decide, n5⟩
theorem linesN_no {nt : Network} (o : OkN nt) : ∀ l ∈ linesN nt, (10 : UInt8) ∉ l := by
  rw [linesN_eq]
  intro l hl
  simp only [List.mem_append, List.mem_map, List.mem_range] at hl
  rcases hl with ⟨i, hi, rfl⟩ | ⟨i, hi, rfl⟩
  · have := txtP_no (okP_at o hi) rfl
    simp only [lnP, List.mem_append, List.mem_cons, List.not_mem_nil, or_false, not_or]
    exact ⟨by decide, by decide, this⟩
  · have := (restL_split (lnk_bd o hi)).2
    simp only [lnL, List.mem_append, List.mem_cons, List.not_mem_nil, or_false, not_or]
    exact ⟨by decide, by decide, this⟩
theorem restL_len {l : Link} (B : LnkB l) : (restL l).length ≤ 5000 := by
  obtain ⟨a, b, c, d, t⟩ := B
  have l1 := itoa_len (x := l.1) (by omega) (by omega)
  have l2 := itoa_len (x := l.2.1) (by omega) (by omega)
  have l3 := itoa_len (x := l.2.2.1) (by omega) (by omega)
  have l4 := itoa_len (x := l.2.2.2.1) (by omega) (by omega)
  have l5 := txtS_len t
  simp only [restL, List.length_append, List.length_cons]
  omega

/-! ### told by a text -/
abbrev zeroN : Network := ([], [])
structure ToldN (s : List UInt8) (r : Network × (Bool × Unit)) : Prop where
  all : ∀ nt, OkN nt → txtN nt = s → r = (nt, (true, ()))
  non : (∃ nt, OkN nt ∧ txtN nt = s) ∨ r = (zeroN, (false, ()))
theorem ToldN.one {s : List UInt8} {r r' : Network × (Bool × Unit)} (h : ToldN s r) (h' : ToldN s r') : r = r' := by
  rcases h.non with ⟨x, o, e⟩ | e
  · rw [h.all x o e, h'.all x o e]
  · rcases h'.non with ⟨x, o, e'⟩ | e'
    · rw [h.all x o e', h'.all x o e']
    · rw [e, e']
theorem toldN_of {s : List UInt8} {m : Option (Network × (Bool × Unit))} (h1 : W m (fun r => r = (zeroN, (false, ())) ∨ (OkN r.1 ∧ txtN r.1 = s))) (h2 : ∀ x, OkN x → txtN x = s → m = some (x, (true, ()))) : W m (ToldN s) := by
  obtain ⟨r, e, h⟩ := h1
  refine ⟨r, e, ⟨fun x o et => ?_, ?_⟩⟩
  · rw [h2 x o et] at e
    exact (Option.some.inj e).symm
  · rcases h with h | ⟨o, et⟩
    · exact .inr h
    · exact .inl ⟨_, o, et⟩
theorem smallN_of {nt : Network} (o : OkN nt) : SmallN nt := by
  have h1 := o.progs
  have h2 := o.links
  refine ⟨by omega, fun p hp => ?_, by omega, fun l hl => ?_⟩
  · obtain ⟨i, hi, rfl⟩ := List.getElem_of_mem hp
    exact ⟨by have := (okP_all (o.prog i hi)).2.2.1; omega⟩
  · obtain ⟨i, hi, rfl⟩ := List.getElem_of_mem hl
    exact ⟨by have := (okS_bd (o.toks i hi)).1; omega⟩
theorem toldN_small {s : List UInt8} {r : Network × (Bool × Unit)} (h : ToldN s r) : SmallN r.1 := by
  rcases h.non with ⟨x, o, e⟩ | e
  · rw [h.all x o e]; exact smallN_of o
  · rw [e]; exact ⟨by simp, fun p hp => by simp at hp, by simp, fun p hp => by simp at hp⟩
structure InvN (k : Nat) (A : List Program) (B : List Link) : Prop where
  la : A.length ≤ k
  lb : B.length ≤ k
  ra : ∀ p ∈ A, SmallP p
  rb : ∀ l ∈ B, SmallL l
theorem InvN.nil : InvN 0 [] [] := ⟨by simp, by simp, fun _ h => (by simp at h), fun _ h => (by simp at h)⟩
theorem InvN.mono {k k' : Nat} {A : List Program} {B : List Link} (I : InvN k A B) (h : k ≤ k') : InvN k' A B := ⟨by have := I.la; omega, by have := I.lb; omega, I.ra, I.rb⟩
theorem InvN.prog {k : Nat} {A : List Program} {B : List Link} (I : InvN k A B) {p : Program} (h : SmallP p) : InvN (k + 1) (A ++ [p]) B := ⟨by have := I.la; simp; omega, by have := I.lb; omega, mem_snoc I.ra h, I.rb⟩
theorem InvN.link {k : Nat} {A : List Program} {B : List Link} (I : InvN k A B) {l : Link} (h : SmallL l) : InvN (k + 1) A (B ++ [l]) := ⟨by have := I.la; omega, by have := I.lb; simp; omega, I.ra, mem_snoc I.rb h⟩
theorem InvN.small {k : Nat} {A : List Program} {B : List Link} (I : InvN k A B) (h : k ≤ 1048576) : SmallN (A, B) := ⟨by have := I.la; show A.length ≤ _; omega, I.ra, by have := I.lb; show B.length ≤ _; omega, I.rb⟩
noncomputable def soFarN (nt : Network) (i : Nat) : List Program × (List Link × Unit) := (nt.1.take i, (nt.2.take (i - nt.1.length), ()))
theorem lineN_cases {nt : Network} (o : OkN nt) {i : Nat} (hi : i < nt.1.length + nt.2.length) :
    (∃ A p, soFarN nt i = (A, ([], ())) ∧ lnN nt i = lnP p ∧ soFarN nt (i + 1) = (A ++ [p], ([], ())) ∧ okP p = true ∧ A.length ≤ 12) ∨
    (∃ A B l, soFarN nt i = (A, (B, ())) ∧ lnN nt i = lnL l ∧ soFarN nt (i + 1) = (A, (B ++ [l], ())) ∧ LnkB l ∧ B.length ≤ 30) := by
  have hl1 := o.links
  have hl2 := o.progs
  by_cases hA : i < nt.1.length
  · have e0 : i - nt.1.length = 0 := by omega
    have e1 : i + 1 - nt.1.length = 0 := by omega
    refine .inl ⟨nt.1.take i, nt.1.getD i zProgram, ?_, ?_, ?_, okP_at o hA, by rw [List.length_take]; omega⟩
    · rw [soFarN, e0, List.take_zero]
    · rw [lnN, if_pos hA]
    · rw [soFarN, e1, List.take_zero, List.take_succ_eq_append_getElem hA, getD_lt hA]
  · have hq : i - nt.1.length < nt.2.length := by omega
    refine .inr ⟨nt.1.take i, nt.2.take (i - nt.1.length), nt.2.getD (i - nt.1.length) zLink, rfl, ?_, ?_, lnk_bd o hq, by rw [List.length_take]; omega⟩
    · rw [lnN, if_neg hA]
    · have e3 : i + 1 - nt.1.length = (i - nt.1.length) + 1 := by omega
      have e1 : nt.1.take (i + 1) = nt.1.take i := by rw [List.take_of_length_le (by omega), List.take_of_length_le (by omega)]
      rw [soFarN, e3, e1, List.take_succ_eq_append_getElem hq, getD_lt hq]
theorem soFarN_end {nt : Network} : soFarN nt (nt.1.length + nt.2.length) = (nt.1, (nt.2, ())) := by
  unfold soFarN
  rw [List.take_of_length_le (by omega), List.take_of_length_le (by omega)]

/-! ### the program -/
theorem index_app {c : UInt8} (r : List UInt8) : ∀ {w : List UInt8}, c ∉ w → Lib.index (w ++ c :: r) [c] = (w.length : Int)
  | [], _ => by rw [List.nil_append, Lib.index]; simp [List.isPrefixOf]
  | x :: xs, h => by
    have h1 : x ≠ c := fun e => h (by simp [e])
    have h2 : c ∉ xs := fun e => h (by simp [e])
    have ih := index_app r h2
    have hp : ([c] : List UInt8).isPrefixOf (x :: (xs ++ c :: r)) = false := by simp [List.isPrefixOf, Ne.symm h1]
    rw [List.cons_append, Lib.index, hp, ih]
    have n : (((xs.length : Nat) : Int) == -1) = false := by simp
    simp only [Bool.false_eq_true, if_false, n, List.length_cons]
    omega
theorem cutC_txt {n : Nat} {w r : List UInt8} {c : UInt8} (h : c ∉ w) (hl : (w ++ c :: r).length ≤ 1048576) : cutC.f n (w ++ c :: r) [c] = some (w, (r, (true, ()))) := by
  unfold cutC.f cutF
  rw [if_pos (by omega)]
  unfold Lib.cut
  rw [index_app r h, if_pos (by omega)]
  simp
  rfl
theorem cutC_any {n : Nat} {s : List UInt8} {c : List UInt8} (hl : s.length ≤ 1048576) : W (cutC.f n s c) (fun r => r.2.1.length ≤ s.length) := by
  unfold cutC.f cutF
  rw [if_pos (by omega)]
  refine W_some.2 ?_
  show (Lib.cut s c).2.1.length ≤ _
  unfold Lib.cut
  split
  · show (s.drop _).length ≤ _
    rw [List.length_drop]; omega
  · simp
theorem iParseLink_txt {n : Nat} {l : Link} (B : LnkB l) (hn : 1048577 < n) : iParseLink.f n (restL l) = some (l, (true, ())) := by
  have hl := restL_len B
  have hs := (restL_split B).1
  obtain ⟨a, b, c, d, t⟩ := B
  unfold iParseLink.f
  rw [splitC_spec (by omega), hs, bind_unit]
  dsimp only
  have h5 : (([Lib.itoa l.1, Lib.itoa l.2.1, Lib.itoa l.2.2.1, Lib.itoa l.2.2.2.1, txtS l.2.2.2.2] : List (List UInt8)).length : Int) = 5 := rfl
  rw [h5, decide_eq_true rfl]
  simp only [Bool.not_true, br_false]
  have g0 : ([Lib.itoa l.1, Lib.itoa l.2.1, Lib.itoa l.2.2.1, Lib.itoa l.2.2.2.1, txtS l.2.2.2.2] : List (List UInt8)).getD 0 [] = Lib.itoa l.1 := rfl
  have g1 : ([Lib.itoa l.1, Lib.itoa l.2.1, Lib.itoa l.2.2.1, Lib.itoa l.2.2.2.1, txtS l.2.2.2.2] : List (List UInt8)).getD 1 [] = Lib.itoa l.2.1 := rfl
  have g2 : ([Lib.itoa l.1, Lib.itoa l.2.1, Lib.itoa l.2.2.1, Lib.itoa l.2.2.2.1, txtS l.2.2.2.2] : List (List UInt8)).getD 2 [] = Lib.itoa l.2.2.1 := rfl
  have g3 : ([Lib.itoa l.1, Lib.itoa l.2.1, Lib.itoa l.2.2.1, Lib.itoa l.2.2.2.1, txtS l.2.2.2.2] : List (List UInt8)).getD 3 [] = Lib.itoa l.2.2.2.1 := rfl
  have g4 : ([Lib.itoa l.1, Lib.itoa l.2.1, Lib.itoa l.2.2.1, Lib.itoa l.2.2.2.1, txtS l.2.2.2.2] : List (List UInt8)).getD 4 [] = txtS l.2.2.2.2 := rfl
  rw [g0, g1, g2, g3, g4, iNumber_spec (x := l.1) (by omega) (by omega), iNumber_spec (x := l.2.1) (by omega) (by omega), iNumber_spec (x := l.2.2.1) (by omega) (by omega), iNumber_spec (x := l.2.2.2.1) (by omega) (by omega), iParseStream_txt t hn]
  rw [chk_true (show (0 : Int) ≤ 0 ∧ (0 : Int) < 5 by omega)]
  simp only [bind_unit, br_true]
  rw [chk_true (show (0 : Int) ≤ 1 ∧ (1 : Int) < 5 by omega), chk_true (show (0 : Int) ≤ 2 ∧ (2 : Int) < 5 by omega), chk_true (show (0 : Int) ≤ 3 ∧ (3 : Int) < 5 by omega)]
  simp only [cut_inr, br_true]
  rw [chk_true (show (0 : Int) ≤ 4 ∧ (4 : Int) < 5 by omega)]
theorem iParseLink_any {n : Nat} {s : List UInt8} (hs : s.length ≤ 1048576) (hn : 1048577 < n) : W (iParseLink.f n s) (fun r => SmallL r.1) := by
  unfold iParseLink.f
  rw [splitC_spec (by omega), bind_unit]
  have hp := splitR_sum 32 s
  dsimp only
  generalize splitR 32 s = L at hp
  rw [W_br]
  refine ⟨fun _ => W_some.2 ⟨by simp⟩, fun c => ?_⟩
  have c : (L.length : Int) = 5 := by simpa using c
  have piece : ∀ j, j < 5 → (L.getD j []).length ≤ 1048575 := fun j hj => by
    have := hp (L.getD j []) (by rw [getD_lt (by omega)]; exact List.getElem_mem _)
    omega
  have num : ∀ j, j < 5 → W (iNumber.f n (L.getD j [])) (fun _ => True) := fun j hj => iNumber_any (by have := piece j hj; omega)
  refine W_cut.2 (W_and (P := fun z => ∃ y : Bool × (Int × (Int × (Int × (Int × Unit)))), z = .inr y) ?_ (fun z hz => ?_))
  · rw [chk_true (by omega), W_bind]
    refine W_and (num 0 (by omega)) (fun r10 _ => ?_)
    rw [chk_true (by omega), W_bind]
    refine W_and (num 1 (by omega)) (fun r11 _ => ?_)
    rw [W_br]
    refine ⟨fun _ => ?_, fun _ => ?_⟩
    · rw [chk_true (by omega), W_bind]
      refine W_and (num 2 (by omega)) (fun r12 _ => ?_)
      rw [W_br]
      refine ⟨fun _ => ?_, fun _ => ?_⟩
      · rw [chk_true (by omega), W_bind]
        refine W_and (num 3 (by omega)) (fun r13 _ => ?_)
        rw [W_br]
        exact ⟨fun _ => W_some.2 ⟨_, rfl⟩, fun _ => W_some.2 ⟨_, rfl⟩⟩
      · rw [chk_true (by omega), W_bind]
        exact W_and (num 3 (by omega)) (fun r13 _ => W_some.2 ⟨_, rfl⟩)
    · rw [chk_true (by omega), W_bind]
      refine W_and (num 2 (by omega)) (fun r12 _ => ?_)
      rw [chk_true (by omega), W_bind]
      exact W_and (num 3 (by omega)) (fun r13 _ => W_some.2 ⟨_, rfl⟩)
  · obtain ⟨y, rfl⟩ := hz
    simp only
    rw [chk_true (by omega), W_bind]
    refine W_and (iParseStream_any (piece 4 (by omega)) hn) (fun r h => ?_)
    have hb : r.1.length ≤ 1048576 := by have := (okS_bd h).1; omega
    rw [W_br]
    exact ⟨fun _ => W_some.2 ⟨hb⟩, fun _ => W_some.2 ⟨hb⟩⟩
theorem lnP_len {p : Program} (h : okP p = true) : (lnP p).length ≤ 2000 := by
  have := txtP_len h
  simp only [lnP, List.length_append, List.length_cons, List.length_nil]
  omega
theorem lnL_len {l : Link} (B : LnkB l) : (lnL l).length ≤ 6000 := by
  have := restL_len B
  simp only [lnL, List.length_append, List.length_cons, List.length_nil]
  omega
theorem iParseNetwork_txt {n : Nat} {nt : Network} (o : OkN nt) (hn : 1048577 < n) : iParseNetwork.f n (txtN nt) = some (nt, (true, ())) := by
  have hB := maxB_eq
  have hS := smallN_of o
  have hl1 := o.links
  have hl2 := o.progs
  have hL := txtN_len o
  have hli := iLines_lines (n := n) (linesN_no o) (by rw [← txtN_lines o]; omega)
  rw [← txtN_lines o] at hli
  have hlen := linesN_len nt
  have hz : soFarN nt 0 = ([], ([], ())) := by simp [soFarN]
  unfold iParseNetwork.f
  rw [hli, bind_unit]
  dsimp only
  refine Eq.trans (congrArg (iter n _) (show _ = (true, (((0 : Nat) : Int), soFarN nt 0)) from by rw [hz]; rfl)) ?_
  refine iter_line (n := n) (fun i => (true, ((i : Int), soFarN nt i))) (nt.1.length + nt.2.length) (fun ih i hi => ?_) (fun ih => ?_) (by omega)
  · have hi' : (i : Int) < ((linesN nt).length : Int) := by omega
    simp only [br_yes hi', Int.toNat_natCast]
    rw [chk_true (by omega), linesN_get nt hi, w64_succ (by omega)]
    rcases lineN_cases o hi with ⟨A, p, e1, e2, e3, hp, hA⟩ | ⟨A, B, l, e1, e2, e3, hB', hA⟩
    · rw [e1, e2, e3]
      have hll := lnP_len hp
      rw [lnP, cutC_txt (by decide) (by rw [lnP] at hll; omega), bind_unit]
      dsimp only
      rw [br_yes rfl]
      simp only [cut_inr, List.length_nil]
      rw [decide_eq_true (show ((0 : Nat) : Int) = 0 from rfl), br_true, iParseProgram_txt hp hn, bind_unit, chk_true (by simp only [List.length_cons, List.length_nil]; omega)]
      simp only [br_true]
    · rw [e1, e2, e3]
      have hll := lnL_len hB'
      rw [lnL, cutC_txt (by decide) (by rw [lnL] at hll; omega), bind_unit]
      dsimp only
      rw [br_no (by decide)]
      simp only [cut_inr, br_false]
      simp only [decide_true, br_true]
      rw [iParseLink_txt hB' hn, bind_unit, chk_true (by simp only [List.length_cons, List.length_nil]; omega)]
  · have hi' : ¬ (((nt.1.length + nt.2.length : Nat) : Int) < ((linesN nt).length : Int)) := by omega
    simp only [br_no hi', Bool.not_true, br_false]
    rw [soFarN_end]
    show cut ((iIsNetwork.f n nt).bind _) _ = _
    rw [iIsNetwork_spec hS (by omega), show okN nt = true from decide_eq_true o, bind_unit]
    simp only [Bool.not_true, br_false]
    show cut ((iFmtNetwork.f n nt).bind _) _ = _
    rw [iFmtNetwork_spec hS (by omega), bind_unit, fmtN, if_pos (show okN nt = true from decide_eq_true o), decide_eq_true rfl]
    rfl
theorem iParseNetwork_any {n : Nat} {t : List UInt8} (hl : t.length ≤ 1048576) (hn : 1048577 < n) : W (iParseNetwork.f n t) (fun r => r = (zeroN, (false, ())) ∨ (OkN r.1 ∧ txtN r.1 = t)) := by
  have hB := maxB_eq
  unfold iParseNetwork.f
  rw [W_bind]
  refine W_and (iLines_any hl) (fun r1 ⟨hL, hP⟩ => ?_)
  obtain ⟨L, ok0, ⟨⟩⟩ := r1
  dsimp only at hL hP ⊢
  refine W_up (fun (i : Nat) (o : Bool × (List Program × List Link)) => (o.1, ((i : Int), (o.2.1, (o.2.2, ()))))) L.length (fun i o => InvN i o.2.1 o.2.2) (s0 := (ok0, ([], []))) rfl InvN.nil (by omega) (fun ih o I => ?_) (fun ih i o hi I hS => ?_)
  · simp only [br_no (Int.lt_irrefl _)]
    have hS := I.small (by omega)
    refine W_cut.2 (W_and (P := fun z => ∃ y : Bool × Unit, z = .inr y ∧ (y.1 = false → OkN (o.2.1, o.2.2) ∧ txtN (o.2.1, o.2.2) = t)) ?_ (fun z hz => ?_))
    · rw [W_br]
      refine ⟨fun _ => W_some.2 ⟨_, rfl, fun h => by cases h⟩, fun _ => ?_⟩
      rw [iIsNetwork_spec hS (by omega), bind_unit, W_br]
      refine ⟨fun _ => W_some.2 ⟨_, rfl, fun h => by cases h⟩, fun hk => ?_⟩
      have hk : okN (o.2.1, o.2.2) = true := by simpa using hk
      rw [iFmtNetwork_spec hS (by omega), bind_unit]
      refine W_some.2 ⟨_, rfl, fun h => ⟨okN_of hk, ?_⟩⟩
      rw [fmtN, if_pos hk] at h
      simpa using h
    · obtain ⟨y, rfl, hy⟩ := hz
      simp only
      rw [W_br]
      exact ⟨fun _ => W_some.2 (.inl rfl), fun h => W_some.2 (.inr (hy h))⟩
  · simp only [br_yes (show (i : Int) < (L.length : Int) by omega), Int.toNat_natCast]
    have hla := I.la
    have hlb := I.lb
    have hline := hP (L.getD i []) (by rw [getD_lt hi]; exact List.getElem_mem _)
    rw [chk_true (by omega), W_bind, w64_succ (by omega)]
    refine W_and (cutC_any (by omega)) (fun r32 h32 => ?_)
    refine W_cut.2 (W_and (P := fun z => ∃ y : Bool × Unit, z = .inr y) ?_ (fun z hz => ?_))
    · rw [W_brd]
      exact ⟨fun _ => W_some.2 ⟨_, rfl⟩, fun _ => W_some.2 ⟨_, rfl⟩⟩
    · obtain ⟨y, rfl⟩ := hz
      simp only
      rw [W_br]
      refine ⟨fun _ => ?_, fun _ => ?_⟩
      · obtain ⟨q, e1, e2, hq⟩ := parseP_same (n := n) (s := r32.2.1) (by omega) hn
        rw [e2, bind_unit, chk_true (by simp only [List.length_cons, List.length_nil]; omega), W_br]
        exact ⟨fun _ => hS (q.2.1, (o.2.1 ++ [q.1], o.2.2)) (I.prog (toldP_small hq)), fun _ => hS (false, (o.2.1 ++ [q.1], o.2.2)) (I.prog (toldP_small hq))⟩
      · rw [W_brd]
        refine ⟨fun _ => ?_, fun _ => hS (false, (o.2.1, o.2.2)) (I.mono (by omega))⟩
        rw [W_bind]
        refine W_and (iParseLink_any (by omega) hn) (fun r35 h35 => ?_)
        rw [chk_true (by simp only [List.length_cons, List.length_nil]; omega), W_br]
        exact ⟨fun _ => hS (r35.2.1, (o.2.1, o.2.2 ++ [r35.1])) (I.link h35), fun _ => hS (false, (o.2.1, o.2.2 ++ [r35.1])) (I.link h35)⟩

/-! ### the reference -/
theorem lnL_split {l : Link} (B : LnkB l) : splitR 32 (lnL l) = [[108, 105, 110, 107], Lib.itoa l.1, Lib.itoa l.2.1, Lib.itoa l.2.2.1, Lib.itoa l.2.2.2.1, txtS l.2.2.2.2] := by
  rw [lnL, splitR_app _ (by decide), (restL_split B).1]
theorem l9Link_txt {n : Nat} {l : Link} (B : LnkB l) (hn : 1048577 < n) : l9Link.f n [[108, 105, 110, 107], Lib.itoa l.1, Lib.itoa l.2.1, Lib.itoa l.2.2.1, Lib.itoa l.2.2.2.1, txtS l.2.2.2.2] = some (l, (true, ())) := by
  obtain ⟨a, b, c, d, t⟩ := B
  unfold l9Link.f
  have h6 : (([[108, 105, 110, 107], Lib.itoa l.1, Lib.itoa l.2.1, Lib.itoa l.2.2.1, Lib.itoa l.2.2.2.1, txtS l.2.2.2.2] : List (List UInt8)).length : Int) = 6 := rfl
  rw [h6, decide_eq_true rfl]
  simp only [Bool.not_true, br_false]
  have g1 : ([[108, 105, 110, 107], Lib.itoa l.1, Lib.itoa l.2.1, Lib.itoa l.2.2.1, Lib.itoa l.2.2.2.1, txtS l.2.2.2.2] : List (List UInt8)).getD 1 [] = Lib.itoa l.1 := rfl
  have g2 : ([[108, 105, 110, 107], Lib.itoa l.1, Lib.itoa l.2.1, Lib.itoa l.2.2.1, Lib.itoa l.2.2.2.1, txtS l.2.2.2.2] : List (List UInt8)).getD 2 [] = Lib.itoa l.2.1 := rfl
  have g3 : ([[108, 105, 110, 107], Lib.itoa l.1, Lib.itoa l.2.1, Lib.itoa l.2.2.1, Lib.itoa l.2.2.2.1, txtS l.2.2.2.2] : List (List UInt8)).getD 3 [] = Lib.itoa l.2.2.1 := rfl
  have g4 : ([[108, 105, 110, 107], Lib.itoa l.1, Lib.itoa l.2.1, Lib.itoa l.2.2.1, Lib.itoa l.2.2.2.1, txtS l.2.2.2.2] : List (List UInt8)).getD 4 [] = Lib.itoa l.2.2.2.1 := rfl
  have g5 : ([[108, 105, 110, 107], Lib.itoa l.1, Lib.itoa l.2.1, Lib.itoa l.2.2.1, Lib.itoa l.2.2.2.1, txtS l.2.2.2.2] : List (List UInt8)).getD 5 [] = txtS l.2.2.2.2 := rfl
  rw [chk_true (by omega), g1, read_spec (by omega) (by omega) (by omega), bind_unit, chk_true (by omega), g2, read_spec (by omega) (by omega) (by omega), bind_unit, chk_true (by omega), g3, read_spec (by omega) (by omega) (by omega), bind_unit, chk_true (by omega), g4, read_spec (by omega) (by omega) (by omega), bind_unit, chk_true (by omega), g5, sParseStream_txt t hn, bind_unit]
theorem l9Link_any {n : Nat} {L : List (List UInt8)} (hp : ∀ p ∈ L, p.length + L.length ≤ 1048577) (hn : 1048577 < n) : W (l9Link.f n L) (fun r => SmallL r.1) := by
  unfold l9Link.f
  rw [W_br]
  refine ⟨fun _ => W_some.2 ⟨by simp⟩, fun c => ?_⟩
  have c : (L.length : Int) = 6 := by simpa using c
  have piece : ∀ j, j < 6 → (L.getD j []).length ≤ 1048575 := fun j hj => by
    have := hp (L.getD j []) (by rw [getD_lt (by omega)]; exact List.getElem_mem _)
    omega
  have num : ∀ j, j < 6 → W (l1Read.f n (L.getD j [])) (fun _ => True) := fun j hj => read_any (by have := piece j hj; omega) (by omega)
  rw [chk_true (by omega), W_bind]
  refine W_and (num 1 (by omega)) (fun r1 _ => ?_)
  rw [chk_true (by omega), W_bind]
  refine W_and (num 2 (by omega)) (fun r2 _ => ?_)
  rw [chk_true (by omega), W_bind]
  refine W_and (num 3 (by omega)) (fun r3 _ => ?_)
  rw [chk_true (by omega), W_bind]
  refine W_and (num 4 (by omega)) (fun r4 _ => ?_)
  rw [chk_true (by omega), W_bind]
  refine W_and (sParseStream_any (piece 5 (by omega)) hn) (fun r h => W_some.2 ⟨?_⟩)
  show r.1.length ≤ _
  have := (okS_bd h).1
  omega
theorem sParseNetwork_txt {n : Nat} {nt : Network} (o : OkN nt) (hn : 1048577 < n) : sParseNetwork.f n (txtN nt) = some (nt, (true, ())) := by
  have hB := maxB_eq
  have hS := smallN_of o
  have hl1 := o.links
  have hl2 := o.progs
  have hL := txtN_len o
  unfold sParseNetwork.f
  have e10 : UInt8.ofNat (10 : Int).toNat = 10 := rfl
  rw [l1Split_spec (by omega) (by omega) (by omega) hn, bind_unit, e10, txtN_lines o, splitR_lines _ (linesN_no o)]
  dsimp only
  have hlen : (linesN nt ++ [[]]).length = (nt.1.length + nt.2.length) + 1 := by simp [linesN_len]
  have hw : w64 (((linesN nt ++ [[]]).length : Int) - 1) = ((nt.1.length + nt.2.length : Nat) : Int) := by rw [hlen, w64_id] <;> omega
  rw [br_no (by rw [hlen]; omega), hw, chk_true (by rw [hlen]; omega)]
  simp only [Int.toNat_natCast, Int.sub_zero]
  have hz : soFarN nt 0 = ([], ([], ())) := by simp [soFarN]
  refine Eq.trans (congrArg (iter n _) (show _ = (((0 : Nat) : Int), soFarN nt 0) from by rw [hz]; rfl)) ?_
  refine iter_line (n := n) (fun i => ((i : Int), soFarN nt i)) (nt.1.length + nt.2.length) (fun ih i hi => ?_) (fun ih => ?_) (by omega)
  · have hi' : (i : Int) < ((nt.1.length + nt.2.length : Nat) : Int) := by omega
    simp only [br_yes hi', Int.toNat_natCast, Nat.zero_add]
    have hg : (linesN nt ++ [[]]).getD i [] = lnN nt i := by
      rw [← linesN_get nt hi, List.getD_eq_getElem?_getD, List.getElem?_append_left (by rw [linesN_len]; exact hi), ← List.getD_eq_getElem?_getD]
    have e32 : UInt8.ofNat (32 : Int).toNat = 32 := rfl
    rw [chk_true (by omega), hg, w64_succ (by omega)]
    rcases lineN_cases o hi with ⟨A, p, e1, e2, e3, hp, hA⟩ | ⟨A, B, l, e1, e2, e3, hB', hA⟩
    · rw [e1, e2, e3]
      have hll := lnP_len hp
      have h8 : 8 ≤ (lnP p).length := by simp only [lnP, List.length_append, List.length_cons, List.length_nil]; omega
      rw [l1Split_spec (by omega) (by omega) (by omega) hn, bind_unit, e32]
      have hsp : splitR 32 (lnP p) = [112, 114, 111, 99, 101, 115, 115] :: splitR 32 (txtP p) := by rw [lnP, splitR_app _ (by decide)]
      rw [hsp]
      dsimp only
      have g0 : ([112, 114, 111, 99, 101, 115, 115] :: splitR 32 (txtP p)).getD 0 [] = [112, 114, 111, 99, 101, 115, 115] := rfl
      have ed : ((lnP p).take (lnP p).length).drop 8 = txtP p := by rw [List.take_length]; rfl
      rw [chk_true (by simp only [List.length_cons]; omega), g0, br_no (by decide), br_no (by omega), chk_true (by omega), ed, sParseProgram_txt hp hn, bind_unit, chk_true (by simp only [List.length_cons, List.length_nil]; omega)]
    · rw [e1, e2, e3]
      have hll := lnL_len hB'
      rw [l1Split_spec (by omega) (by omega) (by omega) hn, bind_unit, e32, lnL_split hB']
      dsimp only
      have g0 : ([[108, 105, 110, 107], Lib.itoa l.1, Lib.itoa l.2.1, Lib.itoa l.2.2.1, Lib.itoa l.2.2.2.1, txtS l.2.2.2.2] : List (List UInt8)).getD 0 [] = [108, 105, 110, 107] := rfl
      rw [chk_true (by simp only [List.length_cons, List.length_nil]; omega), g0, br_yes rfl, l9Link_txt hB' hn, bind_unit]
      simp only [Bool.not_true, br_false]
      rw [chk_true (by simp only [List.length_cons, List.length_nil]; omega)]
  · simp only [br_no (Int.lt_irrefl _)]
    rw [soFarN_end]
    show cut ((sIsNetwork.f n nt).bind _) _ = _
    rw [sIsNetwork_spec hS (by omega), show okN nt = true from decide_eq_true o, bind_unit]
    simp only [Bool.not_true, br_false]
    show cut ((fmtNetwork.f n nt).bind _) _ = _
    rw [fmtNetwork_spec hS (by omega), bind_unit, fmtN, if_pos (show okN nt = true from decide_eq_true o), txtN_lines o, decide_eq_true rfl]
    rfl
theorem sParseNetwork_any {n : Nat} {t : List UInt8} (hl : t.length ≤ 1048576) (hn : 1048577 < n) : W (sParseNetwork.f n t) (fun r => r = (zeroN, (false, ())) ∨ (OkN r.1 ∧ txtN r.1 = t)) := by
  have hB := maxB_eq
  unfold sParseNetwork.f
  rw [l1Split_spec (by omega) (by omega) hl hn, bind_unit]
  have hne := splitR_ne (UInt8.ofNat (10 : Int).toNat) t
  have hp := splitR_sum (UInt8.ofNat (10 : Int).toNat) t
  dsimp only
  generalize splitR (UInt8.ofNat (10 : Int).toNat) t = L at hne hp
  have hpos := List.length_pos_iff.2 hne
  rw [W_brd]
  refine ⟨fun _ => W_some.2 (.inl rfl), fun h43 => ?_⟩
  have hw : w64 ((L.length : Int) - 1) = ((L.length - 1 : Nat) : Int) := by rw [w64_id] <;> omega
  rw [hw, chk_true (by omega)]
  simp only [Int.toNat_natCast, Int.sub_zero]
  refine W_up (fun (i : Nat) (o : List Program × List Link) => ((i : Int), (o.1, (o.2, ())))) (L.length - 1) (fun i o => InvN i o.1 o.2) (s0 := ([], [])) rfl InvN.nil (by omega) (fun ih o I => ?_) (fun ih i o hi I hS => ?_)
  · simp only [br_no (Int.lt_irrefl _)]
    have hS := I.small (by omega)
    refine W_cut.2 (W_and (P := fun z => ∃ y : Bool × Unit, z = .inr y ∧ (y.1 = false → OkN (o.1, o.2) ∧ txtN (o.1, o.2) = t)) ?_ (fun z hz => ?_))
    · rw [sIsNetwork_spec hS (by omega), bind_unit, W_br]
      refine ⟨fun _ => W_some.2 ⟨_, rfl, fun h => by cases h⟩, fun hk => ?_⟩
      have hk : okN (o.1, o.2) = true := by simpa using hk
      rw [fmtNetwork_spec hS (by omega), bind_unit]
      refine W_some.2 ⟨_, rfl, fun h => ⟨okN_of hk, ?_⟩⟩
      rw [fmtN, if_pos hk] at h
      simpa using h
    · obtain ⟨y, rfl, hy⟩ := hz
      simp only
      rw [W_br]
      exact ⟨fun _ => W_some.2 (.inl rfl), fun h => W_some.2 (.inr (hy h))⟩
  · simp only [br_yes (show (i : Int) < ((L.length - 1 : Nat) : Int) by omega), Int.toNat_natCast, Nat.zero_add]
    have hla := I.la
    have hlb := I.lb
    have hq := hp (L.getD i []) (by rw [getD_lt (by omega)]; exact List.getElem_mem _)
    rw [chk_true (by omega), l1Split_spec (by omega) (by omega) (by omega) hn, bind_unit, w64_succ (by omega)]
    have hne2 := splitR_ne (UInt8.ofNat (32 : Int).toNat) (L.getD i [])
    have hp2 := splitR_sum (UInt8.ofNat (32 : Int).toNat) (L.getD i [])
    dsimp only
    generalize splitR (UInt8.ofNat (32 : Int).toNat) (L.getD i []) = M at hne2 hp2
    have hpos2 := List.length_pos_iff.2 hne2
    rw [chk_true (by omega), W_brd]
    refine ⟨fun _ => ?_, fun _ => ?_⟩
    · rw [W_bind]
      refine W_and (l9Link_any (fun p hp => by have := hp2 p hp; omega) hn) (fun r h => ?_)
      rw [W_br]
      refine ⟨fun _ => W_some.2 (.inl rfl), fun _ => ?_⟩
      rw [chk_true (by simp only [List.length_cons, List.length_nil]; omega)]
      exact hS (o.1, o.2 ++ [r.1]) (I.link h)
    · rw [W_brd]
      refine ⟨fun _ => W_some.2 (.inl rfl), fun h8 => ?_⟩
      rw [chk_true (by omega)]
      have hd : (((L.getD i []).take (L.getD i []).length).drop 8).length ≤ 1048576 := by
        rw [List.length_drop, List.length_take]; omega
      obtain ⟨q, e1, e2, hq⟩ := parseP_same (n := n) hd hn
      rw [e1, bind_unit, chk_true (by simp only [List.length_cons, List.length_nil]; omega)]
      exact hS (o.1 ++ [q.1], o.2) (I.prog (toldP_small hq))
/-- both programs read the same -/
theorem parseN_same {n : Nat} {s : List UInt8} (hs : s.length ≤ 1048576) (hn : 1048577 < n) : ∃ r, sParseNetwork.f n s = some r ∧ iParseNetwork.f n s = some r ∧ ToldN s r := by
  obtain ⟨r, e, h⟩ := toldN_of (sParseNetwork_any hs hn) (fun x o et => by subst et; exact sParseNetwork_txt o hn)
  obtain ⟨r', e', h'⟩ := toldN_of (iParseNetwork_any hs hn) (fun x o et => by subst et; exact iParseNetwork_txt o hn)
  have := h.one h'
  subst this
  exact ⟨r, e, e', h⟩
end Go.AmT
