/- Networks that are read from texts, in plain Lean: both programs read the same. -/
import Derived.Test.YtgddbcdkhfdojaaGreatDoorMSaved9
import Derived.Test.YtgddbcdkhfdojaaGreatDoorMSaved8
import Derived.Test.YtgddbcdkhfdojaaGreatDoorMSaved2
import Derived.Test.YtgddbcdkhfdojaaGreatDoorMSaved3
namespace Go.AmT
open Go Go.Am
set_option linter.unusedVariables false
set_option linter.unusedSimpArgs false

/-! ### the lines of a network -/
noncomputable def lnP (p : Program) : List UInt8 := [112, 114, 111, 99, 101, 115, 115] ++ 32 :: txtP p
noncomputable def restL (l : Link) : List UInt8 := Lib.itoa l.1 ++ 32 :: (Lib.itoa l.2.1 ++ 32 :: (Lib.itoa l.2.2.1 ++ 32 :: (Lib.itoa l.2.2.2.1 ++ 32 :: txtS l.2.2.2.2)))
noncomputable def lnL (l : Link) : List UInt8 := [108, 105, 110, 107] ++ 32 :: restL l
noncomputable def lnN (nt : Network) (i : Nat) : List UInt8 := if i < nt.1.length then lnP (nt.1.getD i zProgram) else lnL (nt.2.getD (i - nt.1.length) zLink)
noncomputable def linesN (nt : Network) : List (List UInt8) := (List.range (nt.1.length + nt.2.length)).map (lnN nt)
theorem linesN_len (nt : Network) : (linesN nt).length = nt.1.length + nt.2.length := by simp [linesN]
theorem linesN_get (nt : Network) {i : Nat} (h : i < nt.1.length + nt.2.length) : (linesN nt).getD i [] = lnN nt i := by
  rw [getD_lt (by rw [linesN_len]; exact h)]
  simp [linesN]
theorem linesN_eq (nt : Network) : linesN nt = ((List.range nt.1.length).map fun i => lnP (nt.1.getD i zProgram)) ++ ((List.range nt.2.length).map fun i => lnL (nt.2.getD i zLink)) := by
  refine List.ext_getElem (by simp [linesN]) (fun i h1 h2 => ?_)
  rw [linesN_len] at h1
  simp only [linesN, List.getElem_map, List.getElem_range]
  by_cases hi : i < nt.1.length
  · rw [List.getElem_append_left (by simpa using hi)]
    simp only [List.getElem_map, List.getElem_range, lnN]
    rw [if_pos hi]
  · rw [List.getElem_append_right (by simpa using hi)]
    simp only [List.getElem_map, List.getElem_range, lnN, List.length_map, List.length_range]
    rw [if_neg hi]
theorem okP_at {nt : Network} (o : OkN nt) {i : Nat} (hi : i < nt.1.length) : okP (nt.1.getD i zProgram) = true := by rw [getD_lt hi]; exact o.prog i hi
theorem fmtS_txt {s : List Int} (h : okS s = true) : fmtS s = txtS s := if_pos h
theorem txtN_lines {nt : Network} (o : OkN nt) : txtN nt = ((linesN nt).map (· ++ [10])).flatten := by
  rw [linesN_eq]
  unfold txtN
  have e1 : ((List.range nt.1.length).map fun i => lineP (nt.1.getD i zProgram)) = (((List.range nt.1.length).map fun i => lnP (nt.1.getD i zProgram))).map (· ++ [10]) := by
    rw [List.map_map]
    refine List.map_congr_left (fun i hi => ?_)
    have hi := List.mem_range.1 hi
    simp only [lineP, lnP, Function.comp, fmtP, if_pos (okP_at o hi)]
    simp
  have e2 : ((List.range nt.2.length).map fun i => lineL (nt.2.getD i zLink)) = (((List.range nt.2.length).map fun i => lnL (nt.2.getD i zLink))).map (· ++ [10]) := by
    rw [List.map_map]
    refine List.map_congr_left (fun i hi => ?_)
    have hi := List.mem_range.1 hi
    simp only [lineL, lnL, restL, Function.comp, fmtS_txt (lnk_bd o hi).t]
    simp
  rw [e1, e2]
  simp
theorem txtP_no {p : Program} (h : okP p = true) {c : UInt8} (hc : c = 10) : c ∉ txtP p := by
  subst hc
  obtain ⟨h1, h2, h3, h4⟩ := okP_all h
  have n1 := notin_itoa (x := p.1) ⟨by omega, by omega⟩ (c := 10) (by decide) (by decide)
  have n2 := notin_itoa (x := p.2.1) ⟨by omega, by omega⟩ (c := 10) (by decide) (by decide)
  have hi := okP_instr h
  rw [txtP, semi_eq hi]
  simp only [List.mem_append, List.mem_singleton, List.mem_flatten, List.mem_map, not_or, not_exists, not_and]
  refine ⟨⟨⟨n1, by decide⟩, n2⟩, ?_⟩
  rintro l ⟨x, hx, rfl⟩ hm
  rcases List.mem_cons.1 hm with e | hm
  · exact absurd e (by decide)
  · exact (txtI_no (okI_all (hi x hx) (by omega) (by omega) (by omega))).2 hm
theorem restL_split {l : Link} (B : LnkB l) : splitR 32 (restL l) = [Lib.itoa l.1, Lib.itoa l.2.1, Lib.itoa l.2.2.1, Lib.itoa l.2.2.2.1, txtS l.2.2.2.2] ∧ (10 : UInt8) ∉ restL l := by
  obtain ⟨a, b, c, d, t⟩ := B
  have ht := (okS_bd t).2
  have n : ∀ {v : Int}, -1 ≤ v → v ≤ 12 → ∀ c : UInt8, c = 32 ∨ c = 10 → c ∉ Lib.itoa v := fun h0 h1 c hc => notin_itoa ⟨by omega, by omega⟩ (by rcases hc with rfl | rfl <;> decide) (by rcases hc with rfl | rfl <;> decide)
  have m : ∀ c : UInt8, c = 32 ∨ c = 10 → c ∉ txtS l.2.2.2.2 := fun c hc => by
    rcases hc with rfl | rfl
    · exact txtS_mem ht (by decide) (by decide) (by decide) (by decide)
    · exact txtS_mem ht (by decide) (by decide) (by decide) (by decide)
  refine ⟨?_, ?_⟩
  · unfold restL
    rw [splitR_app _ (n a.1 a.2 32 (.inl rfl)), splitR_app _ (n (by omega) (by omega) 32 (.inl rfl)), splitR_app _ (n c.1 c.2 32 (.inl rfl)), splitR_app _ (n (by omega) (by omega) 32 (.inl rfl)), splitR_no (m 32 (.inl rfl))]
  · have n1 := n a.1 a.2 10 (.inr rfl)
    have n2 := n (v := l.2.1) (by omega) (by omega) 10 (.inr rfl)
    have n3 := n c.1 c.2 10 (.inr rfl)
    have n4 := n (v := l.2.2.2.1) (by omega) (by omega) 10 (.inr rfl)
    have n5 := m 10 (.inr rfl)
    simp only [restL, List.mem_append, List.mem_cons, not_or]
    exact ⟨n1, by decide, n2, by decide, n3, by decide, n4, by decide, n5⟩
theorem linesN_no {nt : Network} (o : OkN nt) : ∀ l ∈ linesN nt, (10 : UInt8) ∉ l := by
  rw [linesN_eq]
  intro l hl
  simp only [List.mem_append, List.mem_map, List.mem_range] at hl
  rcases hl with ⟨i, hi, rfl⟩ | ⟨i, hi, rfl⟩
  · have := txtP_no (okP_at o hi) rfl
    simp only [lnP, List.mem_append, List.mem_cons, List.not_mem_nil, or_false, not_or]
    exact ⟨by decide, by decide, this⟩
  · have := (restL_split (lnk_bd o hi)).2
    simp only [lnL, List.mem_append, List.mem_cons, List.not_mem_nil, or_false, not_or]
    exact ⟨by decide, by decide, this⟩
theorem restL_len {l : Link} (B : LnkB l) : (restL l).length ≤ 5000 := by
  obtain ⟨a, b, c, d, t⟩ := B
  have l1 := itoa_len (x := l.1) (by omega) (by omega)
  have l2 := itoa_len (x := l.2.1) (by omega) (by omega)
  have l3 := itoa_len (x := l.2.2.1) (by omega) (by omega)
  have l4 := itoa_len (x := l.2.2.2.1) (by omega) (by omega)
  have l5 := txtS_len t
  simp only [restL, List.length_append, List.length_cons]
  omega

/-! ### told by a text -/
abbrev zeroN : Network := ([], [])
structure ToldN (s : List UInt8) (r : Network × (Bool × Unit)) : Prop where
  all : ∀ nt, OkN nt → txtN nt = s → r = (nt, (true, ()))
  non : (∃ nt, OkN nt ∧ txtN nt = s) ∨ r = (zeroN, (false, ()))
theorem ToldN.one {s : List UInt8} {r r' : Network × (Bool × Unit)} (h : ToldN s r) (h' : ToldN s r') : r = r' := by
  rcases h.non with ⟨x, o, e⟩ | e
  · rw [h.all x o e, h'.all x o e]
  · rcases h'.non with ⟨x, o, e'⟩ | e'
    · rw [h.all x o e', h'.all x o e']
    · rw [e, e']
theorem smallN_of {nt : Network} (o : OkN nt) : SmallN nt := by
  have h1 := o.progs
  have h2 := o.links
  refine ⟨by omega, fun p hp => ?_, by omega, fun l hl => ?_⟩
  · obtain ⟨i, hi, rfl⟩ := List.getElem_of_mem hp
    exact ⟨by have := (okP_all (o.prog i hi)).2.2.1; omega⟩
  · obtain ⟨i, hi, rfl⟩ := List.getElem_of_mem hl
    exact ⟨by have := (okS_bd (o.toks i hi)).1; omega⟩
structure InvN (k : Nat) (A : List Program) (B : List Link) : Prop where
  la : A.length ≤ k
  lb : B.length ≤ k
  ra : ∀ p ∈ A, SmallP p
  rb : ∀ l ∈ B, SmallL l
theorem InvN.nil : InvN 0 [] [] := ⟨by simp, by simp, fun _ h => (by simp at h), fun _ h => (by simp at h)⟩
theorem InvN.mono {k k' : Nat} {A : List Program} {B : List Link} (I : InvN k A B) (h : k ≤ k') : InvN k' A B := ⟨by have := I.la; omega, by have := I.lb; omega, I.ra, I.rb⟩
theorem InvN.prog {k : Nat} {A : List Program} {B : List Link} (I : InvN k A B) {p : Program} (h : SmallP p) : InvN (k + 1) (A ++ [p]) B := ⟨by have := I.la; simp; omega, by have := I.lb; omega, mem_snoc I.ra h, I.rb⟩
theorem InvN.link {k : Nat} {A : List Program} {B : List Link} (I : InvN k A B) {l : Link} (h : SmallL l) : InvN (k + 1) A (B ++ [l]) := ⟨by have := I.la; omega, by have := I.lb; simp; omega, I.ra, mem_snoc I.rb h⟩
theorem InvN.small {k : Nat} {A : List Program} {B : List Link} (I : InvN k A B) (h : k ≤ 1048576) : SmallN (A, B) := ⟨by have := I.la; show A.length ≤ _; omega, I.ra, by have := I.lb; show B.length ≤ _; omega, I.rb⟩
noncomputable def soFarN (nt : Network) (i : Nat) : List Program × (List Link × Unit) := (nt.1.take i, (nt.2.take (i - nt.1.length), ()))
theorem lineN_cases {nt : Network} (o : OkN nt) {i : Nat} (hi : i < nt.1.length + nt.2.length) :
    (∃ A p, soFarN nt i = (A, ([], ())) ∧ lnN nt i = lnP p ∧ soFarN nt (i + 1) = (A ++ [p], ([], ())) ∧ okP p = true ∧ A.length ≤ 12) ∨
    (∃ A B l, soFarN nt i = (A, (B, ())) ∧ lnN nt i = lnL l ∧ soFarN nt (i + 1) = (A, (B ++ [l], ())) ∧ LnkB l ∧ B.length ≤ 30) := by
  have hl1 := o.links
  have hl2 := o.progs
  by_cases hA : i < nt.1.length
  · have e0 : i - nt.1.length = 0 := by omega
    have e1 : i + 1 - nt.1.length = 0 := by omega
    refine .inl ⟨nt.1.take i, nt.1.getD i zProgram, ?_, ?_, ?_, okP_at o hA, by rw [List.length_take]; omega⟩
    · rw [soFarN, e0, List.take_zero]
    · rw [lnN, if_pos hA]
    · rw [soFarN, e1, List.take_zero, List.take_succ_eq_append_getElem hA, getD_lt hA]
  · have hq : i - nt.1.length < nt.2.length := by omega
    refine .inr ⟨nt.1.take i, nt.2.take (i - nt.1.length), nt.2.getD (i - nt.1.length) zLink, rfl, ?_, ?_, lnk_bd o hq, by rw [List.length_take]; omega⟩
    · rw [lnN, if_neg hA]
    · have e3 : i + 1 - nt.1.length = (i - nt.1.length) + 1 := by omega
      have e1 : nt.1.take (i + 1) = nt.1.take i := by rw [List.take_of_length_le (by omega), List.take_of_length_le (by omega)]
      rw [soFarN, e3, e1, List.take_succ_eq_append_getElem hq, getD_lt hq]
theorem soFarN_end {nt : Network} : soFarN nt (nt.1.length + nt.2.length) = (nt.1, (nt.2, ())) := by
  unfold soFarN
  rw [List.take_of_length_le (by omega), List.take_of_length_le (by omega)]

/-! ### the program -/
theorem index_app {c : UInt8} (r : List UInt8) : ∀ {w : List UInt8}, c ∉ w → Lib.index (w ++ c :: r) [c] = (w.length : Int)
  | [], _ => by rw [List.nil_append, Lib.index]; simp [List.isPrefixOf]
  | x :: xs, h => by
    have h1 : x ≠ c := fun e => h (by simp [e])
    have h2 : c ∉ xs := fun e => h (by simp [e])
    have ih := index_app r h2
    have hp : ([c] : List UInt8).isPrefixOf (x :: (xs ++ c :: r)) = false := by simp [List.isPrefixOf, Ne.symm h1]
    rw [List.cons_append, Lib.index, hp, ih]
    have n : (((xs.length : Nat) : Int) == -1) = false := by simp
    simp only [Bool.false_eq_true, if_false, n, List.length_cons]
    omega
theorem cutC_txt {n : Nat} {w r : List UInt8} {c : UInt8} (h : c ∉ w) (hl : (w ++ c :: r).length ≤ 1048576) : cutC.f n (w ++ c :: r) [c] = some (w, (r, (true, ()))) := by
  unfold cutC.f cutF
  rw [if_pos (by omega)]
  unfold Lib.cut
  rw [index_app r h, if_pos (by omega)]
  simp
  rfl
theorem iParseLink_txt {n : Nat} {l : Link} (B : LnkB l) (hn : 1048577 < n) : iParseLink.f n (restL l) = some (l, (true, ())) := by
  have hl := restL_len B
  have hs := (restL_split B).1
  obtain ⟨a, b, c, d, t⟩ := B
  unfold iParseLink.f
  rw [splitC_spec (by omega), hs, bind_unit]
  dsimp only
  have h5 : (([Lib.itoa l.1, Lib.itoa l.2.1, Lib.itoa l.2.2.1, Lib.itoa l.2.2.2.1, txtS l.2.2.2.2] : List (List UInt8)).length : Int) = 5 := rfl
  rw [h5, decide_eq_true rfl]
  simp only [Bool.not_true, br_false]
  have g0 : ([Lib.itoa l.1, Lib.itoa l.2.1, Lib.itoa l.2.2.1, Lib.itoa l.2.2.2.1, txtS l.2.2.2.2] : List (List UInt8)).getD 0 [] = Lib.itoa l.1 := rfl
  have g1 : ([Lib.itoa l.1, Lib.itoa l.2.1, Lib.itoa l.2.2.1, Lib.itoa l.2.2.2.1, txtS l.2.2.2.2] : List (List UInt8)).getD 1 [] = Lib.itoa l.2.1 := rfl
  have g2 : ([Lib.itoa l.1, Lib.itoa l.2.1, Lib.itoa l.2.2.1, Lib.itoa l.2.2.2.1, txtS l.2.2.2.2] : List (List UInt8)).getD 2 [] = Lib.itoa l.2.2.1 := rfl
  have g3 : ([Lib.itoa l.1, Lib.itoa l.2.1, Lib.itoa l.2.2.1, Lib.itoa l.2.2.2.1, txtS l.2.2.2.2] : List (List UInt8)).getD 3 [] = Lib.itoa l.2.2.2.1 := rfl
  have g4 : ([Lib.itoa l.1, Lib.itoa l.2.1, Lib.itoa l.2.2.1, Lib.itoa l.2.2.2.1, txtS l.2.2.2.2] : List (List UInt8)).getD 4 [] = txtS l.2.2.2.2 := rfl
  rw [g0, g1, g2, g3, g4, iNumber_spec (x := l.1) (by omega) (by omega), iNumber_spec (x := l.2.1) (by omega) (by omega), iNumber_spec (x := l.2.2.1) (by omega) (by omega), iNumber_spec (x := l.2.2.2.1) (by omega) (by omega), iParseStream_txt t hn]
  rw [chk_true (show (0 : Int) ≤ 0 ∧ (0 : Int) < 5 by omega)]
  simp only [bind_unit, br_true]
  rw [chk_true (show (0 : Int) ≤ 1 ∧ (1 : Int) < 5 by omega), chk_true (show (0 : Int) ≤ 2 ∧ (2 : Int) < 5 by omega), chk_true (show (0 : Int) ≤ 3 ∧ (3 : Int) < 5 by omega)]
  simp only [cut_inr, br_true]
  rw [chk_true (show (0 : Int) ≤ 4 ∧ (4 : Int) < 5 by omega)]
theorem lnP_len {p : Program} (h : okP p = true) : (lnP p).length ≤ 2000 := by
  have := txtP_len h
  simp only [lnP, List.length_append, List.length_cons, List.length_nil]
  omega
theorem lnL_len {l : Link} (B : LnkB l) : (lnL l).length ≤ 6000 := by
  have := restL_len B
  simp only [lnL, List.length_append, List.length_cons, List.length_nil]
  omega
theorem iParseNetwork_txt {n : Nat} {nt : Network} (o : OkN nt) (hn : 1048577 < n) : iParseNetwork.f n (txtN nt) = some (nt, (true, ())) := by
  have hB := maxB_eq
  have hS := smallN_of o
  have hl1 := o.links
  have hl2 := o.progs
  have hL := txtN_len o
  have hli := iLines_lines (n := n) (linesN_no o) (by rw [← txtN_lines o]; omega)
  rw [← txtN_lines o] at hli
  have hlen := linesN_len nt
  have hz : soFarN nt 0 = ([], ([], ())) := by simp [soFarN]
  unfold iParseNetwork.f
  rw [hli, bind_unit]
  dsimp only
  refine Eq.trans (congrArg (iter n _) (show _ = (true, (((0 : Nat) : Int), soFarN nt 0)) from by rw [hz]; rfl)) ?_
  refine iter_line (n := n) (fun i => (true, ((i : Int), soFarN nt i))) (nt.1.length + nt.2.length) (fun ih i hi => ?_) (fun ih => ?_) (by omega)
  · have hi' : (i : Int) < ((linesN nt).length : Int) := by omega
    simp only [br_yes hi', Int.toNat_natCast]
    rw [chk_true (by omega), linesN_get nt hi, w64_succ (by omega)]
    rcases lineN_cases o hi with ⟨A, p, e1, e2, e3, hp, hA⟩ | ⟨A, B, l, e1, e2, e3, hB', hA⟩
    · rw [e1, e2, e3]
      have hll := lnP_len hp
      rw [lnP, cutC_txt (by decide) (by rw [lnP] at hll; omega), bind_unit]
      dsimp only
      rw [br_yes rfl]
      simp only [cut_inr, List.length_nil]
      rw [decide_eq_true (show ((0 : Nat) : Int) = 0 from rfl), br_true, iParseProgram_txt hp hn, bind_unit, chk_true (by simp only [List.length_cons, List.length_nil]; omega)]
      simp only [br_true]
    · rw [e1, e2, e3]
      have hll := lnL_len hB'
      rw [lnL, cutC_txt (by decide) (by rw [lnL] at hll; omega), bind_unit]
      dsimp only
      rw [br_no (by decide)]
      simp only [cut_inr, br_false]
      simp only [decide_true, br_true]
      rw [iParseLink_txt hB' hn, bind_unit, chk_true (by simp only [List.length_cons, List.length_nil]; omega)]
  · have hi' : ¬ (((nt.1.length + nt.2.length : Nat) : Int) < ((linesN nt).length : Int)) := by omega
    simp only [br_no hi', Bool.not_true, br_false]
    rw [soFarN_end]
    show cut ((iIsNetwork.f n nt).bind _) _ = _
    rw [iIsNetwork_spec hS (by omega), show okN nt = true from decide_eq_true o, bind_unit]
    simp only [Bool.not_true, br_false]
    show cut ((iFmtNetwork.f n nt).bind _) _ = _
    rw [iFmtNetwork_spec hS (by omega), bind_unit, fmtN, if_pos (show okN nt = true from decide_eq_true o), decide_eq_true rfl]
    rfl
/-! ### the reference -/
end Go.AmT

namespace Go.AmT
open Go Go.Am Go.Proofs
set_option linter.unusedVariables false
set_option maxRecDepth 100000
def tys21 : List (Nat × TInfo) := [(3, ⟨false, 1, 8, [.int .i64 0], .int .i64, 0, some I, [], false⟩),
  (9, ⟨false, 1, 16, [.str []], .str, 0, some .str, [], false⟩),
  (25, ⟨true, 2, 48, [.nil, .nil], .struct, 0, some tNetwork, [(0, 22), (1, 23)], false⟩),
  (36, ⟨false, 1, 24, [.nil], .slice, 103, some (.sl tActor), [], false⟩),
  (37, ⟨false, 1, 24, [.nil], .slice, 49, some (.sl IS), [], false⟩),
  (39, ⟨true, 4, 80, [.nil, .nil, .nil, .int .i64 0], .struct, 0, some tState, [(0, 36), (1, 37), (2, 37), (3, 3)], false⟩),
  (49, ⟨false, 1, 24, [.nil], .slice, 3, some IS, [], false⟩),
  (103, ⟨true, 2, 32, [.int .i64 0, .nil], .struct, 0, some tActor, [(0, 3), (1, 49)], false⟩)]
theorem tys21_ok : (tys21.all fun p => tokB Tryz.prog p.1 p.2) = true := by kernel_rfl

def fmtState.las : List (Nat × LA) := [(7, ⟨[(5, .str), (22, .int .i64)], [], [3, 20, 21], []⟩), (16, ⟨[(5, .str), (42, .int .i64)], [], [3, 40, 41], []⟩)]
noncomputable def fmtState.f (n : Nat) (a0 : Network) (a1 : State) : Option ((List UInt8) × Unit) := (sIsState.f n a0 a1).bind fun r1 => br (!r1.1) (some ([], ())) ((l1Number.f n a1.2.2.2).bind fun r2 => chk (([115, 116, 101, 112, 115, 32] : List UInt8).length + r2.1.length < maxS) (chk ((([115, 116, 101, 112, 115, 32] : List UInt8) ++ r2.1).length + ([10] : List UInt8).length < maxS) (iter (α := ((List UInt8) × (Int × Unit))) n (fun ih20 x19 => br (decide (x19.2.1 < (a1.1.length : Int))) (chk (0 ≤ x19.2.1 ∧ x19.2.1 < (a1.1.length : Int)) (let v21 := (a1.1.getD x19.2.1.toNat zActor); chk (x19.1.length + ([97, 99, 116, 111, 114, 32] : List UInt8).length < maxS) ((l1Number.f n v21.1).bind fun r22 => chk ((x19.1 ++ ([97, 99, 116, 111, 114, 32] : List UInt8)).length + r22.1.length < maxS) (chk (((x19.1 ++ ([97, 99, 116, 111, 114, 32] : List UInt8)) ++ r22.1).length + ([32] : List UInt8).length < maxS) ((fmtStream.f n v21.2).bind fun r23 => chk ((((x19.1 ++ ([97, 99, 116, 111, 114, 32] : List UInt8)) ++ r22.1) ++ ([32] : List UInt8)).length + r23.1.length < maxS) (chk (((((x19.1 ++ ([97, 99, 116, 111, 114, 32] : List UInt8)) ++ r22.1) ++ ([32] : List UInt8)) ++ r23.1).length + ([10] : List UInt8).length < maxS) (ih20 ((((((x19.1 ++ ([97, 99, 116, 111, 114, 32] : List UInt8)) ++ r22.1) ++ ([32] : List UInt8)) ++ r23.1) ++ ([10] : List UInt8)), ((w64 (x19.2.1 + 1)), ()))))))))) (iter (α := ((List UInt8) × (Int × Unit))) n (fun ih35 x34 => br (decide (x34.2.1 < (a1.2.1.length : Int))) (chk (0 ≤ x34.2.1 ∧ x34.2.1 < (a1.2.1.length : Int)) (let v36 := (a1.2.1.getD x34.2.1.toNat []); chk (x34.1.length + ([113, 117, 101, 117, 101, 32] : List UInt8).length < maxS) ((fmtStream.f n v36).bind fun r37 => chk ((x34.1 ++ ([113, 117, 101, 117, 101, 32] : List UInt8)).length + r37.1.length < maxS) (chk (((x34.1 ++ ([113, 117, 101, 117, 101, 32] : List UInt8)) ++ r37.1).length + ([32] : List UInt8).length < maxS) (chk (0 ≤ x34.2.1 ∧ x34.2.1 < (a1.2.2.1.length : Int)) (let v38 := (a1.2.2.1.getD x34.2.1.toNat []); (fmtStream.f n v38).bind fun r39 => chk ((((x34.1 ++ ([113, 117, 101, 117, 101, 32] : List UInt8)) ++ r37.1) ++ ([32] : List UInt8)).length + r39.1.length < maxS) (chk (((((x34.1 ++ ([113, 117, 101, 117, 101, 32] : List UInt8)) ++ r37.1) ++ ([32] : List UInt8)) ++ r39.1).length + ([10] : List UInt8).length < maxS) (ih35 ((((((x34.1 ++ ([113, 117, 101, 117, 101, 32] : List UInt8)) ++ r37.1) ++ ([32] : List UInt8)) ++ r39.1) ++ ([10] : List UInt8)), ((w64 (x34.2.1 + 1)), ())))))))))) (some (x34.1, ()))) (x19.1, (0, ())))) (((([115, 116, 101, 112, 115, 32] : List UInt8) ++ r2.1) ++ ([10] : List UInt8)), (0, ())))))
noncomputable def fmtState.mng (n : Nat) : Mng := ⟨[.val tNetwork, .val tState], [.val .str], fun x => fmtState.f n x.1 x.2.1⟩
noncomputable def fmtState.cfg (n : Nat) : Cfg := ⟨tys21, [(57, sIsState.mng n), (98, fmtStream.mng n)], [(96, l1Number.mng n)], []⟩
theorem fmtState.eq : ∀ (n : Nat) (a0 : Network) (a1 : State), runF (fmtState.cfg n) n Tryz.f58 (annOf Tryz.f58 fmtState.las) [.val tNetwork, .val tState] [.val .str] (a0, (a1, ())) = fmtState.f n a0 a1 := by
  intros
  kernel_rfl
theorem fmtState.gof : GoF Tryz.prog 58 := ⟨_, Tryz.func58, by kernel_rfl, by kernel_rfl⟩
theorem fmtState.sound (n : Nat) : Sound Tryz.prog 58 (fmtState.mng n) := runF_sound (fn := Tryz.f58) (m := fmtState.mng n) (c := fmtState.cfg n) (regOK mixed (opOK (.of (c := fmtState.cfg n) ⟨⟨sIsState.sound n, sIsState.gof⟩, ⟨⟨fmtStream.sound n, fmtStream.gof⟩, trivial⟩⟩) (.of (c := fmtState.cfg n) ⟨⟨l1Number.sound n, l1Number.gof⟩, trivial⟩)) (tysOK tys21_ok)) (tysOK tys21_ok) Tryz.func58 (fun x => (fmtState.eq n x.1 x.2.1).symm)

def iFmtState.las : List (Nat × LA) := [(7, ⟨[(5, .str), (21, .int .i64)], [], [3, 19, 20], []⟩), (16, ⟨[(5, .str), (41, .int .i64)], [], [3, 40], []⟩)]
noncomputable def iFmtState.f (n : Nat) (a0 : Network) (a1 : State) : Option ((List UInt8) × Unit) := (iIsState.f n a0 a1).bind fun r1 => br (!r1.1) (some ([], ())) ((itoaC.f n a1.2.2.2).bind fun r2 => chk (([115, 116, 101, 112, 115, 32] : List UInt8).length + r2.1.length < maxS) (chk ((([115, 116, 101, 112, 115, 32] : List UInt8) ++ r2.1).length + ([10] : List UInt8).length < maxS) (iter (α := ((List UInt8) × (Int × Unit))) n (fun ih20 x19 => br (decide (x19.2.1 < (a1.1.length : Int))) (chk (0 ≤ x19.2.1 ∧ x19.2.1 < (a1.1.length : Int)) (let v21 := (a1.1.getD x19.2.1.toNat zActor); (iListed.f n ([v21.1] : List Int)).bind fun r22 => chk (([97, 99, 116, 111, 114, 32] : List UInt8).length + r22.1.length < maxS) ((iFmtStream.f n v21.2).bind fun r23 => chk ((([97, 99, 116, 111, 114, 32] : List UInt8) ++ r22.1).length + r23.1.length < maxS) (chk (((([97, 99, 116, 111, 114, 32] : List UInt8) ++ r22.1) ++ r23.1).length + ([10] : List UInt8).length < maxS) (chk (x19.1.length + (((([97, 99, 116, 111, 114, 32] : List UInt8) ++ r22.1) ++ r23.1) ++ ([10] : List UInt8)).length < maxS) (ih20 ((x19.1 ++ (((([97, 99, 116, 111, 114, 32] : List UInt8) ++ r22.1) ++ r23.1) ++ ([10] : List UInt8))), ((w64 (x19.2.1 + 1)), ())))))))) (iter (α := ((List UInt8) × (Int × Unit))) n (fun ih34 x33 => br (decide (x33.2.1 < (a1.2.1.length : Int))) (chk (0 ≤ x33.2.1 ∧ x33.2.1 < (a1.2.1.length : Int)) (let v35 := (a1.2.1.getD x33.2.1.toNat []); (iFmtStream.f n v35).bind fun r36 => chk (([113, 117, 101, 117, 101, 32] : List UInt8).length + r36.1.length < maxS) (chk ((([113, 117, 101, 117, 101, 32] : List UInt8) ++ r36.1).length + ([32] : List UInt8).length < maxS) (chk (0 ≤ x33.2.1 ∧ x33.2.1 < (a1.2.2.1.length : Int)) (let v37 := (a1.2.2.1.getD x33.2.1.toNat []); (iFmtStream.f n v37).bind fun r38 => chk (((([113, 117, 101, 117, 101, 32] : List UInt8) ++ r36.1) ++ ([32] : List UInt8)).length + r38.1.length < maxS) (chk ((((([113, 117, 101, 117, 101, 32] : List UInt8) ++ r36.1) ++ ([32] : List UInt8)) ++ r38.1).length + ([10] : List UInt8).length < maxS) (chk (x33.1.length + ((((([113, 117, 101, 117, 101, 32] : List UInt8) ++ r36.1) ++ ([32] : List UInt8)) ++ r38.1) ++ ([10] : List UInt8)).length < maxS) (ih34 ((x33.1 ++ ((((([113, 117, 101, 117, 101, 32] : List UInt8) ++ r36.1) ++ ([32] : List UInt8)) ++ r38.1) ++ ([10] : List UInt8))), ((w64 (x33.2.1 + 1)), ())))))))))) (some (x33.1, ()))) (x19.1, (0, ())))) (((([115, 116, 101, 112, 115, 32] : List UInt8) ++ r2.1) ++ ([10] : List UInt8)), (0, ())))))
noncomputable def iFmtState.mng (n : Nat) : Mng := ⟨[.val tNetwork, .val tState], [.val .str], fun x => iFmtState.f n x.1 x.2.1⟩
noncomputable def iFmtState.cfg (n : Nat) : Cfg := ⟨tys21, [(63, iIsState.mng n), (81, itoaC.mng n), (80, iListed.mng n), (32, iFmtStream.mng n)], [], []⟩
theorem iFmtState.eq : ∀ (n : Nat) (a0 : Network) (a1 : State), runF (iFmtState.cfg n) n Tryz.f26 (annOf Tryz.f26 iFmtState.las) [.val tNetwork, .val tState] [.val .str] (a0, (a1, ())) = iFmtState.f n a0 a1 := by
  intros
  kernel_rfl
theorem iFmtState.gof : GoF Tryz.prog 26 := ⟨_, Tryz.func26, by kernel_rfl, by kernel_rfl⟩
theorem iFmtState.sound (n : Nat) : Sound Tryz.prog 26 (iFmtState.mng n) := runF_sound (fn := Tryz.f26) (m := iFmtState.mng n) (c := iFmtState.cfg n) (regOK mixed (opOK (.of (c := iFmtState.cfg n) ⟨⟨iIsState.sound n, iIsState.gof⟩, ⟨⟨itoaC.sound n, itoaC.gof⟩, ⟨⟨iListed.sound n, iListed.gof⟩, ⟨⟨iFmtStream.sound n, iFmtStream.gof⟩, trivial⟩⟩⟩⟩) (.of (c := iFmtState.cfg n) trivial)) (tysOK tys21_ok)) (tysOK tys21_ok) Tryz.func26 (fun x => (iFmtState.eq n x.1 x.2.1).symm)
end Go.AmT

namespace Go.AmT
open Go Go.Am
set_option linter.unusedVariables false
set_option linter.unusedSimpArgs false

theorem okA_bd {p : Program} {a : Actor} (h : okA p a = true) : 0 ≤ a.1 ∧ a.1 ≤ (p.2.2.length : Int) ∧ okS a.2 = true := by
  unfold okA at h
  simp only [Bool.and_eq_true, decide_eq_true_eq] at h
  exact ⟨h.1, h.2.1, h.2.2.2⟩
theorem okP_code {p : Program} (hp : okP p = true) : p.2.2.length ≤ 24 := by
  unfold okP at hp
  simp only [Bool.and_eq_true, decide_eq_true_eq] at hp
  omega
noncomputable def lineA (a : Actor) : List UInt8 := [97, 99, 116, 111, 114, 32] ++ Lib.itoa a.1 ++ [32] ++ fmtS a.2 ++ [10]
noncomputable def lineQ (q h : List Int) : List UInt8 := [113, 117, 101, 117, 101, 32] ++ fmtS q ++ [32] ++ fmtS h ++ [10]
noncomputable def txtSt (s : State) : List UInt8 := [115, 116, 101, 112, 115, 32] ++ Lib.itoa s.2.2.2 ++ [10] ++ ((List.range s.1.length).map fun i => lineA (s.1.getD i zActor)).flatten ++ ((List.range s.2.1.length).map fun i => lineQ (s.2.1.getD i []) (s.2.2.1.getD i [])).flatten
noncomputable def fmtSt (nt : Network) (s : State) : List UInt8 := if okSt nt s then txtSt s else []
theorem lineQ_len (q h : List Int) : (lineQ q h).length ≤ 9000 := by
  have h1 := fmtS_len q
  have h2 := fmtS_len h
  simp only [lineQ, List.length_append, List.length_cons, List.length_nil]
  omega
theorem act_bd {nt : Network} {s : State} (o : OkSt nt s) {i : Nat} (hi : i < s.1.length) : (0 ≤ (s.1.getD i zActor).1 ∧ (s.1.getD i zActor).1 ≤ 24) ∧ (s.1.getD i zActor).2.length ≤ 400 := by
  have hna := o.na
  obtain ⟨a1, a2, a3⟩ := okA_bd (o.act i (by omega))
  have := okP_code (by rw [getD_lt (show i < nt.1.length by omega)]; exact o.net.prog i (by omega) : okP (nt.1.getD i zProgram) = true)
  exact ⟨⟨a1, by omega⟩, (okS_bd a3).1⟩
theorem lineA_len {nt : Network} {s : State} (o : OkSt nt s) {i : Nat} (hi : i < s.1.length) : (lineA (s.1.getD i zActor)).length ≤ 5000 := by
  obtain ⟨⟨a1, a2⟩, a3⟩ := act_bd o hi
  have h1 := itoa_len (x := (s.1.getD i zActor).1) (by omega) (by omega)
  have h2 := fmtS_len (s.1.getD i zActor).2
  simp only [lineA, List.length_append, List.length_cons, List.length_nil]
  omega
theorem okSt_of' {nt : Network} {s : State} (h : okSt nt s = true) : OkSt nt s := of_decide_eq_true h
theorem fmtState_spec {n : Nat} {nt : Network} {s : State} (h : SmallN nt) (hs : SmallSt s) (hn : 1048576 < n) : fmtState.f n nt s = some (fmtSt nt s, ()) := by
  unfold fmtState.f fmtSt
  rw [sIsState_spec h hs hn, bind_unit]
  cases hk : okSt nt s
  · rw [Bool.not_false, br_true]; rfl
  · have o := okSt_of' hk
    have hna := o.na
    have hnq := o.nq
    have hns := o.ns
    have hst := o.steps
    have hli := o.net.links
    have hpr := o.net.progs
    have h8 := itoa_len (x := s.2.2.2) (by omega) (by omega)
    rw [Bool.not_true, br_false, number_spec hn (by omega) (by omega), bind_unit, str_chk (by simp only [List.length_append, List.length_cons, List.length_nil]; omega), str_chk (by simp only [List.length_append, List.length_cons, List.length_nil]; omega)]
    refine cat_loop (fun i => lineA (s.1.getD i zActor)) s.1.length 5000 ([115, 116, 101, 112, 115, 32] ++ Lib.itoa s.2.2.2 ++ [10]) (fun i hi => lineA_len o hi) (fun t i => (t, (i, ()))) (fun ih i t hi ht => ?_) (fun ih => ?_) (by omega)
    · obtain ⟨⟨a1, a2⟩, a3⟩ := act_bd o hi
      have h1 := itoa_len (x := (s.1.getD i zActor).1) (by omega) (by omega)
      have h2 := fmtS_len (s.1.getD i zActor).2
      simp only [br_yes (show (i : Int) < (s.1.length : Int) by omega), Int.toNat_natCast]
      simp only [List.length_append, List.length_cons, List.length_nil] at ht
      rw [chk_true (by omega), str_chk (by simp only [List.length_append, List.length_cons, List.length_nil]; omega), number_spec hn (by omega) (by omega), bind_unit, str_chk (by simp only [List.length_append, List.length_cons, List.length_nil]; omega), str_chk (by simp only [List.length_append, List.length_cons, List.length_nil]; omega), fmtStream_spec (by omega) hn, bind_unit, str_chk (by simp only [List.length_append, List.length_cons, List.length_nil]; omega), str_chk (by simp only [List.length_append, List.length_cons, List.length_nil]; omega), w64_succ (by omega)]
      simp only [lineA, List.append_assoc]
    · simp only [br_no (Int.lt_irrefl _)]
      have hL : (([115, 116, 101, 112, 115, 32] : List UInt8) ++ Lib.itoa s.2.2.2 ++ [10] ++ ((List.range s.1.length).map fun i => lineA (s.1.getD i zActor)).flatten).length ≤ 1000000 := by
        have := flat_len (fun i => lineA (s.1.getD i zActor)) 5000 (List.range s.1.length) (fun x hx => lineA_len o (List.mem_range.1 hx))
        rw [List.length_range] at this
        have := Nat.mul_le_mul_left 5000 (show s.1.length ≤ 100 by omega)
        simp only [List.length_append, List.length_cons, List.length_nil]
        omega
      refine cat_loop (fun i => lineQ (s.2.1.getD i []) (s.2.2.1.getD i [])) s.2.1.length 9000 ([115, 116, 101, 112, 115, 32] ++ Lib.itoa s.2.2.2 ++ [10] ++ ((List.range s.1.length).map fun i => lineA (s.1.getD i zActor)).flatten) (fun i hi => lineQ_len _ _) (fun t i => (t, (i, ()))) (fun ih i t hi ht => ?_) (fun ih => ?_) (by omega)
      · have L := o.lnk i (by omega)
        have h1 := fmtS_len (s.2.1.getD i [])
        have h2 := fmtS_len (s.2.2.1.getD i [])
        simp only [br_yes (show (i : Int) < (s.2.1.length : Int) by omega), Int.toNat_natCast]
        have ht : t.length ≤ 100000000 := by omega
        rw [chk_true (by omega), str_chk (by simp only [List.length_append, List.length_cons, List.length_nil]; omega), fmtStream_spec (by have := (okS_bd L.qs).1; omega) hn, bind_unit, str_chk (by simp only [List.length_append, List.length_cons, List.length_nil]; omega), str_chk (by simp only [List.length_append, List.length_cons, List.length_nil]; omega), chk_true (by omega), fmtStream_spec (by have := (okS_bd L.hs).1; omega) hn, bind_unit, str_chk (by simp only [List.length_append, List.length_cons, List.length_nil]; omega), str_chk (by simp only [List.length_append, List.length_cons, List.length_nil]; omega), w64_succ (by omega)]
        simp only [lineQ, List.append_assoc]
      · simp only [br_no (Int.lt_irrefl _)]
        rfl
theorem iFmtState_spec {n : Nat} {nt : Network} {s : State} (h : SmallN nt) (hs : SmallSt s) (hn : 1048576 < n) : iFmtState.f n nt s = some (fmtSt nt s, ()) := by
  unfold iFmtState.f fmtSt
  rw [iIsState_spec h hs hn, bind_unit]
  cases hk : okSt nt s
  · rw [Bool.not_false, br_true]; rfl
  · have o := okSt_of' hk
    have hna := o.na
    have hnq := o.nq
    have hns := o.ns
    have hst := o.steps
    have hli := o.net.links
    have hpr := o.net.progs
    have h8 := itoa_len (x := s.2.2.2) (by omega) (by omega)
    rw [Bool.not_true, br_false, itoaC_spec (by omega) (by omega), bind_unit, str_chk (by simp only [List.length_append, List.length_cons, List.length_nil]; omega), str_chk (by simp only [List.length_append, List.length_cons, List.length_nil]; omega)]
    refine cat_loop (fun i => lineA (s.1.getD i zActor)) s.1.length 5000 ([115, 116, 101, 112, 115, 32] ++ Lib.itoa s.2.2.2 ++ [10]) (fun i hi => lineA_len o hi) (fun t i => (t, (i, ()))) (fun ih i t hi ht => ?_) (fun ih => ?_) (by omega)
    · obtain ⟨⟨a1, a2⟩, a3⟩ := act_bd o hi
      have h1 := itoa_len (x := (s.1.getD i zActor).1) (by omega) (by omega)
      have h2 := fmtS_len (s.1.getD i zActor).2
      simp only [br_yes (show (i : Int) < (s.1.length : Int) by omega), Int.toNat_natCast]
      simp only [List.length_append, List.length_cons, List.length_nil] at ht
      rw [chk_true (by omega), iListed_one hn (by omega) (by omega), bind_unit, str_chk (by simp only [List.length_append, List.length_cons, List.length_nil]; omega), iFmtStream_spec (by omega) hn, bind_unit, str_chk (by simp only [List.length_append, List.length_cons, List.length_nil]; omega), str_chk (by simp only [List.length_append, List.length_cons, List.length_nil]; omega), str_chk (by simp only [List.length_append, List.length_cons, List.length_nil]; omega), w64_succ (by omega)]
      simp only [lineA, List.append_assoc]
    · simp only [br_no (Int.lt_irrefl _)]
      have hL : (([115, 116, 101, 112, 115, 32] : List UInt8) ++ Lib.itoa s.2.2.2 ++ [10] ++ ((List.range s.1.length).map fun i => lineA (s.1.getD i zActor)).flatten).length ≤ 1000000 := by
        have := flat_len (fun i => lineA (s.1.getD i zActor)) 5000 (List.range s.1.length) (fun x hx => lineA_len o (List.mem_range.1 hx))
        rw [List.length_range] at this
        have := Nat.mul_le_mul_left 5000 (show s.1.length ≤ 100 by omega)
        simp only [List.length_append, List.length_cons, List.length_nil]
        omega
      refine cat_loop (fun i => lineQ (s.2.1.getD i []) (s.2.2.1.getD i [])) s.2.1.length 9000 ([115, 116, 101, 112, 115, 32] ++ Lib.itoa s.2.2.2 ++ [10] ++ ((List.range s.1.length).map fun i => lineA (s.1.getD i zActor)).flatten) (fun i hi => lineQ_len _ _) (fun t i => (t, (i, ()))) (fun ih i t hi ht => ?_) (fun ih => ?_) (by omega)
      · have L := o.lnk i (by omega)
        have h1 := fmtS_len (s.2.1.getD i [])
        have h2 := fmtS_len (s.2.2.1.getD i [])
        simp only [br_yes (show (i : Int) < (s.2.1.length : Int) by omega), Int.toNat_natCast]
        have ht : t.length ≤ 100000000 := by omega
        rw [chk_true (by omega), iFmtStream_spec (by have := (okS_bd L.qs).1; omega) hn, bind_unit, str_chk (by simp only [List.length_append, List.length_cons, List.length_nil]; omega), str_chk (by simp only [List.length_append, List.length_cons, List.length_nil]; omega), chk_true (by omega), iFmtStream_spec (by have := (okS_bd L.hs).1; omega) hn, bind_unit, str_chk (by simp only [List.length_append, List.length_cons, List.length_nil]; omega), str_chk (by simp only [List.length_append, List.length_cons, List.length_nil]; omega), str_chk (by simp only [List.length_append, List.length_cons, List.length_nil]; omega), w64_succ (by omega)]
        simp only [lineQ, List.append_assoc]
      · simp only [br_no (Int.lt_irrefl _)]
        rfl
end Go.AmT

namespace Go.AmT
open Go Go.Am Go.Proofs
set_option linter.unusedVariables false
set_option maxRecDepth 100000
def tys22 : List (Nat × TInfo) := [(3, ⟨false, 1, 8, [.int .i64 0], .int .i64, 0, some I, [], false⟩),
  (9, ⟨false, 1, 16, [.str []], .str, 0, some .str, [], false⟩),
  (25, ⟨true, 2, 48, [.nil, .nil], .struct, 0, some tNetwork, [(0, 22), (1, 23)], false⟩),
  (36, ⟨false, 1, 24, [.nil], .slice, 103, some (.sl tActor), [], false⟩),
  (37, ⟨false, 1, 24, [.nil], .slice, 49, some (.sl IS), [], false⟩),
  (39, ⟨true, 4, 80, [.nil, .nil, .nil, .int .i64 0], .struct, 0, some tState, [(0, 36), (1, 37), (2, 37), (3, 3)], false⟩),
  (49, ⟨false, 1, 24, [.nil], .slice, 3, some IS, [], false⟩),
  (77, ⟨false, 1, 24, [.nil], .slice, 9, some (.sl .str), [], false⟩),
  (103, ⟨true, 2, 32, [.int .i64 0, .nil], .struct, 0, some tActor, [(0, 3), (1, 49)], false⟩)]
theorem tys22_ok : (tys22.all fun p => tokB Tryz.prog p.1 p.2) = true := by kernel_rfl

def iParseState.las : List (Nat × LA) := [(5, ⟨[(7, .bool), (8, .vptr 1000 0), (30, .int .i64)], [(1000, .cells [] [.own 1001 tActor, .own 1002 IS, .own 1003 IS, .int .i64]), (1001, .row true tActor), (1002, .row true IS), (1003, .row true IS)], [1, 2, 4, 28, 29], []⟩), (12, ⟨[(36, .bool)], [], [1, 2, 4, 7, 8, 11, 28, 29, 30], []⟩), (16, ⟨[(59, .bool)], [], [1, 2, 4, 7, 8, 11, 28, 29, 30], []⟩), (21, ⟨[(98, .bool)], [], [1, 2, 4, 7, 8, 11, 28, 29, 30], []⟩), (28, ⟨[(156, .bool)], [], [4, 8], []⟩)]
noncomputable def iParseState.f (n : Nat) (a0 : Network) (a1 : List UInt8) : Option (State × (Bool × Unit)) := (iLines.f n a1).bind fun r1 => iter (α := (Bool × (Int × (Int × (List Actor) × (List (List Int)) × (List (List Int)) × Unit)))) n (fun ih54 x53 => br (decide (x53.2.1 < (r1.1.length : Int))) (chk (0 ≤ x53.2.1 ∧ x53.2.1 < (r1.1.length : Int)) (let v55 := (r1.1.getD x53.2.1.toNat []); (splitC.f n v55 ([32] : List UInt8)).bind fun r56 => cut (α := (Bool × Unit)) (chk ((0 : Int) ≤ 0 ∧ (0 : Int) < (r56.1.length : Int)) (br (decide ((r56.1.getD 0 []) = ([115, 116, 101, 112, 115] : List UInt8))) (some (.inr ((decide ((r56.1.length : Int) = 2)), ()))) (some (.inr (false, ()))))) fun y57 => br y57.1 (chk ((0 : Int) ≤ 1 ∧ (1 : Int) < (r56.1.length : Int)) ((iNumber.f n (r56.1.getD 1 [])).bind fun r58 => br x53.1 (ih54 (r58.2.1, ((w64 (x53.2.1 + 1)), (r58.1, (x53.2.2.2.1, (x53.2.2.2.2.1, (x53.2.2.2.2.2.1, ()))))))) (ih54 (false, ((w64 (x53.2.1 + 1)), (r58.1, (x53.2.2.2.1, (x53.2.2.2.2.1, (x53.2.2.2.2.2.1, ()))))))))) (cut (α := (Bool × Unit)) (chk ((0 : Int) ≤ 0 ∧ (0 : Int) < (r56.1.length : Int)) (br (decide ((r56.1.getD 0 []) = ([97, 99, 116, 111, 114] : List UInt8))) (some (.inr ((decide ((r56.1.length : Int) = 3)), ()))) (some (.inr (false, ()))))) fun y59 => br y59.1 (chk ((0 : Int) ≤ 1 ∧ (1 : Int) < (r56.1.length : Int)) ((iNumber.f n (r56.1.getD 1 [])).bind fun r60 => chk ((0 : Int) ≤ 2 ∧ (2 : Int) < (r56.1.length : Int)) ((iParseStream.f n (r56.1.getD 2 [])).bind fun r61 => chk ((x53.2.2.2.1.length + ([(r60.1, r61.1)] : List Actor).length) * 32 ≤ maxB) (br x53.1 (br r60.2.1 (ih54 (r61.2.1, ((w64 (x53.2.1 + 1)), (x53.2.2.1, ((x53.2.2.2.1 ++ [(r60.1, r61.1)]), (x53.2.2.2.2.1, (x53.2.2.2.2.2.1, ()))))))) (ih54 (false, ((w64 (x53.2.1 + 1)), (x53.2.2.1, ((x53.2.2.2.1 ++ [(r60.1, r61.1)]), (x53.2.2.2.2.1, (x53.2.2.2.2.2.1, ())))))))) (ih54 (false, ((w64 (x53.2.1 + 1)), (x53.2.2.1, ((x53.2.2.2.1 ++ [(r60.1, r61.1)]), (x53.2.2.2.2.1, (x53.2.2.2.2.2.1, ()))))))))))) (cut (α := (Bool × Unit)) (chk ((0 : Int) ≤ 0 ∧ (0 : Int) < (r56.1.length : Int)) (br (decide ((r56.1.getD 0 []) = ([113, 117, 101, 117, 101] : List UInt8))) (some (.inr ((decide ((r56.1.length : Int) = 3)), ()))) (some (.inr (false, ()))))) fun y62 => br y62.1 (chk ((0 : Int) ≤ 1 ∧ (1 : Int) < (r56.1.length : Int)) ((iParseStream.f n (r56.1.getD 1 [])).bind fun r63 => chk ((0 : Int) ≤ 2 ∧ (2 : Int) < (r56.1.length : Int)) ((iParseStream.f n (r56.1.getD 2 [])).bind fun r64 => chk ((x53.2.2.2.2.1.length + ([r63.1] : List (List Int)).length) * 24 ≤ maxB) (chk ((x53.2.2.2.2.2.1.length + ([r64.1] : List (List Int)).length) * 24 ≤ maxB) (br x53.1 (br r63.2.1 (ih54 (r64.2.1, ((w64 (x53.2.1 + 1)), (x53.2.2.1, (x53.2.2.2.1, ((x53.2.2.2.2.1 ++ [r63.1]), ((x53.2.2.2.2.2.1 ++ [r64.1]), ()))))))) (ih54 (false, ((w64 (x53.2.1 + 1)), (x53.2.2.1, (x53.2.2.2.1, ((x53.2.2.2.2.1 ++ [r63.1]), ((x53.2.2.2.2.2.1 ++ [r64.1]), ())))))))) (ih54 (false, ((w64 (x53.2.1 + 1)), (x53.2.2.1, (x53.2.2.2.1, ((x53.2.2.2.2.1 ++ [r63.1]), ((x53.2.2.2.2.2.1 ++ [r64.1]), ())))))))))))) (ih54 (false, ((w64 (x53.2.1 + 1)), (x53.2.2.1, (x53.2.2.2.1, (x53.2.2.2.2.1, (x53.2.2.2.2.2.1, ()))))))))))) (cut (α := (Bool × Unit)) (br (!x53.1) (some (.inr (true, ()))) ((iIsState.f n a0 (x53.2.2.2.1, (x53.2.2.2.2.1, (x53.2.2.2.2.2.1, x53.2.2.1)))).bind fun r68 => br (!r68.1) (some (.inr (true, ()))) ((iFmtState.f n a0 (x53.2.2.2.1, (x53.2.2.2.2.1, (x53.2.2.2.2.2.1, x53.2.2.1)))).bind fun r69 => some (.inr ((!decide (r69.1 = a1)), ()))))) fun y67 => br y67.1 (some (([], ([], ([], 0))), (false, ()))) (some ((x53.2.2.2.1, (x53.2.2.2.2.1, (x53.2.2.2.2.2.1, x53.2.2.1))), (true, ()))))) (r1.2.1, (0, (0, ([], ([], ([], ()))))))
noncomputable def iParseState.mng (n : Nat) : Mng := ⟨[.val tNetwork, .val .str], [.val tState, .val .bool], fun x => iParseState.f n x.1 x.2.1⟩
noncomputable def iParseState.cfg (n : Nat) : Cfg := ⟨tys22, [(44, iLines.mng n), (61, splitC.mng n), (62, iNumber.mng n), (31, iParseStream.mng n), (63, iIsState.mng n), (26, iFmtState.mng n)], [], []⟩
theorem iParseState.eq : ∀ (n : Nat) (a0 : Network) (a1 : List UInt8), runF (iParseState.cfg n) n Tryz.f15 (annOf Tryz.f15 iParseState.las) [.val tNetwork, .val .str] [.val tState, .val .bool] (a0, (a1, ())) = iParseState.f n a0 a1 := by
  intros
  kernel_rfl
theorem iParseState.gof : GoF Tryz.prog 15 := ⟨_, Tryz.func15, by kernel_rfl, by kernel_rfl⟩
theorem iParseState.sound (n : Nat) : Sound Tryz.prog 15 (iParseState.mng n) := runF_sound (fn := Tryz.f15) (m := iParseState.mng n) (c := iParseState.cfg n) (regOK mixed (opOK (.of (c := iParseState.cfg n) ⟨⟨iLines.sound n, iLines.gof⟩, ⟨⟨splitC.sound n, splitC.gof⟩, ⟨⟨iNumber.sound n, iNumber.gof⟩, ⟨⟨iParseStream.sound n, iParseStream.gof⟩, ⟨⟨iIsState.sound n, iIsState.gof⟩, ⟨⟨iFmtState.sound n, iFmtState.gof⟩, trivial⟩⟩⟩⟩⟩⟩) (.of (c := iParseState.cfg n) trivial)) (tysOK tys22_ok)) (tysOK tys22_ok) Tryz.func15 (fun x => (iParseState.eq n x.1 x.2.1).symm)

end Go.AmT
