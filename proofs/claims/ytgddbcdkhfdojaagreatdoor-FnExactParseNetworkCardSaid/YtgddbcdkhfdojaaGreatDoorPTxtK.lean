/- Programs that are read from texts, in plain Lean: both programs read the same. -/
import Derived.Test.YtgddbcdkhfdojaaGreatDoorLTxtK
import Derived.Test.YtgddbcdkhfdojaaGreatDoorPTxtJ
import Derived.Test.YtgddbcdkhfdojaaGreatDoorPTxtP
namespace Go.AmT
open Go Go.Am
set_option linter.unusedVariables false
set_option linter.unusedSimpArgs false

theorem splitR_join (c : UInt8) : ∀ s : List UInt8, ∃ a r, splitR c s = a :: r ∧ s = a ++ (r.map fun p => c :: p).flatten
  | [] => ⟨[], [], rfl, rfl⟩
  | x :: xs => by
    obtain ⟨a, r, e, h⟩ := splitR_join c xs
    rw [splitR, e]
    by_cases hx : x = c
    · rw [if_pos hx]
      refine ⟨[], a :: r, rfl, ?_⟩
      rw [hx]
      conv => lhs; rw [h]
      simp
    · rw [if_neg hx]
      refine ⟨x :: a, r, rfl, ?_⟩
      conv => lhs; rw [h]
      simp
theorem splitR_list {α : Type} (c : UInt8) (g : α → List UInt8) : ∀ (l : List α) (a : List UInt8), c ∉ a → (∀ x ∈ l, c ∉ g x) → splitR c (a ++ (l.map fun x => c :: g x).flatten) = a :: l.map g
  | [], a, ha, _ => by simp [splitR_no ha]
  | x :: l, a, ha, h => by
    have e : a ++ ((x :: l).map fun x => c :: g x).flatten = a ++ c :: (g x ++ (l.map fun x => c :: g x).flatten) := by simp
    rw [e, splitR_app _ ha, splitR_list c g l (g x) (h x (by simp)) (fun y hy => h y (by simp [hy]))]
    rfl
theorem iNumber_inv {n : Nat} {s : List UInt8} (hs : s.length ≤ 1048576) : W (iNumber.f n s) (fun r => r.2.1 = true → Lib.itoa r.1 = s) := by
  have ha : W (atoiC.f n s) (fun r => r.2.1 = true → -9223372036854775808 ≤ r.1 ∧ r.1 ≤ 9223372036854775807) := by
    unfold atoiC.f atoiF
    rw [if_pos (by omega)]
    cases h : Lib.atoiAll s with
    | ok v => exact W_some.2 (fun _ => Lib.atoiAll_bounds h)
    | «syntax» => exact W_some.2 (fun h => by cases h)
    | range => exact W_some.2 (fun h => by cases h)
  unfold iNumber.f
  rw [W_bind]
  refine W_and ha (fun r hr => ?_)
  rw [W_br]
  refine ⟨fun h => ?_, fun _ => W_some.2 (fun h => by cases h)⟩
  unfold itoaC.f itoaR
  rw [if_pos (hr h)]
  exact W_some.2 (fun h => of_decide_eq_true h)
theorem toldI_ok {s : List UInt8} {r : Instr × (Bool × Unit)} (h : ToldI s r) (ht : r.2.1 = true) : okI 3 3 24 r.1 = true ∧ txtI r.1 = s := by
  rcases h.non with ⟨x, o, e⟩ | e
  · rw [h.all x o e]; exact ⟨o, e⟩
  · rw [e] at ht; cases ht
theorem txtI_no {x : Instr} (O : OkI x) : (59 : UInt8) ∉ txtI x ∧ (10 : UInt8) ∉ txtI x := by
  have key : ∀ c : UInt8, c = 59 ∨ c = 10 → c ∉ txtI x := fun c hc => by
    have hn : c.toNat < 97 ∧ c ≠ 45 ∧ ¬ (48 ≤ c.toNat ∧ c.toNat ≤ 57) ∧ c ≠ 32 := by rcases hc with rfl | rfl <;> decide
    have h0 := opw_no O.op hn.1
    have sp : ∀ {v : Int}, smI v → c ∉ spD v := fun hv => by
      simp only [spD, List.mem_append, List.mem_singleton, not_or]
      exact ⟨hn.2.2.2, notin_itoa hv hn.2.1 hn.2.2.1⟩
    unfold txtI
    rw [List.mem_append, not_or]
    refine ⟨h0, ?_⟩
    split
    · rw [List.mem_append, not_or]; exact ⟨sp O.a, sp O.b⟩
    · split
      · rw [List.mem_append, List.mem_append, not_or, not_or]; exact ⟨sp O.a, sp O.b, sp O.c⟩
      · split
        · exact sp O.b
        · simp
  exact ⟨key 59 (.inl rfl), key 10 (.inr rfl)⟩
theorem okP_instr {p : Program} (h : okP p = true) : ∀ x ∈ p.2.2, okI 3 3 24 x = true := fun x hx => by
  obtain ⟨h1, h2, h3, h4⟩ := okP_all h
  exact okI_mono (h4 x hx) (by omega) (by omega) (by omega)
theorem semi_eq {l : List Instr} (h : ∀ x ∈ l, okI 3 3 24 x = true) : l.map semiD = l.map fun x => 59 :: txtI x := by
  refine List.map_congr_left (fun x hx => ?_)
  rw [semiD, fmtI, if_pos (h x hx)]
  rfl
theorem txtP_split {p : Program} (h : okP p = true) : splitR 59 (txtP p) = Lib.itoa p.1 :: Lib.itoa p.2.1 :: p.2.2.map txtI := by
  obtain ⟨h1, h2, h3, h4⟩ := okP_all h
  have hi := okP_instr h
  have e : txtP p = Lib.itoa p.1 ++ 59 :: (Lib.itoa p.2.1 ++ (p.2.2.map fun x => 59 :: txtI x).flatten) := by
    rw [txtP, semi_eq hi]; simp
  rw [e, splitR_app _ (notin_itoa ⟨by omega, by omega⟩ (by decide) (by decide)), splitR_list 59 txtI _ _ (notin_itoa ⟨by omega, by omega⟩ (by decide) (by decide)) (fun x hx => (txtI_no (okI_all (hi x hx) (by omega) (by omega) (by omega))).1)]
abbrev zeroP : Program := (0, (0, []))
structure ToldP (s : List UInt8) (r : Program × (Bool × Unit)) : Prop where
  all : ∀ p, okP p = true → txtP p = s → r = (p, (true, ()))
  non : (∃ p, okP p = true ∧ txtP p = s) ∨ r = (zeroP, (false, ()))
theorem ToldP.one {s : List UInt8} {r r' : Program × (Bool × Unit)} (h : ToldP s r) (h' : ToldP s r') : r = r' := by
  rcases h.non with ⟨x, o, e⟩ | e
  · rw [h.all x o e, h'.all x o e]
  · rcases h'.non with ⟨x, o, e'⟩ | e'
    · rw [h.all x o e', h'.all x o e']
    · rw [e, e']
theorem toldP_of {s : List UInt8} {m : Option (Program × (Bool × Unit))} (h1 : W m (fun r => r = (zeroP, (false, ())) ∨ (okP r.1 = true ∧ txtP r.1 = s))) (h2 : ∀ x, okP x = true → txtP x = s → m = some (x, (true, ()))) : W m (ToldP s) := by
  obtain ⟨r, e, h⟩ := h1
  refine ⟨r, e, ⟨fun x o et => ?_, ?_⟩⟩
  · rw [h2 x o et] at e
    exact (Option.some.inj e).symm
  · rcases h with h | ⟨o, et⟩
    · exact .inr h
    · exact .inl ⟨_, o, et⟩
theorem toldP_small {s : List UInt8} {r : Program × (Bool × Unit)} (h : ToldP s r) : SmallP r.1 := by
  rcases h.non with ⟨x, o, e⟩ | e
  · rw [h.all x o e]; exact ⟨by show x.2.2.length ≤ _; have := (okP_all o).2.2.1; omega⟩
  · rw [e]; exact ⟨by simp⟩

/-! ### the program -/
theorem iParseProgram_any {n : Nat} {s : List UInt8} (hs : s.length ≤ 1048576) (hn : 1048577 < n) : W (iParseProgram.f n s) (fun r => r = (zeroP, (false, ())) ∨ (okP r.1 = true ∧ txtP r.1 = s)) := by
  have hB := maxB_eq
  unfold iParseProgram.f
  rw [splitC_spec (by omega), bind_unit]
  have hp := splitR_sum 59 s
  have hlen := splitR_len 59 s
  obtain ⟨a, r, hab, hs2⟩ := splitR_join 59 s
  rw [hab] at hp hlen
  dsimp only
  rw [hab, W_brd]
  refine ⟨fun _ => W_some.2 (.inl rfl), fun h3 => ?_⟩
  cases r with
  | nil => exfalso; simp at h3
  | cons b D =>
    have hl3 : (a :: b :: D).length = D.length + 2 := rfl
    have ha := hp a (by simp)
    have hb := hp b (by simp)
    have g0 : (a :: b :: D).getD 0 [] = a := rfl
    have g1 : (a :: b :: D).getD 1 [] = b := rfl
    have eD : ((a :: b :: D).take ((a :: b :: D).length : Int).toNat).drop 2 = D := by rw [Int.toNat_natCast, List.take_length]; rfl
    rw [chk_true (by rw [hl3]; omega), g0, W_bind]
    refine W_and (iNumber_inv (by omega)) (fun r2 h2 => ?_)
    rw [chk_true (by rw [hl3]; omega), g1, W_bind]
    refine W_and (iNumber_inv (by omega)) (fun r3 h3' => ?_)
    rw [chk_true (by rw [hl3]; omega), eD]
    refine W_up (fun (i : Nat) (o : List Instr) => ((i : Int), (r2.1, (r3.1, (o, ()))))) D.length (fun i o => o.length ≤ i ∧ (∀ x ∈ o, okI 3 3 24 x = true) ∧ o.map txtI = D.take i) (s0 := []) rfl ⟨by simp, fun x hx => by simp at hx, by simp⟩ (by rw [hl3] at hlen; omega) (fun ih o hI => ?_) (fun ih i o hi hI hS => ?_)
    · obtain ⟨i1, i2, i3⟩ := hI
      simp only [br_no (Int.lt_irrefl _)]
      refine W_cut.2 (W_and (P := fun z => ∃ y : Bool × Unit, z = .inr y ∧ (y.1 = false → okP (r2.1, (r3.1, o)) = true ∧ txtP (r2.1, (r3.1, o)) = s)) ?_ (fun z hz => ?_))
      · rw [W_br]
        refine ⟨fun _ => W_some.2 ⟨_, rfl, fun h => by cases h⟩, fun c2 => ?_⟩
        rw [W_br]
        refine ⟨fun _ => W_some.2 ⟨_, rfl, fun h => by cases h⟩, fun c3 => ?_⟩
        rw [iIsProgram_spec ⟨by show o.length ≤ _; rw [hl3] at hlen; omega⟩ (by omega), bind_unit]
        refine W_some.2 ⟨_, rfl, fun h => ?_⟩
        have h : okP (r2.1, (r3.1, o)) = true := by simpa using h
        have e2 := h2 (by simpa using c2)
        have e3 := h3' (by simpa using c3)
        refine ⟨h, ?_⟩
        rw [List.take_length] at i3
        rw [txtP, semi_eq i2, hs2]
        show Lib.itoa r2.1 ++ [59] ++ Lib.itoa r3.1 ++ (o.map fun x => 59 :: txtI x).flatten = _
        have e4 : (o.map fun x => 59 :: txtI x) = D.map fun p => 59 :: p := by rw [← i3, List.map_map]; rfl
        rw [e2, e3, e4]
        simp
      · obtain ⟨y, rfl, hy⟩ := hz
        simp only
        rw [W_br]
        exact ⟨fun _ => W_some.2 (.inl rfl), fun h => W_some.2 (.inr (hy h))⟩
    · obtain ⟨i1, i2, i3⟩ := hI
      simp only [br_yes (show (i : Int) < (D.length : Int) by omega), Int.toNat_natCast]
      have hd := hp (D.getD i []) (by rw [getD_lt hi]; simp)
      rw [hl3] at hd hlen
      obtain ⟨q, e1, e2, hq⟩ := parseI_same (n := n) (s := D.getD i []) (by omega) hn
      rw [chk_true (by omega), e2, bind_unit, W_br]
      refine ⟨fun _ => W_some.2 (.inl rfl), fun c => ?_⟩
      obtain ⟨q1, q2⟩ := toldI_ok hq (by simpa using c)
      rw [chk_true (by simp only [List.length_cons, List.length_nil]; omega), w64_succ (by omega)]
      refine hS (o ++ [q.1]) ⟨by simp; omega, mem_snoc i2 q1, ?_⟩
      rw [List.map_append, i3, List.take_succ_eq_append_getElem hi, List.map_cons, List.map_nil, q2, getD_lt hi]
theorem iParseProgram_txt {n : Nat} {p : Program} (h : okP p = true) (hn : 1048577 < n) : iParseProgram.f n (txtP p) = some (p, (true, ())) := by
  have hB := maxB_eq
  have hl := txtP_len h
  obtain ⟨h1, h2, h3, h4⟩ := okP_all h
  have hi4 := okP_instr h
  unfold iParseProgram.f
  rw [splitC_spec (by omega), txtP_split h, bind_unit]
  dsimp only
  have hl3 : (Lib.itoa p.1 :: Lib.itoa p.2.1 :: p.2.2.map txtI).length = p.2.2.length + 2 := by simp
  have g0 : (Lib.itoa p.1 :: Lib.itoa p.2.1 :: p.2.2.map txtI).getD 0 [] = Lib.itoa p.1 := rfl
  have g1 : (Lib.itoa p.1 :: Lib.itoa p.2.1 :: p.2.2.map txtI).getD 1 [] = Lib.itoa p.2.1 := rfl
  have eD : ((Lib.itoa p.1 :: Lib.itoa p.2.1 :: p.2.2.map txtI).take ((Lib.itoa p.1 :: Lib.itoa p.2.1 :: p.2.2.map txtI).length : Int).toNat).drop 2 = p.2.2.map txtI := by rw [Int.toNat_natCast, List.take_length]; rfl
  rw [br_no (by rw [hl3]; omega), chk_true (by rw [hl3]; omega), g0, iNumber_spec (by omega) (by omega), bind_unit, chk_true (by rw [hl3]; omega), g1, iNumber_spec (by omega) (by omega), bind_unit, chk_true (by rw [hl3]; omega), eD]
  refine push_loopE p.2.2 (fun x => x) (fun i l => (i, (p.1, (p.2.1, (l, ()))))) (fun ih i hi l hli => ?_) (fun ih => ?_) (by omega)
  · have hlt : (i : Int) < ((p.2.2.map txtI).length : Int) := by rw [List.length_map]; omega
    have hg : (p.2.2.map txtI).getD i [] = txtI p.2.2[i] := by rw [getD_lt (by rw [List.length_map]; exact hi), List.getElem_map]
    simp only [br_yes hlt, Int.toNat_natCast]
    rw [chk_true (by omega), hg, iParseInstr_txt (hi4 _ (List.getElem_mem hi)) hn, bind_unit]
    simp only [Bool.not_true, br_false]
    rw [chk_true (by simp only [List.length_cons, List.length_nil]; omega), w64_succ (by omega)]
  · have hlt : ¬ ((p.2.2.length : Int) < ((p.2.2.map txtI).length : Int)) := by rw [List.length_map]; omega
    simp only [br_no hlt, Bool.not_true, br_false]
    rw [List.map_id'' (fun _ => rfl)]
    show cut ((iIsProgram.f n p).bind _) _ = _
    rw [iIsProgram_spec ⟨by omega⟩ (by omega), h, bind_unit]
    rfl

/-! ### the reference -/
theorem sParseProgram_any {n : Nat} {s : List UInt8} (hs : s.length ≤ 1048576) (hn : 1048577 < n) : W (sParseProgram.f n s) (fun r => r = (zeroP, (false, ())) ∨ (okP r.1 = true ∧ txtP r.1 = s)) := by
  have hB := maxB_eq
  unfold sParseProgram.f
  rw [l1Split_spec (by omega) (by omega) (by omega) hn, bind_unit]
  have hp := splitR_sum (UInt8.ofNat (59 : Int).toNat) s
  dsimp only
  generalize splitR (UInt8.ofNat (59 : Int).toNat) s = L at hp
  rw [sL1In_spec, bind_unit, W_br]
  refine ⟨fun _ => W_some.2 (.inl rfl), fun c => ?_⟩
  simp only [Bool.not_eq_false', Bool.and_eq_true, decide_eq_true_eq] at c
  have piece : ∀ j, j < L.length → (L.getD j []).length ≤ 1048576 := fun j hj => by
    have := hp (L.getD j []) (by rw [getD_lt hj]; exact List.getElem_mem _)
    omega
  rw [chk_true (by omega), W_bind]
  refine W_and (read_any (piece 0 (by omega)) (by omega)) (fun r3 _ => ?_)
  rw [chk_true (by omega), W_bind]
  refine W_and (read_any (piece 1 (by omega)) (by omega)) (fun r4 _ => ?_)
  rw [chk_true (by omega)]
  have hlen : (((L.length : Int).toNat - 2 : Nat) : Int) = ((L.length - 2 : Nat) : Int) := by rw [Int.toNat_natCast]
  simp only [hlen]
  refine W_up (fun (i : Nat) (o : List Instr) => ((i : Int), (r3.1, (r4.1, (o, ()))))) (L.length - 2) (fun i o => o.length ≤ i) (s0 := []) rfl (by simp) (by omega) (fun ih o hI => ?_) (fun ih i o hi hI hS => ?_)
  · have hI : o.length ≤ L.length - 2 := hI
    simp only [br_no (Int.lt_irrefl _)]
    have hSm : SmallP (r3.1, (r4.1, o)) := ⟨by show o.length ≤ _; omega⟩
    refine W_cut.2 (W_and (P := fun z => ∃ y : Bool × Unit, z = .inr y ∧ (y.1 = false → okP (r3.1, (r4.1, o)) = true ∧ txtP (r3.1, (r4.1, o)) = s)) ?_ (fun z hz => ?_))
    · rw [sIsProgram_spec hSm (by omega), bind_unit]
      cases hk : okP (r3.1, (r4.1, o))
      · exact W_some.2 ⟨_, rfl, fun h => by cases h⟩
      · simp only [Bool.not_true, br_false]
        rw [fmtProgram_spec hSm (by omega), bind_unit, fmtP, if_pos hk]
        exact W_some.2 ⟨_, rfl, fun h => ⟨trivial, by simpa using h⟩⟩
    · obtain ⟨y, rfl, hy⟩ := hz
      simp only
      rw [W_br]
      exact ⟨fun _ => W_some.2 (.inl rfl), fun h => W_some.2 (.inr (hy h))⟩
  · have hI : o.length ≤ i := hI
    simp only [br_yes (show (i : Int) < ((L.length - 2 : Nat) : Int) by omega), Int.toNat_natCast]
    obtain ⟨q, e1, e2, hq⟩ := parseI_same (n := n) (s := L.getD (2 + i) []) (piece _ (by omega)) hn
    rw [chk_true (by omega), e1, bind_unit, W_br]
    refine ⟨fun _ => W_some.2 (.inl rfl), fun _ => ?_⟩
    rw [chk_true (by simp only [List.length_cons, List.length_nil]; omega), w64_succ (by omega)]
    exact hS (o ++ [q.1]) (by simp; omega)
theorem sParseProgram_txt {n : Nat} {p : Program} (h : okP p = true) (hn : 1048577 < n) : sParseProgram.f n (txtP p) = some (p, (true, ())) := by
  have hB := maxB_eq
  have hl := txtP_len h
  obtain ⟨h1, h2, h3, h4⟩ := okP_all h
  have hi4 := okP_instr h
  unfold sParseProgram.f
  have e59 : UInt8.ofNat (59 : Int).toNat = 59 := rfl
  rw [l1Split_spec (by omega) (by omega) (by omega) hn, bind_unit, e59, txtP_split h]
  dsimp only
  have hl3 : (Lib.itoa p.1 :: Lib.itoa p.2.1 :: p.2.2.map txtI).length = p.2.2.length + 2 := by simp
  have g0 : (Lib.itoa p.1 :: Lib.itoa p.2.1 :: p.2.2.map txtI).getD 0 [] = Lib.itoa p.1 := rfl
  have g1 : (Lib.itoa p.1 :: Lib.itoa p.2.1 :: p.2.2.map txtI).getD 1 [] = Lib.itoa p.2.1 := rfl
  rw [sL1In_spec, bind_unit]
  have hin : (decide (3 ≤ ((Lib.itoa p.1 :: Lib.itoa p.2.1 :: p.2.2.map txtI).length : Int)) && decide (((Lib.itoa p.1 :: Lib.itoa p.2.1 :: p.2.2.map txtI).length : Int) ≤ 26)) = true := by
    rw [hl3]; simp only [Bool.and_eq_true, decide_eq_true_eq]; omega
  rw [hin]
  simp only [Bool.not_true, br_false]
  rw [chk_true (by rw [hl3]; omega), g0, read_spec (by omega) (by omega) (by omega), bind_unit, chk_true (by rw [hl3]; omega), g1, read_spec (by omega) (by omega) (by omega), bind_unit, chk_true (by rw [hl3]; omega)]
  have hlen : ((((Lib.itoa p.1 :: Lib.itoa p.2.1 :: p.2.2.map txtI).length : Int).toNat - 2 : Nat) : Int) = (p.2.2.length : Int) := by rw [Int.toNat_natCast, hl3]; omega
  simp only [hlen]
  refine push_loopE p.2.2 (fun x => x) (fun i l => (i, (p.1, (p.2.1, (l, ()))))) (fun ih i hi l hli => ?_) (fun ih => ?_) (by omega)
  · have hlt : (i : Int) < (p.2.2.length : Int) := by omega
    have hg : (Lib.itoa p.1 :: Lib.itoa p.2.1 :: p.2.2.map txtI).getD (2 + i) [] = txtI p.2.2[i] := by
      have : (Lib.itoa p.1 :: Lib.itoa p.2.1 :: p.2.2.map txtI).getD (2 + i) [] = (p.2.2.map txtI).getD i [] := by rw [Nat.add_comm]; rfl
      rw [this, getD_lt (by rw [List.length_map]; exact hi), List.getElem_map]
    simp only [br_yes hlt, Int.toNat_natCast]
    rw [chk_true (by omega), hg, sParseInstr_txt (hi4 _ (List.getElem_mem hi)) hn, bind_unit]
    simp only [Bool.not_true, br_false]
    rw [chk_true (by simp only [List.length_cons, List.length_nil]; omega), w64_succ (by omega)]
  · simp only [br_no (Int.lt_irrefl _)]
    rw [List.map_id'' (fun _ => rfl)]
    show cut ((sIsProgram.f n p).bind _) _ = _
    rw [sIsProgram_spec ⟨by omega⟩ (by omega), h, bind_unit]
    simp only [Bool.not_true, br_false]
    show cut ((fmtProgram.f n p).bind _) _ = _
    rw [fmtProgram_spec ⟨by omega⟩ (by omega), bind_unit, fmtP, if_pos h, decide_eq_true rfl]
    rfl
/-- both programs read the same -/
theorem parseP_same {n : Nat} {s : List UInt8} (hs : s.length ≤ 1048576) (hn : 1048577 < n) : ∃ r, sParseProgram.f n s = some r ∧ iParseProgram.f n s = some r ∧ ToldP s r := by
  obtain ⟨r, e, h⟩ := toldP_of (sParseProgram_any hs hn) (fun x o et => by subst et; exact sParseProgram_txt o hn)
  obtain ⟨r', e', h'⟩ := toldP_of (iParseProgram_any hs hn) (fun x o et => by subst et; exact iParseProgram_txt o hn)
  have := h.one h'
  subst this
  exact ⟨r, e, e', h⟩
end Go.AmT
