/- Instructions that are read from texts, in plain Lean: both programs read the same. -/
import Derived.Test.YtgddbcdkhfdojaaGreatDoorLTxtJ
import Derived.Test.YtgddbcdkhfdojaaGreatDoorPTxtR
import Derived.Test.YtgddbcdkhfdojaaGreatDoorPTxtI
namespace Go.AmT
open Go Go.Am
set_option linter.unusedVariables false
set_option linter.unusedSimpArgs false

abbrev zeroI : Instr := (0, (0, (0, 0)))
theorem opw_no {op : Int} (h : 1 ≤ op ∧ op ≤ 11) {c : UInt8} (hc : c.toNat < 97) : c ∉ opw op := by
  have : ∀ d ∈ opw op, 97 ≤ d.toNat := by
    rcases op_cases h with rfl | rfl | rfl | rfl | rfl | rfl | rfl | rfl | rfl | rfl | rfl <;> decide
  intro hm
  have := this c hm
  omega
/-- the words of an instruction's text -/
noncomputable def partsI (x : Instr) : List (List UInt8) :=
  opw x.1 :: (if ptsA x.1 then [Lib.itoa x.2.1, Lib.itoa x.2.2.1] else if ptsB x.1 then [Lib.itoa x.2.1, Lib.itoa x.2.2.1, Lib.itoa x.2.2.2] else if ptsC x.1 then [Lib.itoa x.2.2.1] else [])
theorem txtI_split {x : Instr} (O : OkI x) : splitR 32 (txtI x) = partsI x := by
  have h0 : (32 : UInt8) ∉ opw x.1 := opw_no O.op (by decide)
  have ha : (32 : UInt8) ∉ Lib.itoa x.2.1 := notin_itoa O.a (by decide) (by decide)
  have hb : (32 : UInt8) ∉ Lib.itoa x.2.2.1 := notin_itoa O.b (by decide) (by decide)
  have hc : (32 : UInt8) ∉ Lib.itoa x.2.2.2 := notin_itoa O.c (by decide) (by decide)
  unfold txtI partsI spD
  split
  · have : opw x.1 ++ ([32] ++ Lib.itoa x.2.1 ++ ([32] ++ Lib.itoa x.2.2.1)) = opw x.1 ++ 32 :: (Lib.itoa x.2.1 ++ 32 :: Lib.itoa x.2.2.1) := by simp
    rw [this, splitR_app _ h0, splitR_app _ ha, splitR_no hb]
  · split
    · have : opw x.1 ++ ([32] ++ Lib.itoa x.2.1 ++ ([32] ++ Lib.itoa x.2.2.1 ++ ([32] ++ Lib.itoa x.2.2.2))) = opw x.1 ++ 32 :: (Lib.itoa x.2.1 ++ 32 :: (Lib.itoa x.2.2.1 ++ 32 :: Lib.itoa x.2.2.2)) := by simp
      rw [this, splitR_app _ h0, splitR_app _ ha, splitR_app _ hb, splitR_no hc]
    · split
      · have : opw x.1 ++ ([32] ++ Lib.itoa x.2.2.1) = opw x.1 ++ 32 :: Lib.itoa x.2.2.1 := by simp
        rw [this, splitR_app _ h0, splitR_no hb]
      · rw [List.append_nil, splitR_no h0]
structure ToldI (s : List UInt8) (r : Instr × (Bool × Unit)) : Prop where
  all : ∀ x, okI 3 3 24 x = true → txtI x = s → r = (x, (true, ()))
  non : (∃ x, okI 3 3 24 x = true ∧ txtI x = s) ∨ r = (zeroI, (false, ()))
theorem ToldI.one {s : List UInt8} {r r' : Instr × (Bool × Unit)} (h : ToldI s r) (h' : ToldI s r') : r = r' := by
  rcases h.non with ⟨x, o, e⟩ | e
  · rw [h.all x o e, h'.all x o e]
  · rcases h'.non with ⟨x, o, e'⟩ | e'
    · rw [h.all x o e', h'.all x o e']
    · rw [e, e']
theorem toldI_of {s : List UInt8} {m : Option (Instr × (Bool × Unit))} (h1 : W m (fun r => r = (zeroI, (false, ())) ∨ (okI 3 3 24 r.1 = true ∧ txtI r.1 = s))) (h2 : ∀ x, okI 3 3 24 x = true → txtI x = s → m = some (x, (true, ()))) : W m (ToldI s) := by
  obtain ⟨r, e, h⟩ := h1
  refine ⟨r, e, ⟨fun x o et => ?_, ?_⟩⟩
  · rw [h2 x o et] at e
    exact (Option.some.inj e).symm
  · rcases h with h | ⟨o, et⟩
    · exact .inr h
    · exact .inl ⟨_, o, et⟩
theorem iter3 {γ ρ : Type} {F : (γ → Option ρ) → γ → Option ρ} {x0 : γ} (x1 x2 x3 : γ) {R : Option ρ} (h0 : ∀ ih, F ih x0 = ih x1) (h1 : ∀ ih, F ih x1 = ih x2) (h2 : ∀ ih, F ih x2 = ih x3) (h3 : ∀ ih, F ih x3 = R) {n : Nat} (hn : 3 < n) : iter n F x0 = R := by
  obtain ⟨m, rfl⟩ : ∃ m, n = m + 4 := ⟨n - 4, by omega⟩
  exact (h0 _).trans ((h1 _).trans ((h2 _).trans (h3 _)))
theorem useR {ρ : Type} {n : Nat} {L : List (List UInt8)} {k : Int} {v : Int} (h0 : 0 ≤ k) (hk : k < (L.length : Int)) (hL : (L.length : Int) ≤ 2000000) (hg : L.getD k.toNat [] = Lib.itoa v) (hv : smI v) (hn : 1048576 < n) (G : Int × (Int × Unit) → Option ρ) :
    (cut (α := Bool × Unit) (br true (some (.inr ((decide (k < (L.length : Int))), ()))) (some (.inr (false, ())))) fun y50 => cut (α := (Int × (Int × Unit))) (br y50.1 (chk (0 ≤ k ∧ k < (L.length : Int)) ((l1Read.f n (L.getD k.toNat [])).bind fun r52 => some (.inr ((w64 (k + 1)), (r52.1, ()))))) (some (.inr (k, (0, ()))))) G) = G (k + 1, (v, ())) := by
  rw [br_true]
  simp only [cut_inr]
  rw [decide_eq_true hk, br_true, chk_true ⟨h0, hk⟩, hg, read_spec hn hv.1 hv.2, bind_unit, w64_id (by omega) (by omega)]
  simp only [cut_inr]
theorem useN {ρ : Type} {n : Nat} {L : List (List UInt8)} {k : Int} (G : Int × (Int × Unit) → Option ρ) :
    (cut (α := Bool × Unit) (br false (some (.inr ((decide (k < (L.length : Int))), ()))) (some (.inr (false, ())))) fun y50 => cut (α := (Int × (Int × Unit))) (br y50.1 (chk (0 ≤ k ∧ k < (L.length : Int)) ((l1Read.f n (L.getD k.toNat [])).bind fun r52 => some (.inr ((w64 (k + 1)), (r52.1, ()))))) (some (.inr (k, (0, ()))))) G) = G (k, (0, ())) := by
  rw [br_false]
  simp only [cut_inr, br_false]
theorem words_at {op : Int} (h : 1 ≤ op ∧ op ≤ 11) (i : Nat) (hi : i < 12) : wordsL.getD i [] = opw op ↔ (i : Int) = op := by
  constructor
  · intro e
    have : ∀ i : Fin 12, ∀ j : Fin 12, wordsL.getD i.val [] = wordsL.getD j.val [] → i = j := by decide
    have h2 := this ⟨i, hi⟩ ⟨op.toNat, by omega⟩ e
    have := congrArg Fin.val h2
    simp only at this
    omega
  · intro e
    rw [← e]
    unfold opw
    rw [Int.toNat_natCast]
theorem indexS_spec {n : Nat} {op : Int} (h : 1 ≤ op ∧ op ≤ 11) (hn : 1048576 < n) : indexS.f n wordsL (opw op) = some (op, ()) := by
  have hwl : wordsL.length = 12 := rfl
  unfold indexS.f
  refine W_eq.1 (W_up (fun (i : Nat) (_ : Unit) => ((i : Int), ())) 12 (fun i _ => (i : Int) ≤ op) (s0 := ()) rfl (by omega) (by omega) (fun ih _ hI => ?_) (fun ih i _ hi hI hS => ?_))
  · have hI : ((12 : Nat) : Int) ≤ op := hI
    omega
  · have hI : (i : Int) ≤ op := hI
    simp only [br_yes (show (i : Int) < (wordsL.length : Int) by rw [hwl]; omega), Int.toNat_natCast]
    rw [chk_true (by rw [hwl]; omega), W_brd]
    refine ⟨fun e => ?_, fun e => ?_⟩
    · rw [W_some, (words_at h i hi).1 e.symm]
    · rw [w64_succ (by omega)]
      refine hS () ?_
      have : ¬ (i : Int) = op := fun c => e ((words_at h i hi).2 c).symm
      show ((i + 1 : Nat) : Int) ≤ op
      omega
theorem indexS_any {n : Nat} {w : List UInt8} (hn : 1048576 < n) : W (indexS.f n wordsL w) (fun _ => True) := by
  have hwl : wordsL.length = 12 := rfl
  unfold indexS.f
  refine W_up (fun (i : Nat) (_ : Unit) => ((i : Int), ())) 12 (fun i _ => True) (s0 := ()) rfl trivial (by omega) (fun ih _ hI => ?_) (fun ih i _ hi hI hS => ?_)
  · simp only [br_no (show ¬ ((12 : Nat) : Int) < (wordsL.length : Int) by rw [hwl]; omega)]
    exact W_some.2 trivial
  · simp only [br_yes (show (i : Int) < (wordsL.length : Int) by rw [hwl]; omega), Int.toNat_natCast]
    rw [chk_true (by rw [hwl]; omega), W_brd]
    exact ⟨fun e => W_some.2 trivial, fun e => by rw [w64_succ (by omega)]; exact hS () trivial⟩

/-! ### the program -/
theorem ptsB_of {op : Int} (h : ptsA op = true) : ptsB op = false := by
  simp only [ptsA, ptsB, decide_eq_true_eq, decide_eq_false_iff_not] at h ⊢
  omega
theorem halt_of {op : Int} (h : 1 ≤ op ∧ op ≤ 11) (ha : ptsA op = false) (hb : ptsB op = false) (hc : ptsC op = false) : op = 11 := by
  simp only [ptsA, ptsB, ptsC, decide_eq_false_iff_not] at ha hb hc
  omega
theorem eta3 {x : Instr} {a b c : Int} (h1 : a = x.2.1) (h2 : b = x.2.2.1) (h3 : c = x.2.2.2) : (x.1, (a, (b, c))) = x := by subst h1; subst h2; subst h3; rfl
theorem iParseInstr_txt {n : Nat} {x : Instr} (h : okI 3 3 24 x = true) (hn : 1048577 < n) : iParseInstr.f n (txtI x) = some (x, (true, ())) := by
  have O := okI_all h (by omega) (by omega) (by omega)
  have hl := txtI_len O
  have hf : fmtI x = txtI x := if_pos h
  have hop := O.op
  unfold iParseInstr.f
  rw [splitC_spec (by omega), txtI_split O, bind_unit, iOps_spec, bind_unit]
  have g0 : (partsI x).getD 0 [] = opw x.1 := rfl
  dsimp only
  rw [chk_true (by simp [partsI]), g0, indexS_spec hop (by omega), bind_unit]
  dsimp only
  rw [br_no (by omega)]
  cases hA : ptsA x.1
  · cases hB : ptsB x.1
    · cases hC : ptsC x.1
      · have hp : partsI x = [opw x.1] := by simp [partsI, hA, hB, hC]
        have e11 := halt_of hop hA hB hC
        simp only [br_false]
        rw [hp]
        have w0 : w64 (([opw x.1].length : Int) - 1) = 0 := w64_id (n := 0) (by omega) (by omega)
        rw [w0, decide_eq_true rfl, eta3 (O.na hA hB).symm (O.nb e11).symm (O.nc hB).symm, iFmtInstr_spec, hf, bind_unit, decide_eq_true rfl]
        rfl
      · have hp : partsI x = [opw x.1, Lib.itoa x.2.2.1] := by simp [partsI, hA, hB, hC]
        simp only [br_false, br_true]
        rw [hp]
        have w0 : w64 (([opw x.1, Lib.itoa x.2.2.1].length : Int) - 1) = 1 := w64_id (n := 1) (by omega) (by omega)
        have g1 : [opw x.1, Lib.itoa x.2.2.1].getD 1 [] = Lib.itoa x.2.2.1 := rfl
        rw [w0, decide_eq_true rfl]
        simp only [Bool.not_true, br_false]
        rw [chk_true (by simp), g1, iNumber_spec O.b.1 O.b.2, bind_unit]
        simp only [Bool.not_true, br_false]
        rw [eta3 (O.na hA hB).symm rfl (O.nc hB).symm, iFmtInstr_spec, hf, bind_unit, decide_eq_true rfl]
        rfl
    · have hp : partsI x = [opw x.1, Lib.itoa x.2.1, Lib.itoa x.2.2.1, Lib.itoa x.2.2.2] := by simp [partsI, hA, hB]
      simp only [br_false, br_true]
      rw [hp]
      have w0 : w64 (([opw x.1, Lib.itoa x.2.1, Lib.itoa x.2.2.1, Lib.itoa x.2.2.2].length : Int) - 1) = 3 := w64_id (n := 3) (by omega) (by omega)
      have g1 : [opw x.1, Lib.itoa x.2.1, Lib.itoa x.2.2.1, Lib.itoa x.2.2.2].getD 1 [] = Lib.itoa x.2.1 := rfl
      have g2 : [opw x.1, Lib.itoa x.2.1, Lib.itoa x.2.2.1, Lib.itoa x.2.2.2].getD 2 [] = Lib.itoa x.2.2.1 := rfl
      have g3 : [opw x.1, Lib.itoa x.2.1, Lib.itoa x.2.2.1, Lib.itoa x.2.2.2].getD 3 [] = Lib.itoa x.2.2.2 := rfl
      rw [w0, decide_eq_true rfl]
      simp only [Bool.not_true, br_false]
      rw [chk_true (by simp), g1, iNumber_spec O.a.1 O.a.2, bind_unit]
      simp only [Bool.not_true, br_false]
      rw [chk_true (by simp), g2, iNumber_spec O.b.1 O.b.2, bind_unit]
      simp only [Bool.not_true, br_false]
      rw [chk_true (by simp), g3, iNumber_spec O.c.1 O.c.2, bind_unit]
      simp only [Bool.not_true, br_false]
      rw [eta3 rfl rfl rfl, iFmtInstr_spec, hf, bind_unit, decide_eq_true rfl]
      rfl
  · have hB := ptsB_of hA
    have hp : partsI x = [opw x.1, Lib.itoa x.2.1, Lib.itoa x.2.2.1] := by simp [partsI, hA]
    simp only [br_false, br_true]
    rw [hp]
    have w0 : w64 (([opw x.1, Lib.itoa x.2.1, Lib.itoa x.2.2.1].length : Int) - 1) = 2 := w64_id (n := 2) (by omega) (by omega)
    have g1 : [opw x.1, Lib.itoa x.2.1, Lib.itoa x.2.2.1].getD 1 [] = Lib.itoa x.2.1 := rfl
    have g2 : [opw x.1, Lib.itoa x.2.1, Lib.itoa x.2.2.1].getD 2 [] = Lib.itoa x.2.2.1 := rfl
    rw [w0, decide_eq_true rfl]
    simp only [Bool.not_true, br_false]
    rw [chk_true (by simp), g1, iNumber_spec O.a.1 O.a.2, bind_unit]
    simp only [Bool.not_true, br_false]
    rw [chk_true (by simp), g2, iNumber_spec O.b.1 O.b.2, bind_unit]
    simp only [Bool.not_true, br_false]
    rw [eta3 rfl rfl (O.nc hB).symm, iFmtInstr_spec, hf, bind_unit, decide_eq_true rfl]
    rfl
theorem iParseInstr_any {n : Nat} {s : List UInt8} (hs : s.length ≤ 1048576) (hn : 1048577 < n) : W (iParseInstr.f n s) (fun r => r = (zeroI, (false, ())) ∨ (okI 3 3 24 r.1 = true ∧ txtI r.1 = s)) := by
  by_cases h0 : s = []
  · subst h0
    have hx : indexS.f n wordsL [] = some (0, ()) := by
      obtain ⟨m, rfl⟩ : ∃ m, n = m + 1 := ⟨n - 1, by omega⟩
      rfl
    unfold iParseInstr.f
    rw [splitC_spec (by simp), bind_unit, iOps_spec, bind_unit]
    dsimp only
    have g0 : (splitR 32 []).getD 0 [] = [] := rfl
    rw [chk_true (by simp [splitR]), g0, hx, bind_unit, br_yes (by decide)]
    exact W_some.2 (.inl rfl)
  · have fin : ∀ x : Instr, W ((iFmtInstr.f n x).bind fun r8 => br (!decide (r8.1 = s)) (some ((0, (0, (0, 0))), (false, ()))) (some (x, (true, ())))) (fun r => r = (zeroI, (false, ())) ∨ (okI 3 3 24 r.1 = true ∧ txtI r.1 = s)) := fun x => by
      rw [iFmtInstr_spec, bind_unit]
      by_cases e : fmtI x = s
      · rw [decide_eq_true e]
        refine W_some.2 (.inr ?_)
        unfold fmtI at e
        split at e
        · rename_i h; exact ⟨h, e⟩
        · exact absurd e.symm h0
      · rw [decide_eq_false e]
        exact W_some.2 (.inl rfl)
    unfold iParseInstr.f
    rw [splitC_spec (by omega), bind_unit, iOps_spec, bind_unit]
    have hp := splitR_sum 32 s
    have hne := splitR_ne 32 s
    have hlen := splitR_len 32 s
    dsimp only
    generalize splitR 32 s = L at hp hne hlen
    have hpos := List.length_pos_iff.2 hne
    have piece : ∀ j, j < L.length → (L.getD j []).length ≤ 1048576 := fun j hj => by
      have := hp (L.getD j []) (by rw [getD_lt hj]; exact List.getElem_mem _)
      omega
    have hw : w64 ((L.length : Int) - 1) = (L.length : Int) - 1 := w64_id (by omega) (by omega)
    rw [chk_true (by omega), W_bind]
    refine W_and (indexS_any (by omega)) (fun r3 _ => ?_)
    rw [W_brd]
    refine ⟨fun _ => W_some.2 (.inl rfl), fun _ => ?_⟩
    rw [hw, W_br]
    refine ⟨fun _ => ?_, fun _ => ?_⟩
    · rw [W_br]
      refine ⟨fun _ => W_some.2 (.inl rfl), fun c => ?_⟩
      have c : (2 : Int) = (L.length : Int) - 1 := by simpa using c
      rw [chk_true (by omega), W_bind]
      refine W_and (iNumber_any (piece 1 (by omega))) (fun r6 _ => ?_)
      rw [W_br]
      refine ⟨fun _ => W_some.2 (.inl rfl), fun _ => ?_⟩
      rw [chk_true (by omega), W_bind]
      refine W_and (iNumber_any (piece 2 (by omega))) (fun r7 _ => ?_)
      rw [W_br]
      exact ⟨fun _ => W_some.2 (.inl rfl), fun _ => fin _⟩
    rw [W_br]
    refine ⟨fun _ => ?_, fun _ => ?_⟩
    · rw [W_br]
      refine ⟨fun _ => W_some.2 (.inl rfl), fun c => ?_⟩
      have c : (3 : Int) = (L.length : Int) - 1 := by simpa using c
      rw [chk_true (by omega), W_bind]
      refine W_and (iNumber_any (piece 1 (by omega))) (fun r6 _ => ?_)
      rw [W_br]
      refine ⟨fun _ => W_some.2 (.inl rfl), fun _ => ?_⟩
      rw [chk_true (by omega), W_bind]
      refine W_and (iNumber_any (piece 2 (by omega))) (fun r7 _ => ?_)
      rw [W_br]
      refine ⟨fun _ => W_some.2 (.inl rfl), fun _ => ?_⟩
      rw [chk_true (by omega), W_bind]
      refine W_and (iNumber_any (piece 3 (by omega))) (fun r8 _ => ?_)
      rw [W_br]
      exact ⟨fun _ => W_some.2 (.inl rfl), fun _ => fin _⟩
    rw [W_br]
    refine ⟨fun _ => ?_, fun _ => ?_⟩
    · rw [W_br]
      refine ⟨fun _ => W_some.2 (.inl rfl), fun c => ?_⟩
      have c : (1 : Int) = (L.length : Int) - 1 := by simpa using c
      rw [chk_true (by omega), W_bind]
      refine W_and (iNumber_any (piece 1 (by omega))) (fun r6 _ => ?_)
      rw [W_br]
      exact ⟨fun _ => W_some.2 (.inl rfl), fun _ => fin _⟩
    · rw [W_br]
      exact ⟨fun _ => W_some.2 (.inl rfl), fun _ => fin _⟩

/-! ### the reference -/
theorem wordLoop {n : Nat} {L : List (List UInt8)} {ρ : Type} {F : ((Int × (Int × (Int × (Int × (Int × Unit))))) → Option ρ) → (Int × (Int × (Int × (Int × (Int × Unit))))) → Option ρ} {op : Int} (hop : 1 ≤ op ∧ op ≤ 11) (hw : L.getD 0 [] = opw op) {X : Option ρ}
    (h1 : ∀ ih (i : Nat) (op : Int), i < 12 → F ih ((i : Int), (op, (0, (0, (0, ()))))) = if 0 < i ∧ L.getD 0 [] = wordsL.getD i [] then ih (((i + 1 : Nat) : Int), ((i : Int), (0, (0, (0, ()))))) else ih (((i + 1 : Nat) : Int), (op, (0, (0, (0, ()))))))
    (h2 : ∀ ih, F ih (((12 : Nat) : Int), (op, (0, (0, (0, ()))))) = X) (hn : 12 < n) : iter n F (0, (0, (0, (0, (0, ()))))) = X := by
  have := iter_line (F := F) (fun i => ((i : Int), ((if op.toNat < i then op else 0), (0, (0, (0, ())))))) 12 (R := X) (fun ih i hi => by
    show F ih ((i : Int), ((if op.toNat < i then op else 0), (0, (0, (0, ()))))) = ih (((i + 1 : Nat) : Int), ((if op.toNat < i + 1 then op else 0), (0, (0, (0, ())))))
    rw [h1 ih i _ hi]
    by_cases e : (i : Int) = op
    · rw [if_pos ⟨by omega, by rw [hw]; exact ((words_at hop i hi).2 e).symm⟩, if_pos (by omega), e]
    · rw [if_neg (fun c => e ((words_at hop i hi).1 (by rw [← c.2, hw])))]
      by_cases l : op.toNat < i
      · rw [if_pos l, if_pos (by omega)]
      · rw [if_neg l, if_neg (by omega)]) (fun ih => by
    show F ih (((12 : Nat) : Int), ((if op.toNat < 12 then op else 0), _)) = _
    rw [if_pos (by omega)]; exact h2 ih) (n := n) hn
  exact this
theorem l9Fits_spec (n : Nat) (x : Instr) : l9Fits.f n x = some (okI 3 3 24 x, ()) := by
  have hm := maxB_eq
  unfold l9Fits.f
  have hf := sL2Operands_spec n (3, (3, (List.replicate 24 ((0, (0, (0, 0))) : Instr)))) x ⟨by decide, by decide⟩ ⟨by decide, by decide⟩
  rw [chk_true (by refine ⟨rfl, ?_⟩; omega), hf, bind_unit]
  have e24 : (((3, (3, (List.replicate 24 ((0, (0, (0, 0))) : Instr)))) : Program).2.2.length : Int) = 24 := by simp
  rw [e24]
theorem sParseInstr_txt {n : Nat} {x : Instr} (h : okI 3 3 24 x = true) (hn : 1048577 < n) : sParseInstr.f n (txtI x) = some (x, (true, ())) := by
  have O := okI_all h (by omega) (by omega) (by omega)
  have hl := txtI_len O
  have hf : fmtI x = txtI x := if_pos h
  have hop := O.op
  unfold sParseInstr.f
  have e32 : UInt8.ofNat (32 : Int).toNat = 32 := rfl
  rw [l1Split_spec (by omega) (by omega) (by omega) hn, bind_unit, l9Words_spec, bind_unit, e32, txtI_split O]
  dsimp only
  have hwl : (wordsL.length : Int) = 12 := rfl
  refine wordLoop (L := partsI x) hop rfl (fun ih i op hi => ?_) (fun ih => ?_) (by omega)
  rotate_left
  · simp only [br_no (show ¬ ((12 : Nat) : Int) < (wordsL.length : Int) by rw [hwl]; omega), l9Uses_spec, bind_unit]
    have fin : ∀ at0 : Int, cut (α := (Bool × Unit)) ((l9Fits.f n x).bind fun r56 => br (!r56.1) (some (Sum.inr (α := Instr × (Bool × Unit)) (true, ()))) ((fmtInstr.f n x).bind fun r57 => some (.inr ((!decide (r57.1 = txtI x)), ())))) (fun y55 => br y55.1 (some ((0, (0, (0, 0))), (false, ()))) (some (x, (true, ())))) = some (x, (true, ())) := fun _ => by
      rw [l9Fits_spec, h, bind_unit]
      simp only [Bool.not_true, br_false]
      rw [fmtInstr_spec (by omega), hf, bind_unit, decide_eq_true rfl]
      rfl
    have hL2 : ((partsI x).length : Int) ≤ 2000000 := by
      have : (partsI x).length ≤ 4 := by unfold partsI; repeat' split
                                         all_goals simp
      omega
    cases hA : ptsA x.1
    · cases hB : ptsB x.1
      · cases hC : ptsC x.1
        · have e11 := halt_of hop hA hB hC
          have hu : usesL x.1 = [false, false, false] := by rw [e11]; rfl
          rw [hu]
          refine iter3 (1, (1, (x.1, (0, (0, (0, ())))))) (1, (2, (x.1, (0, (0, (0, ())))))) (1, (3, (x.1, (0, (0, (0, ())))))) (fun ih => ?_) (fun ih => ?_) (fun ih => ?_) (fun ih => ?_) (by omega)
          · show br (decide ((0 : Int) < 3)) (chk ((0 : Int) ≤ 0 ∧ (0 : Int) < 3) (cut _ _)) _ = _
            rw [br_yes (by decide), chk_true (by decide)]
            exact useN _
          · show br (decide ((1 : Int) < 3)) (chk ((0 : Int) ≤ 1 ∧ (1 : Int) < 3) (cut _ _)) _ = _
            rw [br_yes (by decide), chk_true (by decide)]
            exact useN _
          · show br (decide ((2 : Int) < 3)) (chk ((0 : Int) ≤ 2 ∧ (2 : Int) < 3) (cut _ _)) _ = _
            rw [br_yes (by decide), chk_true (by decide)]
            exact useN _
          · show br (decide ((3 : Int) < 3)) _ _ = _
            rw [br_no (by decide)]
            have ex : ((x.1, (0, (0, 0))) : Instr) = x := eta3 (O.na hA hB).symm (O.nb e11).symm (O.nc hB).symm
            simp only [ex]
            exact fin 0
        · have e8 : x.1 = 8 := by simpa [ptsC] using hC
          have hu : usesL x.1 = [false, true, false] := by rw [e8]; rfl
          have hp : partsI x = [opw x.1, Lib.itoa x.2.2.1] := by simp [partsI, hA, hB, hC]
          rw [hu]
          refine iter3 (1, (1, (x.1, (0, (0, (0, ())))))) (2, (2, (x.1, (0, (x.2.2.1, (0, ())))))) (2, (3, (x.1, (0, (x.2.2.1, (0, ())))))) (fun ih => ?_) (fun ih => ?_) (fun ih => ?_) (fun ih => ?_) (by omega)
          · show br (decide ((0 : Int) < 3)) (chk ((0 : Int) ≤ 0 ∧ (0 : Int) < 3) (cut _ _)) _ = _
            rw [br_yes (by decide), chk_true (by decide)]
            exact useN _
          · show br (decide ((1 : Int) < 3)) (chk ((0 : Int) ≤ 1 ∧ (1 : Int) < 3) (cut _ _)) _ = _
            rw [br_yes (by decide), chk_true (by decide)]
            exact useR (k := 1) (by omega) (by rw [hp]; simp only [List.length_cons, List.length_nil]; omega) hL2 (by rw [hp]; rfl) O.b (by omega) _
          · show br (decide ((2 : Int) < 3)) (chk ((0 : Int) ≤ 2 ∧ (2 : Int) < 3) (cut _ _)) _ = _
            rw [br_yes (by decide), chk_true (by decide)]
            exact useN _
          · show br (decide ((3 : Int) < 3)) _ _ = _
            rw [br_no (by decide)]
            have ex : ((x.1, (0, (x.2.2.1, 0))) : Instr) = x := eta3 (O.na hA hB).symm rfl (O.nc hB).symm
            simp only [ex]
            exact fin 0
      · have hu : usesL x.1 = [true, true, true] := by unfold usesL; rw [hB]; rfl
        have hp : partsI x = [opw x.1, Lib.itoa x.2.1, Lib.itoa x.2.2.1, Lib.itoa x.2.2.2] := by simp [partsI, hA, hB]
        rw [hu]
        refine iter3 (2, (1, (x.1, (x.2.1, (0, (0, ())))))) (3, (2, (x.1, (x.2.1, (x.2.2.1, (0, ())))))) (4, (3, (x.1, (x.2.1, (x.2.2.1, (x.2.2.2, ())))))) (fun ih => ?_) (fun ih => ?_) (fun ih => ?_) (fun ih => ?_) (by omega)
        · show br (decide ((0 : Int) < 3)) (chk ((0 : Int) ≤ 0 ∧ (0 : Int) < 3) (cut _ _)) _ = _
          rw [br_yes (by decide), chk_true (by decide)]
          exact useR (k := 1) (by omega) (by rw [hp]; simp only [List.length_cons, List.length_nil]; omega) hL2 (by rw [hp]; rfl) O.a (by omega) _
        · show br (decide ((1 : Int) < 3)) (chk ((0 : Int) ≤ 1 ∧ (1 : Int) < 3) (cut _ _)) _ = _
          rw [br_yes (by decide), chk_true (by decide)]
          exact useR (k := 2) (by omega) (by rw [hp]; simp only [List.length_cons, List.length_nil]; omega) hL2 (by rw [hp]; rfl) O.b (by omega) _
        · show br (decide ((2 : Int) < 3)) (chk ((0 : Int) ≤ 2 ∧ (2 : Int) < 3) (cut _ _)) _ = _
          rw [br_yes (by decide), chk_true (by decide)]
          exact useR (k := 3) (by omega) (by rw [hp]; simp only [List.length_cons, List.length_nil]; omega) hL2 (by rw [hp]; rfl) O.c (by omega) _
        · show br (decide ((3 : Int) < 3)) _ _ = _
          rw [br_no (by decide)]
          exact fin 0
    · have hB := ptsB_of hA
      have hu : usesL x.1 = [true, true, false] := by
        unfold usesL
        simp only [ptsA, decide_eq_true_eq] at hA
        rw [hB, if_neg (by decide), if_neg (by omega), if_neg (by omega)]
      have hp : partsI x = [opw x.1, Lib.itoa x.2.1, Lib.itoa x.2.2.1] := by simp [partsI, hA]
      rw [hu]
      refine iter3 (2, (1, (x.1, (x.2.1, (0, (0, ())))))) (3, (2, (x.1, (x.2.1, (x.2.2.1, (0, ())))))) (3, (3, (x.1, (x.2.1, (x.2.2.1, (0, ())))))) (fun ih => ?_) (fun ih => ?_) (fun ih => ?_) (fun ih => ?_) (by omega)
      · show br (decide ((0 : Int) < 3)) (chk ((0 : Int) ≤ 0 ∧ (0 : Int) < 3) (cut _ _)) _ = _
        rw [br_yes (by decide), chk_true (by decide)]
        exact useR (k := 1) (by omega) (by rw [hp]; simp only [List.length_cons, List.length_nil]; omega) hL2 (by rw [hp]; rfl) O.a (by omega) _
      · show br (decide ((1 : Int) < 3)) (chk ((0 : Int) ≤ 1 ∧ (1 : Int) < 3) (cut _ _)) _ = _
        rw [br_yes (by decide), chk_true (by decide)]
        exact useR (k := 2) (by omega) (by rw [hp]; simp only [List.length_cons, List.length_nil]; omega) hL2 (by rw [hp]; rfl) O.b (by omega) _
      · show br (decide ((2 : Int) < 3)) (chk ((0 : Int) ≤ 2 ∧ (2 : Int) < 3) (cut _ _)) _ = _
        rw [br_yes (by decide), chk_true (by decide)]
        exact useN _
      · show br (decide ((3 : Int) < 3)) _ _ = _
        rw [br_no (by decide)]
        have ex : ((x.1, (x.2.1, (x.2.2.1, 0))) : Instr) = x := eta3 rfl rfl (O.nc hB).symm
        simp only [ex]
        exact fin 0
  · simp only [br_yes (show (i : Int) < (wordsL.length : Int) by rw [hwl]; omega), Int.toNat_natCast]
    rw [chk_true (by rw [hwl]; omega), w64_succ (by omega)]
    have hpos : (0 : Int) < ((partsI x).length : Int) := by simp [partsI]
    by_cases h0 : (0 : Int) < (i : Int)
    · rw [br_yes h0, chk_true ⟨by omega, hpos⟩]
      simp only [cut_inr]
      by_cases e : (partsI x).getD 0 [] = wordsL.getD i []
      · rw [decide_eq_true e, br_true, if_pos ⟨by omega, e⟩]
      · rw [decide_eq_false e, br_false, if_neg (fun c => e c.2)]
    · rw [br_no h0]
      simp only [cut_inr, br_false]
      rw [if_neg (fun c => h0 (by omega))]
theorem sParseInstr_any {n : Nat} {s : List UInt8} (hs : s.length ≤ 1048576) (hn : 1048577 < n) : W (sParseInstr.f n s) (fun r => r = (zeroI, (false, ())) ∨ (okI 3 3 24 r.1 = true ∧ txtI r.1 = s)) := by
  unfold sParseInstr.f
  rw [l1Split_spec (by omega) (by omega) (by omega) hn, bind_unit, l9Words_spec, bind_unit]
  have hp := splitR_sum (UInt8.ofNat (32 : Int).toNat) s
  have hne := splitR_ne (UInt8.ofNat (32 : Int).toNat) s
  have hlen := splitR_len (UInt8.ofNat (32 : Int).toNat) s
  dsimp only
  generalize splitR (UInt8.ofNat (32 : Int).toNat) s = L at hp hne hlen
  have hpos := List.length_pos_iff.2 hne
  have hwl : (wordsL.length : Int) = 12 := rfl
  refine W_up (fun (i : Nat) (o : Int) => ((i : Int), (o, (0, (0, (0, ())))))) 12 (fun i o => True) (s0 := 0) rfl trivial (by omega) (fun ih op _ => ?_) (fun ih i op hi _ hS => ?_)
  · simp only [br_no (show ¬ ((12 : Nat) : Int) < (wordsL.length : Int) by rw [hwl]; omega), l9Uses_spec, bind_unit]
    have hul : (usesL op).length = 3 := by
      unfold usesL
      repeat' split
      all_goals rfl
    refine W_up (fun (i : Nat) (o : Int × (Int × (Int × Int))) => (o.1, ((i : Int), (op, (o.2.1, (o.2.2.1, (o.2.2.2, ()))))))) 3 (fun i o => 0 ≤ o.1 ∧ o.1 ≤ (i : Int) + 1) (s0 := (1, (0, (0, 0)))) rfl ⟨by decide, by decide⟩ (by omega) (fun ih o _ => ?_) (fun ih i o hi hI hS2 => ?_)
    · simp only [br_no (show ¬ ((3 : Nat) : Int) < ((usesL op).length : Int) by rw [hul]; omega)]
      refine W_cut.2 (W_and (P := fun z => ∃ y : Bool × Unit, z = .inr y ∧ (y.1 = false → okI 3 3 24 (op, (o.2.1, (o.2.2.1, o.2.2.2))) = true ∧ txtI (op, (o.2.1, (o.2.2.1, o.2.2.2))) = s)) ?_ (fun z hz => ?_))
      · rw [l9Fits_spec, bind_unit]
        cases hk : okI 3 3 24 (op, (o.2.1, (o.2.2.1, o.2.2.2)))
        · exact W_some.2 ⟨_, rfl, fun h => by cases h⟩
        · simp only [Bool.not_true, br_false]
          rw [fmtInstr_spec (by omega), bind_unit, fmtI, if_pos hk]
          exact W_some.2 ⟨_, rfl, fun h => ⟨trivial, by simpa using h⟩⟩
      · obtain ⟨y, rfl, hy⟩ := hz
        simp only
        rw [W_br]
        exact ⟨fun _ => W_some.2 (.inl rfl), fun h => W_some.2 (.inr (hy h))⟩
    · simp only [br_yes (show (i : Int) < ((usesL op).length : Int) by rw [hul]; omega), Int.toNat_natCast]
      have hI : 0 ≤ o.1 ∧ o.1 ≤ (i : Int) + 1 := hI
      rw [chk_true (by rw [hul]; omega)]
      refine W_cut.2 (W_and (P := fun z => ∃ y : Bool × Unit, z = .inr y ∧ (y.1 = true → o.1 < (L.length : Int))) ?_ (fun z hz => ?_))
      · rw [W_br]
        exact ⟨fun _ => W_some.2 ⟨_, rfl, fun h => by simpa using h⟩, fun _ => W_some.2 ⟨_, rfl, fun h => by cases h⟩⟩
      · obtain ⟨y, rfl, hy⟩ := hz
        simp only
        refine W_cut.2 (W_and (P := fun z => ∃ y : Int × (Int × Unit), z = .inr y ∧ 0 ≤ y.1 ∧ y.1 ≤ (i : Int) + 2) ?_ (fun z hz => ?_))
        · rw [W_br]
          refine ⟨fun h => ?_, fun _ => W_some.2 ⟨_, rfl, by show 0 ≤ o.1; omega, by show o.1 ≤ _; omega⟩⟩
          have hk := hy h
          have := hp (L.getD o.1.toNat []) (by rw [getD_lt (by omega)]; exact List.getElem_mem _)
          rw [chk_true ⟨hI.1, hk⟩, W_bind]
          refine W_and (read_any (by omega) (by omega)) (fun r _ => W_some.2 ⟨_, rfl, ?_, ?_⟩)
          · show 0 ≤ w64 (o.1 + 1)
            rw [w64_id (by omega) (by omega)]; omega
          · show w64 (o.1 + 1) ≤ _
            rw [w64_id (by omega) (by omega)]; omega
        · obtain ⟨y2, rfl, hy0, hy1⟩ := hz
          simp only
          rw [w64_succ (by omega), W_brd]
          refine ⟨fun _ => hS2 (y2.1, (y2.2.1, (o.2.2.1, o.2.2.2))) ⟨hy0, by show y2.1 ≤ ((i + 1 : Nat) : Int) + 1; omega⟩, fun _ => ?_⟩
          rw [W_brd]
          exact ⟨fun _ => hS2 (y2.1, (o.2.1, (y2.2.1, o.2.2.2))) ⟨hy0, by show y2.1 ≤ ((i + 1 : Nat) : Int) + 1; omega⟩, fun _ => hS2 (y2.1, (o.2.1, (o.2.2.1, y2.2.1))) ⟨hy0, by show y2.1 ≤ ((i + 1 : Nat) : Int) + 1; omega⟩⟩
  · simp only [br_yes (show (i : Int) < (wordsL.length : Int) by rw [hwl]; omega), Int.toNat_natCast]
    rw [chk_true (by rw [hwl]; omega)]
    refine W_cut.2 (W_and (P := fun z => ∃ y : Bool × Unit, z = .inr y) ?_ (fun z hz => ?_))
    · rw [W_brd]
      refine ⟨fun _ => ?_, fun _ => W_some.2 ⟨_, rfl⟩⟩
      rw [chk_true (by omega)]
      exact W_some.2 ⟨_, rfl⟩
    · obtain ⟨y, rfl⟩ := hz
      simp only
      rw [w64_succ (by omega), W_br]
      exact ⟨fun _ => hS _ trivial, fun _ => hS _ trivial⟩
/-- both programs read the same -/
theorem parseI_same {n : Nat} {s : List UInt8} (hs : s.length ≤ 1048576) (hn : 1048577 < n) : ∃ r, sParseInstr.f n s = some r ∧ iParseInstr.f n s = some r ∧ ToldI s r := by
  obtain ⟨r, e, h⟩ := toldI_of (sParseInstr_any hs hn) (fun x o et => by subst et; exact sParseInstr_txt o hn)
  obtain ⟨r', e', h'⟩ := toldI_of (iParseInstr_any hs hn) (fun x o et => by subst et; exact iParseInstr_txt o hn)
  have := h.one h'
  subst this
  exact ⟨r, e, e', h⟩
end Go.AmT
