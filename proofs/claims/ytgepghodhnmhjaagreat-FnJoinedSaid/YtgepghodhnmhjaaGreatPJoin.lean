/- Networks that stand beside each other, in plain Lean; their least streams. -/
import Derived.Test.YtgepghodhnmhjaaGreatLJoin
import Derived.Test.YtgepghodhnmhjaaGreatPReach
import Derived.Test.YtgepghodhnmhjaaGreatPLeast
import Derived.Test.YtgepghodhnmhjaaGreatPGenS
namespace Go.AmT
open Go Go.Am
set_option linter.unusedVariables false
set_option linter.unusedSimpArgs false

theorem j_sL3Program {n : Nat} {p : Program} (h : SmallP p) : sL3Program.f n p = some (p, ()) := by
  have := h.code
  unfold sL3Program.f
  rw [small_chk (by simp; omega)]; rfl
theorem j_sL3Link {n : Nat} {p : Link} (h : SmallL p) : sL3Link.f n p = some (p, ()) := by
  unfold sL3Link.f
  rw [sL1Copy_spec h.tokens]; rfl
theorem j_sL3Copy {n : Nat} {nt : Network} (h : SmallN nt) (hn : 1048576 < n) : sL3Copy.f n nt = some (nt, ()) := by
  have hp := h.progs
  have hl := h.links
  unfold sL3Copy.f
  refine Eq.trans (push_loop nt.1 id (fun i s => (i, (s, ()))) (R := fun ps => some ((ps, nt.2), ())) (fun ih i hi s hs => ?_) (fun ih ps => ?_) (by omega)) (by simp)
  · have c0 : 0 ≤ (i : Int) := by omega
    have c1 : (i : Int) < (nt.1.length : Int) := by omega
    have e1 : nt.1.getD i zProgram = nt.1[i] := getD_lt hi _
    simp only [c1, c0, and_self, chk_T, decide_true, br_true, Int.toNat_natCast, e1, j_sL3Program (h.prog _ (List.getElem_mem hi)), Option.bind_some]
    rw [small_chk (by simp; omega), w64_succ (by omega)]; rfl
  · simp only [br_no (Int.lt_irrefl _)]
    refine Eq.trans (push_loop nt.2 id (fun i s => (i, (ps, (s, ())))) (R := fun ls => some ((ps, ls), ())) (fun ih i hi s hs => ?_) (fun ih ls => br_no (Int.lt_irrefl _)) (by omega)) (by simp)
    have c0 : 0 ≤ (i : Int) := by omega
    have c1 : (i : Int) < (nt.2.length : Int) := by omega
    have e1 : nt.2.getD i zLink = nt.2[i] := getD_lt hi _
    simp only [c1, c0, and_self, chk_T, decide_true, br_true, Int.toNat_natCast, e1, j_sL3Link (h.link _ (List.getElem_mem hi)), Option.bind_some]
    rw [small_chk (by simp; omega), w64_succ (by omega)]; rfl
theorem concatPG_W {n : Nat} {k : Nat} (hk : k ≤ 1048576) : concatPG.f n (k : Int) = some ([], ()) := by
  unfold concatPG.f
  rw [br_no (by omega), Int.sub_zero, w64_id (by omega) (by omega)]
  by_cases h : (0 : Int) < (k : Int)
  · have mB : (maxB : Int) = 140737488355328 := rfl
    rw [br_yes h, chk_true (by omega), chk_true (by rw [mB]; omega), chk_true (by omega)]
  · rw [br_no h]
theorem concatP_two {n : Nat} {a b : List Program} (ha : a.length ≤ 12) (hb : b.length ≤ 12) (hn : 1048576 < n) : concatP.f n [a, b] = some (a ++ b, ()) := by
  unfold concatP.f
  refine W_eq.1 ?_
  refine W_up (fun i (s : Nat) => ((s : Int), ((i : Int), ()))) 2 (fun i s => s = (if i = 0 then 0 else if i = 1 then a.length else a.length + b.length)) (s0 := 0) rfl rfl (by omega) (fun ih s hI => ?_) (fun ih i s hi hI hS => ?_)
  · subst hI
    simp only [List.length_cons, List.length_nil]
    rw [br_no (by omega)]
    simp only [show ¬ (2 = 0) by omega, show ¬ (2 = 1) by omega, if_false]
    rw [concatPG_W (by omega), bind_unit]
    refine W_up (fun i (s : List Program) => ((i : Int), (s, ()))) 2 (fun i s => s = (if i = 0 then [] else if i = 1 then a else a ++ b)) (s0 := []) rfl rfl (by omega) (fun ih s hI => ?_) (fun ih i s hi hI hS => ?_)
    · subst hI
      rw [br_no (by omega)]; exact W_some.2 rfl
    · subst hI
      rw [br_yes (by omega), chk_true (by omega)]
      rcases (by omega : i = 0 ∨ i = 1) with e | e
      · subst e
        refine W_and (Q := fun x => x = (a ++ b, ())) (m := _) (P := fun x => x = (a ++ b, ())) ?_ (fun x h => h)
        show W (chk ((([] : List Program).length + a.length) * 40 ≤ maxB) (ih (w64 (((0 : Nat) : Int) + 1), (([] : List Program) ++ a, ())))) _
        rw [small_chk (by simp; omega), w64_succ (by omega)]
        exact hS _ (by simp)
      · subst e
        show W (chk ((a.length + b.length) * 40 ≤ maxB) (ih (w64 (((1 : Nat) : Int) + 1), (a ++ b, ())))) _
        rw [small_chk (by omega), w64_succ (by omega)]
        exact hS _ (by simp)
  · subst hI
    simp only [List.length_cons, List.length_nil]
    rw [br_yes (by omega), chk_true (by omega)]
    rcases (by omega : i = 0 ∨ i = 1) with e | e
    · subst e
      show W (br (decide ((w64 (((0 : Nat) : Int) + (a.length : Int))) < 0)) none (ih ((w64 (((0 : Nat) : Int) + (a.length : Int))), (w64 (((0 : Nat) : Int) + 1), ())))) _
      rw [w64_id (n := ((0 : Nat) : Int) + (a.length : Int)) (by omega) (by omega), br_no (by omega), w64_succ (by omega), show (((0 : Nat) : Int) + (a.length : Int)) = (a.length : Int) by omega]
      exact hS _ (by simp)
    · subst e
      show W (br (decide ((w64 ((a.length : Int) + (b.length : Int))) < 0)) none (ih ((w64 ((a.length : Int) + (b.length : Int))), (w64 (((1 : Nat) : Int) + 1), ())))) _
      rw [w64_id (n := (a.length : Int) + (b.length : Int)) (by omega) (by omega), br_no (by omega), w64_succ (by omega), show ((a.length : Int) + (b.length : Int)) = ((a.length + b.length : Nat) : Int) by omega]
      exact hS _ (by simp)

def jo (N : Nat) (x : Int) : Int := if 0 ≤ x then x + (N : Int) else x
def joL (N : Nat) (l : Link) : Link := (jo N l.1, l.2.1, jo N l.2.2.1, l.2.2.2.1, l.2.2.2.2)
def joinN (a b : Network) : Network := (a.1 ++ b.1, a.2 ++ b.2.map (joL a.1.length))
theorem ends_rng {nt : Network} (o : OkN nt) {l : Link} (hl : l ∈ nt.2) : -1 ≤ l.1 ∧ l.1 < 12 ∧ -1 ≤ l.2.2.1 ∧ l.2.2.1 < 12 := by
  obtain ⟨i, hi, rfl⟩ := List.getElem_of_mem hl
  have E := o.ends i hi
  have := o.progs
  refine ⟨?_, ?_, ?_, ?_⟩
  · rcases E.out with ⟨h, _⟩ | ⟨h, _, _⟩ <;> omega
  · rcases E.out with ⟨h, _⟩ | ⟨_, h, _⟩ <;> omega
  · rcases E.inn with ⟨h, _⟩ | ⟨h, _, _⟩ <;> omega
  · rcases E.inn with ⟨h, _⟩ | ⟨_, h, _⟩ <;> omega
theorem join_small {a b : Network} (oa : OkN a) (ob : OkN b) (ha : SmallN a) (hb : SmallN b) : SmallN (joinN a b) := by
  have := oa.progs; have := ob.progs; have := oa.links; have := ob.links
  refine ⟨by simp [joinN]; omega, fun p hp => ?_, by simp [joinN]; omega, fun l hl => ?_⟩
  · rcases List.mem_append.1 hp with h | h
    · exact ha.prog p h
    · exact hb.prog p h
  · rcases List.mem_append.1 hl with h | h
    · exact ha.link l h
    · obtain ⟨l', h', rfl⟩ := List.mem_map.1 h
      exact ⟨(hb.link l' h').tokens⟩
noncomputable def joinR (a b : Network) : Network × (Bool × Unit) := if okN (joinN a b) = true then (joinN a b, (true, ())) else (([], []), (false, ()))
theorem cut_jo {ρ : Type} {x : Int} {y1 y2 y3 : Int} {t : List Int} {N : Nat} (hx : x < 12) (hN : N ≤ 12) {f : (Int × (Int × (Int × (Int × (List Int × Unit))))) → Option ρ} :
    cut (br (decide (0 ≤ x)) (some (.inr ((w64 (x + (N : Int))), (y1, (y2, (y3, (t, ()))))))) (some (.inr (x, (y1, (y2, (y3, (t, ())))))))) f = f (jo N x, (y1, (y2, (y3, (t, ()))))) := by
  unfold jo
  by_cases h : 0 ≤ x
  · rw [br_yes h, if_pos h, w64_id (by omega) (by omega)]; rfl
  · rw [br_no h, if_neg h]; rfl
theorem cut_jo2 {ρ : Type} {x : Int} {y1 y2 y3 : Int} {t : List Int} {N : Nat} (hx : x < 12) (hN : N ≤ 12) {f : (Int × (Int × (Int × (Int × (List Int × Unit))))) → Option ρ} :
    cut (br (decide (0 ≤ x)) (some (.inr (y1, (y2, ((w64 (x + (N : Int))), (y3, (t, ()))))))) (some (.inr (y1, (y2, (x, (y3, (t, ())))))))) f = f (y1, (y2, (jo N x, (y3, (t, ()))))) := by
  unfold jo
  by_cases h : 0 ≤ x
  · rw [br_yes h, if_pos h, w64_id (by omega) (by omega)]; rfl
  · rw [br_no h, if_neg h]; rfl
theorem iJoin_spec {n : Nat} {a b : Network} (oa : OkN a) (ob : OkN b) (ha : SmallN a) (hb : SmallN b) (hn : 1048576 < n) : iJoin.f n a b = some (joinR a b) := by
  have := oa.progs; have := ob.progs; have := oa.links; have := ob.links
  unfold iJoin.f
  rw [iIsNetwork_spec ha hn, iIsNetwork_spec hb hn, show okN a = true by simp [okN, oa], show okN b = true by simp [okN, ob]]
  simp only [bind_unit, Option.bind_some, Bool.not_true, br_false, cut_inr]
  rw [concatP_two oa.progs ob.progs hn]
  simp only [bind_unit, Option.bind_some]
  have ec : cloneLk.f n a.2 = some (a.2, ()) := by
    unfold cloneLk.f cloneLkO.f
    simp only [Option.isNone_some, br_false, Option.getD_some]
    rw [small_chk (by omega)]
  rw [ec]
  simp only [bind_unit, Option.bind_some]
  refine W_eq.1 ?_
  refine W_up (fun i (s : List Link) => ((i : Int), (a.1 ++ b.1, (s, ())))) b.2.length (fun i s => s = a.2 ++ (b.2.take i).map (joL a.1.length)) (s0 := a.2) rfl (by simp) (by omega) (fun ih s hI => ?_) (fun ih i s hi hI hS => ?_)
  · subst hI
    rw [List.take_length]
    simp only [br_no (Int.lt_irrefl _)]
    rw [show (a.1 ++ b.1, a.2 ++ b.2.map (joL a.1.length)) = joinN a b from rfl, iChecked_spec (join_small oa ob ha hb) hn, bind_unit]
    refine W_some.2 ?_
    unfold joinR
    split <;> rfl
  · subst hI
    have g := ends_rng ob (l := b.2.getD i zLink) (by rw [getD_lt hi]; exact List.getElem_mem hi)
    simp only [br_yes (show (i : Int) < (b.2.length : Int) by omega), Int.toNat_natCast]
    rw [chk_true (by omega), cut_jo g.2.1 oa.progs]
    simp only
    rw [cut_jo2 g.2.2.2 oa.progs]
    simp only
    rw [small_chk (by simp; omega), w64_succ (by omega)]
    refine hS _ ?_
    rw [List.take_succ_eq_append_getElem hi, List.map_append, List.append_assoc, ← getD_lt hi zLink]; rfl
theorem sJoin_spec {n : Nat} {a b : Network} (oa : OkN a) (ob : OkN b) (ha : SmallN a) (hb : SmallN b) (hn : 1048576 < n) : sJoinNetworks.f n a b = some (joinR a b) := by
  have := oa.progs; have := ob.progs; have := oa.links; have := ob.links
  unfold sJoinNetworks.f
  rw [sIsNetwork_spec ha hn, sIsNetwork_spec hb hn, show okN a = true by simp [okN, oa], show okN b = true by simp [okN, ob]]
  simp only [bind_unit, Option.bind_some, Bool.not_true, br_false, cut_inr]
  rw [j_sL3Copy ha hn]
  simp only [bind_unit, Option.bind_some]
  refine W_eq.1 ?_
  refine W_up (fun i (s : List Program) => ((i : Int), (s, (a.2, ())))) b.1.length (fun i s => s = a.1 ++ b.1.take i) (s0 := a.1) rfl (by simp) (by omega) (fun ih s hI => ?_) (fun ih i s hi hI hS => ?_)
  rotate_left
  · subst hI
    simp only [br_yes (show (i : Int) < (b.1.length : Int) by omega), Int.toNat_natCast]
    rw [chk_true (by omega), getD_lt hi, j_sL3Program (hb.prog _ (List.getElem_mem hi)), bind_unit, small_chk (by simp; omega), w64_succ (by omega)]
    refine hS _ ?_
    rw [List.take_succ_eq_append_getElem hi, List.append_assoc]
  subst hI
  rw [List.take_length]
  simp only [br_no (Int.lt_irrefl _)]
  refine W_up (fun i (s : List Link) => ((i : Int), (a.1 ++ b.1, (s, ())))) b.2.length (fun i s => s = a.2 ++ (b.2.take i).map (joL a.1.length)) (s0 := a.2) rfl (by simp) (by omega) (fun ih s hI => ?_) (fun ih i s hi hI hS => ?_)
  · subst hI
    rw [List.take_length]
    simp only [br_no (Int.lt_irrefl _)]
    rw [show (a.1 ++ b.1, a.2 ++ b.2.map (joL a.1.length)) = joinN a b from rfl, sIsNetwork_spec (join_small oa ob ha hb) hn, bind_unit]
    unfold joinR
    cases okN (joinN a b) with
    | true => exact W_some.2 rfl
    | false => exact W_some.2 rfl
  · subst hI
    have g := ends_rng ob (l := b.2.getD i zLink) (by rw [getD_lt hi]; exact List.getElem_mem hi)
    simp only [br_yes (show (i : Int) < (b.2.length : Int) by omega), Int.toNat_natCast]
    rw [chk_true (by omega), j_sL3Link (hb.link _ (by rw [getD_lt hi]; exact List.getElem_mem hi)), bind_unit, cut_jo g.2.1 oa.progs]
    simp only
    rw [cut_jo2 g.2.2.2 oa.progs]
    simp only
    rw [small_chk (by simp; omega), w64_succ (by omega)]
    refine hS _ ?_
    rw [List.take_succ_eq_append_getElem hi, List.map_append, List.append_assoc, ← getD_lt hi zLink]; rfl

/-! ### the least streams of both -/
theorem EndOk.at {nt : Network} (o : OkN nt) {j : Nat} (hj : j < nt.2.length) : EndOk nt (lnk nt j) := by
  unfold lnk; rw [getD_lt hj]; exact o.ends j hj
section
variable {a b : Network}
theorem jl1 : (joinN a b).1.length = a.1.length + b.1.length := by simp [joinN]
theorem jl2 : (joinN a b).2.length = a.2.length + b.2.length := by simp [joinN]
theorem jprog_l {k : Nat} (h : k < a.1.length) : prog (joinN a b) k = prog a k := by
  unfold prog joinN
  simp only
  rw [getD_lt (by simp; omega), List.getElem_append_left h, getD_lt h]
theorem jprog_r {k : Nat} (h : k < b.1.length) : prog (joinN a b) (a.1.length + k) = prog b k := by
  unfold prog joinN
  simp only
  rw [getD_lt (by simp; omega), List.getElem_append_right (by omega), getD_lt h]
  simp
theorem jlnk_l {j : Nat} (h : j < a.2.length) : lnk (joinN a b) j = lnk a j := by
  unfold lnk joinN
  simp only
  rw [getD_lt (by simp; omega), List.getElem_append_left h, getD_lt h]
theorem jlnk_r {j : Nat} (h : j < b.2.length) : lnk (joinN a b) (a.2.length + j) = joL a.1.length (lnk b j) := by
  unfold lnk joinN
  simp only
  rw [getD_lt (by simp; omega), List.getElem_append_right (by omega), getD_lt h]
  simp
theorem atL_l {f g : List (List Int)} {j : Nat} (h : j < f.length) : atL (f ++ g) j = atL f j := by
  unfold atL; rw [getD_lt (by simp; omega), getD_lt h, List.getElem_append_left h]
theorem atL_r {f g : List (List Int)} {j L : Nat} (h : f.length = L) : atL (f ++ g) (L + j) = atL g j := by
  subst h
  unfold atL
  rw [List.getD_eq_getElem?_getD, List.getD_eq_getElem?_getD, List.getElem?_append_right (by omega)]
  simp
theorem inF_l (oa : OkN a) (oj : OkN (joinN a b)) {f g : List (List Int)} (hf : f.length = a.2.length) {k : Nat} (hk : k < a.1.length) : inF (joinN a b) (atL (f ++ g)) k = inF a (atL f) k := by
  funext q
  unfold inF
  rw [jprog_l hk]
  split
  · rename_i hq
    obtain ⟨h1, h2, h3⟩ := lto_spec oa hk hq
    have e : lto (joinN a b) k q = lto a k q := lto_uniq oj (by rw [jl2]; omega) (by rw [jl1]; omega) (by rw [jprog_l hk]; exact hq) (by rw [jlnk_l h1]; exact h2) (by rw [jlnk_l h1]; exact h3)
    rw [e, atL_l (by omega)]
  · rfl
theorem inF_r (ob : OkN b) (oj : OkN (joinN a b)) {f g : List (List Int)} (hf : f.length = a.2.length) {k : Nat} (hk : k < b.1.length) : inF (joinN a b) (atL (f ++ g)) (a.1.length + k) = inF b (atL g) k := by
  funext q
  unfold inF
  rw [jprog_r hk]
  split
  · rename_i hq
    obtain ⟨h1, h2, h3⟩ := lto_spec ob hk hq
    have e : lto (joinN a b) (a.1.length + k) q = a.2.length + lto b k q := by
      refine lto_uniq oj (by rw [jl2]; omega) (by rw [jl1]; omega) (by rw [jprog_r hk]; exact hq) ?_ ?_
      · rw [jlnk_r h1]; unfold joL jo; simp only; rw [h2, if_pos (by omega)]; omega
      · rw [jlnk_r h1]; exact h3
    rw [e, atL_r hf]
  · rfl
theorem runK_l (oa : OkN a) (oj : OkN (joinN a b)) {f g : List (List Int)} (hf : f.length = a.2.length) {k : Nat} (hk : k < a.1.length) : runK (joinN a b) (atL (f ++ g)) k = runK a (atL f) k := by
  unfold runK; rw [jprog_l hk, inF_l oa oj hf hk]
theorem runK_r (ob : OkN b) (oj : OkN (joinN a b)) {f g : List (List Int)} (hf : f.length = a.2.length) {k : Nat} (hk : k < b.1.length) : runK (joinN a b) (atL (f ++ g)) (a.1.length + k) = runK b (atL g) k := by
  unfold runK; rw [jprog_r hk, inF_r ob oj hf hk]
theorem newS_l (oa : OkN a) (oj : OkN (joinN a b)) {f g : List (List Int)} (hf : f.length = a.2.length) {j : Nat} (hj : j < a.2.length) : newS (joinN a b) (atL (f ++ g)) j = newS a (atL f) j := by
  unfold newS toks
  rw [jlnk_l hj]
  rcases (EndOk.at oa hj).out with ⟨h1, h2⟩ | ⟨h1, h2, h3, h4⟩
  · rw [if_neg (by omega), if_neg (by omega)]
  · rw [if_pos h1, if_pos h1, runK_l oa oj hf (by omega)]
theorem newS_r (ob : OkN b) (oj : OkN (joinN a b)) {f g : List (List Int)} (hf : f.length = a.2.length) {j : Nat} (hj : j < b.2.length) : newS (joinN a b) (atL (f ++ g)) (a.2.length + j) = newS b (atL g) j := by
  unfold newS toks
  rw [jlnk_r hj]
  unfold joL jo
  simp only
  rcases (EndOk.at ob hj).out with ⟨h1, h2⟩ | ⟨h1, h2, h3, h4⟩
  · rw [if_neg (show ¬ 0 ≤ (lnk b j).1 by omega), if_neg (by omega), if_neg (by omega)]
  · rw [if_pos h1, if_pos (by omega), if_pos h1, show ((lnk b j).1 + (a.1.length : Int)).toNat = a.1.length + (lnk b j).1.toNat by omega, runK_r ob oj hf (by omega)]
theorem range_two (p q : Nat) {β : Type} (f : Nat → β) : (List.range (p + q)).map f = (List.range p).map f ++ (List.range q).map (fun i => f (p + i)) := by
  rw [List.range_add, List.map_append, List.map_map]; rfl
theorem rndP_join (oa : OkN a) (ob : OkN b) (oj : OkN (joinN a b)) {f g f' g' : List (List Int)} (hf : f.length = a.2.length) (ea : rndP a f = some f') (eb : rndP b g = some g') : rndP (joinN a b) (f ++ g) = some (f' ++ g') := by
  obtain ⟨oka, rfl⟩ := rndP_some ea
  obtain ⟨okb, rfl⟩ := rndP_some eb
  unfold rndOk at oka okb
  rw [Bool.and_eq_true, List.all_eq_true, List.all_eq_true] at oka okb
  have ok : rndOk (joinN a b) (atL (f ++ g)) = true := by
    unfold rndOk
    rw [Bool.and_eq_true, List.all_eq_true, List.all_eq_true]
    refine ⟨fun k hk => ?_, fun j hj => ?_⟩
    · have hk := List.mem_range.1 hk
      rw [jl1] at hk
      by_cases c : k < a.1.length
      · rw [runK_l oa oj hf c]; exact oka.1 k (List.mem_range.2 c)
      · obtain ⟨i, rfl⟩ : ∃ i, k = a.1.length + i := ⟨k - a.1.length, by omega⟩
        rw [runK_r ob oj hf (by omega)]; exact okb.1 i (List.mem_range.2 (by omega))
    · have hj := List.mem_range.1 hj
      rw [jl2] at hj
      by_cases c : j < a.2.length
      · rw [newS_l oa oj hf c]; exact oka.2 j (List.mem_range.2 c)
      · obtain ⟨i, rfl⟩ : ∃ i, j = a.2.length + i := ⟨j - a.2.length, by omega⟩
        rw [newS_r ob oj hf (by omega)]; exact okb.2 i (List.mem_range.2 (by omega))
  unfold rndP
  rw [if_pos ok, jl2, range_two]
  congr 2
  · refine List.map_congr_left (fun j hj => newS_l oa oj hf (List.mem_range.1 hj))
  · refine List.map_congr_left (fun j hj => newS_r ob oj hf (List.mem_range.1 hj))
theorem least_join (oa : OkN a) (ob : OkN b) (oj : OkN (joinN a b)) : ∀ (m : Nat) (r : Int) (f g f' g' : List (List Int)) (r1 r2 : Int), f.length = a.2.length → leastF a m r f = some (f', r1) → leastF b m r g = some (g', r2) → ∃ r3, leastF (joinN a b) m r (f ++ g) = some (f' ++ g', r3)
  | 0, r, f, g, f', g', r1, r2, hf, ea, eb => by cases ea
  | m + 1, r, f, g, f', g', r1, r2, hf, ea, eb => by
    unfold leastF at ea eb ⊢
    cases e1 : rndP a f with
    | none => rw [e1] at ea; cases ea
    | some f1 =>
    cases e2 : rndP b g with
    | none => rw [e2] at eb; cases eb
    | some g1 =>
    rw [e1] at ea; rw [e2] at eb
    rw [rndP_join oa ob oj hf e1 e2]
    have hf1 : f1.length = a.2.length := by obtain ⟨_, rfl⟩ := rndP_some e1; simp
    simp only at ea eb ⊢
    by_cases c1 : f1 = f
    · rw [if_pos c1] at ea
      cases ea
      by_cases c2 : g1 = g
      · rw [if_pos c2] at eb
        cases eb
        subst c1; subst c2
        rw [if_pos rfl]; exact ⟨_, rfl⟩
      · rw [if_neg c2] at eb
        rw [if_neg (fun h => c2 (List.append_inj' h (by obtain ⟨_, rfl⟩ := rndP_some e2; subst c1; have := congrArg List.length h; simp at this ⊢; omega)).2)]
        subst c1
        have : ∃ r', leastF a m (r + 1) f1 = some (f1, r') := by
          cases m with
          | zero => cases eb
          | succ m => unfold leastF; rw [e1]; simp only [if_true]; exact ⟨_, rfl⟩
        obtain ⟨r', h⟩ := this
        exact least_join oa ob oj m (r + 1) _ _ _ _ _ _ hf h eb
    · rw [if_neg c1] at ea
      rw [if_neg (fun h => c1 (List.append_inj h (by omega)).1)]
      by_cases c2 : g1 = g
      · rw [if_pos c2] at eb
        cases eb
        subst c2
        have : ∃ r', leastF b m (r + 1) g1 = some (g1, r') := by
          cases m with
          | zero => cases ea
          | succ m => unfold leastF; rw [e2]; simp only [if_true]; exact ⟨_, rfl⟩
        obtain ⟨r', h⟩ := this
        exact least_join oa ob oj m (r + 1) _ _ _ _ _ _ hf1 ea h
      · rw [if_neg c2] at eb
        exact least_join oa ob oj m (r + 1) _ _ _ _ _ _ hf1 ea eb
theorem tokL_join : tokL (joinN a b) = tokL a ++ tokL b := by
  unfold tokL joinN
  simp only [List.map_append, List.map_map]
  rfl
end

/-! ### the least streams of a network numbered anew -/
section
variable {nt : Network} {order : List Int}
theorem plen1 (hO : Ord order nt.1.length) : (permN nt order).1.length = nt.1.length := by simp [permN, hO.len]
theorem plen2 : (permN nt order).2.length = nt.2.length := by simp [permN]
theorem plnk {j : Nat} (hj : j < nt.2.length) : lnk (permN nt order) j = permL order (lnk nt j) := by
  unfold lnk permN
  simp only
  rw [getD_lt (by simpa using hj), List.getElem_map, getD_lt hj]
theorem pprog (hO : Ord order nt.1.length) {i : Nat} (hi : i < nt.1.length) : prog (permN nt order) i = prog nt (order.getD i 0).toNat := perm_prog hO hi
theorem inF_p (o : OkN nt) (hO : Ord order nt.1.length) {h : Nat → List Int} {i : Nat} (hi : i < nt.1.length) : inF (permN nt order) h i = inF nt h (order.getD i 0).toNat := by
  have g := hO.get hi
  have om := perm_ok o hO
  funext q
  unfold inF
  rw [pprog hO hi]
  split
  · rename_i hq
    obtain ⟨h1, h2, h3⟩ := lto_spec o (show (order.getD i 0).toNat < nt.1.length by omega) hq
    have e : lto (permN nt order) i q = lto nt (order.getD i 0).toNat q := by
      refine lto_uniq om (by rw [plen2]; exact h1) (by rw [plen1 hO]; exact hi) (by rw [pprog hO hi]; exact hq) ?_ ?_
      · rw [plnk h1]
        show pe order _ = _
        rw [h2]
        exact (pe_iff hO (Or.inr (by omega)) hi).2 (by omega)
      · rw [plnk h1]; exact h3
    rw [e]
  · rfl
theorem runK_p (o : OkN nt) (hO : Ord order nt.1.length) {h : Nat → List Int} {i : Nat} (hi : i < nt.1.length) : runK (permN nt order) h i = runK nt h (order.getD i 0).toNat := by
  unfold runK; rw [pprog hO hi, inF_p o hO hi]
theorem newS_p (o : OkN nt) (hO : Ord order nt.1.length) {h : Nat → List Int} {j : Nat} (hj : j < nt.2.length) : newS (permN nt order) h j = newS nt h j := by
  unfold newS toks
  rw [plnk hj]
  unfold permL
  simp only
  rcases (EndOk.at o hj).out with ⟨h1, h2⟩ | ⟨h1, h2, h3, h4⟩
  · rw [pe_out h1, if_neg (by omega), if_neg (by omega)]
  · have r := pe_rng hO ⟨h1, h2⟩
    rw [if_pos r.1, if_pos h1, runK_p o hO (by omega), r.2.2]
theorem rndP_p (o : OkN nt) (hO : Ord order nt.1.length) {h g : List (List Int)} (e : rndP nt h = some g) : rndP (permN nt order) h = some g := by
  obtain ⟨ok, rfl⟩ := rndP_some e
  unfold rndOk at ok
  rw [Bool.and_eq_true, List.all_eq_true, List.all_eq_true] at ok
  have ok' : rndOk (permN nt order) (atL h) = true := by
    unfold rndOk
    rw [Bool.and_eq_true, List.all_eq_true, List.all_eq_true]
    refine ⟨fun k hk => ?_, fun j hj => ?_⟩
    · have hk := List.mem_range.1 hk
      rw [plen1 hO] at hk
      have g := hO.get hk
      rw [runK_p o hO hk]; exact ok.1 _ (List.mem_range.2 (by omega))
    · have hj := List.mem_range.1 hj
      rw [plen2] at hj
      rw [newS_p o hO hj]; exact ok.2 j (List.mem_range.2 hj)
  unfold rndP
  rw [if_pos ok', plen2]
  congr 1
  exact List.map_congr_left (fun j hj => newS_p o hO (List.mem_range.1 hj))
theorem least_p (o : OkN nt) (hO : Ord order nt.1.length) : ∀ (m : Nat) (r : Int) (h : List (List Int)) (x : List (List Int) × Int), leastF nt m r h = some x → leastF (permN nt order) m r h = some x
  | 0, r, h, x, e => by cases e
  | m + 1, r, h, x, e => by
    unfold leastF at e ⊢
    cases e1 : rndP nt h with
    | none => rw [e1] at e; cases e
    | some g =>
      rw [e1] at e
      rw [rndP_p o hO e1]
      simp only at e ⊢
      by_cases c : g = h
      · rw [if_pos c] at e ⊢; exact e
      · rw [if_neg c] at e ⊢; exact least_p o hO m (r + 1) g x e
theorem tokL_p : tokL (permN nt order) = tokL nt := by
  unfold tokL permN
  simp only [List.map_map]
  rfl
end
end Go.AmT
