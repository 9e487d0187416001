/- A process that grows into a network, in plain Lean: both programs make the same of it (for laws that are built on it). -/
import Derived.Test.YtkgknijpmcagmaaGreatLExp0
import Derived.Test.YtkgknijpmcagmaaGreatPCopy
import Derived.Test.YtkgknijpmcagmaaGreatPOut
namespace Go.AmT
open Go Go.Am
set_option linter.unusedVariables false
set_option linter.unusedSimpArgs false

def rem {α : Type} (k : Nat) (a : List α) : List α := a.take k ++ a.drop (k + 1)
theorem rem_snoc {α : Type} {k : Nat} {a : List α} (x : α) : rem k (a ++ [x]) = if a.length = k then rem k a else rem k a ++ [x] := by
  unfold rem
  by_cases h : a.length = k
  · rw [if_pos h, List.take_append_of_le_length (by omega), List.drop_eq_nil_of_le (by simp; omega), List.drop_eq_nil_of_le (by omega)]
  · rw [if_neg h]
    by_cases h2 : a.length < k
    · rw [List.take_of_length_le (by simp; omega), List.drop_eq_nil_of_le (by simp; omega), List.take_of_length_le (by omega), List.drop_eq_nil_of_le (by omega)]; simp
    · rw [List.take_append_of_le_length (by omega), List.drop_append_of_le_length (by omega), List.append_assoc]
def lessI (k i : Int) : Int := if k < i then i - 1 else i
theorem range_fm {α β : Type} (ls : List α) (p : α → Bool) (g : α → β) (z : α) : ((List.range ls.length).filter (fun i => p (ls.getD i z))).map (fun i => g (ls.getD i z)) = (ls.filter p).map g := by
  have e : ls = (List.range ls.length).map (fun i => ls.getD i z) := by
    apply List.ext_getElem
    · simp
    · intro i h1 h2; simp [h1]
  conv => rhs; rw [e]
  rw [List.filter_map, List.map_map]; rfl

theorem end_bounds {nt : Network} {l : Link} (E : EndOk nt l) (hp : nt.1.length ≤ 12) : -1 ≤ l.1 ∧ l.1 ≤ 12 ∧ -1 ≤ l.2.2.1 ∧ l.2.2.1 ≤ 12 := by
  refine ⟨?_, ?_, ?_, ?_⟩
  · rcases E.out with h | h <;> have := h.1 <;> omega
  · rcases E.out with h | h
    · have := h.1; omega
    · have := h.2.1; omega
  · rcases E.inn with h | h <;> have := h.1 <;> omega
  · rcases E.inn with h | h
    · have := h.1; omega
    · have := h.2.1; omega

theorem concatPG_spec {n : Nat} {a : Int} (h0 : 0 ≤ a) (h1 : a ≤ 4194304) : concatPG.f n a = some ([], ()) := by
  have hm := maxB_eq
  unfold concatPG.f
  rw [br_no (by omega), w64_id (by omega) (by omega)]
  by_cases h : 0 < a - 0
  · rw [br_yes h, chk_true (by omega), chk_true (by omega), chk_true (by simp; omega)]
  · rw [br_no h]
theorem flat_takeP {α : Type} (ls : List (List α)) (i : Nat) : (ls.take i).flatten.length ≤ ls.flatten.length := by
  conv => rhs; rw [← List.take_append_drop i ls]
  rw [List.flatten_append, List.length_append]; omega
theorem concatP_all {n : Nat} {ls : List (List Program)} (hl : ls.length ≤ 1048576) (ht : ls.flatten.length ≤ 4194304) (hn : 1048576 < n) : concatP.f n ls = some (ls.flatten, ()) := by
  unfold concatP.f
  have hst : ((0 : Int), ((0 : Int), ())) = (fun (i : Nat) => (((ls.take i).flatten.length : Int), ((i : Int), ()))) 0 := by simp
  rw [hst]
  refine iter_line (fun i => (((ls.take i).flatten.length : Int), ((i : Int), ()))) ls.length (fun ih i hi => ?_) (fun ih => ?_) (by omega)
  · have c0 : 0 ≤ (i : Int) := by omega
    have c1 : (i : Int) < (ls.length : Int) := by omega
    have e1 : ls.getD i [] = ls[i] := getD_lt hi _
    have h1 := flat_takeP ls (i + 1)
    have e2 : (ls.take (i + 1)).flatten = (ls.take i).flatten ++ ls[i] := by rw [List.take_succ_eq_append_getElem hi, List.flatten_append]; simp
    rw [e2, List.length_append] at h1
    show br (decide ((i : Int) < (ls.length : Int))) _ _ = _
    rw [br_yes c1, chk_true ⟨c0, c1⟩]
    simp only [Int.toNat_natCast, e1]
    rw [w64_id (by omega) (by omega), br_no (by omega), w64_succ (by omega), e2, List.length_append, Int.natCast_add (List.take i ls).flatten.length]
  · simp only [List.take_length]
    rw [br_no (Int.lt_irrefl _), concatPG_spec (by omega) (by omega)]
    simp only [Option.bind_some]
    refine Eq.trans (iter_line (fun i => ((i : Int), ((ls.take i).flatten, ()))) ls.length (R := some (ls.flatten, ())) (fun ih i hi => ?_) (fun ih => ?_) (by omega)) rfl
    · have c0 : 0 ≤ (i : Int) := by omega
      have c1 : (i : Int) < (ls.length : Int) := by omega
      have e1 : ls.getD i [] = ls[i] := getD_lt hi _
      have h1 := flat_takeP ls (i + 1)
      have e2 : (ls.take (i + 1)).flatten = (ls.take i).flatten ++ ls[i] := by rw [List.take_succ_eq_append_getElem hi, List.flatten_append]; simp
      rw [e2, List.length_append] at h1
      show br (decide ((i : Int) < (ls.length : Int))) _ _ = _
      rw [br_yes c1, chk_true ⟨c0, c1⟩]
      simp only [Int.toNat_natCast, e1]
      rw [small_chk (by omega), w64_succ (by omega), e2]
    · simp only [List.take_length]
      exact br_no (Int.lt_irrefl _)

theorem sL8Less_spec {n : Nat} {i k : Int} (h1 : -1 ≤ i) (h2 : i ≤ 12) (hk : 0 ≤ k) : sL8Less.f n i k = some (lessI k i, ()) := by
  unfold sL8Less.f lessI
  by_cases h : k < i
  · rw [br_yes h, if_pos h, w64_id (by omega) (by omega)]
  · rw [br_no h, if_neg h]
theorem iBehind_spec {n : Nat} {i k : Int} (h1 : -1 ≤ i) (h2 : i ≤ 12) (hk : 0 ≤ k) : iBehind.f n i k = some (lessI k i, ()) := by
  unfold iBehind.f lessI
  by_cases h : k < i
  · rw [br_yes h, if_pos h, w64_id (by omega) (by omega)]
  · rw [br_no h, if_neg h]


def outAt (m : Network) (l : Link) : Link := (lks (inOut false) m.2).getD l.2.1.toNat zLink
def inAt (m : Network) (l : Link) : Link := (lks (inOut true) m.2).getD l.2.2.2.1.toNat zLink
def expL (first k : Int) (m : Network) (l : Link) : Link :=
  (if l.1 = k then first + (outAt m l).1 else lessI k l.1, if l.1 = k then (outAt m l).2.1 else l.2.1,
   if l.2.2.1 = k then first + (inAt m l).2.2.1 else lessI k l.2.2.1, if l.2.2.1 = k then (inAt m l).2.2.2.1 else l.2.2.2.1, l.2.2.2.2)
def innerL (l : Link) : Bool := decide (0 ≤ l.1) && decide (0 ≤ l.2.2.1)
def shiftL (first : Int) (l : Link) : Link := (first + l.1, l.2.1, first + l.2.2.1, l.2.2.2.1, l.2.2.2.2)
def expN (nt : Network) (k : Nat) (m : Network) : Network :=
  (rem k nt.1 ++ m.1, nt.2.map (expL ((nt.1.length : Int) - 1) k m) ++ (m.2.filter innerL).map (shiftL ((nt.1.length : Int) - 1)))
noncomputable def expd (nt : Network) (k : Int) (m : Network) : Network × Bool × Unit :=
  if tmpl nt k m = true then (if okN (expN nt k.toNat m) = true then (expN nt k.toNat m, (true, ())) else (([], []), (false, ()))) else (([], []), (false, ()))

/-- what a template is -/
structure Tm (nt : Network) (k : Nat) (m : Network) : Prop where
  net : OkN nt
  tn : OkN m
  lt : k < nt.1.length
  ins : ((ixs (inOut true) m.2).length : Int) = nt.1[k].1
  outs : ((ixs (inOut false) m.2).length : Int) = nt.1[k].2.1
theorem tmpl_of {nt m : Network} {k : Int} (h : tmpl nt k m = true) : ∃ j : Nat, k = (j : Int) ∧ Tm nt j m := by
  unfold tmpl at h
  simp only [Bool.and_eq_true, decide_eq_true_eq] at h
  obtain ⟨h1, h2, h3, h4, h5, h6, -⟩ := h
  obtain ⟨j, rfl⟩ : ∃ j : Nat, k = (j : Int) := ⟨k.toNat, by omega⟩
  have hj : j < nt.1.length := by omega
  simp only [Int.toNat_natCast, getD_lt hj] at h5 h6
  exact ⟨j, rfl, of_decide_eq_true h1, of_decide_eq_true h2, hj, h5, h6⟩
theorem lks_get {p : Link → Bool} {ls : List Link} {i : Nat} (h : i < (ixs p ls).length) : (lks p ls).getD i zLink = ls.getD ((ixs p ls)[i]) zLink := by
  have : i < (lks p ls).length := by rw [lks_len]; exact h
  rw [getD_lt this]; simp [lks]
theorem lks_mem {p : Link → Bool} {ls : List Link} {i : Nat} (h : i < (ixs p ls).length) : (lks p ls).getD i zLink ∈ ls := by
  rw [lks_get h, getD_lt (ixs_lt (List.getElem_mem h))]; exact List.getElem_mem _
theorem expN_small {nt m : Network} {k : Nat} (h : SmallN nt) (h' : SmallN m) (T : Tm nt k m) : SmallN (expN nt k m) := by
  have hp := T.net.progs
  have hl := T.net.links
  have hp' := T.tn.progs
  have hl' := T.tn.links
  have hf := List.length_filter_le innerL m.2
  refine ⟨?_, fun p hp => ?_, ?_, fun l hl => ?_⟩
  · show (rem k nt.1 ++ m.1).length ≤ _
    simp [rem]; omega
  · rcases List.mem_append.1 hp with hp | hp
    · rcases List.mem_append.1 hp with hp | hp
      · exact h.prog p (List.mem_of_mem_take hp)
      · exact h.prog p (List.mem_of_mem_drop hp)
    · exact h'.prog p hp
  · show (_ ++ _ : List Link).length ≤ _
    rw [List.length_append, List.length_map, List.length_map]; omega
  · rcases List.mem_append.1 hl with hl | hl
    · obtain ⟨l', h3, rfl⟩ := List.mem_map.1 hl
      exact ⟨(h.link l' h3).tokens⟩
    · obtain ⟨l', h3, rfl⟩ := List.mem_map.1 hl
      exact ⟨(h'.link l' (List.mem_filter.1 h3).1).tokens⟩
theorem mem_end {nt : Network} (o : OkN nt) {l : Link} (hm : l ∈ nt.2) : EndOk nt l := by
  obtain ⟨i, hi, rfl⟩ := List.mem_iff_getElem.1 hm; exact o.ends i hi
/-- a link's end at the process is a port of the template -/
theorem out_port {nt m : Network} {k : Nat} (T : Tm nt k m) {l : Link} (hm : l ∈ nt.2) (h : l.1 = (k : Int)) : 0 ≤ l.2.1 ∧ l.2.1.toNat < (ixs (inOut false) m.2).length := by
  rcases (mem_end T.net hm).out with e | ⟨a1, a2, a3, a4⟩
  · omega
  · rw [h, Int.toNat_natCast, getD_lt T.lt] at a4
    have := T.outs; omega
theorem in_port {nt m : Network} {k : Nat} (T : Tm nt k m) {l : Link} (hm : l ∈ nt.2) (h : l.2.2.1 = (k : Int)) : 0 ≤ l.2.2.2.1 ∧ l.2.2.2.1.toNat < (ixs (inOut true) m.2).length := by
  rcases (mem_end T.net hm).inn with e | ⟨a1, a2, a3, a4⟩
  · omega
  · rw [h, Int.toNat_natCast, getD_lt T.lt] at a4
    have := T.ins; omega
theorem sExpandNetwork_spec {n : Nat} {nt m : Network} {k : Int} (h : SmallN nt) (h' : SmallN m) (hn : 1048576 < n) : sExpandNetwork.f n nt k m = some (expd nt k m) := by
  unfold sExpandNetwork.f expd
  rw [sIsTemplate_spec h h' hn]
  simp only [Option.bind_some]
  cases ht : tmpl nt k m
  · rfl
  · obtain ⟨k, rfl, T⟩ := tmpl_of ht
    have hk := T.lt
    have hp := T.net.progs
    have hl := T.net.links
    have hp' := T.tn.progs
    have hl' := T.tn.links
    rw [sL8Outside_spec h'.links hn, sL8Outside_spec h'.links hn]
    simp only [Bool.not_true, br_false, if_true, Option.bind_some, Int.toNat_natCast]
    have hst : ((0 : Int), (([] : List Program), ())) = (fun (i : Nat) => ((i : Int), (rem k (nt.1.take i), ()))) 0 := by simp [rem]
    rw [hst]
    refine iter_line (fun i => ((i : Int), (rem k (nt.1.take i), ()))) nt.1.length (fun ih i hi => ?_) (fun ih => ?_) (by omega)
    · have c1 : (i : Int) < (nt.1.length : Int) := by omega
      have e1 : nt.1.getD i zProgram = nt.1[i] := getD_lt hi _
      have e2 : (nt.1.take i).length = i := by simp; omega
      have hr : (rem k (nt.1.take i)).length ≤ 24 := by simp [rem]; omega
      show br (decide ((i : Int) < (nt.1.length : Int))) _ _ = _
      rw [br_yes c1, chk_true ⟨by omega, c1⟩]
      simp only [Int.toNat_natCast, e1]
      rw [sL3Program_spec (h.prog _ (List.getElem_mem hi)), w64_succ (by omega), List.take_succ_eq_append_getElem hi, rem_snoc, e2]
      by_cases hik : i = k
      · subst hik; simp [br]
      · rw [if_neg hik, show decide ((i : Int) = (k : Int)) = false from decide_eq_false (by omega)]
        simp only [Bool.not_false, br_true, Option.bind_some]
        rw [small_chk (by simp; omega)]
    · show br (decide ((nt.1.length : Int) < (nt.1.length : Int))) _ _ = _
      rw [br_no (Int.lt_irrefl _), List.take_length]
      have hst : ((0 : Int), (rem k nt.1, ())) = (fun (i : Nat) => ((i : Int), (rem k nt.1 ++ m.1.take i, ()))) 0 := by simp
      show iter n _ ((0 : Int), (rem k nt.1, ())) = _
      rw [hst]
      have hrl : (rem k nt.1).length ≤ 24 := by simp [rem]; omega
      refine iter_line (fun i => ((i : Int), (rem k nt.1 ++ m.1.take i, ()))) m.1.length (fun ih i hi => ?_) (fun ih => ?_) (by omega)
      · have c1 : (i : Int) < (m.1.length : Int) := by omega
        have e1 : m.1.getD i zProgram = m.1[i] := getD_lt hi _
        show br (decide ((i : Int) < (m.1.length : Int))) _ _ = _
        rw [br_yes c1, chk_true ⟨by omega, c1⟩]
        simp only [Int.toNat_natCast, e1]
        rw [sL3Program_spec (h'.prog _ (List.getElem_mem hi)), w64_succ (by omega), List.take_succ_eq_append_getElem hi]
        simp only [Option.bind_some, List.append_assoc]
        rw [small_chk (by simp; omega)]
      · show br (decide ((m.1.length : Int) < (m.1.length : Int))) _ _ = _
        rw [br_no (Int.lt_irrefl _), List.take_length]
        show iter n _ ((0 : Int), (rem k nt.1 ++ m.1, (([] : List Link), ()))) = _
        refine push_loopE nt.2 (expL ((nt.1.length : Int) - 1) k m) (fun i s => (i, (rem k nt.1 ++ m.1, (s, ())))) (fun ih i hi s hs => ?_) (fun ih => ?_) (by omega)
        · have c1 : (i : Int) < (nt.2.length : Int) := by omega
          have e1 : nt.2.getD i zLink = nt.2[i] := getD_lt hi _
          have hm := List.getElem_mem hi
          have B := end_bounds (mem_end T.net hm) hp
          have hB : ∀ (p : Link → Bool) (q : Nat), q < (ixs p m.2).length → -1 ≤ ((lks p m.2).getD q zLink).1 ∧ ((lks p m.2).getD q zLink).1 ≤ 12 ∧ -1 ≤ ((lks p m.2).getD q zLink).2.2.1 ∧ ((lks p m.2).getD q zLink).2.2.1 ≤ 12 := fun p q hq => end_bounds (mem_end T.tn (lks_mem hq)) hp'
          show br (decide ((i : Int) < (nt.2.length : Int))) _ _ = _
          rw [br_yes c1, chk_true ⟨by omega, c1⟩]
          simp only [Int.toNat_natCast, e1]
          rw [sL3Link_spec (h.link _ hm), sL8Less_spec B.1 B.2.1 (by omega), sL8Less_spec B.2.2.1 B.2.2.2 (by omega), w64_succ (by omega), w64_id (n := (nt.1.length : Int) - 1) (by omega) (by omega)]
          simp only [Option.bind_some]
          by_cases h1 : nt.2[i].1 = (k : Int)
          · have P1 := out_port T hm h1
            have b1 := hB _ _ P1.2
            rw [br_yes h1, chk_true (by rw [lks_len]; omega), chk_true (by rw [lks_len]; omega), w64_id (by omega) (by omega)]
            simp only [cut_inr]
            by_cases h2 : nt.2[i].2.2.1 = (k : Int)
            · have P2 := in_port T hm h2
              have b2 := hB _ _ P2.2
              rw [br_yes h2, chk_true (by rw [lks_len]; omega), chk_true (by rw [lks_len]; omega), w64_id (by omega) (by omega)]
              simp only [cut_inr]
              rw [small_chk (by simp; omega)]
              simp only [expL, outAt, inAt, h1, h2, if_true]
            · rw [br_no h2]
              simp only [cut_inr]
              rw [small_chk (by simp; omega)]
              simp only [expL, outAt, inAt, h1, h2, if_true, if_false]
          · rw [br_no h1]
            simp only [cut_inr]
            by_cases h2 : nt.2[i].2.2.1 = (k : Int)
            · have P2 := in_port T hm h2
              have b2 := hB _ _ P2.2
              rw [br_yes h2, chk_true (by rw [lks_len]; omega), chk_true (by rw [lks_len]; omega), w64_id (by omega) (by omega)]
              simp only [cut_inr]
              rw [small_chk (by simp; omega)]
              simp only [expL, outAt, inAt, h1, h2, if_true, if_false]
            · rw [br_no h2]
              simp only [cut_inr]
              rw [small_chk (by simp; omega)]
              simp only [expL, outAt, inAt, h1, h2, if_false]
        · have hAl : (nt.2.map (expL ((nt.1.length : Int) - 1) k m)).length = nt.2.length := List.length_map _
          have hS := sIsNetwork_spec (expN_small h h' T) hn
          unfold expN at hS ⊢
          generalize nt.2.map (expL ((nt.1.length : Int) - 1) k m) = A at hAl hS ⊢
          rw [br_no (Int.lt_irrefl _)]
          have hst : ((0 : Int), (rem k nt.1 ++ m.1, (A, ()))) = (fun (i : Int) (t : List Link) => (i, (rem k nt.1 ++ m.1, (A ++ t, ())))) 0 [] := by simp
          show iter n _ ((0 : Int), (rem k nt.1 ++ m.1, (A, ()))) = _
          rw [hst]
          refine Eq.trans (pushif_loop m.2.length (fun i => innerL (m.2.getD i zLink)) (fun i => shiftL ((nt.1.length : Int) - 1) (m.2.getD i zLink)) (fun (i : Int) (t : List Link) => (i, (rem k nt.1 ++ m.1, (A ++ t, ())))) (R := fun t => (sIsNetwork.f n (rem k nt.1 ++ m.1, A ++ t)).bind fun r157 => br (!r157.1) (some (([], []), (false, ()))) (some ((rem k nt.1 ++ m.1, A ++ t), (true, ())))) (fun ih i hi t ht => ?_) (fun ih t => br_no (Int.lt_irrefl _)) (by omega)) ?_
          · have c1 : (i : Int) < (m.2.length : Int) := by omega
            have e1 : m.2.getD i zLink = m.2[i] := getD_lt hi _
            have hm := List.getElem_mem hi
            have B := end_bounds (mem_end T.tn hm) hp'
            show br (decide ((i : Int) < (m.2.length : Int))) _ _ = _
            rw [br_yes c1, chk_true ⟨by omega, c1⟩]
            simp only [Int.toNat_natCast, e1]
            rw [sL3Link_spec (h'.link _ hm), w64_succ (by omega), w64_id (n := (nt.1.length : Int) - 1) (by omega) (by omega), w64_id (n := (nt.1.length : Int) - 1 + m.2[i].1) (by omega) (by omega), w64_id (n := (nt.1.length : Int) - 1 + m.2[i].2.2.1) (by omega) (by omega)]
            simp only [Option.bind_some, innerL]
            by_cases f1 : 0 ≤ m.2[i].1
            · rw [br_yes f1]
              simp only [cut_inr, f1, decide_true, Bool.true_and]
              by_cases f2 : 0 ≤ m.2[i].2.2.1
              · rw [br_yes f2, if_pos (decide_eq_true f2), small_chk (by simp; omega), List.append_assoc]; rfl
              · rw [br_no f2, if_neg (by simp [f2])]
            · rw [br_no f1]
              simp only [cut_inr, f1, decide_false, Bool.false_and]; rfl
          · rw [range_fm m.2 innerL (shiftL ((nt.1.length : Int) - 1)) zLink, hS]
            simp only [Option.bind_some]
            cases okN _ <;> rfl
theorem iExp_spec {n : Nat} {nt m : Network} {k : Int} (h : SmallN nt) (h' : SmallN m) (hn : 1048576 < n) : iExp.f n nt k m = some (expd nt k m) := by
  unfold iExp.f expd
  rw [iIsTemplate_spec h h' hn]
  simp only [Option.bind_some]
  cases ht : tmpl nt k m
  · rfl
  · obtain ⟨k, rfl, T⟩ := tmpl_of ht
    have hk := T.lt
    have hp := T.net.progs
    have hl := T.net.links
    have hp' := T.tn.progs
    have hl' := T.tn.links
    have om : okN m = true := by have := T.tn; simp [okN, this]
    rw [insOf_spec h' om hn, outsOf_spec h' om hn]
    simp only [Bool.not_true, br_false, if_true, Option.bind_some, Int.toNat_natCast]
    rw [w64_succ (by omega), chk_true (by omega), chk_true (by omega), Int.toNat_natCast, List.take_length, List.drop_zero]
    have hf : ([nt.1.take k, nt.1.drop (k + 1), m.1] : List (List Program)).flatten = rem k nt.1 ++ m.1 := by simp [rem]
    rw [concatP_all (by simp) (by rw [hf]; simp [rem]; omega) hn, hf]
    simp only [Option.bind_some]
    refine push_loopE nt.2 (expL ((nt.1.length : Int) - 1) k m) (fun i s => (i, (rem k nt.1 ++ m.1, (s, ())))) (fun ih i hi s hs => ?_) (fun ih => ?_) (by omega)
    · have c1 : (i : Int) < (nt.2.length : Int) := by omega
      have e1 : nt.2.getD i zLink = nt.2[i] := getD_lt hi _
      have hm := List.getElem_mem hi
      have B := end_bounds (mem_end T.net hm) hp
      have hB : ∀ (p : Link → Bool) (q : Nat), q < (ixs p m.2).length → -1 ≤ ((lks p m.2).getD q zLink).1 ∧ ((lks p m.2).getD q zLink).1 ≤ 12 ∧ -1 ≤ ((lks p m.2).getD q zLink).2.2.1 ∧ ((lks p m.2).getD q zLink).2.2.1 ≤ 12 := fun p q hq => end_bounds (mem_end T.tn (lks_mem hq)) hp'
      have hI : ∀ (p : Link → Bool) (q : Nat) (hq : q < (ixs p m.2).length), (toI (ixs p m.2)).getD q 0 = ((ixs p m.2)[q] : Int) ∧ (ixs p m.2)[q] < m.2.length ∧ m.2.getD (ixs p m.2)[q] zLink = (lks p m.2).getD q zLink := fun p q hq => ⟨by simp [hq], ixs_lt (List.getElem_mem hq), (lks_get hq).symm⟩
      show br (decide ((i : Int) < (nt.2.length : Int))) _ _ = _
      rw [br_yes c1, chk_true ⟨by omega, c1⟩]
      simp only [Int.toNat_natCast, e1]
      rw [iBehind_spec B.1 B.2.1 (by omega), iBehind_spec B.2.2.1 B.2.2.2 (by omega), w64_succ (by omega), w64_id (n := (nt.1.length : Int) - 1) (by omega) (by omega)]
      simp only [Option.bind_some, List.length_map]
      by_cases h1 : nt.2[i].1 = (k : Int)
      · have P1 := out_port T hm h1
        have b1 := hB _ _ P1.2
        obtain ⟨q1, q2, q3⟩ := hI _ _ P1.2
        rw [br_yes h1, chk_true (by omega), q1, chk_true (by omega), Int.toNat_natCast, q3, w64_id (by omega) (by omega)]
        simp only [cut_inr]
        by_cases h2 : nt.2[i].2.2.1 = (k : Int)
        · have P2 := in_port T hm h2
          have b2 := hB _ _ P2.2
          obtain ⟨q1, q2, q3⟩ := hI _ _ P2.2
          rw [br_yes h2, chk_true (by omega), q1, chk_true (by omega), Int.toNat_natCast, q3, w64_id (by omega) (by omega)]
          simp only [cut_inr]
          rw [small_chk (by simp; omega)]
          simp only [expL, outAt, inAt, h1, h2, if_true]
        · rw [br_no h2]
          simp only [cut_inr]
          rw [small_chk (by simp; omega)]
          simp only [expL, outAt, inAt, h1, h2, if_true, if_false]
      · rw [br_no h1]
        simp only [cut_inr]
        by_cases h2 : nt.2[i].2.2.1 = (k : Int)
        · have P2 := in_port T hm h2
          have b2 := hB _ _ P2.2
          obtain ⟨q1, q2, q3⟩ := hI _ _ P2.2
          rw [br_yes h2, chk_true (by omega), q1, chk_true (by omega), Int.toNat_natCast, q3, w64_id (by omega) (by omega)]
          simp only [cut_inr]
          rw [small_chk (by simp; omega)]
          simp only [expL, outAt, inAt, h1, h2, if_true, if_false]
        · rw [br_no h2]
          simp only [cut_inr]
          rw [small_chk (by simp; omega)]
          simp only [expL, outAt, inAt, h1, h2, if_false]
    · have hAl : (nt.2.map (expL ((nt.1.length : Int) - 1) k m)).length = nt.2.length := List.length_map _
      have hS := iChecked_spec (expN_small h h' T) hn
      unfold expN at hS ⊢
      generalize nt.2.map (expL ((nt.1.length : Int) - 1) k m) = A at hAl hS ⊢
      rw [br_no (Int.lt_irrefl _)]
      have hst : ((0 : Int), (rem k nt.1 ++ m.1, (A, ()))) = (fun (i : Int) (t : List Link) => (i, (rem k nt.1 ++ m.1, (A ++ t, ())))) 0 [] := by simp
      show iter n _ ((0 : Int), (rem k nt.1 ++ m.1, (A, ()))) = _
      rw [hst]
      refine Eq.trans (pushif_loop m.2.length (fun i => innerL (m.2.getD i zLink)) (fun i => shiftL ((nt.1.length : Int) - 1) (m.2.getD i zLink)) (fun (i : Int) (t : List Link) => (i, (rem k nt.1 ++ m.1, (A ++ t, ())))) (R := fun t => (iChecked.f n (rem k nt.1 ++ m.1, A ++ t)).bind fun r94 => some (r94.1, (r94.2.1, ()))) (fun ih i hi t ht => ?_) (fun ih t => br_no (Int.lt_irrefl _)) (by omega)) ?_
      · have c1 : (i : Int) < (m.2.length : Int) := by omega
        have e1 : m.2.getD i zLink = m.2[i] := getD_lt hi _
        have hm := List.getElem_mem hi
        have B := end_bounds (mem_end T.tn hm) hp'
        show br (decide ((i : Int) < (m.2.length : Int))) _ _ = _
        rw [br_yes c1, chk_true ⟨by omega, c1⟩]
        simp only [Int.toNat_natCast, e1]
        rw [w64_succ (by omega), w64_id (n := (nt.1.length : Int) - 1) (by omega) (by omega), w64_id (n := (nt.1.length : Int) - 1 + m.2[i].1) (by omega) (by omega), w64_id (n := (nt.1.length : Int) - 1 + m.2[i].2.2.1) (by omega) (by omega)]
        simp only [innerL]
        by_cases f1 : 0 ≤ m.2[i].1
        · rw [br_yes f1]
          simp only [cut_inr, f1, decide_true, Bool.true_and]
          by_cases f2 : 0 ≤ m.2[i].2.2.1
          · rw [br_yes f2, if_pos (decide_eq_true f2), small_chk (by simp; omega), List.append_assoc]; rfl
          · rw [br_no f2, if_neg (by simp [f2])]
        · rw [br_no f1]
          simp only [cut_inr, f1, decide_false, Bool.false_and]; rfl
      · rw [range_fm m.2 innerL (shiftL ((nt.1.length : Int) - 1)) zLink, hS]
        simp only [Option.bind_some]
theorem expd_small {nt m : Network} {k : Int} (h : SmallN nt) (h' : SmallN m) : SmallN (expd nt k m).1 := by
  have z : SmallN ([], []) := ⟨by simp, by simp, by simp, by simp⟩
  unfold expd
  split
  · rename_i ht
    obtain ⟨k, rfl, T⟩ := tmpl_of ht
    split
    · exact expN_small h h' T
    · exact z
  · exact z
end Go.AmT
