/- A process that is dropped, in plain Lean: what is left of a valid network is valid, and both programs make the same of it. -/
import Derived.Test.YtgepghodhnmhjaaLDrop
namespace Go.AmT
open Go Go.Am
set_option linter.unusedVariables false
set_option linter.unusedSimpArgs false

def rem {α : Type} (k : Nat) (a : List α) : List α := a.take k ++ a.drop (k + 1)
def lessI (k i : Int) : Int := if k < i then i - 1 else i
def dropL (k : Int) (l : Link) : Link := (if l.1 = k then -1 else lessI k l.1, if l.1 = k then 0 else l.2.1, if l.2.2.1 = k then -1 else lessI k l.2.2.1, if l.2.2.1 = k then 0 else l.2.2.2.1, l.2.2.2.2)
def keepL (k : Int) (l : Link) : Bool := decide (0 ≤ (dropL k l).1) || decide (0 ≤ (dropL k l).2.2.1)
def dropN (nt : Network) (k : Nat) : Network := (rem k nt.1, (nt.2.filter (keepL k)).map (dropL k))

theorem range_fm {α β : Type} (ls : List α) (p : α → Bool) (g : α → β) (z : α) : ((List.range ls.length).filter (fun i => p (ls.getD i z))).map (fun i => g (ls.getD i z)) = (ls.filter p).map g := by
  have e : ls = (List.range ls.length).map (fun i => ls.getD i z) := by
    apply List.ext_getElem
    · simp
    · intro i h1 h2; simp [h1]
  conv => rhs; rw [e]
  rw [List.filter_map, List.map_map]; rfl

theorem rem_len {α : Type} {k : Nat} {a : List α} (h : k < a.length) : (rem k a).length + 1 = a.length := by simp [rem]; omega
theorem rem_get {α : Type} {k j : Nat} {a : List α} (hk : k < a.length) (hj : j < (rem k a).length) : (rem k a)[j] = a[if j < k then j else j + 1]'(by have := rem_len hk; split <;> omega) := by
  have hj' : j < (a.take k ++ a.drop (k + 1)).length := hj
  show (a.take k ++ a.drop (k + 1))[j]'hj' = _
  by_cases h : j < k
  · rw [List.getElem_append_left (by simp; omega)]; simp [h]
  · rw [List.getElem_append_right (by simp; omega)]
    simp only [h, if_false, List.getElem_drop, List.length_take]
    congr 1; omega
theorem rem_getD {α : Type} {k i : Nat} {a : List α} (hk : k < a.length) (hi : i < a.length) (hne : i ≠ k) (z : α) : (rem k a).getD (lessI k i).toNat z = a.getD i z := by
  have hl := rem_len hk
  unfold lessI
  by_cases h : (k : Int) < (i : Int)
  · rw [if_pos h]
    have hj : ((i : Int) - 1).toNat < (rem k a).length := by omega
    rw [getD_lt hj, rem_get hk hj, getD_lt hi]
    congr 1
    rw [if_neg (by omega)]; omega
  · rw [if_neg h]
    have hj : (i : Int).toNat < (rem k a).length := by omega
    rw [getD_lt hj, rem_get hk hj, getD_lt hi]
    congr 1
    rw [if_pos (by omega)]; omega

theorem end_bounds {nt : Network} {l : Link} (E : EndOk nt l) (hp : nt.1.length ≤ 12) : -1 ≤ l.1 ∧ l.1 ≤ 12 ∧ -1 ≤ l.2.2.1 ∧ l.2.2.1 ≤ 12 := by
  refine ⟨?_, ?_, ?_, ?_⟩
  · rcases E.out with h | h <;> have := h.1 <;> omega
  · rcases E.out with h | h
    · have := h.1; omega
    · have := h.2.1; omega
  · rcases E.inn with h | h <;> have := h.1 <;> omega
  · rcases E.inn with h | h
    · have := h.1; omega
    · have := h.2.1; omega

theorem dropN_ok {nt : Network} {k : Nat} (o : OkN nt) (hk : k < nt.1.length) : OkN (dropN nt k) := by
  have hl := rem_len hk
  have hp := o.progs
  have hends : ∀ l ∈ nt.2, EndOk nt l := fun l hm => by obtain ⟨i, hi, rfl⟩ := List.mem_iff_getElem.1 hm; exact o.ends i hi
  have hmem : ∀ x ∈ (dropN nt k).2, ∃ l ∈ nt.2, keepL k l = true ∧ dropL k l = x := by
    intro x hx
    obtain ⟨l, h1, h2⟩ := List.mem_map.1 hx
    exact ⟨l, (List.mem_filter.1 h1).1, (List.mem_filter.1 h1).2, h2⟩
  refine ⟨by show (rem k nt.1).length ≤ 12; omega, ?_, fun i hi => ?_, fun i hi => ?_, fun i hi => ?_, fun j hj b hb => ?_, fun j hj b hb => ?_⟩
  · have := o.links
    have h2 : ((nt.2.filter (keepL k)).map (dropL k)).length ≤ nt.2.length := by rw [List.length_map]; exact List.length_filter_le _ _
    show ((nt.2.filter (keepL k)).map (dropL k)).length ≤ 30
    omega
  · show okP (rem k nt.1)[i] = true
    rw [rem_get hk hi]; exact o.prog _ _
  · obtain ⟨l, hm, hkeep, e⟩ := hmem _ (List.getElem_mem hi)
    rw [← e]
    have E := hends l hm
    have B := end_bounds E hp
    unfold keepL at hkeep
    simp only [Bool.or_eq_true, decide_eq_true_eq] at hkeep
    refine ⟨?_, ?_, fun h => by omega⟩
    · by_cases h1 : l.1 = (k : Int)
      · exact .inl ⟨by simp [dropL, h1], by simp [dropL, h1]⟩
      · rcases E.out with ⟨e1, e2⟩ | ⟨a1, a2, a3, a4⟩
        · refine .inl ⟨?_, by simp [dropL, h1, e2]⟩
          show (if l.1 = (k : Int) then -1 else lessI k l.1) = -1
          rw [if_neg h1, lessI, if_neg (by omega)]; exact e1
        · obtain ⟨i', hi'⟩ : ∃ i' : Nat, l.1 = (i' : Int) := ⟨l.1.toNat, by omega⟩
          have e3 : (dropL k l).1 = lessI k i' := by simp only [dropL]; rw [if_neg h1, hi']
          have e4 : (dropL k l).2.1 = l.2.1 := by simp only [dropL]; rw [if_neg h1]
          refine .inr ⟨?_, ?_, ?_, ?_⟩
          · rw [e3]; unfold lessI; split <;> omega
          · rw [e3]; show lessI k i' < ((rem k nt.1).length : Int); unfold lessI; split <;> omega
          · rw [e4]; exact a3
          · rw [e4, e3]
            show l.2.1 < ((rem k nt.1).getD (lessI k i').toNat zProgram).2.1
            rw [rem_getD hk (by omega) (by omega)]
            rw [hi'] at a4; exact a4
    · by_cases h1 : l.2.2.1 = (k : Int)
      · exact .inl ⟨by simp [dropL, h1], by simp [dropL, h1]⟩
      · rcases E.inn with ⟨e1, e2⟩ | ⟨a1, a2, a3, a4⟩
        · refine .inl ⟨?_, by simp [dropL, h1, e2]⟩
          show (if l.2.2.1 = (k : Int) then -1 else lessI k l.2.2.1) = -1
          rw [if_neg h1, lessI, if_neg (by omega)]; exact e1
        · obtain ⟨i', hi'⟩ : ∃ i' : Nat, l.2.2.1 = (i' : Int) := ⟨l.2.2.1.toNat, by omega⟩
          have e3 : (dropL k l).2.2.1 = lessI k i' := by simp only [dropL]; rw [if_neg h1, hi']
          have e4 : (dropL k l).2.2.2.1 = l.2.2.2.1 := by simp only [dropL]; rw [if_neg h1]
          refine .inr ⟨?_, ?_, ?_, ?_⟩
          · rw [e3]; unfold lessI; split <;> omega
          · rw [e3]; show lessI k i' < ((rem k nt.1).length : Int); unfold lessI; split <;> omega
          · rw [e4]; exact a3
          · rw [e4, e3]
            show l.2.2.2.1 < ((rem k nt.1).getD (lessI k i').toNat zProgram).1
            rw [rem_getD hk (by omega) (by omega)]
            rw [hi'] at a4; exact a4
  · obtain ⟨l, hm, hkeep, e⟩ := hmem _ (List.getElem_mem hi)
    rw [← e]
    obtain ⟨i', hi', rfl⟩ := List.mem_iff_getElem.1 hm
    exact o.toks i' hi'
  · have hj : j < (rem k nt.1).length := hj
    have hb : (b : Int) < (rem k nt.1)[j].1 := hb
    rw [rem_get hk hj] at hb
    rw [← o.ins _ _ b hb]
    clear hb
    obtain ⟨u, hu⟩ : ∃ u, (if j < k then j else j + 1) = u := ⟨_, rfl⟩
    simp only [hu]
    have hu1 : j < k → u = j := fun h => by rw [if_pos h] at hu; exact hu.symm
    have hu2 : ¬ j < k → u = j + 1 := fun h => by rw [if_neg h] at hu; exact hu.symm
    clear hu
    show ((nt.2.filter (keepL k)).map (dropL k)).countP (isTo j b) = _
    rw [List.countP_map, List.countP_filter]
    refine List.countP_congr (fun l hm => ?_)
    have B := end_bounds (hends l hm) hp
    simp only [Function.comp, isTo, keepL, dropL, lessI, Bool.and_eq_true, Bool.or_eq_true]
    by_cases h1 : l.2.2.1 = (k : Int) <;> by_cases h2 : l.1 = (k : Int) <;> by_cases h3 : (k : Int) < l.2.2.1 <;> by_cases h4 : (k : Int) < l.1 <;> simp only [h1, h2, h3, h4, if_true, if_false, decide_eq_true_eq] <;> omega
  · have hj : j < (rem k nt.1).length := hj
    have hb : (b : Int) < (rem k nt.1)[j].2.1 := hb
    rw [rem_get hk hj] at hb
    rw [← o.outs _ _ b hb]
    clear hb
    obtain ⟨u, hu⟩ : ∃ u, (if j < k then j else j + 1) = u := ⟨_, rfl⟩
    simp only [hu]
    have hu1 : j < k → u = j := fun h => by rw [if_pos h] at hu; exact hu.symm
    have hu2 : ¬ j < k → u = j + 1 := fun h => by rw [if_neg h] at hu; exact hu.symm
    clear hu
    show ((nt.2.filter (keepL k)).map (dropL k)).countP (isFrom j b) = _
    rw [List.countP_map, List.countP_filter]
    refine List.countP_congr (fun l hm => ?_)
    have B := end_bounds (hends l hm) hp
    simp only [Function.comp, isFrom, keepL, dropL, lessI, Bool.and_eq_true, Bool.or_eq_true]
    by_cases h1 : l.2.2.1 = (k : Int) <;> by_cases h2 : l.1 = (k : Int) <;> by_cases h3 : (k : Int) < l.2.2.1 <;> by_cases h4 : (k : Int) < l.1 <;> simp only [h1, h2, h3, h4, if_true, if_false, decide_eq_true_eq] <;> omega
theorem concatPG_spec {n : Nat} {a : Int} (h0 : 0 ≤ a) (h1 : a ≤ 4194304) : concatPG.f n a = some ([], ()) := by
  have hm := maxB_eq
  unfold concatPG.f
  rw [br_no (by omega), w64_id (by omega) (by omega)]
  by_cases h : 0 < a - 0
  · rw [br_yes h, chk_true (by omega), chk_true (by omega), chk_true (by simp; omega)]
  · rw [br_no h]
theorem flat_takeP {α : Type} (ls : List (List α)) (i : Nat) : (ls.take i).flatten.length ≤ ls.flatten.length := by
  conv => rhs; rw [← List.take_append_drop i ls]
  rw [List.flatten_append, List.length_append]; omega
theorem concatP_all {n : Nat} {ls : List (List Program)} (hl : ls.length ≤ 1048576) (ht : ls.flatten.length ≤ 4194304) (hn : 1048576 < n) : concatP.f n ls = some (ls.flatten, ()) := by
  unfold concatP.f
  have hst : ((0 : Int), ((0 : Int), ())) = (fun (i : Nat) => (((ls.take i).flatten.length : Int), ((i : Int), ()))) 0 := by simp
  rw [hst]
  refine iter_line (fun i => (((ls.take i).flatten.length : Int), ((i : Int), ()))) ls.length (fun ih i hi => ?_) (fun ih => ?_) (by omega)
  · have c0 : 0 ≤ (i : Int) := by omega
    have c1 : (i : Int) < (ls.length : Int) := by omega
    have e1 : ls.getD i [] = ls[i] := getD_lt hi _
    have h1 := flat_takeP ls (i + 1)
    have e2 : (ls.take (i + 1)).flatten = (ls.take i).flatten ++ ls[i] := by rw [List.take_succ_eq_append_getElem hi, List.flatten_append]; simp
    rw [e2, List.length_append] at h1
    show br (decide ((i : Int) < (ls.length : Int))) _ _ = _
    rw [br_yes c1, chk_true ⟨c0, c1⟩]
    simp only [Int.toNat_natCast, e1]
    rw [w64_id (by omega) (by omega), br_no (by omega), w64_succ (by omega), e2, List.length_append, Int.natCast_add (List.take i ls).flatten.length]
  · simp only [List.take_length]
    rw [br_no (Int.lt_irrefl _), concatPG_spec (by omega) (by omega)]
    simp only [Option.bind_some]
    refine Eq.trans (iter_line (fun i => ((i : Int), ((ls.take i).flatten, ()))) ls.length (R := some (ls.flatten, ())) (fun ih i hi => ?_) (fun ih => ?_) (by omega)) rfl
    · have c0 : 0 ≤ (i : Int) := by omega
      have c1 : (i : Int) < (ls.length : Int) := by omega
      have e1 : ls.getD i [] = ls[i] := getD_lt hi _
      have h1 := flat_takeP ls (i + 1)
      have e2 : (ls.take (i + 1)).flatten = (ls.take i).flatten ++ ls[i] := by rw [List.take_succ_eq_append_getElem hi, List.flatten_append]; simp
      rw [e2, List.length_append] at h1
      show br (decide ((i : Int) < (ls.length : Int))) _ _ = _
      rw [br_yes c1, chk_true ⟨c0, c1⟩]
      simp only [Int.toNat_natCast, e1]
      rw [small_chk (by omega), w64_succ (by omega), e2]
    · simp only [List.take_length]
      exact br_no (Int.lt_irrefl _)

theorem iBehind_spec {n : Nat} {i k : Int} (h1 : -1 ≤ i) (h2 : i ≤ 12) (hk : 0 ≤ k) : iBehind.f n i k = some (lessI k i, ()) := by
  unfold iBehind.f lessI
  by_cases h : k < i
  · rw [br_yes h, if_pos h, w64_id (by omega) (by omega)]
  · rw [br_no h, if_neg h]

noncomputable def drp (nt : Network) (k : Int) : Network × Bool × Unit := if (okN nt && decide (0 ≤ k ∧ k < (nt.1.length : Int))) = true then (dropN nt k.toNat, (true, ())) else (([], []), (false, ()))
theorem dropN_small {nt : Network} {k : Nat} (h : SmallN nt) (o : OkN nt) (hk : k < nt.1.length) : SmallN (dropN nt k) := by
  have o' := dropN_ok o hk
  have h1 := o'.progs
  have h2 := o'.links
  refine ⟨by omega, fun p hp => ?_, by omega, fun l hl => ?_⟩
  · rcases List.mem_append.1 hp with hp | hp
    · exact h.prog p (List.mem_of_mem_take hp)
    · exact h.prog p (List.mem_of_mem_drop hp)
  · obtain ⟨l', h3, rfl⟩ := List.mem_map.1 hl
    exact ⟨(h.link l' (List.mem_filter.1 h3).1).tokens⟩
theorem iDropProcess_spec {n : Nat} {nt : Network} {k : Int} (h : SmallN nt) (hn : 1048576 < n) : iDropProcess.f n nt k = some (drp nt k) := by
  unfold iDropProcess.f drp
  rw [iIsNetwork_spec h hn]
  simp only [Option.bind_some]
  cases ho : okN nt
  · rfl
  · by_cases a : k < 0
    · simp [a, br, cut, show ¬ 0 ≤ k by omega]
    · by_cases b : (nt.1.length : Int) ≤ k
      · simp [a, b, br, cut, show ¬ k < (nt.1.length : Int) by omega]
      · obtain ⟨k, rfl⟩ : ∃ j : Nat, k = (j : Int) := ⟨k.toNat, by omega⟩
        have hk : k < nt.1.length := by omega
        have o : OkN nt := of_decide_eq_true ho
        have hp := o.progs
        have hl := o.links
        rw [if_pos (by simp [hk])]
        simp only [Bool.not_true, br_false, a, b, decide_false, cut_inr, Int.toNat_natCast]
        rw [w64_succ (by omega), chk_true (by omega), chk_true (by omega), Int.toNat_natCast, List.take_length, List.drop_zero]
        have hf : ([nt.1.take k, nt.1.drop (k + 1)] : List (List Program)).flatten = rem k nt.1 := by simp [rem]
        rw [concatP_all (by simp) (by rw [hf]; simp [rem]; omega) hn, hf]
        simp only [Option.bind_some]
        refine Eq.trans (pushif_loop nt.2.length (fun i => keepL k (nt.2.getD i zLink)) (fun i => dropL k (nt.2.getD i zLink)) (fun i s => (i, (rem k nt.1, (s, ())))) (R := fun s => (iCopyNetwork.f n (rem k nt.1, s)).bind fun r32 => some (r32.1, (true, ()))) (fun ih i hi s hs => ?_) (fun ih s => ?_) (by omega)) ?_
        · have c1 : (i : Int) < (nt.2.length : Int) := by omega
          have e1 : nt.2.getD i zLink = nt.2[i] := getD_lt hi _
          have B := end_bounds (o.ends i hi) hp
          have hone := (o.ends i hi).one
          show br (decide ((i : Int) < (nt.2.length : Int))) _ _ = _
          rw [br_yes c1, chk_true ⟨by omega, c1⟩]
          simp only [Int.toNat_natCast, e1]
          rw [w64_succ (by omega)]
          have b0 : lessI (k : Int) (-1) = -1 := by unfold lessI; rw [if_neg (by omega)]
          have b1 : ∀ x : Int, 0 ≤ x → x ≠ (k : Int) → decide (0 ≤ lessI (k : Int) x) = true := fun x h1 h2 => by
            apply decide_eq_true; unfold lessI; split <;> omega
          have b2 := iBehind_spec (n := n) (i := -1) (k := (k : Int)) (by omega) (by omega) (by omega)
          have b3 := iBehind_spec (n := n) (k := (k : Int)) B.1 B.2.1 (by omega)
          have b4 := iBehind_spec (n := n) (k := (k : Int)) B.2.2.1 B.2.2.2 (by omega)
          rw [b0] at b2
          by_cases h1 : nt.2[i].1 = (k : Int)
          · have h3 : ¬ nt.2[i].1 = -1 := by omega
            by_cases h2 : nt.2[i].2.2.1 = (k : Int)
            · have : keepL k nt.2[i] = false := by simp [keepL, dropL, h1, h2]
              rw [this]
              simp only [h1, h2, decide_true, br_true, cut_inr, Bool.false_eq_true, if_false]
            · by_cases h4 : nt.2[i].2.2.1 = -1
              · have : keepL k nt.2[i] = false := by simp [keepL, dropL, h1, h4, b0]
                rw [this]
                simp only [h1, h2, h4, decide_true, decide_false, br_true, br_false, cut_inr, Bool.false_eq_true, if_false]
                simp only [br_true, cut_inr, show decide ((-1 : Int) = (k : Int)) = false from decide_eq_false (by omega), br_false]
              · have : keepL k nt.2[i] = true := by
                  unfold keepL dropL; simp only [h1, h2, if_true, if_false]; rw [b1 _ (by omega) h2]; simp
                rw [this]
                have h3' : ¬ (k : Int) = -1 := by omega
                simp only [h1, h2, h3', h4, decide_true, decide_false, br_true, br_false, cut_inr, if_true, b2, b4, Option.bind_some]
                rw [small_chk (by simp; omega)]
                simp [dropL, h1, h2]
          · by_cases h2 : nt.2[i].2.2.1 = (k : Int)
            · have h2' : ((k : Int) = nt.2[i].2.2.1) := h2.symm
              have h1' : ¬ ((k : Int) = nt.2[i].1) := fun e => h1 e.symm
              by_cases h3 : nt.2[i].1 = -1
              · have : keepL k nt.2[i] = false := by simp [keepL, dropL, h1, h2, h3, b0, show ¬ (-1 : Int) = (k : Int) by omega]
                rw [this]
                simp only [h1, h2, h3, show ¬ (-1 : Int) = (k : Int) by omega, decide_true, decide_false, br_true, br_false, cut_inr, Bool.false_eq_true, if_false]
              · have : keepL k nt.2[i] = true := by
                  unfold keepL dropL; simp only [h1, h2, if_true, if_false]; rw [b1 _ (by omega) h1]; simp
                rw [this]
                simp only [h1, h1', h2, h3, decide_true, decide_false, br_true, br_false, cut_inr, if_true, b2, b3, Option.bind_some]
                rw [small_chk (by simp; omega)]
                simp [dropL, h1, h2]
            · have h2' : ¬ ((k : Int) = nt.2[i].2.2.1) := fun e => h2 e.symm
              have h1' : ¬ ((k : Int) = nt.2[i].1) := fun e => h1 e.symm
              have : keepL k nt.2[i] = true := by
                unfold keepL dropL; simp only [h1, h2, if_false]
                by_cases h3 : nt.2[i].1 = -1
                · rw [b1 nt.2[i].2.2.1 (by omega) h2]; simp
                · rw [b1 nt.2[i].1 (by omega) h1]; simp
              rw [this]
              by_cases h3 : nt.2[i].1 = -1
              · simp only [h3] at h1 h1' b3
                simp only [h1, h1', h2, h2', h3, decide_true, decide_false, br_true, br_false, cut_inr, if_true, b3, b4, Option.bind_some]
                rw [small_chk (by simp; omega)]
                simp [dropL, h1, h2, h3]
              · simp only [h1, h1', h2, h2', h3, decide_true, decide_false, br_true, br_false, cut_inr, if_true, b3, b4, Option.bind_some]
                rw [small_chk (by simp; omega)]
                simp [dropL, h1, h2]
        · exact br_no (Int.lt_irrefl _)
        · show (iCopyNetwork.f n (rem k nt.1, _)).bind _ = _
          rw [range_fm nt.2 (keepL k) (dropL k) zLink]
          have hS := iCopyNetwork_spec (dropN_small h o hk) hn
          unfold dropN at hS ⊢
          rw [hS]; rfl
end Go.AmT
