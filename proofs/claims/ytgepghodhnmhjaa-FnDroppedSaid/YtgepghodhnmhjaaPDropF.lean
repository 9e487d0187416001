/- A process that is dropped, and in whose place its streams come from outside, is not missed: the law. -/
import Derived.Test.YtgepghodhnmhjaaLDropF
import Derived.Test.YtgepghodhnmhjaaPDropL
import Derived.Test.YtgepghodhnmhjaaPLeast
import Derived.Test.YtgepghodhnmhjaaPBel
import Derived.Test.YtgepghodhnmhjaaPGenS
namespace Go.AmT
open Go Go.Am
set_option linter.unusedVariables false
set_option linter.unusedSimpArgs false

theorem small_okN {nt : Network} (o : OkN nt) : SmallN nt := by
  refine ⟨by have := o.progs; omega, fun p hp => ?_, by have := o.links; omega, fun l hl => ?_⟩
  · obtain ⟨i, hi, rfl⟩ := List.getElem_of_mem hp
    have := (okP_n (o.prog i hi)).2.2.2.2
    exact ⟨by omega⟩
  · obtain ⟨i, hi, rfl⟩ := List.getElem_of_mem hl
    have := (okS_len (o.toks i hi)).1
    exact ⟨by omega⟩

section
variable {nt : Network} {k : Nat} {H : Nat → List Int}
def kp (nt : Network) (k i : Nat) : Bool := keepL (k : Int) (nt.2.getD i zLink)
def keepTo (nt : Network) (k i : Nat) : List Nat := (List.range i).filter (kp nt k)
theorem keepTo_succ {i : Nat} : keepTo nt k (i + 1) = if kp nt k i = true then keepTo nt k i ++ [i] else keepTo nt k i := by
  unfold keepTo
  rw [List.range_succ, List.filter_append]
  by_cases h : kp nt k i = true
  · rw [if_pos h]; simp [h]
  · rw [if_neg h]; simp [h]
theorem keepTo_lt {i x : Nat} (h : x ∈ keepTo nt k i) : x < i := by
  unfold keepTo at h
  exact List.mem_range.1 (List.mem_filter.1 h).1
theorem keepTo_len {i : Nat} : (keepTo nt k i).length ≤ i := by
  unfold keepTo
  exact Nat.le_trans (List.length_filter_le _ _) (by simp)
theorem keepI_split {i : Nat} (hi : i < nt.2.length) (hk : kp nt k i = true) : ∃ B : List Nat, keepI nt k = keepTo nt k i ++ i :: B ∧ ∀ x ∈ B, i < x := by
  have e : List.range nt.2.length = List.range i ++ (i :: ((List.range (nt.2.length - i - 1)).map (fun x => i + (x + 1)))) := by
    have h1 : nt.2.length = i + ((nt.2.length - i - 1) + 1) := by omega
    conv => lhs; rw [h1]
    rw [List.range_add, List.range_succ_eq_map]
    simp
  refine ⟨((List.range (nt.2.length - i - 1)).map (fun x => i + (x + 1))).filter (kp nt k), ?_, fun x hx => ?_⟩
  · show (List.range nt.2.length).filter (kp nt k) = _
    rw [e, List.filter_append, List.filter_cons, if_pos hk]
    rfl
  · obtain ⟨y, -, rfl⟩ := List.mem_map.1 (List.mem_filter.1 hx).1
    omega
theorem fedTo_skip {i : Nat} (h : kp nt k i = false ∨ (lnk nt i).1 ≠ (k : Int)) : fedTo nt k H (i + 1) = fedTo nt k H i := by
  unfold fedTo
  congr 1
  refine List.map_congr_left (fun x hx => ?_)
  by_cases e : x = i
  · subst e
    rw [if_pos (by omega), if_neg (by omega)]
    rcases h with h | h
    · have := (keepI_mem.1 hx).2
      have h : keepL (k : Int) (lnk nt x) = false := h
      rw [h] at this; cases this
    · unfold fdL; rw [if_neg h]; rfl
  · by_cases h2 : x < i
    · rw [if_pos (by omega), if_pos h2]
    · rw [if_neg (by omega), if_neg h2]
theorem fedTo_feed {i : Nat} (hi : i < nt.2.length) (hk : kp nt k i = true) (hf : (lnk nt i).1 = (k : Int)) (ht : toks nt i <+: H i) :
    (keepTo nt k i).length < (fedTo nt k H i).2.length ∧ (fedTo nt k H i).2.getD (keepTo nt k i).length zLink = dropL (k : Int) (lnk nt i) ∧
    feedN (fedTo nt k H i) (keepTo nt k i).length ((H i).drop (toks nt i).length) = fedTo nt k H (i + 1) := by
  obtain ⟨B, e, hB⟩ := keepI_split hi hk
  have l1 : (fedTo nt k H i).2 = (keepTo nt k i).map (fdL nt k H) ++ dropL (k : Int) (lnk nt i) :: B.map (fun x => dropL (k : Int) (lnk nt x)) := by
    unfold fedTo
    simp only
    rw [e, List.map_append, List.map_cons, if_neg (Nat.lt_irrefl i)]
    congr 1
    · exact List.map_congr_left (fun x hx => if_pos (keepTo_lt hx))
    · congr 1
      exact List.map_congr_left (fun x hx => if_neg (by have := hB x hx; omega))
  have l2 : (fedTo nt k H (i + 1)).2 = (keepTo nt k i).map (fdL nt k H) ++ fdL nt k H i :: B.map (fun x => dropL (k : Int) (lnk nt x)) := by
    unfold fedTo
    simp only
    rw [e, List.map_append, List.map_cons, if_pos (by omega)]
    congr 1
    · exact List.map_congr_left (fun x hx => if_pos (by have := keepTo_lt hx; omega))
    · congr 1
      exact List.map_congr_left (fun x hx => if_neg (by have := hB x hx; omega))
  have g : (fedTo nt k H i).2.getD (keepTo nt k i).length zLink = dropL (k : Int) (lnk nt i) := by
    rw [l1, List.getD_eq_getElem?_getD, List.getElem?_append_right (by simp)]
    simp
  refine ⟨by rw [l1]; simp, g, ?_⟩
  unfold feedN
  rw [g]
  refine Prod.ext rfl ?_
  simp only
  rw [l1, l2, List.set_append_right _ _ (by simp)]
  simp only [List.length_map, Nat.sub_self, List.set_cons_zero]
  congr 2
  unfold moreL fdL
  rw [if_pos hf]
  have e2 : (dropL (k : Int) (lnk nt i)).2.2.2.2 ++ (H i).drop (toks nt i).length = H i := by
    show toks nt i ++ _ = _
    obtain ⟨t, ht⟩ := ht
    rw [← ht]; simp
  rw [e2]
end

theorem sLeastR_spec {n : Nat} {nt : Network} (h : SmallN nt) (o : OkN nt) (hn : 1048576 < n) : sLeastR.f n nt = some (leastR nt 300 1 (tokL nt)) := sLeast_spec h o hn

theorem gone_W {nt : Network} {k i : Nat} (o : OkN nt) (hi : i < nt.2.length) :
    (br (decide ((nt.2.getD i zLink).1 = (k : Int))) (br (decide ((nt.2.getD i zLink).2.2.1 = (k : Int))) (some (Sum.inr (true, ()))) (some (Sum.inr ((decide ((nt.2.getD i zLink).2.2.1 = (-1))), ())))) (br (decide ((nt.2.getD i zLink).1 = (-1))) (br (decide ((nt.2.getD i zLink).2.2.1 = (k : Int))) (some (Sum.inr (true, ()))) (some (Sum.inr ((decide ((nt.2.getD i zLink).2.2.1 = (-1))), ())))) (some (Sum.inr (false, ())))) : Option (Sum (Bool × Unit) (Bool × Unit))) =
      some (Sum.inr (!kp nt k i, ())) := by
  have E := o.ends i hi
  rw [← getD_lt hi zLink] at E
  unfold kp keepL dropL
  generalize nt.2.getD i zLink = l at *
  have eo : l.1 = -1 ∨ 0 ≤ l.1 := E.out.elim (fun h => Or.inl h.1) (fun h => Or.inr h.1)
  have ei : l.2.2.1 = -1 ∨ 0 ≤ l.2.2.1 := E.inn.elim (fun h => Or.inl h.1) (fun h => Or.inr h.1)
  have one := E.one
  simp only
  have ls : ∀ x : Int, x ≠ (k : Int) → (x = -1 → ¬ 0 ≤ lessI (k : Int) x) ∧ (0 ≤ x → 0 ≤ lessI (k : Int) x) := by
    intro x hx
    unfold lessI
    constructor
    · intro h; split <;> omega
    · intro h; split <;> omega
  by_cases c1 : l.1 = (k : Int)
  · rw [br_yes c1, if_pos c1]
    by_cases c2 : l.2.2.1 = (k : Int)
    · rw [br_yes c2, if_pos c2]; rfl
    · rw [br_no c2, if_neg c2]
      rcases ei with h | h
      · rw [decide_eq_true h, decide_eq_false ((ls _ c2).1 h)]; rfl
      · rw [decide_eq_false (show ¬ l.2.2.1 = -1 by omega), decide_eq_true ((ls _ c2).2 h)]; rfl
  · rw [br_no c1, if_neg c1]
    by_cases c3 : l.1 = -1
    · rw [br_yes c3]
      have f0 := (ls _ c1).1 c3
      rw [decide_eq_false f0]
      by_cases c2 : l.2.2.1 = (k : Int)
      · rw [br_yes c2, if_pos c2]; rfl
      · rw [br_no c2, if_neg c2]
        rcases ei with h | h
        · rw [decide_eq_true h, decide_eq_false ((ls _ c2).1 h)]; rfl
        · rw [decide_eq_false (show ¬ l.2.2.1 = -1 by omega), decide_eq_true ((ls _ c2).2 h)]; rfl
    · rw [br_no c3, decide_eq_true ((ls _ c1).2 (by omega))]; rfl

theorem law_true (code : List Int) (hcode : InR (.sl U8) code) : ∃ n, law.f n code = some (true, ()) := by
  obtain ⟨n, hn⟩ : ∃ n : Nat, 1048576 < n := ⟨1048577, by omega⟩
  refine ⟨n, ?_⟩
  unfold law.f
  by_cases hl : code.length ≤ 1048576
  rotate_left
  · rw [br_yes (by omega)]
  rw [br_no (show ¬ (1048576 < (code.length : Int)) by omega)]
  refine W_eq.1 ?_
  rw [W_bind]
  refine W_and (makeNetwork_W (m := 5) hl (by omega) hn) (fun r1 hN => ?_)
  rw [W_brd]
  refine ⟨fun _ => W_some.2 rfl, fun hne => ?_⟩
  rw [W_bind]
  refine W_and (lawAt_W hl hcode (by omega)) (fun r2 h2 => ?_)
  rw [if_neg hne]
  obtain ⟨nt, ⟨⟩⟩ := r1
  have hS := hN.small
  have o : OkN nt := hN.ok
  have hlk := o.links
  have hne : ¬ ((nt.1.length : Int) = 0) := hne
  simp only
  have hk1 := Int.tmod_nonneg (a := r2.1) (nt.1.length : Int) h2.1
  have hk2 := Int.tmod_lt_of_pos r2.1 (b := (nt.1.length : Int)) (by omega)
  generalize r2.1.tmod (nt.1.length : Int) = k0 at hk1 hk2
  obtain ⟨k, rfl⟩ : ∃ l : Nat, k0 = (l : Int) := ⟨k0.toNat, by omega⟩
  have hk : k < nt.1.length := by omega
  have od := dropN_ok o hk
  have sd := dropN_small hS o hk
  have hdrp : drp nt (k : Int) = (dropN nt k, (true, ())) := by
    unfold drp
    rw [okN_true o, decide_eq_true (show 0 ≤ (k : Int) ∧ (k : Int) < (nt.1.length : Int) by omega)]
    rfl
  rw [iDropProcess_spec hS hn, hdrp, bind_unit, sLeastR_spec hS o hn, bind_unit]
  simp only [Bool.not_true, br_false]
  rw [sIsNetwork_spec sd hn, okN_true od]
  simp only [bind_unit, Option.bind_some, Bool.not_true, cut_inr, br_false]
  unfold leastR
  cases e : leastF nt 300 1 (tokL nt) with
  | none => exact W_some.2 rfl
  | some gr =>
    obtain ⟨hL, r⟩ := gr
    have e : leastP nt = some (hL, r) := e
    have L := lst_of o e
    have lg := least_len e
    have hok : ∀ i, i < nt.2.length → okS (atL hL i) = true := fun i hi => least_okS e hi
    simp only [Bool.not_true, br_false]
    have mB : maxB = 140737488355328 := rfl
    refine W_up (fun i (s : Unit) => (((keepTo nt k i).length : Int), ((i : Int), ((fedTo nt k (atL hL) i).1, ((fedTo nt k (atL hL) i).2, ((keepTo nt k i).map (atL hL), ())))))) nt.2.length (fun _ _ => True) (s0 := ()) ?_ trivial (by omega) (fun ih _ _ => ?_) (fun ih i _ hi _ hS2 => ?_)
    · rw [← dropN_eq]; rfl
    · -- the end
      simp only [br_no (Int.lt_irrefl _)]
      have om : OkN (fedD nt k (atL hL)) := fedTo_ok o hk hok nt.2.length
      rw [show ((fedTo nt k (atL hL) nt.2.length).1, (fedTo nt k (atL hL) nt.2.length).2) = fedD nt k (atL hL) from rfl]
      rw [iLeast_spec (small_okN om) om hn, bind_unit]
      obtain ⟨r', e'⟩ := least_D o hk e
      have e' : leastF (fedD nt k (atL hL)) 300 1 (tokL (fedD nt k (atL hL))) = some ((keepI nt k).map (atL hL), r') := e'
      have ek : keepTo nt k nt.2.length = keepI nt k := rfl
      rw [ek]
      have e2 : leastR (fedD nt k (atL hL)) 300 1 (tokL (fedD nt k (atL hL))) = ((keepI nt k).map (atL hL), (r', (true, ()))) := by unfold leastR; rw [e']
      rw [e2]
      simp only [br_true]
      have kl := keepTo_len (nt := nt) (k := k) (i := nt.2.length)
      rw [ek] at kl
      rw [makeEqual_spec (by rw [List.length_map]; omega) (fun j => ?_) hn, bind_unit]
      · simp only [decide_true]; exact W_some.2 rfl
      · rcases Nat.lt_or_ge j (keepI nt k).length with hj | hj
        · rw [atL_keep hj]
          have := (okS_len (hok _ (keepI_mem.1 (List.getElem_mem hj)).1)).1
          omega
        · unfold atL
          rw [List.getD_eq_getElem?_getD, List.getElem?_eq_none (by simpa using hj)]; simp
    · have kl := keepTo_len (nt := nt) (k := k) (i := i)
      simp only [br_yes (show (i : Int) < (nt.2.length : Int) by omega), Int.toNat_natCast]
      rw [chk_true (by omega)]
      refine W_cut_of (!kp nt k i, ()) (gone_W o hi) ?_
      simp only
      cases hkp : kp nt k i with
      | false =>
        simp only [Bool.not_false, br_true]
        rw [w64_succ (by omega)]
        have h := hS2 () trivial
        rw [fedTo_skip (Or.inl hkp), keepTo_succ, if_neg (by rw [hkp]; simp)] at h
        exact h
      | true =>
        simp only [Bool.not_true, br_false]
        have gi : hL.getD i [] = atL hL i := rfl
        have ks : keepTo nt k (i + 1) = keepTo nt k i ++ [i] := by rw [keepTo_succ, if_pos hkp]
        rw [chk_true (by omega), chk_true (by rw [mB]; simp only [List.length_map, List.length_singleton]; omega)]
        have h := hS2 () trivial
        rw [ks, List.map_append, List.length_append, List.length_singleton] at h
        by_cases c : (lnk nt i).1 = (k : Int)
        · have c' : (nt.2.getD i zLink).1 = (k : Int) := c
          obtain ⟨f1, f2, f3⟩ := fedTo_feed (H := atL hL) hi hkp c (L.tk i)
          have om := fedTo_ok o hk hok i
          have pl := (L.tk i).length_le
          have pl : (nt.2.getD i zLink).2.2.2.2.length ≤ (atL hL i).length := pl
          have hx := hok i hi
          have hfeed : okS (((fedTo nt k (atL hL) i).2.getD (keepTo nt k i).length zLink).2.2.2.2 ++ (atL hL i).drop (toks nt i).length) = true := by
            rw [f2]
            have : (dropL (k : Int) (lnk nt i)).2.2.2.2 ++ (atL hL i).drop (toks nt i).length = atL hL i := by
              show toks nt i ++ _ = _
              obtain ⟨t, ht⟩ := L.tk i
              rw [← ht]; simp
            rw [this]; exact hx
          have fs := iFeed_spec (n := n) (small_okN om) om f1 hfeed hn
          rw [f3] at fs
          rw [br_yes c', chk_true (by omega)]
          simp only [gi]
          rw [chk_true (by omega)]
          have ed : ((atL hL i).take (atL hL i).length).drop (nt.2.getD i zLink).2.2.2.2.length = (atL hL i).drop (toks nt i).length := by
            rw [List.take_length]; rfl
          rw [ed, show ((fedTo nt k (atL hL) i).1, (fedTo nt k (atL hL) i).2) = fedTo nt k (atL hL) i from rfl, fs]
          simp only [bind_unit, Option.bind_some, Bool.not_true, br_false, cut_inr]
          rw [w64_succ (by omega), w64_succ (i := i) (by omega)]
          exact h
        · have c' : ¬ (nt.2.getD i zLink).1 = (k : Int) := c
          rw [br_no c']
          simp only [cut_inr, gi]
          rw [w64_succ (by omega), w64_succ (i := i) (by omega)]
          rw [fedTo_skip (Or.inr c)] at h
          exact h
end Go.AmT
