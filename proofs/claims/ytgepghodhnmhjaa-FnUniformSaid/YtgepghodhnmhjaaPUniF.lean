/- More room does no harm: the law of the least capacity. -/
import Derived.Test.YtgepghodhnmhjaaLUniF
import Derived.Test.YtgepghodhnmhjaaPLstU
import Derived.Test.YtgepghodhnmhjaaPRunK
import Derived.Test.YtgepghodhnmhjaaPGenS
namespace Go.AmT
open Go Go.Am
set_option linter.unusedVariables false
set_option linter.unusedSimpArgs false

theorem lstep_used {p : Program} {I : Nat → List Int} {c d : Lc} (e : lstep p I c = some d) (b : Nat) : c.2.2 b ≤ d.2.2 b := by
  unfold lstep at e
  split at e
  · cases e
  · split at e
    · split at e
      · cases e
        show _ ≤ upd _ _ _ b
        unfold upd
        split
        · rename_i h; subst h; omega
        · exact Nat.le_refl _
      · cases e
    · split at e <;> (cases e; exact Nat.le_refl _)
theorem lrun_used {p : Program} {I : Nat → List Int} : ∀ {m : Nat} {c d : Lc}, lrun p I m c = some d → ∀ b, c.2.2 b ≤ d.2.2 b
  | 0, c, d, e, b => by cases e; exact Nat.le_refl _
  | m + 1, c, d, e, b => by
    have e : (lrun p I m c).bind (lstep p I) = some d := e
    cases h : lrun p I m c with
    | none => rw [h] at e; cases e
    | some x =>
      rw [h] at e
      exact Nat.le_trans (lrun_used h b) (lstep_used e b)
theorem queue_len {nt : Network} {s : State} (o : OkSt nt s) {j : Nat} (hj : j < nt.2.length) : (queue s j).length = (sent s j).length - used s j := by
  rw [queue_suf o hj, List.length_drop]
/-- what may be done with less room may be done later with more -/
theorem may_later {nt : Network} {s0 s t : State} {m mt : Nat → Nat} {caps caps' : List Int} (A : Acc nt s0 s m) (B : Acc nt s0 t mt) {k : Nat} (hk : k < nt.1.length) (hm : ∀ j, j < nt.1.length → m j ≤ mt j)
    (h : lc nt s k = lc nt t k) (S : Sub (sent s) (sent t)) (hc : mayP nt s caps k = true) (hcc : ∀ j, caps.getD j 0 ≤ caps'.getD j 0) (ht : t.2.2.2 < 20000) : mayP nt t caps' k = true := by
  have hca := may_can hc
  have hct := can_later A.ok B.ok hk h S hca ht
  have hw : wantOf nt s k = wantOf nt t k := want_of_lc h
  have hl : linkOf nt s k = linkOf nt t k := by unfold linkOf; rw [hw]
  unfold mayP at hc ⊢
  rw [hct, ← hw, ← hl, Bool.true_and]
  simp only [Bool.and_eq_true, Bool.or_eq_true, Bool.not_eq_true', decide_eq_false_iff_not, decide_eq_true_eq] at hc ⊢
  rcases hc.2 with h1 | h1 | h1
  · exact .inl h1
  · exact .inr (.inl h1)
  · by_cases h3 : (wantOf nt s k).1 = 3
    rotate_left
    · exact .inl h3
    by_cases h4 : (nt.2.getD (linkOf nt s k).toNat zLink).2.2.1 < 0
    · exact .inr (.inl h4)
    refine .inr (.inr ?_)
    obtain ⟨j, hj, ej, hf⟩ := linkOf_from A.ok hk h3
    rw [ej, Int.toNat_natCast] at h1 h4 ⊢
    have q1 := queue_len A.ok hj
    have q2 := queue_len B.ok hj
    have hs : sent t j = sent s j := by
      obtain ⟨b, eb, -, hb3⟩ := port_nat A.ok hk
      have hb := hb3 h3
      have hb' : (b : Int) < (prog nt k).2.1 := by unfold prog; rw [getD_lt hk]; exact hb
      have ej2 : lfr nt k b = j := by
        unfold lfr
        have : linkOf nt s k = onlyIx (isFrom (k : Int) (b : Int)) nt.2 := by unfold linkOf; rw [if_neg (by omega), if_pos h3, eb]
        rw [← this, ej]; rfl
      rw [← ej2, sent_from A.ok hk hb', sent_from B.ok hk hb', h]
    have hu : used s j ≤ used t j := by
      rcases link_cases' A.ok.net hj with h5 | ⟨k2, b2, hk2, hb2, e2⟩
      · unfold lnk at h5; omega
      · rw [← e2, used_to A.ok hk2 hb2, used_to B.ok hk2 hb2]
        exact lrun_used (acc_outs A B S hk2 (hm k2 hk2)) b2
    have c1 := hcc j
    unfold queue at q1 q2
    rw [hs] at q2
    omega
/-- a run that comes to its end with less room comes to it with more -/
theorem quiet_more {nt : Network} {caps caps' : List Int} {most : Int} (o : OkN nt) (hm : 0 ≤ most ∧ most < 20000) (hcc : ∀ j, caps.getD j 0 ≤ caps'.getD j 0) (h : anyCan nt (runT nt (some caps) most (start nt)) = false) : anyCan nt (runT nt (some caps') most (start nt)) = false := by
  have o0 := start_ok o
  obtain ⟨mt, T⟩ := runT_steps (c := some caps) (most := most) o0
  obtain ⟨m, S⟩ := runT_steps (c := some caps') (most := most) o0
  have hT := runT_most (c := some caps) (most := most) o0
  have hS := runT_end (c := some caps') (most := most) o0
  have hS2 := runT_most (c := some caps') (most := most) o0
  generalize runT nt (some caps) most (start nt) = t at T hT h
  generalize runT nt (some caps') most (start nt) = s at S hS hS2
  have h0 : (start nt).2.2.2 = 0 := rfl
  rw [h0] at hT hS hS2
  have key : t.2.2.2 ≤ s.2.2.2 → anyCan nt s = false := fun hle => by
    rw [S.end_of_count o0 T h (by omega) hle]; exact h
  by_cases hc : t.2.2.2 ≤ s.2.2.2
  · exact key hc
  · refine key ?_
    have hno : (List.range nt.1.length).any (mayO nt (some caps') s) = false := by
      cases hx : (List.range nt.1.length).any (mayO nt (some caps') s)
      · rfl
      · exact absurd ⟨hx, by omega⟩ hS
    have ha := Steps.ahead o0 (S.acc o0) (fun s1 m1 k S1 hk hle _ e hsub hg hcan => by
      have hg : mayP nt s1 caps k = true := hg
      have := may_later (S1.acc o0) (S.acc o0) hk hle e hsub hg hcc (by omega)
      have h2 : (List.range nt.1.length).any (mayO nt (some caps') s) = true := any_of hk this
      rw [hno] at h2; cases h2) (S.sub o0) T
    have c1 := S.count
    have c2 := T.count
    have := total_le ha.1
    omega
theorem uni_le {nt : Network} {c d : Int} (o : OkN nt) (h : 0 ≤ c) (hcd : c ≤ d) (hd : d ≤ 400) (j : Nat) : (uni nt c).getD j 0 ≤ (uni nt d).getD j 0 := by
  unfold uni
  rw [okN_true o, decide_eq_true (show 0 ≤ c ∧ c ≤ 400 by omega), decide_eq_true (show 0 ≤ d ∧ d ≤ 400 by omega)]
  simp only [Bool.and_self, if_true]
  by_cases hj : j < nt.2.length
  · rw [getD_lt (by simpa using hj), getD_lt (by simpa using hj), List.getElem_map, List.getElem_map]; omega
  · rw [List.getD_eq_getElem?_getD, List.getElem?_eq_none (by simp; omega), List.getD_eq_getElem?_getD, List.getElem?_eq_none (by simp; omega)]; exact Int.le_refl _
theorem uniW_quiet {nt : Network} {most : Int} {c : Nat} : uniW nt most c = 1 ↔ anyCan nt (runT nt (some (uni nt (c : Int))) most (start nt)) = false := by
  unfold uniW runB bndW
  cases anyCan nt (runT nt (some (uni nt (c : Int))) most (start nt))
  · simp
  · cases anyMay nt (runT nt (some (uni nt (c : Int))) most (start nt)) (uni nt (c : Int)) <;> simp
theorem uniW_more {nt : Network} (o : OkN nt) {c : Nat} (hc : c ≤ 8) (h : uniW nt 3000 c = 1) : uniW nt 3000 (c + 1) = 1 := by
  rw [uniW_quiet] at h ⊢
  exact quiet_more o (by omega) (fun j => uni_le o (by omega) (by omega) (by omega) j) h
theorem runBounded_uni {nt : Network} {c : Nat} (o : OkN nt) (hc : c ≤ 400) : (runBounded nt (start nt) (uni nt (c : Int)) 3000).2 = uniW nt 3000 c := by
  unfold runBounded
  rw [okSt_true (start_ok o), uni_okC o (by omega)]; rfl
theorem law_true (code : List Int) : ∃ n, law.f n code = some (true, ()) := by
  refine ⟨1048577, ?_⟩
  have hn : 1048576 < 1048577 := by omega
  unfold law.f
  by_cases hl : code.length ≤ 1048576
  rotate_left
  · rw [br_yes (by omega)]
  rw [br_no (show ¬ (1048576 < (code.length : Int)) by omega)]
  refine W_eq.1 ?_
  rw [W_bind]
  refine W_and (makeNetwork_W (m := 4) hl (by omega) hn) (fun r1 hN => ?_)
  obtain ⟨nt, ⟨⟩⟩ := r1
  have hS := hN.small
  have o : OkN nt := hN.ok
  have o0 := start_ok o
  have hs0 := small_of_ok o0
  rw [W_eq]
  simp only
  rw [iLeastUniform_spec hS hn, bind_unit]
  have hlU : leastU nt 8 3000 = (match (List.range 9).find? (fun c => decide (uniW nt 3000 c = 1)) with | some c => ((c : Int), true) | none => (0, false)) := by
    unfold leastU; rw [okN_true o]; rfl
  cases e : (List.range 9).find? (fun c => decide (uniW nt 3000 c = 1)) with
  | none =>
    rw [e] at hlU
    simp only [hlU, Bool.not_false, br_true]
    rw [sLeastUniform_spec hS hn, bind_unit, hlU]; rfl
  | some c =>
    rw [e] at hlU
    rw [List.find?_range_eq_some] at e
    obtain ⟨h1, h2, h3⟩ := e
    have h1 : uniW nt 3000 c = 1 := of_decide_eq_true h1
    have h2 : c < 9 := List.mem_range.1 h2
    simp only [hlU, Bool.not_true, br_false]
    rw [br_no (show ¬ (c : Int) < 0 by omega), cut_inr, decide_eq_false (show ¬ 8 < (c : Int) by omega), br_false]
    have hrun : ∀ d : Nat, d ≤ 400 → iRunBounded.f 1048577 nt (start nt) (uni nt (d : Int)) 3000 = some ((runBounded nt (start nt) (uni nt (d : Int)) 3000).1, (uniW nt 3000 d, ())) := fun d hd => by
      rw [iRunBounded_spec hS hs0 (uni_len hS) hn, runBounded_uni o hd]
    simp only [sStartState_spec hS o hn, bind_unit, iUni_spec hS hn]
    rw [w64_succ (by omega), hrun c (by omega)]
    simp only [bind_unit]
    rw [hrun (c + 1) (by omega), bind_unit, h1, uniW_more o (by omega) h1]
    simp only [decide_true, Bool.not_true, br_false, cut_inr]
    by_cases hc : c = 0
    · rw [br_yes (by omega)]
    · rw [br_no (by omega), w64_id (by omega) (by omega), show (c : Int) - 1 = ((c - 1 : Nat) : Int) by omega, hrun (c - 1) (by omega), bind_unit]
      have := h3 (c - 1) (by omega)
      simp only [Bool.not_eq_true', decide_eq_false_iff_not] at this
      rw [decide_eq_false this]; rfl
end Go.AmT
