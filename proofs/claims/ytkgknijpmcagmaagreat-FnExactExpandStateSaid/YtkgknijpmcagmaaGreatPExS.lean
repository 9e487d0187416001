/- A state that grows with its network, in plain Lean: the law. -/
import Derived.Test.YtkgknijpmcagmaaGreatLExS
import Derived.Test.YtkgknijpmcagmaaGreatPExSt
namespace Go.AmT
open Go Go.Am
set_option linter.unusedVariables false
set_option linter.unusedSimpArgs false

theorem delA_spec {n j : Nat} {a : List Actor} (h : j < a.length) (hl : a.length ≤ 12) : delA.f n (j : Int) (w64 ((j : Int) + 1)) a = some (rem j a, ()) := by
  rw [w64_succ (by omega), ← rem_erase]
  unfold delA.f delR
  have c : 0 ≤ (j : Int) ∧ ((j + 1 : Nat) : Int) = (j : Int) + 1 ∧ ((j + 1 : Nat) : Int) ≤ (List.length (α := tA.T) a : Int) := by
    have e : List.length (α := tA.T) a = a.length := rfl
    rw [e]
    omega
  rw [if_pos c]
  rfl
theorem iExpandState_spec {n : Nat} {nt m : Network} {s : State} {k : Int} (h : SmallN nt) (hs : SmallSt s) (h' : SmallN m) (hn : 1048576 < n) : iExpandState.f n nt s k m = some (expS nt s k m) := by
  unfold iExpandState.f expS
  rw [iIsState_spec h hs hn]
  cases h2 : okSt nt s
  · rw [if_neg (by simp)]; rfl
  · have o : OkSt nt s := of_decide_eq_true h2
    have hna := o.na
    have hp := o.net.progs
    have hl := o.net.links
    simp only [Option.bind_some, Bool.not_true, br_false]
    by_cases hk : 0 ≤ k ∧ k < (s.1.length : Int)
    rotate_left
    · have hf : (expd nt k m).2.1 = true → False := fun h1 => by
        obtain ⟨j, rfl, T⟩ := expd_tm h1
        have := T.lt
        exact hk ⟨by omega, by omega⟩
      rw [if_neg (fun h => hf h.1)]
      by_cases h0 : k < 0
      · rw [br_yes h0]; rfl
      · rw [br_no h0, cut_inr]
        simp only
        rw [decide_eq_true (show (s.1.length : Int) ≤ k by omega)]; rfl
    · obtain ⟨k, rfl⟩ : ∃ j : Nat, k = (j : Int) := ⟨k.toNat, by omega⟩
      have hkl : k < s.1.length := by omega
      rw [br_no (by omega), cut_inr]
      simp only
      rw [decide_eq_false (show ¬ (s.1.length : Int) ≤ (k : Int) by omega), br_false, chk_true hk, Int.toNat_natCast]
      have ha := hs.actor (s.1.getD k zActor) (by rw [getD_lt hkl]; exact List.getElem_mem hkl)
      rw [equalI_spec ha hn]
      by_cases h3 : s.1.getD k zActor = nA
      rotate_left
      · rw [if_neg (fun h => h3 h.2.2)]
        by_cases h4 : (s.1.getD k zActor).1 = 0
        · have h5 : ¬ (s.1.getD k zActor).2 = [0, 0, 0, 0] := fun e => h3 (Prod.ext h4 e)
          simp only [Option.bind_some]
          rw [decide_eq_true h4, decide_eq_false h5]; rfl
        · rw [decide_eq_false h4]; rfl
      · have h4 : (s.1.getD k zActor).1 = 0 := by rw [h3]
        have h5 : (s.1.getD k zActor).2 = [0, 0, 0, 0] := by rw [h3]
        simp only [Option.bind_some]
        rw [decide_eq_true h4, decide_eq_true h5]
        simp only [Bool.not_true, br_false, cut_inr]
        rw [iExp_spec h h' hn]
        have hu : ∀ x : Network × Bool × Unit, ∀ f : (Network × Bool × Unit) → Option (State × (Bool × Unit)), (some x).bind f = f x := fun _ _ => rfl
        rw [hu]
        cases h1 : (expd nt k m).2.1
        · rw [if_neg (by simp)]; rfl
        · obtain ⟨j, hj, T⟩ := expd_tm h1
          obtain rfl : j = k := by omega
          rw [if_pos ⟨rfl, trivial, h3⟩]
          simp only [Bool.not_true, br_false]
          rw [copyState_spec hs hn, bind_unit]
          dsimp only
          have hd : delA.f n (j : Int) (w64 ((j : Int) + 1)) s.1 = some (rem j s.1, ()) := by
            exact delA_spec (by omega) (by omega)
          rw [hd, bind_unit]
          dsimp only
          have hp' := T.tn.progs
          have hl' := T.tn.links
          have hrl : (rem j s.1).length ≤ 24 := by simp [rem]; omega
          refine push_loopE m.1 (fun _ => nA) (fun i t => (i, (s.2.2.2, (rem j s.1 ++ t, (s.2.1, (s.2.2.1, ())))))) (fun ih i hi t ht => ?_) (fun ih => ?_) (by omega) |> fun e => Eq.trans (by rw [List.append_nil]) e
          · have c1 : (i : Int) < (m.1.length : Int) := by omega
            have e1 : m.1.getD i zProgram = m.1[i] := getD_lt hi _
            show br (decide ((i : Int) < (m.1.length : Int))) _ _ = _
            rw [br_yes c1, chk_true ⟨by omega, c1⟩]
            simp only [Int.toNat_natCast, e1]
            rw [iNewActor_specE (h'.prog _ (List.getElem_mem hi)) (T.tn.prog i hi) hn, Option.bind_some, small_chk (by simp; omega), w64_succ (by omega), List.append_assoc]
          · show br (decide ((m.1.length : Int) < (m.1.length : Int))) _ _ = _
            rw [br_no (Int.lt_irrefl _)]
            have hnq := o.nq; have hns := o.ns
            have hG := expd_small (k := (j : Int)) h h'
            have hS := iIsState_spec (n := n) hG (grown_small (k := j) hs o T.tn h') hn
            unfold grown at hS ⊢
            refine Eq.trans (pushif_loop m.2.length (fun i => innerL (m.2.getD i zLink)) (fun i => (m.2.getD i zLink).2.2.2.2) (fun (i : Int) (t : List (List Int)) => (i, (s.2.2.2, (rem j s.1 ++ m.1.map (fun _ => nA), (s.2.1 ++ t, (s.2.2.1 ++ t, ())))))) (R := fun t => (iIsState.f n (expd nt j m).1 (rem j s.1 ++ m.1.map (fun _ => nA), (s.2.1 ++ t, (s.2.2.1 ++ t, s.2.2.2)))).bind fun r87 => br (!r87.1) (some (([], ([], ([], 0))), (false, ()))) (some ((rem j s.1 ++ m.1.map (fun _ => nA), (s.2.1 ++ t, (s.2.2.1 ++ t, s.2.2.2))), (true, ())))) (fun ih i hi t ht => ?_) (fun ih t => br_no (Int.lt_irrefl _)) (by omega)) ?_ |> fun e => Eq.trans (by rw [List.append_nil, List.append_nil]) e
            · have c1 : (i : Int) < (m.2.length : Int) := by omega
              have e1 : m.2.getD i zLink = m.2[i] := getD_lt hi _
              have hm := List.getElem_mem hi
              show br (decide ((i : Int) < (m.2.length : Int))) _ _ = _
              rw [br_yes c1, chk_true ⟨by omega, c1⟩]
              simp only [Int.toNat_natCast, e1]
              rw [w64_succ (by omega), cloneI_spec (h'.link _ hm).tokens]
              simp only [Option.bind_some, innerL]
              by_cases f1 : 0 ≤ m.2[i].1
              · rw [br_yes f1]
                simp only [cut_inr, f1, decide_true, Bool.true_and]
                by_cases f2 : 0 ≤ m.2[i].2.2.1
                · rw [br_yes f2, if_pos (decide_eq_true f2), small_chk (by simp; omega), small_chk (by simp; omega), List.append_assoc, List.append_assoc]
                · rw [br_no f2, if_neg (by simp [f2])]
              · rw [br_no f1]
                simp only [cut_inr, f1, decide_false, Bool.false_and, br_false]; rfl
            · rw [range_fm m.2 innerL (fun l => l.2.2.2.2) zLink]
              unfold innT at hS ⊢
              rw [hS]
              simp only [Option.bind_some]
              cases okSt _ _ <;> rfl
theorem expS_small {nt m : Network} {s : State} {k : Int} (hs : SmallSt s) (h' : SmallN m) : SmallSt (expS nt s k m).1 := by
  have z : SmallSt (([], ([], ([], 0))) : State) := ⟨by simp, by simp, by simp, by simp, by simp, by simp⟩
  unfold expS
  split
  · rename_i hc
    obtain ⟨h1, h2, h3⟩ := hc
    obtain ⟨k, rfl, T⟩ := expd_tm h1
    split
    · exact grown_small hs (of_decide_eq_true h2) T.tn h'
    · exact z
  · exact z
theorem law_true (nt : Network) (s : State) (k : Int) (m : Network) (h : InR tNetwork nt) (hst : InR tState s) (h' : InR tNetwork m) : ∃ n, law.f n nt s k m = some (true, ()) := by
  refine ⟨1048577, ?_⟩
  have hn : 1048576 < 1048577 := by omega
  unfold law.f
  obtain ⟨r, e, r1, r2⟩ := szNetwork_spec (n := 1048577) (left := 1048576) (by omega) h (by omega) (by omega)
  simp only [e, Option.bind_some]
  by_cases hr : r < 0
  · simp [hr, br]
  · rw [br_no hr]
    have hS := r2 (by omega)
    obtain ⟨q, e, q1, q2⟩ := szState_spec (n := 1048577) (left := r) (by omega) hst (by omega) (by omega)
    simp only [e, Option.bind_some]
    by_cases hq : q < 0
    · simp [hq, br]
    · rw [br_no hq]
      have hT := q2 (by omega)
      obtain ⟨p, e, p1, p2⟩ := szNetwork_spec (n := 1048577) (left := q) (by omega) h' (by omega) (by omega)
      simp only [e, Option.bind_some]
      by_cases hp : p < 0
      · simp [hp, br]
      · rw [br_no hp]
        have hM := p2 (by omega)
        have hU := expS_small (nt := nt) (k := k) hT hM
        have k1 := mNetwork_le (k := 1) hS
        have k2 := mState_le (k := (mNetwork nt 1).2) hT
        have k3 := mState_le (k := 1) hU
        have k4 := mNetwork_le (k := (mState s (mNetwork nt 1).2).2) hM
        have c1 : ¬ (mNetwork m (mState s (mNetwork nt 1).2).2).2 < 0 := by omega
        have c2 : ¬ (mState (expS nt s k m).1 1).2 < 0 := by omega
        have m1 := markNetwork_spec (n := 1048577) hS (show (0 : Int) ≤ 1 by omega) (show (1 : Int) ≤ 281474976710656 by omega) hn
        have m2 := markState_spec (n := 1048577) (k := (mNetwork nt 1).2) hT (by omega) (by omega) hn
        have m6 := markNetwork_spec (n := 1048577) (k := (mState s (mNetwork nt 1).2).2) hM (by omega) (by omega) hn
        have m3 := markState_spec (n := 1048577) hU (show (0 : Int) ≤ 1 by omega) (show (1 : Int) ≤ 281474976710656 by omega) hn
        have m4 := heldState_spec (n := 1048577) hU (show (0 : Int) ≤ 1 by omega) (show (1 : Int) ≤ 281474976710656 by omega) hn
        have m5 : heldState.f 1048577 ((mState (expS nt s k m).1 1).1.1, ((mState (expS nt s k m).1 1).1.2.1, ((mState (expS nt s k m).1 1).1.2.2.1, (expS nt s k m).1.2.2.2))) 1 = some ((mState (expS nt s k m).1 1).2, ()) := m4
        simp only [toNetworkR_spec hS hn, toStateR_spec hT hn, toNetworkR_spec hM hn, toNetwork_spec hS hn, toState_spec hT hn, toNetwork_spec hM hn, sExpandState_spec hS hT hM hn, iExpandState_spec hS hT hM hn, eqNetwork_refl hS hn, eqNetwork_refl hM hn, eqState_refl hT hn, eqState_refl hU hn, Option.bind_some, decide_true, Bool.not_true, br_false, cut_inr, m1, m2, m3, m5, m6, c1, c2, decide_false]
end Go.AmT
