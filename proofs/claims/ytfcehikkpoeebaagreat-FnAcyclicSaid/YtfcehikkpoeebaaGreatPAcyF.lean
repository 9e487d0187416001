/- Without a cycle: rounds; chains: no jam. The law. -/
import Derived.Test.YtfcehikkpoeebaaGreatLAcyF
import Derived.Test.YtfcehikkpoeebaaGreatPAcy
import Derived.Test.YtfcehikkpoeebaaGreatPChainK
import Derived.Test.YtfcehikkpoeebaaGreatPGenS
namespace Go.AmT
open Go Go.Am
set_option linter.unusedVariables false
set_option linter.unusedSimpArgs false

theorem a_makeStream_W {n : Nat} {code : List Int} (hb : code.length ≤ 1048576) (hn : 1048576 < n) : W (makeStream.f n code 6) (fun r => Toks 6 r.1) := by
  unfold makeStream.f
  rw [W_bind]
  refine W_and (curNew_W hb hn) (fun r1 c1 => ?_)
  rw [W_bind]
  have e : max (0 : Int) (min 6 100) = ((6 : Nat) : Int) := by decide
  rw [e]
  refine W_and (tokens_W hb (m := 6) (by omega) hn c1) (fun r2 h2 => ?_)
  exact W_some.2 h2.1
def uni1 (nt : Network) : List Int := nt.2.map fun l => max 1 (l.2.2.2.2.length : Int)
theorem a_iUni {n : Nat} {nt : Network} (h : SmallN nt) (o : OkN nt) (hn : 1048576 < n) : iUni.f n nt 1 = some (uni1 nt, ()) := by
  have hl := o.links
  unfold iUni.f uni1
  rw [iIsNetwork_spec h hn, show okN nt = true by simp [okN, o]]
  simp only [bind_unit, Option.bind_some, Bool.not_true, br_false]
  rw [br_no (by omega)]
  simp only [cut_inr]
  rw [br_no (by omega)]
  refine push_loopE nt.2 (fun l => max 1 (l.2.2.2.2.length : Int)) (fun i s => (i, (s, ()))) (fun ih i hi s hs => ?_) (fun ih => br_no (Int.lt_irrefl _)) (by omega)
  have e1 : nt.2.getD i zLink = nt.2[i] := getD_lt hi _
  show br (decide ((i : Int) < (nt.2.length : Int))) _ _ = _
  rw [br_yes (by omega), chk_true (by omega)]
  simp only [Int.toNat_natCast, e1]
  rw [small_chk (by simp; omega), w64_succ (by omega)]
theorem uni1_ok {ps : List Program} {t : List Int} (o : OkN (chainN ps t)) (ht : t.length ≤ 6) : okC (chainN ps t).2 (uni1 (chainN ps t)) = true ∧ ∀ j, j < ps.length + 1 → 1 ≤ (uni1 (chainN ps t)).getD j 0 := by
  have len : (uni1 (chainN ps t)).length = ps.length + 1 := by simp [uni1, chainN]
  have g : ∀ j, j < ps.length + 1 → (uni1 (chainN ps t)).getD j 0 = max 1 ((lnk (chainN ps t) j).2.2.2.2.length : Int) := by
    intro j hj
    unfold uni1 lnk
    rw [getD_lt (by rw [List.length_map, clen2]; exact hj), List.getElem_map, getD_lt (by rw [clen2]; exact hj)]
  have tl : ∀ j, (lnk (chainN ps t) j).2.2.2.2.length ≤ 6 := by
    intro j
    cases j with
    | zero => exact ht
    | succ j =>
      have : (lnk (chainN ps t) (j + 1)).2.2.2.2 = [] := ctoks (ps := ps) (t := t) (j := j + 1) (by omega)
      rw [this]; simp
  refine ⟨?_, fun j hj => by rw [g j hj]; omega⟩
  unfold okC
  rw [Bool.and_eq_true, decide_eq_true_eq, List.all_eq_true]
  refine ⟨by rw [len, clen2], fun j hj => ?_⟩
  have hj := List.mem_range.1 hj
  rw [len] at hj
  have := tl j
  rw [g j hj, Bool.and_eq_true, decide_eq_true_eq, decide_eq_true_eq]
  have e : (chainN ps t).2.getD j zLink = lnk (chainN ps t) j := rfl
  rw [e]
  constructor <;> omega

theorem law_true (code : List Int) (hcode : InR (.sl U8) code) : ∃ n, law.f n code = some (true, ()) := by
  obtain ⟨n, hn⟩ : ∃ n : Nat, 1048576 < n := ⟨1048577, by omega⟩
  refine ⟨n, ?_⟩
  unfold law.f
  by_cases hl : code.length ≤ 1048576
  rotate_left
  · rw [br_yes (by omega)]
  rw [br_no (show ¬ (1048576 < (code.length : Int)) by omega)]
  refine W_eq.1 ?_
  rw [W_bind]
  refine W_and (makeNetwork_W (m := 6) hl (by omega) hn) (fun r1 hN => ?_)
  obtain ⟨nt, ⟨⟩⟩ := r1
  have hS := hN.small
  have o : OkN nt := hN.ok
  have hp := o.progs
  simp only
  rw [iHasCycle_spec hS o hn, bind_unit]
  refine W_cut_of () ?_ ?_
  · -- the rounds
    simp only
    cases hc : cyc nt with
    | true => rfl
    | false =>
      simp only [Bool.not_false, br_true]
      rw [iLeast_spec hS o hn, sLeast_spec hS o hn]
      simp only [bind_unit, Option.bind_some, decide_true, Bool.not_true, br_false]
      unfold leastR
      cases e : leastF nt 300 1 (tokL nt) with
      | none => rfl
      | some gr =>
        obtain ⟨g, r⟩ := gr
        have := rounds_le o hc 300 0 1 r g (by omega) e
        simp only [br_true]
        rw [w64_id (by omega) (by omega), br_no (by omega)]
  · obtain ⟨r27, e27, h27⟩ := lawAt_W (n := n) (code := code) (i := 1) hl hcode (by omega)
    have t1 := Int.tmod_nonneg (a := r27.1) (4 : Int) h27.1
    have t2 := Int.tmod_lt_of_pos r27.1 (b := (4 : Int)) (by omega)
    generalize hq : r27.1.tmod 4 = q at t1 t2
    refine W_up (fun i (s : List Program) => ((i : Int), (s, ()))) (1 + q).toNat (fun i s => s.length = i ∧ ∀ p ∈ s, Smp p) (s0 := []) rfl ⟨rfl, fun p hp => absurd hp List.not_mem_nil⟩ (by omega) (fun ih s hI => ?_) (fun ih i s hi hI hS2 => ?_)
    · obtain ⟨sl, sp⟩ := hI
      rw [e27, bind_unit]
      simp only [hq]
      rw [w64_id (by omega) (by omega), br_no (by omega), W_bind]
      refine W_and (fresh_W hl hn) (fun r3 h3 => ?_)
      rw [W_bind]
      refine W_and (a_makeStream_W h3 hn) (fun r4 h4 => ?_)
      obtain ⟨t, ⟨⟩⟩ := r4
      have ht6 : t.length ≤ 6 := h4.1
      have hts : okS t = true := okS_of (by omega) h4.2
      have oc := chain_ok (ps := s) (t := t) sp (by omega) (by omega) hts
      have smallp : ∀ p ∈ s, SmallP p := fun p hp => ⟨by have := (sp p hp).six; omega⟩
      have sc := chain_small (t := t) smallp (by omega) (by omega)
      obtain ⟨uc, u1⟩ := uni1_ok oc ht6
      have so := start_ok oc
      simp only
      rw [iChain_spec smallp (fun p hp => ⟨(sp p hp).ins, (sp p hp).outs⟩) (by omega) (by omega) (by omega) oc hn, bind_unit]
      simp only [Bool.not_true, br_false]
      rw [sStartState_spec sc oc hn, bind_unit, a_iUni sc oc hn, bind_unit]
      simp only
      rw [iRunBounded_spec sc (small_of_ok so) (by simp [uni1, chainN]; omega) hn, bind_unit]
      refine W_some.2 ?_
      have e : runBounded (chainN s t) (start (chainN s t)) (uni1 (chainN s t)) 5000 = runB (chainN s t) (start (chainN s t)) (uni1 (chainN s t)) 5000 := by
        unfold runBounded
        rw [okSt_true so, uc]; rfl
      simp only
      rw [e, chain_quiet oc sp (by omega) ht6 u1]
      rfl
    · obtain ⟨sl, sp⟩ := hI
      rw [e27, bind_unit]
      simp only [hq]
      rw [w64_id (n := 1 + q) (by omega) (by omega), br_yes (by omega), w64_id (n := (i : Int) + 2) (by omega) (by omega), W_bind]
      refine W_and (lawAt_W hl hcode (by omega)) (fun r8 h8 => ?_)
      have u1 := Int.tmod_nonneg (a := r8.1) (4 : Int) h8.1
      have u2 := Int.tmod_lt_of_pos r8.1 (b := (4 : Int)) (by omega)
      generalize r8.1.tmod 4 = v at u1 u2
      have fin : ∀ p, Smp p → W (chk ((s.length + ([p] : List Program).length) * 40 ≤ maxB) (ih ((w64 ((i : Int) + 1)), ((s ++ [p]), ())))) (fun x => x = (true, ())) := by
        intro p hp
        rw [small_chk (by simp; omega), w64_succ (by omega)]
        refine hS2 _ ⟨by simp [sl], fun x hx => ?_⟩
        rcases List.mem_append.1 hx with h | h
        · exact sp x h
        · rw [List.mem_singleton] at h; subst h; exact hp
      by_cases v3 : v = 3
      · rw [br_yes v3, s_twice hn, bind_unit]; exact fin _ smp_twice
      · rw [br_no v3]
        by_cases v2 : v = 2
        · rw [br_yes v2, s_steps hn, bind_unit]; exact fin _ smp_steps
        · rw [br_no v2]
          by_cases v1 : v = 1
          · rw [br_yes v1, s_sums hn, bind_unit]; exact fin _ smp_sums
          · rw [br_no v1, br_yes (by omega), s_through hn, bind_unit]; exact fin _ smp_through
end Go.AmT
