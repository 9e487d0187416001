/- What can be done with capacities can be done without them: the law. -/
import Derived.Test.YtcipidfgblbeiaaLCanL
namespace Go.AmT
open Go Go.Am
set_option linter.unusedVariables false
set_option linter.unusedSimpArgs false

theorem okSt_true {nt : Network} {s : State} (o : OkSt nt s) : okSt nt s = true := decide_eq_true o
theorem okN_true {nt : Network} (o : OkN nt) : okN nt = true := decide_eq_true o
theorem iCanStep_spec {n : Nat} {nt : Network} {s : State} {k : Nat} (h : SmallN nt) (o : OkSt nt s) (hk : k < nt.1.length) (hn : 1048576 < n) : iCanStep.f n nt s (k : Int) = some (canP nt s k, ()) := by
  have hs := small_of_ok o
  unfold iCanStep.f
  rw [iIsState_spec h hs hn, okSt_true o]
  simp only [Option.bind_some, Bool.not_true, br_false]
  refine W_eq.1 (W_bind.2 (W_and (newRun_spec (caps := none) o.net hs hn) (fun r ⟨to, fr, e, T, F⟩ => W_eq.2 ?_)))
  subst e
  have R : IsRun nt s (nt, (s, (to, (fr, none)))) := ⟨rfl, rfl, T, F⟩
  have hc : can.f n ((nt.1, nt.2), ((s.1, (s.2.1, (s.2.2.1, s.2.2.2))), (to, (fr, (none : Option (List Int)))))) (k : Int) = some (canP nt s k, ()) := can_spec R o hk
  unfold isProcess.f
  simp only [br_yes (Int.natCast_nonneg k), Option.bind_some, decide_eq_true (show (k : Int) < (nt.1.length : Int) by omega), br_true]
  rw [hc]; rfl
theorem sCanStep_spec {n : Nat} {nt : Network} {s : State} {k : Nat} (h : SmallN nt) (o : OkSt nt s) (hk : k < nt.1.length) (hn : 1048576 < n) : sCanStep.f n nt s (k : Int) = some (canP nt s k, ()) := by
  have hs := small_of_ok o
  unfold sCanStep.f sL3Has.f
  rw [sIsState_spec h hs hn, okSt_true o]
  simp only [Option.bind_some, br_true, br_yes (Int.natCast_nonneg k), decide_eq_true (show (k : Int) < (nt.1.length : Int) by omega), sL5Can_spec o hk hn]
theorem iCanB_spec {n : Nat} {nt : Network} {s : State} {caps : List Int} {k : Nat} (h : SmallN nt) (o : OkSt nt s) (hc : okC nt.2 caps = true) (hk : k < nt.1.length) (hn : 1048576 < n) : iCanB.f n nt s caps (k : Int) = some (mayP nt s caps k, ()) := by
  have hs := small_of_ok o
  have hl := o.net.links
  have hcl := okC_len hc
  unfold iCanB.f
  rw [iBounded_spec h hs (by omega) hn, okSt_true o, hc]
  simp only [Bool.and_self, Option.bind_some, Bool.not_true, br_false]
  refine W_eq.1 (W_bind.2 (W_and (boundedRun_spec o hs (by omega) hn) (fun r ⟨R, e⟩ => W_eq.2 ?_)))
  have hnet : (r.1, r.2.1) = nt := R.net
  unfold isProcess.f
  rw [show ((r.1, r.2.1) : Network) = nt from hnet] at R ⊢
  simp only [br_yes (Int.natCast_nonneg k), Option.bind_some, decide_eq_true (show (k : Int) < (nt.1.length : Int) by omega), br_true]
  rw [may_spec R o hcl e hk]; rfl
theorem iWantOf_spec {n : Nat} {p : Program} {a : Actor} (hp : okP p = true) (hs : SmallP p) (ha : okA p a = true) (hl : a.2.length ≤ 1048576) (hn : 1048576 < n) : iWantOf.f n p a = some ((wantP p a).1, ((wantP p a).2, ())) := by
  unfold iWantOf.f iIsActor.f
  rw [iIsProgram_spec hs hn, hp]
  simp only [Option.bind_some, br_true]
  rw [isActor_spec hl hn, ha]
  simp only [Option.bind_some, Bool.not_true, br_false]
  rw [want_spec ha]; rfl
/-- the first link for which something holds is the only one -/
theorem iLinkFrom_spec {n : Nat} {nt : Network} {k b : Nat} (h : SmallN nt) (o : OkN nt) (hk : k < nt.1.length) (hb : (b : Int) < nt.1[k].2.1) (hn : 1048576 < n) : iLinkFrom.f n nt (k : Int) (b : Int) = some (onlyIx (isFrom (k : Int) (b : Int)) nt.2, (true, ())) := by
  have hL := o.links
  obtain ⟨j, hj, hf, e⟩ := onlyIx_ex (o.outs k hk b hb)
  have hfst : ∀ i (hi : i < nt.2.length), i < j → isFrom (k : Int) (b : Int) nt.2[i] = false := by
    intro i hi hij
    cases hh : isFrom (k : Int) (b : Int) nt.2[i]
    · rfl
    · have := count_uniq hi hj (by rw [o.outs k hk b hb]; omega) hh hf
      omega
  have hix : indexFuncL.f n nt.2 ((k : Int), ((b : Int), ())) = some ((j : Int), ()) := by
    unfold indexFuncL.f
    refine (first_loop nt.2.length (fun i => isFrom (k : Int) (b : Int) (nt.2.getD i zLink)) (yes := fun i => some ((i : Int), ())) (no := some ((-1), ())) (fun ih i hi => ?_) (fun ih => br_no (Int.lt_irrefl _)) (by omega)).trans ?_
    · have c1 : (i : Int) < (nt.2.length : Int) := by omega
      rw [br_yes c1, chk_true (by omega)]
      simp only [Int.toNat_natCast]
      unfold linkFromC.f
      rw [br_yes (Int.natCast_nonneg k), w64_succ (by omega)]
      generalize nt.2.getD i zLink = l
      unfold isFrom
      by_cases h1 : l.1 = (k : Int)
      · rw [br_yes h1, decide_eq_true h1, Option.bind_some, Bool.true_and, br_if]
      · rw [br_no h1, decide_eq_false h1, Option.bind_some, Bool.false_and, br_false, if_neg (by simp)]
    · have : (List.range nt.2.length).find? (fun i => isFrom (k : Int) (b : Int) (nt.2.getD i zLink)) = some j := by
        rw [List.find?_range_eq_some]
        refine ⟨by rw [getD_lt hj]; exact hf, List.mem_range.2 hj, fun i hi => ?_⟩
        rw [getD_lt (by omega), hfst i (by omega) hi]; rfl
      rw [this]
  unfold iLinkFrom.f onlyLinkF.f
  rw [iIsNetwork_spec h hn, okN_true o, hix]
  simp only [Option.bind_some, Bool.not_true, br_false]
  rw [br_no (by omega), e]; rfl
theorem law_true (code : List Int) : ∃ n, law.f n code = some (true, ()) := by
  refine ⟨1048577, ?_⟩
  have hn : 1048576 < 1048577 := by omega
  unfold law.f
  by_cases hl : code.length ≤ 1048576
  rotate_left
  · rw [br_yes (by omega)]
  rw [br_no (show ¬ (1048576 < (code.length : Int)) by omega)]
  refine W_eq.1 ?_
  rw [W_bind]
  refine W_and (makeNetwork_W (m := 6) hl (by omega) hn) (fun r1 hN => ?_)
  rw [W_bind]
  refine W_and (fresh_W hl hn) (fun r2 h2 => ?_)
  rw [W_bind]
  refine W_and (makeState_W h2 hN.small hN.ok hn) (fun r3 h3 => ?_)
  rw [W_bind]
  refine W_and (fresh_W hl hn) (fun r4 h4 => ?_)
  rw [W_bind]
  refine W_and (makeCaps_W h4 hN.small hN.ok hn) (fun r5 h5 => ?_)
  obtain ⟨nt, ⟨⟩⟩ := r1
  obtain ⟨s, ⟨⟩⟩ := r3
  obtain ⟨caps, ⟨⟩⟩ := r5
  have hpr : nt.1.length ≤ 6 := hN.progs
  have hS := hN.small
  have oS : OkSt nt s := h3.1.ok hN.ok
  have hC : okC nt.2 caps = true := CapSm.ok hN h5
  have hcl := okC_len hC
  have hp := hN.ok.progs
  have hq := oS.nq
  rw [W_eq]
  simp only
  refine iter_line (fun i => ((i : Int), ())) nt.1.length (fun ih k hk => ?_) (fun ih => br_no (Int.lt_irrefl _)) (by show nt.1.length < 1048577; omega)
  have e1 : nt.1.getD k zProgram = nt.1[k] := getD_lt hk _
  have hna := oS.na
  have ha := oS.act k hk
  rw [e1] at ha
  have e2 : s.1.getD k zActor = s.1[k]'(by omega) := getD_lt (by omega) _
  have hal := (small_of_ok oS).actor _ (List.getElem_mem (show k < s.1.length by omega))
  have hw : iWantOf.f 1048577 nt.1[k] (s.1.getD k zActor) = some ((wantOf nt s k).1, ((wantOf nt s k).2, ())) := by
    have := iWantOf_spec (n := 1048577) (hN.ok.prog k hk) (hS.prog _ (List.getElem_mem hk)) ha (by rw [e2]; exact hal) hn
    rw [this]
    unfold wantOf prog actor
    rw [e1]
  simp only [br_yes (show (k : Int) < (nt.1.length : Int) by omega), Int.toNat_natCast, e1]
  rw [chk_true (by omega), iCanStep_spec hS oS hk hn]
  simp only [Option.bind_some]
  rw [iCanB_spec hS oS hC hk hn, sCanStep_spec hS oS hk hn]
  simp only [Option.bind_some, decide_true, Bool.not_true, br_false]
  have hmc : cut (α := (Bool × Unit)) (ρ := Bool × Unit) (br (mayP nt s caps k) (some (.inr ((!canP nt s k), ()))) (some (.inr (false, ())))) = fun f => f (false, ()) := by
    funext f
    cases hm : mayP nt s caps k
    · rfl
    · rw [may_can hm]; rfl
  rw [hmc]
  simp only [br_false]
  rw [chk_true (by omega), hw]
  simp only [Option.bind_some]
  rw [w64_succ (by omega)]
  by_cases c3 : (wantOf nt s k).1 = 3
  · rw [decide_eq_true c3, Bool.not_true, br_false]
    obtain ⟨b, eb, -, hb3⟩ := port_nat oS hk
    have hb := hb3 c3
    obtain ⟨j, hj, ej, -⟩ := linkOf_from oS hk c3
    have ej2 : onlyIx (isFrom (k : Int) (b : Int)) nt.2 = (j : Int) := by
      rw [← ej]; unfold linkOf; rw [if_neg (by omega), if_pos c3, eb]
    rw [eb, iLinkFrom_spec hS hN.ok hk hb hn, ej2]
    simp only [Option.bind_some, Bool.not_true, br_false]
    rw [br_no (by omega), cut_inr, decide_eq_false (show ¬ (nt.2.length : Int) ≤ (j : Int) by omega), br_false]
    have hmay : canP nt s k = true → mayP nt s caps k = (decide ((nt.2.getD j zLink).2.2.1 < 0) || decide (((s.2.1.getD j []).length : Int) < caps.getD j 0)) := by
      intro hc
      unfold mayP
      rw [hc, c3, ej, Int.toNat_natCast]
      simp
    rw [chk_true (by omega)]
    simp only [Int.toNat_natCast]
    by_cases d1 : 0 ≤ (nt.2.getD j zLink).2.2.1
    · rw [br_yes d1, chk_true (by omega), chk_true (by omega), cut_inr]
      cases hc : canP nt s k
      · rw [br_false]
      · rw [br_true, hmay hc]
        have : ¬ ((decide ((nt.2.getD j zLink).2.2.1 < 0) || decide (((s.2.1.getD j []).length : Int) < caps.getD j 0)) = decide (caps.getD j 0 ≤ ((s.2.1.getD j []).length : Int))) := by
          rw [decide_eq_false (show ¬ (nt.2.getD j zLink).2.2.1 < 0 by omega), Bool.false_or]
          by_cases h : caps.getD j 0 ≤ ((s.2.1.getD j []).length : Int)
          · rw [decide_eq_true h, decide_eq_false (by omega)]; simp
          · rw [decide_eq_false h, decide_eq_true (show ((s.2.1.getD j []).length : Int) < caps.getD j 0 by omega)]; simp
        rw [br_no this]
    · rw [br_no d1, cut_inr]
      cases hc : canP nt s k
      · rw [br_false]
      · rw [br_true, hmay hc, decide_eq_true (show (nt.2.getD j zLink).2.2.1 < 0 by omega)]
        rfl
  · rw [decide_eq_false c3, Bool.not_false, br_true]
    have : mayP nt s caps k = canP nt s k := by
      unfold mayP
      rw [decide_eq_false c3]
      simp
    rw [this]
    simp only [decide_true, Bool.not_true, br_false]
end Go.AmT
