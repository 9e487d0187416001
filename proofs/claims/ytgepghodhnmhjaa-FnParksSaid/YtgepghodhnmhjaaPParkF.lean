/- Runs that raise capacities when they must come to the end: the law. -/
import Derived.Test.YtgepghodhnmhjaaLParkF
import Derived.Test.YtgepghodhnmhjaaPParks0
import Derived.Test.YtgepghodhnmhjaaPRunT
import Derived.Test.YtgepghodhnmhjaaPRunK
import Derived.Test.YtgepghodhnmhjaaPUni
import Derived.Test.YtgepghodhnmhjaaPBel
import Derived.Test.YtgepghodhnmhjaaPFmtS
namespace Go.AmT
open Go Go.Am
set_option linter.unusedVariables false
set_option linter.unusedSimpArgs false

section
variable {nt : Network}
/-- where runs are jammed, a capacity can be raised -/
theorem raise_good {s : State} {caps : List Int} (o : OkSt nt s) (hc : okC nt.2 caps = true) (hm : anyMay nt s caps = false) (hca : anyCan nt s = true) :
    ∃ b k : Nat, b < nt.2.length ∧ raiseP nt s caps = (caps.set b (capA caps b + 1), (b : Int), true) ∧ k < nt.1.length ∧ blk nt s caps k = true ∧ linkOf nt s k = (b : Int) := by
  have B := bestP_is (caps := caps) o
  obtain ⟨k0, hk0, hc0⟩ := any_range.1 hca
  have hb0 : blk nt s caps k0 = true := by
    unfold blk
    rw [hc0]
    cases hx : mayP nt s caps k0
    · rfl
    · have : anyMay nt s caps = true := any_range.2 ⟨k0, hk0, hx⟩
      rw [hm] at this; cases this
  obtain ⟨j0, hj0, ej0, -⟩ := blk_link o hk0 hb0
  have hpos : 0 ≤ bestP nt s caps := by
    by_cases h : bestP nt s caps < 0
    · exact absurd ⟨k0, hk0, hb0, ej0⟩ ((B.none h).2 j0)
    · omega
  obtain ⟨k, hk, hb, el⟩ := (B.some hpos).1
  obtain ⟨b, eb⟩ : ∃ b : Nat, bestP nt s caps = (b : Int) := ⟨(bestP nt s caps).toNat, by omega⟩
  rw [eb, Int.toNat_natCast] at el
  obtain ⟨j, hj, ej, h3, hcan, h4, h5⟩ := blk_link o hk hb
  have ejb : j = b := by omega
  subst ejb
  have hs := (canP_facts hcan).2.2.2 h3
  rw [ej, Int.toNat_natCast] at hs
  have hq := (o.lnk j hj).suf.length_le
  refine ⟨j, k, hj, ?_, hk, hb, ej⟩
  unfold raiseP raiseR
  rw [eb, Int.toNat_natCast, if_neg (by omega)]
/-- and the one that waited can go on -/
theorem raise_may {s : State} {caps : List Int} {b k : Nat} (o : OkSt nt s) (hcl : caps.length = nt.2.length) (hbl : b < nt.2.length) (hk : k < nt.1.length) (hb : blk nt s caps k = true) (el : linkOf nt s k = (b : Int)) (hq : ((queue s b).length : Int) ≤ capA caps b) :
    anyMay nt s (caps.set b (capA caps b + 1)) = true := by
  refine any_range.2 ⟨k, hk, ?_⟩
  obtain ⟨j, hj, ej, h3, hcan, h4, h5⟩ := blk_link o hk hb
  have e : j = b := by omega
  subst e
  unfold mayP
  rw [hcan, Bool.true_and, ej, Int.toNat_natCast]
  have e2 : (caps.set j (capA caps j + 1)).getD j 0 = capA caps j + 1 := getD_set_same (by omega) _ _
  rw [e2, decide_eq_true (show ((s.2.1.getD j []).length : Int) < capA caps j + 1 by unfold queue at hq; omega)]
  simp
def PJ (nt : Network) (caps : List Int) (x : Pk) : Prop := PkOk nt 0 20000 x ∧ (∀ j, capA caps j ≤ capA x.2 j) ∧ ∃ m, Steps nt (fun _ _ => true) (start nt) x.1 m
theorem prkR_steps {x : Pk} {caps : List Int} (hx : PJ nt caps x) : ∃ m, Steps nt (fun _ _ => true) (start nt) (prkR nt 0 20000 x).1 m := by
  obtain ⟨h1, -, m, S⟩ := hx
  obtain ⟨m2, S2⟩ := runT_steps (c := some x.2) (most := 20000 - (x.1.2.2.2 - 0)) h1.ok
  exact ⟨_, S.trans (S2.mono (fun _ _ _ => rfl))⟩
theorem park_step {caps : List Int} (x : Pk) (hx : PJ nt caps x) (h : prkC nt 0 20000 x = true) : PJ nt caps (prkF nt 0 20000 x) := by
  have hp := prk_step (s0 := 0) (most := 20000) x hx.1 h
  refine ⟨hp.1, fun j => ?_, prkR_steps hx⟩
  unfold prkC at h
  rw [Bool.and_eq_true] at h
  have o1 : OkSt nt (prkR nt 0 20000 x).1 := runB_ok hx.1.ok
  obtain ⟨b, hb, -, -, e, -, -⟩ := raiseP_ok o1 hx.1.cap h.2
  have hl := okC_len hx.1.cap
  show capA caps j ≤ capA (raiseP nt (prkR nt 0 20000 x).1 x.2).1 j
  rw [e, capA_set (by omega)]
  have := hx.2.1 j
  split
  · rename_i e2; subst e2; omega
  · exact this
theorem park_all {caps : List Int} (o : OkN nt) (hc : okC nt.2 caps = true) : PJ nt caps (whileF (prkC nt 0 20000) (prkF nt 0 20000) 12001 (start nt, caps)) ∧ prkC nt 0 20000 (whileF (prkC nt 0 20000) (prkF nt 0 20000) 12001 (start nt, caps)) = false := by
  have h0 : PJ nt caps (start nt, caps) := ⟨pk0 (start_ok o) hc, fun j => Int.le_refl _, _, .refl⟩
  refine ⟨whileF_inv (J := PJ nt caps) park_step 12001 _ h0, whileF_stop (J := PJ nt caps) (μ := fun x => room x.2) (fun x hx h => ⟨park_step x hx h, (prk_step (s0 := 0) (most := 20000) x hx.1 h).2⟩) 12001 _ h0 (by have := okC_room o hc; show room caps < 12001; omega)⟩
/-- a run that raises capacities comes to the end, if there is one -/
theorem park_end {x : Pk} {caps : List Int} {t : State} {g : State → Nat → Bool} {mt : Nat → Nat} (o : OkN nt) (hx : PJ nt caps x) (hs : prkC nt 0 20000 x = false) (T : Steps nt g (start nt) t mt) (hq : anyCan nt t = false) (ht : t.2.2.2 < 20000) :
    (prkR nt 0 20000 x).2 = 1 ∧ (prkR nt 0 20000 x).1 = t := by
  have o0 := start_ok o
  obtain ⟨m, S⟩ := prkR_steps hx
  have oR := S.ok o0
  have hle := (S.one_end o0 T hq ht).2.2
  have hE := runT_end (c := some x.2) (most := 20000 - (x.1.2.2.2 - 0)) hx.1.ok
  have e : (prkR nt 0 20000 x) = ((prkR nt 0 20000 x).1, bndW nt (prkR nt 0 20000 x).1 x.2) := rfl
  have e1 : runT nt (some x.2) (20000 - (x.1.2.2.2 - 0)) x.1 = (prkR nt 0 20000 x).1 := rfl
  rw [e1] at hE
  unfold prkC at hs
  have e2 : (prkR nt 0 20000 x).2 = bndW nt (prkR nt 0 20000 x).1 x.2 := rfl
  rw [e2] at hs ⊢
  generalize (prkR nt 0 20000 x).1 = R at *
  cases hca : anyCan nt R
  · refine ⟨by unfold bndW; rw [hca]; rfl, S.same_end o0 T hca (by omega) hq ht⟩
  · exfalso
    cases hm : anyMay nt R x.2
    · obtain ⟨b, k, -, er, -⟩ := raise_good oR hx.1.cap hm hca
      have hw : bndW nt R x.2 = 2 := by unfold bndW; rw [hca, hm]; rfl
      rw [hw, er] at hs
      simp at hs
    · refine hE ⟨hm, by omega⟩
end
theorem law_true (code : List Int) (hcode : InR (.sl U8) code) : ∃ n, law.f n code = some (true, ()) := by
  refine ⟨1048577, ?_⟩
  have hn : 1048576 < 1048577 := by omega
  unfold law.f
  by_cases hl : code.length ≤ 1048576
  rotate_left
  · rw [br_yes (by omega)]
  rw [br_no (show ¬ (1048576 < (code.length : Int)) by omega)]
  refine W_eq.1 ?_
  rw [W_bind]
  refine W_and (makeNetwork_W (m := 6) hl (by omega) hn) (fun r1 hN => ?_)
  rw [W_bind]
  refine W_and (lawAt_W hl hcode (by omega)) (fun r2 h2 => ?_)
  obtain ⟨nt, ⟨⟩⟩ := r1
  have hS := hN.small
  have o : OkN nt := hN.ok
  have o0 := start_ok o
  have hs0 := small_of_ok o0
  have hli := o.links
  rw [W_eq]
  simp only
  have hk1 := Int.tmod_nonneg (a := r2.1) 3 h2.1
  have hk2 := Int.tmod_lt_of_pos r2.1 (b := 3) (by omega)
  generalize r2.1.tmod 3 = c at hk1 hk2
  rw [iUni_spec hS hn, bind_unit]
  have hC : okC nt.2 (uni nt c) = true := by
    unfold uni
    rw [okN_true o, decide_eq_true (show 0 ≤ c ∧ c ≤ 400 by omega)]
    simp only [Bool.and_self, if_true]
    unfold okC
    simp only [Bool.and_eq_true, decide_eq_true_eq, List.all_eq_true, List.mem_range, List.length_map, true_and]
    intro j hj
    have e1 : nt.2.getD j zLink = nt.2[j] := getD_lt hj _
    have e2 : (nt.2.map fun l : Link => max c (l.2.2.2.2.length : Int)).getD j 0 = max c (nt.2[j].2.2.2.2.length : Int) := by simp [hj]
    have := (okS_len (o.toks j hj)).1
    rw [e1, e2]
    omega
  generalize uni nt c = caps at hC
  have hcl := okC_len hC
  rw [sLeast_spec hS o hn, bind_unit, sStartState_spec hS o hn, bind_unit, sRunTurns_spec hS hs0 hn, bind_unit]
  simp only [bind_unit]
  obtain ⟨hJ, hstop⟩ := park_all o hC
  have hrp : runParks nt (start nt) caps 20000 = ((prkR nt 0 20000 (whileF (prkC nt 0 20000) (prkF nt 0 20000) 12001 (start nt, caps))).1, (whileF (prkC nt 0 20000) (prkF nt 0 20000) 12001 (start nt, caps)).2, (prkR nt 0 20000 (whileF (prkC nt 0 20000) (prkF nt 0 20000) 12001 (start nt, caps))).2) := by
    unfold runParks; rw [okSt_true o0, hC]; rfl
  rw [iRunParks_spec hS hs0 (by omega) hn (by omega) (by omega), hrp]
  have hend := fun (t : State) (mt : Nat → Nat) (T : Steps nt (mayO nt none) (start nt) t mt) => park_end (t := t) (mt := mt) o hJ hstop T
  obtain ⟨mR, SR⟩ := prkR_steps hJ
  have oR := SR.ok o0
  generalize whileF (prkC nt 0 20000) (prkF nt 0 20000) 12001 (start nt, caps) = x at *
  have hxl := okC_len hJ.1.cap
  simp only [bind_unit]
  rw [sIsState_spec hS (small_of_ok oR) hn, okSt_true oR, bind_unit, Bool.not_true, br_false, sAre_spec hS (by omega) hn, okN_true o, hJ.1.cap]
  simp only [Bool.and_self, bind_unit, Bool.not_true, br_false]
  rw [sAre_spec hS (by omega) hn, okN_true o, hC]
  simp only [Bool.and_self, bind_unit, Bool.not_true, br_false, cut_inr]
  refine iter_line (fun i => ((i : Int), ())) nt.2.length (fun ih j hj => ?_) (fun ih => ?_) (by omega)
  · have hq := hJ.2.1 j
    unfold capA at hq
    simp only [br_yes (show (j : Int) < (caps.length : Int) by omega), Int.toNat_natCast]
    rw [chk_true (by omega), chk_true (by omega), br_no (by omega), w64_succ (by omega)]
  simp only [br_no (show ¬ (nt.2.length : Int) < (caps.length : Int) by omega)]
  rw [iRunBounded_spec hS hs0 (by omega) hn, bind_unit]
  have hrb : runBounded nt (start nt) caps 3000 = (runT nt (some caps) 3000 (start nt), bndW nt (runT nt (some caps) 3000 (start nt)) caps) := by
    unfold runBounded runB; rw [okSt_true o0, hC]; rfl
  rw [hrb]
  simp only
  obtain ⟨mu, U⟩ := runT_steps (c := some caps) (most := 3000) o0
  generalize runT nt (some caps) 3000 (start nt) = u at U
  have ou := U.ok o0
  refine (cut_of (y := ()) ?_).trans ?_
  · by_cases hw : bndW nt u caps = 2
    · rw [br_yes hw]
      have hmc : anyCan nt u = true ∧ anyMay nt u caps = false := by
        unfold bndW at hw
        cases hca : anyCan nt u
        · rw [hca] at hw; simp at hw
        · cases hm : anyMay nt u caps
          · exact ⟨rfl, rfl⟩
          · rw [hca, hm] at hw; simp at hw
      obtain ⟨b, k, hb, er, hk, hbk, el⟩ := raise_good ou hC hmc.2 hmc.1
      have hjam : jamB nt u caps = true := by unfold jamB; rw [okSt_true ou, hC, hmc.1, hmc.2]; rfl
      have hrc : raiseCap nt u caps = (caps.set b (capA caps b + 1), (b : Int), true) := by unfold raiseCap; rw [if_pos hjam, er]
      obtain ⟨j', hj', ej', h3, hcan, h4, h5⟩ := blk_link ou hk hbk
      have ejb : j' = b := by omega
      subst ejb
      have hqb := cap_inv hC U hj' (by show 0 ≤ (nt.2.getD j' zLink).2.2.1; omega)
      have hcap := okC_cap hC hj'
      have hmay := raise_may ou hcl hj' hk hbk el hqb
      rw [iRaise_spec hS (small_of_ok ou) (by omega) hn, bind_unit, hrc]
      simp only [Bool.not_true, br_false]
      have hg : (caps.set j' (capA caps j' + 1)).getD j' 0 = capA caps j' + 1 := getD_set_same (by omega) _ _
      have hg2 : caps.getD j' 0 = capA caps j' := rfl
      rw [br_no (by omega), br_no (by omega), List.length_set]
      simp only [decide_true, Bool.not_true, br_false]
      rw [chk_true (by omega), chk_true (by omega)]
      simp only [Int.toNat_natCast, hg, hg2]
      rw [w64_id (by omega) (by omega)]
      simp only [decide_true, Bool.not_true, br_false]
      rw [iJam_spec hS (small_of_ok ou) (by rw [List.length_set]; omega) hn, bind_unit]
      have : jamB nt u (caps.set j' (capA caps j' + 1)) = false := by unfold jamB; rw [hmay]; simp
      rw [this]; rfl
    · rw [br_no hw]
  have hrt : runTurns nt (start nt) 20000 = (runT nt none 20000 (start nt), !anyCan nt (runT nt none 20000 (start nt))) := by unfold runTurns; rw [if_pos (okSt_true o0)]
  rw [hrt]
  obtain ⟨mt, T⟩ := runT_steps (c := none) (most := 20000) o0
  generalize runT nt none 20000 (start nt) = t at T
  unfold leastR
  cases e : leastF nt 300 1 (tokL nt) with
  | none => rfl
  | some hr =>
    obtain ⟨h, r⟩ := hr
    have e : leastP nt = some (h, r) := e
    simp only [Bool.not_true, br_false, Bool.not_not]
    cases hq : anyCan nt t
    rotate_left
    · rfl
    by_cases hT : 20000 ≤ t.2.2.2
    · rw [br_false, decide_eq_true hT]; rfl
    rw [br_false, decide_eq_false hT, cut_inr, br_false]
    obtain ⟨hw, hR⟩ := hend t mt T hq (by omega)
    have ot := T.ok o0
    have heq := (T.quiet_eq o e).2 hq (by omega)
    have hlen := least_len e
    have hns := ot.ns
    have he : t.2.2.1 = h := eq_of_atL (by omega) (fun j _ => heq j)
    rw [hR, hw, decide_eq_true rfl, br_true, makeEqual_spec (by omega) (sent_len ot) hn, bind_unit, decide_eq_true he, br_true, statesB_spec hS ot hn]
    rfl
end Go.AmT
