/- As much room as the peaks is enough: the law. -/
import Derived.Test.YtcipidfgblbeiaaLPeakF
import Derived.Test.YtcipidfgblbeiaaPPeaks0
import Derived.Test.YtcipidfgblbeiaaPRunT
import Derived.Test.YtcipidfgblbeiaaPRunK
import Derived.Test.YtcipidfgblbeiaaPFmtS
namespace Go.AmT
open Go Go.Am
set_option linter.unusedVariables false
set_option linter.unusedSimpArgs false

def prj (x : Int × PkS) : Int × State := (x.1, x.2.1)
def Bd (nt : Network) (c : Option (List Int)) (pk : List Int) : Prop := ∀ caps, c = some caps → ∀ j, j < nt.2.length → pk.getD j 0 ≤ caps.getD j 0
def Le (nt : Network) (a b : List Int) : Prop := ∀ j, j < nt.2.length → a.getD j 0 ≤ b.getD j 0
theorem pkP_get {q : List (List Int)} {pk : List Int} {j : Nat} (hj : j < pk.length) : (pkP q pk).getD j 0 = max (pk.getD j 0) ((q.getD j []).length : Int) := by simp [pkP, hj]
section
variable {nt : Network} {most : Int} {c : Option (List Int)}
theorem one_le {x : Int × PkS} {k : Nat} (hx : pkJ nt x) : Le nt x.2.2 (one (pkG nt) (pkS nt) most x k).2.2 := by
  intro j hj
  unfold one
  split
  · show _ ≤ (pkP _ x.2.2).getD j 0
    rw [pkP_get (by rw [hx.2]; exact hj)]; omega
  · exact Int.le_refl _
theorem sweep_le {x : Int × PkS} (hx : pkJ nt x) : ∀ i, i ≤ nt.1.length → pkJ nt (sweep (pkG nt) (pkS nt) most x i) := fun i hi => (sweep_good pk_good hx i hi).1
theorem sweep_le2 {x : Int × PkS} (hx : pkJ nt x) : ∀ i, i ≤ nt.1.length → Le nt x.2.2 (sweep (pkG nt) (pkS nt) most x i).2.2
  | 0, _ => fun j _ => Int.le_refl _
  | i + 1, hi => fun j hj => Int.le_trans (sweep_le2 hx i (by omega) j hj) (one_le (sweep_le hx i (by omega)) j hj)
theorem turns_le : ∀ (m : Nat) (x : Int × PkS), pkJ nt x → Le nt x.2.2 (turnsF (pkG nt) (pkS nt) most nt.1.length m x).2.2
  | 0, x, hx => fun j _ => Int.le_refl _
  | m + 1, x, hx => fun j hj => by
    unfold turnsF
    split
    · exact Int.le_trans (sweep_le2 hx _ (Nat.le_refl _) j hj) (turns_le m _ (sweep_le hx _ (Nat.le_refl _)) j hj)
    · exact Int.le_refl _
theorem one_sim {x : Int × PkS} {k : Nat} (hx : pkJ nt x) (hk : k < nt.1.length) (hb : Bd nt c (one (pkG nt) (pkS nt) most x k).2.2) : one (mayO nt c) (stepP nt) most (prj x) k = prj (one (pkG nt) (pkS nt) most x k) := by
  unfold one at hb ⊢
  by_cases h : x.1 < most ∧ pkG nt x.2 k = true
  · rw [if_pos h] at hb ⊢
    have hc : canP nt x.2.1 k = true := h.2
    have o : OkSt nt x.2.1 := hx.1.1
    have hm : mayO nt c x.2.1 k = true := by
      cases c with
      | none => exact hc
      | some caps =>
        show mayP nt x.2.1 caps k = true
        unfold mayP
        rw [hc, Bool.true_and]
        by_cases h3 : (wantOf nt x.2.1 k).1 = 3
        rotate_left
        · rw [decide_eq_false h3]; rfl
        obtain ⟨j, hj, ej, -⟩ := linkOf_from o hk h3
        rw [ej, Int.toNat_natCast]
        have hb := hb caps rfl j hj
        have hb : (pkP (stepP nt x.2.1 k).2.1 x.2.2).getD j 0 ≤ caps.getD j 0 := hb
        rw [pkP_get (by rw [hx.2]; exact hj)] at hb
        have hq : ((stepP nt x.2.1 k).2.1.getD j []).length = (x.2.1.2.1.getD j []).length + 1 := by
          have hjq : j < x.2.1.2.1.length := by rw [o.nq]; exact hj
          unfold stepP
          simp only
          rw [if_neg (by omega), if_pos h3, ej, Int.toNat_natCast, getD_set_same hjq]; simp
        rw [decide_eq_true (show ((x.2.1.2.1.getD j []).length : Int) < caps.getD j 0 by omega)]
        simp
    rw [if_pos ⟨h.1, hm⟩]; rfl
  · rw [if_neg h, if_neg (fun h2 => h ⟨h2.1, mayO_can h2.2⟩)]
theorem sweep_sim {x : Int × PkS} (hx : pkJ nt x) : ∀ i, i ≤ nt.1.length → Bd nt c (sweep (pkG nt) (pkS nt) most x i).2.2 → sweep (mayO nt c) (stepP nt) most (prj x) i = prj (sweep (pkG nt) (pkS nt) most x i)
  | 0, _, _ => rfl
  | i + 1, hi, hb => by
    have hJ := sweep_le (most := most) hx i (by omega)
    have hb' : Bd nt c (sweep (pkG nt) (pkS nt) most x i).2.2 := fun caps e j hj => Int.le_trans (one_le hJ j hj) (hb caps e j hj)
    have ih := sweep_sim hx i (by omega) hb'
    show one (mayO nt c) (stepP nt) most (sweep (mayO nt c) (stepP nt) most (prj x) i) i = _
    rw [ih]
    exact one_sim hJ (by omega) hb
theorem turns_sim : ∀ (m : Nat) (x : Int × PkS), pkJ nt x → Bd nt c (turnsF (pkG nt) (pkS nt) most nt.1.length m x).2.2 → turnsF (mayO nt c) (stepP nt) most nt.1.length m (prj x) = prj (turnsF (pkG nt) (pkS nt) most nt.1.length m x)
  | 0, x, hx, hb => rfl
  | m + 1, x, hx, hb => by
    unfold turnsF at hb ⊢
    by_cases h : (List.range nt.1.length).any (pkG nt x.2) = true ∧ x.1 < most
    · rw [if_pos h] at hb ⊢
      have hJ := sweep_le (most := most) hx nt.1.length (Nat.le_refl _)
      have hb' : Bd nt c (sweep (pkG nt) (pkS nt) most x nt.1.length).2.2 := fun caps e j hj => Int.le_trans (turns_le m _ hJ j hj) (hb caps e j hj)
      have hs := sweep_sim (c := c) hx nt.1.length (Nat.le_refl _) hb'
      have hlt := sweep_lt pk_good hx h.1 h.2
      have h' : (List.range nt.1.length).any (mayO nt c (prj x).2) = true ∧ (prj x).1 < most := by
        by_cases h' : (List.range nt.1.length).any (mayO nt c (prj x).2) = true ∧ (prj x).1 < most
        · exact h'
        · exfalso
          have := sweep_id (g := mayO nt c) (st := stepP nt) (most := most) (K := nt.1.length) (prj x) h' nt.1.length (Nat.le_refl _)
          rw [hs] at this
          have e : pkM (sweep (pkG nt) (pkS nt) most x nt.1.length) = pkM x := congrArg muS this
          omega
      rw [if_pos h', hs]
      exact turns_sim m _ hJ hb
    · rw [if_neg h, if_neg (fun h2 => h ⟨?_, h2.2⟩)]
      obtain ⟨k, hk, hg⟩ := any_range.1 h2.1
      exact any_range.2 ⟨k, hk, mayO_can hg⟩
theorem peaks_run (o : OkN nt) (hb : Bd nt c (peaksT nt most).2) : runT nt c most (start nt) = (peaksT nt most).1 := by
  have := turns_sim (c := c) (most := most) 20001 (0, (start nt, pk0 nt)) (pk_start o) hb
  exact congrArg Prod.snd this
/-- peaks are as high as the queues at the end, and as capacities are -/
theorem peaks_cap (o : OkN nt) {j : Nat} (hj : j < nt.2.length) : (((peaksT nt most).1.2.1.getD j []).length : Int) ≤ (peaksT nt most).2.getD j 0 ∧ ((lnk nt j).2.2.2.2.length : Int) ≤ (peaksT nt most).2.getD j 0 ∧ (peaksT nt most).2.getD j 0 ≤ 400 := by
  have hG : Good (pkG nt) (pkS nt) most nt.1.length (fun x => pkJ nt x ∧ ((x.2.1.2.1.getD j []).length : Int) ≤ x.2.2.getD j 0 ∧ ((lnk nt j).2.2.2.2.length : Int) ≤ x.2.2.getD j 0 ∧ x.2.2.getD j 0 ≤ 400) pkM := by
    intro x k hx hk hlt hg
    obtain ⟨h1, h2, h3, h4⟩ := hx
    obtain ⟨g1, g2⟩ := pk_good (most := most) x k h1 hk hlt hg
    have e : (pkS nt x.2 k).2.getD j 0 = max (x.2.2.getD j 0) (((stepP nt x.2.1 k).2.1.getD j []).length : Int) := pkP_get (by rw [h1.2]; exact hj)
    have hq := (okS_len (g1.1.1.lnk j hj).qs).1
    have hq : ((stepP nt x.2.1 k).2.1.getD j []).length ≤ 400 := hq
    refine ⟨⟨g1, ?_, ?_, ?_⟩, g2⟩
    · show (((stepP nt x.2.1 k).2.1.getD j []).length : Int) ≤ (pkS nt x.2 k).2.getD j 0
      rw [e]; omega
    · show _ ≤ (pkS nt x.2 k).2.getD j 0
      rw [e]; omega
    · show (pkS nt x.2 k).2.getD j 0 ≤ 400
      rw [e]; omega
  have e1 : (pk0 nt).getD j 0 = ((lnk nt j).2.2.2.2.length : Int) := by unfold pk0 lnk; simp [hj]
  have e2 : (start nt).2.1.getD j [] = (lnk nt j).2.2.2.2 := sent_start nt j
  have ht := (okS_len (o.toks j hj)).1
  have e3 : lnk nt j = nt.2[j] := getD_lt hj _
  exact (turnsP_good hG (x := (0, (start nt, pk0 nt))) ⟨pk_start o, by show (((start nt).2.1.getD j []).length : Int) ≤ (pk0 nt).getD j 0; rw [e1, e2]; omega, by show _ ≤ (pk0 nt).getD j 0; omega, by show (pk0 nt).getD j 0 ≤ 400; rw [e1, e3]; omega⟩).2
end
theorem law_true (code : List Int) (hcode : InR (.sl U8) code) : ∃ n, law.f n code = some (true, ()) := by
  refine ⟨1048577, ?_⟩
  have hn : 1048576 < 1048577 := by omega
  unfold law.f
  by_cases hl : code.length ≤ 1048576
  rotate_left
  · rw [br_yes (by omega)]
  rw [br_no (show ¬ (1048576 < (code.length : Int)) by omega)]
  refine W_eq.1 ?_
  rw [W_bind]
  refine W_and (makeNetwork_W (m := 6) hl (by omega) hn) (fun r1 hN => ?_)
  rw [W_bind]
  refine W_and (lawAt_W hl hcode (by omega)) (fun r2 h2 => ?_)
  obtain ⟨nt, ⟨⟩⟩ := r1
  have hS := hN.small
  have o : OkN nt := hN.ok
  have o0 := start_ok o
  have hs0 := small_of_ok o0
  have hli := o.links
  rw [W_eq]
  simp only
  rw [w64_id (n := r2.1 * 8) (by omega) (by omega)]
  generalize r2.1 * 8 = most
  have hP := peaksT_ok (most := most) o
  have hpk : peaks nt most = ((peaksT nt most).2, !anyCan nt (peaksT nt most).1) := by unfold peaks; rw [if_pos (okN_true o)]
  have hcap := fun j (hj : j < nt.2.length) => peaks_cap (most := most) o hj
  have hC : okC nt.2 (peaksT nt most).2 = true := by
    unfold okC
    simp only [Bool.and_eq_true, decide_eq_true_eq, List.all_eq_true, List.mem_range]
    exact ⟨hP.2, fun j hj => ⟨(hcap j (by omega)).2.1, (hcap j (by omega)).2.2⟩⟩
  have hr1 : runT nt none most (start nt) = (peaksT nt most).1 := peaks_run o (fun caps e => by cases e)
  have hr2 : runT nt (some (peaksT nt most).2) most (start nt) = (peaksT nt most).1 := peaks_run o (fun caps e j hj => by cases e; exact Int.le_refl _)
  have hrt : runTurns nt (start nt) most = ((peaksT nt most).1, !anyCan nt (peaksT nt most).1) := by unfold runTurns; rw [if_pos (okSt_true o0), hr1]
  have hrb : runBounded nt (start nt) (peaksT nt most).2 most = ((peaksT nt most).1, bndW nt (peaksT nt most).1 (peaksT nt most).2) := by
    unfold runBounded runB; rw [okSt_true o0, hC, hr2]; rfl
  rw [iPeaks_spec hS hn, bind_unit, sStartState_spec hS o hn, bind_unit, iRunTurns_spec hS hs0 hn, bind_unit, hpk, hrt]
  simp only
  obtain ⟨oT, hlen⟩ := hP
  have hnq := oT.nq
  rw [sIsState_spec hS (small_of_ok oT) hn, okSt_true oT]
  simp only [bind_unit, Bool.not_true, br_false, decide_true]
  rw [decide_eq_true (show ((peaksT nt most).2.length : Int) = (nt.2.length : Int) by omega), iAre_spec hS (by omega) hn, okN_true o, hC]
  simp only [bind_unit, Bool.not_true, br_false, Bool.and_self, cut_inr]
  rw [iRunBounded_spec hS hs0 (by omega) hn, bind_unit, hrb]
  simp only
  refine iter_line (fun i => ((i : Int), ())) nt.2.length (fun ih j hj => ?_) (fun ih => ?_) (by omega)
  · have hq := (hcap j hj).1
    simp only [br_yes (show (j : Int) < ((peaksT nt most).1.2.1.length : Int) by omega), Int.toNat_natCast]
    rw [chk_true (by omega), chk_true (by omega), br_no (by omega), w64_succ (by omega)]
  · simp only [br_no (show ¬ (nt.2.length : Int) < ((peaksT nt most).1.2.1.length : Int) by omega)]
    rw [statesB_spec hS oT hn]
    simp only [bind_unit, br_true]
    have : decide (bndW nt (peaksT nt most).1 (peaksT nt most).2 = 1) = !anyCan nt (peaksT nt most).1 := by
      unfold bndW; cases anyCan nt (peaksT nt most).1 <;> cases anyMay nt (peaksT nt most).1 (peaksT nt most).2 <;> rfl
    rw [this, decide_eq_true rfl]
end Go.AmT
