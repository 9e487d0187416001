/- Capacities that are raised, in plain Lean: both programs make the same. -/
import Derived.Test.YtgepghodhnmhjaaLRaise0
namespace Go.AmT
open Go Go.Am
set_option linter.unusedVariables false
set_option linter.unusedSimpArgs false

theorem stuck_spec {n : Nat} {nt : Network} {s : State} {caps : List Int} {r : Run} (R : IsRun nt s r) (o : OkSt nt s) (hc : caps.length = nt.2.length) (e : r.2.2.2.2 = some caps) (hn : 1048576 < n) : stuck.f n r = some (!anyMay nt s caps, ()) := by
  have hp := o.net.progs
  unfold stuck.f
  rw [R.net]
  refine W_eq.1 (any_loop nt.1.length (mayP nt s caps) (yes := fun _ => some (false, ())) (fun ih i hi => ?_) (fun ih => br_no (Int.lt_irrefl _)) (by omega) (fun i hi h => ?_) (fun h => ?_))
  · rw [br_yes (by omega), may_spec R o hc e hi, w64_succ (by omega), Option.bind_some, br_ite]
  · rw [W_some, anyMay, any_of hi h]; rfl
  · rw [W_some, anyMay, any_no h]; rfl
noncomputable def jamB (nt : Network) (s : State) (caps : List Int) : Bool := okSt nt s && (okC nt.2 caps && (!anyMay nt s caps && anyCan nt s))
theorem iJam_spec {n : Nat} {nt : Network} {s : State} {caps : List Int} (h : SmallN nt) (hs : SmallSt s) (hc : caps.length ≤ 1048576) (hn : 1048576 < n) : iJam.f n nt s caps = some (jamB nt s caps, ()) := by
  unfold iJam.f jamB
  rw [iBounded_spec h hs hc hn]
  cases e1 : okSt nt s
  · rfl
  · cases e2 : okC nt.2 caps
    · rfl
    · simp only [Option.bind_some, Bool.true_and, Bool.not_true, br_false]
      refine W_eq.1 (W_bind.2 (W_and (boundedRun_spec (okSt_of e1) hs hc hn) (fun r ⟨R, e⟩ => W_eq.2 ?_)))
      rw [stuck_spec R (okSt_of e1) (okC_len e2) e hn, quiet_spec R (okSt_of e1) hn]
      cases anyMay nt s caps <;> cases anyCan nt s <;> rfl

/-! ### the link whose capacity is raised -/
def blk (nt : Network) (s : State) (caps : List Int) (k : Nat) : Bool := canP nt s k && !mayP nt s caps k
def capA (caps : List Int) (j : Nat) : Int := caps.getD j 0
theorem blk_link {nt : Network} {s : State} {caps : List Int} {k : Nat} (o : OkSt nt s) (hk : k < nt.1.length) (h : blk nt s caps k = true) : ∃ j : Nat, j < nt.2.length ∧ linkOf nt s k = (j : Int) ∧ (wantOf nt s k).1 = 3 ∧ canP nt s k = true ∧ ¬ (nt.2.getD j zLink).2.2.1 < 0 ∧ ¬ ((s.2.1.getD j []).length : Int) < capA caps j := by
  unfold blk at h
  simp only [Bool.and_eq_true, Bool.not_eq_true'] at h
  obtain ⟨h1, h2⟩ := h
  unfold mayP at h2
  rw [h1, Bool.true_and] at h2
  simp only [Bool.or_eq_false_iff, Bool.not_eq_false', decide_eq_true_eq, decide_eq_false_iff_not] at h2
  obtain ⟨c3, c4, c5⟩ := h2
  obtain ⟨j, hj, e, -⟩ := linkOf_from o hk c3
  rw [e, Int.toNat_natCast] at c4 c5
  exact ⟨j, hj, e, c3, h1, c4, c5⟩
structure IsBest (caps : List Int) (P : Nat → Prop) (b : Int) : Prop where
  none : b < 0 → b = -1 ∧ ∀ j, ¬ P j
  some : 0 ≤ b → P b.toNat ∧ ∀ i, P i → capA caps b.toNat < capA caps i ∨ (capA caps b.toNat = capA caps i ∧ b.toNat ≤ i)
theorem IsBest.uniq {caps : List Int} {P : Nat → Prop} {b c : Int} (B : IsBest caps P b) (C : IsBest caps P c) : b = c := by
  rcases Int.lt_or_le b 0 with hb | hb
  · rcases Int.lt_or_le c 0 with hc | hc
    · rw [(B.none hb).1, (C.none hc).1]
    · exact absurd (C.some hc).1 ((B.none hb).2 _)
  · rcases Int.lt_or_le c 0 with hc | hc
    · exact absurd (B.some hb).1 ((C.none hc).2 _)
    · have h1 := (B.some hb).2 _ (C.some hc).1
      have h2 := (C.some hc).2 _ (B.some hb).1
      omega
theorem IsBest.congr {caps : List Int} {P Q : Nat → Prop} {b : Int} (B : IsBest caps P b) (h : ∀ j, P j ↔ Q j) : IsBest caps Q b :=
  ⟨fun hb => ⟨(B.none hb).1, fun j hj => (B.none hb).2 j ((h j).2 hj)⟩, fun hb => ⟨(h _).1 (B.some hb).1, fun i hi => (B.some hb).2 i ((h i).2 hi)⟩⟩
/-- one more is looked at -/
theorem IsBest.more {caps : List Int} {P : Nat → Prop} {b : Int} (B : IsBest caps P b) (j : Nat) : IsBest caps (fun i => P i ∨ i = j) (if b < 0 ∨ capA caps j < capA caps b.toNat ∨ (capA caps j = capA caps b.toNat ∧ (j : Int) < b) then (j : Int) else b) := by
  split
  · rename_i h
    refine ⟨fun hb => by omega, fun _ => ⟨.inr (by omega), fun i hi => ?_⟩⟩
    rw [Int.toNat_natCast]
    rcases hi with hi | rfl
    · rcases Int.lt_or_le b 0 with hb | hb
      · exact absurd hi ((B.none hb).2 i)
      · have := (B.some hb).2 i hi
        omega
    · exact .inr ⟨rfl, Nat.le_refl _⟩
  · rename_i h
    have hb : 0 ≤ b := by omega
    refine ⟨fun hb => by omega, fun _ => ⟨.inl (B.some hb).1, fun i hi => ?_⟩⟩
    rcases hi with hi | rfl
    · exact (B.some hb).2 i hi
    · omega
def bestOne (nt : Network) (s : State) (caps : List Int) (b : Int) (k : Nat) : Int :=
  if blk nt s caps k = true then (if b < 0 ∨ capA caps (linkOf nt s k).toNat < capA caps b.toNat ∨ (capA caps (linkOf nt s k).toNat = capA caps b.toNat ∧ linkOf nt s k < b) then linkOf nt s k else b) else b
def bestP (nt : Network) (s : State) (caps : List Int) : Int := (List.range nt.1.length).foldl (bestOne nt s caps) (-1)
def BlkL (nt : Network) (s : State) (caps : List Int) (K : Nat) (j : Nat) : Prop := ∃ k, k < K ∧ blk nt s caps k = true ∧ linkOf nt s k = (j : Int)
theorem bestOne_is {nt : Network} {s : State} {caps : List Int} {k : Nat} {b : Int} (o : OkSt nt s) (hk : k < nt.1.length) (B : IsBest caps (BlkL nt s caps k) b) : IsBest caps (BlkL nt s caps (k + 1)) (bestOne nt s caps b k) := by
  unfold bestOne
  split
  · rename_i h
    obtain ⟨j, hj, e, -⟩ := blk_link o hk h
    rw [e, Int.toNat_natCast]
    refine (B.more j).congr (fun i => ⟨?_, ?_⟩)
    · rintro (⟨k', a, b, c⟩ | rfl)
      · exact ⟨k', by omega, b, c⟩
      · exact ⟨k, by omega, h, e⟩
    · rintro ⟨k', a, b, c⟩
      rcases Nat.lt_or_eq_of_le (Nat.le_of_lt_succ a) with h1 | h1
      · exact .inl ⟨k', h1, b, c⟩
      · subst h1; rw [e] at c; exact .inr (by omega)
  · rename_i h
    refine B.congr (fun i => ⟨?_, ?_⟩)
    · rintro ⟨k', a, b, c⟩; exact ⟨k', by omega, b, c⟩
    · rintro ⟨k', a, b, c⟩
      rcases Nat.lt_or_eq_of_le (Nat.le_of_lt_succ a) with h1 | h1
      · exact ⟨k', h1, b, c⟩
      · subst h1; exact absurd b h
theorem best_none {nt : Network} {s : State} {caps : List Int} : IsBest caps (BlkL nt s caps 0) (-1) := ⟨fun _ => ⟨rfl, fun j ⟨k, h, _⟩ => by omega⟩, fun h => by omega⟩
theorem best_fold {nt : Network} {s : State} {caps : List Int} (o : OkSt nt s) : ∀ k, k ≤ nt.1.length → IsBest caps (BlkL nt s caps k) ((List.range k).foldl (bestOne nt s caps) (-1))
  | 0, _ => best_none
  | k + 1, hk => by
    rw [List.range_succ, List.foldl_append]
    exact bestOne_is o (by omega) (best_fold o k (by omega))
theorem bestP_is {nt : Network} {s : State} {caps : List Int} (o : OkSt nt s) : IsBest caps (BlkL nt s caps nt.1.length) (bestP nt s caps) := best_fold o _ (Nat.le_refl _)
theorem blkL_lt {nt : Network} {s : State} {caps : List Int} {K j : Nat} (o : OkSt nt s) (hK : K ≤ nt.1.length) (h : BlkL nt s caps K j) : j < nt.2.length := by
  obtain ⟨k, a, b, c⟩ := h
  obtain ⟨i, hi, e, -⟩ := blk_link o (show k < nt.1.length by omega) b
  omega
theorem best_lt {nt : Network} {s : State} {caps : List Int} {K : Nat} {b : Int} (o : OkSt nt s) (hK : K ≤ nt.1.length) (B : IsBest caps (BlkL nt s caps K) b) (hb : 0 ≤ b) : b < (nt.2.length : Int) := by
  have := blkL_lt o hK (B.some hb).1
  omega
/-- what comes back -/
def raiseR (caps : List Int) (b : Int) : List Int × Int × Bool := if b < 0 ∨ capA caps b.toNat = 400 then ([], 0, false) else (caps.set b.toNat (capA caps b.toNat + 1), b, true)
def raiseP (nt : Network) (s : State) (caps : List Int) : List Int × Int × Bool := raiseR caps (bestP nt s caps)
theorem okC_cap {ls : List Link} {caps : List Int} (h : okC ls caps = true) {j : Nat} (hj : j < ls.length) : ((ls.getD j zLink).2.2.2.2.length : Int) ≤ capA caps j ∧ capA caps j ≤ 400 := by
  have hl := okC_len h
  unfold okC at h
  simp only [Bool.and_eq_true, decide_eq_true_eq, List.all_eq_true, List.mem_range] at h
  exact h.2 j (by omega)
noncomputable def raiseCap (nt : Network) (s : State) (caps : List Int) : List Int × Int × Bool := if jamB nt s caps = true then raiseP nt s caps else ([], 0, false)
theorem jamB_ok {nt : Network} {s : State} {caps : List Int} (h : jamB nt s caps = true) : OkSt nt s ∧ okC nt.2 caps = true ∧ anyMay nt s caps = false ∧ anyCan nt s = true := by
  unfold jamB at h
  simp only [Bool.and_eq_true, Bool.not_eq_true'] at h
  exact ⟨okSt_of h.1, h.2.1, h.2.2⟩
def InnerL (nt : Network) (s : State) (caps : List Int) (i k : Nat) (j : Nat) : Prop := (j < i ∧ BlkL nt s caps nt.1.length j) ∨ (j = i ∧ BlkL nt s caps k j)
theorem iRaise_spec {n : Nat} {nt : Network} {s : State} {caps : List Int} (h : SmallN nt) (hs : SmallSt s) (hc : caps.length ≤ 1048576) (hn : 1048576 < n) : iRaise.f n nt s caps = some ((raiseCap nt s caps).1, ((raiseCap nt s caps).2.1, ((raiseCap nt s caps).2.2, ()))) := by
  unfold iRaise.f raiseCap
  rw [iJam_spec h hs hc hn]
  cases e : jamB nt s caps
  · rfl
  · obtain ⟨o, ok, -⟩ := jamB_ok e
    have hp := o.net.progs
    have hl := o.net.links
    have hcl := okC_len ok
    simp only [Option.bind_some, Bool.not_true, br_false, if_true]
    refine W_eq.1 (W_bind.2 (W_and (boundedRun_spec o hs hc hn) (fun r ⟨R, e⟩ => ?_)))
    refine W_up (fun i (b : Int) => (b, ((i : Int), ()))) nt.2.length (fun i b => IsBest caps (fun j => j < i ∧ BlkL nt s caps nt.1.length j) b) (s0 := -1) rfl ⟨fun _ => ⟨rfl, fun j hj => by omega⟩, fun h => by omega⟩ (by omega) (fun ih b hB => ?_) (fun ih i b hi hI hS => ?_)
    · simp only [br_no (Int.lt_irrefl _)]
      have B : IsBest caps (BlkL nt s caps nt.1.length) b := hB.congr (fun j => ⟨fun hh => hh.2, fun hh => ⟨blkL_lt o (Nat.le_refl _) hh, hh⟩⟩)
      have hI := B.uniq (bestP_is o)
      rw [W_eq]
      unfold raiseP raiseR
      rw [← hI]
      by_cases hb : b < 0
      · rw [br_yes hb, cut_inr, br_true, if_pos (.inl hb)]
      · have hlt := best_lt o (Nat.le_refl _) B (by omega)
        have hcap := okC_cap ok (show b.toNat < nt.2.length by omega)
        rw [br_no hb, chk_true (by omega), cut_inr]
        by_cases h4 : capA caps b.toNat = 400
        · rw [if_pos (.inr h4)]
          have : decide (caps.getD b.toNat 0 = 400) = true := decide_eq_true h4
          rw [this]; rfl
        · rw [if_neg (by omega)]
          have : decide (caps.getD b.toNat 0 = 400) = false := decide_eq_false h4
          rw [this]
          simp only [br_false]
          rw [cloneI_run (by omega)]
          simp only [Option.bind_some]
          rw [chk_true (by omega), chk_true (by omega), w64_id (by unfold capA at hcap; omega) (by unfold capA at hcap; omega)]
          rfl
    · simp only [br_yes (show (i : Int) < (nt.2.length : Int) by omega)]
      refine W_up (fun k (b : Int) => (b, ((k : Int), ()))) nt.1.length (fun k b => IsBest caps (InnerL nt s caps i k) b) (s0 := b) rfl (hI.congr (fun j => ⟨fun hh => .inl hh, fun hh => ?_⟩)) (by omega) (fun ih2 b hB => ?_) (fun ih2 k b hk hB hS2 => ?_)
      · rcases hh with hh | ⟨-, k, hk, -⟩
        · exact hh
        · omega
      · simp only [br_no (Int.lt_irrefl _)]
        rw [w64_succ (by omega)]
        refine hS b (hB.congr (fun j => ⟨?_, ?_⟩))
        · rintro (⟨a, b⟩ | ⟨rfl, b⟩)
          · exact ⟨by omega, b⟩
          · exact ⟨by omega, b⟩
        · rintro ⟨a, b⟩
          rcases Nat.lt_or_eq_of_le (Nat.le_of_lt_succ a) with h1 | h1
          · exact .inl ⟨h1, b⟩
          · exact .inr ⟨h1, b⟩
      · have hw : wants.f n ((r.1, r.2.1), ((r.2.2.2.2.1, (r.2.2.2.2.2.1, (r.2.2.2.2.2.2.1, r.2.2.1))), (r.2.2.2.2.2.2.2.1, (r.2.2.2.2.2.2.2.2.1, r.2.2.2.1)))) (k : Int) = some ((wantOf nt s k).1, (linkOf nt s k, ())) := wants_spec R o hk
        have hcan := can_spec (n := n) R o hk
        have hmay := may_spec (n := n) R o hcl e hk
        simp only [br_yes (show (k : Int) < (nt.1.length : Int) by omega), hw, hcan, hmay, Option.bind_some]
        rw [w64_succ (by omega)]
        have hsame : (blk nt s caps k = true → linkOf nt s k ≠ (i : Int)) → W (ih2 (b, (((k + 1 : Nat) : Int), ()))) _ := fun hne => hS2 b (hB.congr (fun j => ⟨?_, ?_⟩))
        rotate_left
        · rintro (hh | ⟨rfl, k', a, b, c⟩)
          · exact .inl hh
          · exact .inr ⟨rfl, k', by omega, b, c⟩
        · rintro (hh | ⟨rfl, k', a, b, c⟩)
          · exact .inl hh
          · rcases Nat.lt_or_eq_of_le (Nat.le_of_lt_succ a) with h1 | h1
            · exact .inr ⟨rfl, k', h1, b, c⟩
            · subst h1; exact absurd c (hne b)
        by_cases c3 : (wantOf nt s k).1 = 3
        · rw [br_yes c3]
          by_cases cl : linkOf nt s k = (i : Int)
          · rw [br_yes cl]
            cases hb1 : canP nt s k
            · rw [br_false]; exact hsame (fun hh => by unfold blk at hh; rw [hb1] at hh; cases hh)
            · rw [br_true]
              cases hb2 : mayP nt s caps k
              · rw [Bool.not_false, br_true]
                have hbl : blk nt s caps k = true := by unfold blk; rw [hb1, hb2]; rfl
                have hM := (hB.more i).congr (Q := InnerL nt s caps i (k + 1)) (fun j => ⟨?_, ?_⟩)
                rotate_left
                · rintro ((hh | ⟨rfl, k', a, b, c⟩) | rfl)
                  · exact .inl hh
                  · exact .inr ⟨rfl, k', by omega, b, c⟩
                  · exact .inr ⟨rfl, k, by omega, hbl, cl⟩
                · rintro (hh | ⟨rfl, -⟩)
                  · exact .inl (.inl hh)
                  · exact .inr rfl
                by_cases hb : b < 0
                · rw [br_yes hb]
                  rw [if_pos (.inl hb)] at hM
                  exact hS2 _ hM
                · have hPb := (hB.some (by omega)).1
                  have hble : b.toNat ≤ i := by rcases hPb with hh | hh <;> omega
                  rw [br_no hb, chk_true (by omega), chk_true (by omega)]
                  simp only [Int.toNat_natCast]
                  by_cases h1 : caps.getD i 0 < caps.getD b.toNat 0
                  · rw [br_yes h1]
                    rw [if_pos (.inr (.inl h1))] at hM
                    exact hS2 _ hM
                  · rw [br_no h1]
                    rw [if_neg (by unfold capA; omega)] at hM
                    exact hS2 _ hM
              · rw [Bool.not_true, br_false]; exact hsame (fun hh => by unfold blk at hh; rw [hb1, hb2] at hh; cases hh)
          · rw [br_no cl]; exact hsame (fun _ => cl)
        · rw [br_no c3]
          refine hsame (fun hh => ?_)
          obtain ⟨j, -, -, hc3, -⟩ := blk_link o hk hh
          exact absurd hc3 c3
end Go.AmT
