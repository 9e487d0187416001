/- Least streams, in plain Lean: they are made of themselves, below all that are, and runs come to them. -/
import Derived.Test.YtfcehikkpoeebaaGreatPKahn2
namespace Go.AmT
open Go Go.Am
set_option linter.unusedVariables false
set_option linter.unusedSimpArgs false

def c0 : Lc := (newA, fun _ => [], fun _ => 0)
theorem sent_start (nt : Network) (j : Nat) : sent (start nt) j = toks nt j := by
  unfold sent toks lnk start
  rcases Nat.lt_or_ge j nt.2.length with h | h
  · simp [h]
  · simp only [List.getD_eq_getElem?_getD, List.getElem?_map, List.getElem?_eq_none h]; rfl
/-! ### a process that is run as far as it goes -/
def stopB (p : Program) (I : Nat → List Int) (c : Lc) : Bool :=
  decide ((wantP p c.1).1 = 0) || (decide ((wantP p c.1).1 = 2) && decide (c.2.2 (wantP p c.1).2.toNat = (I (wantP p c.1).2.toNat).length)) || (decide ((wantP p c.1).1 = 3) && decide ((c.2.1 (wantP p c.1).2.toNat).length = 400))
def al (p : Program) (I : Nat → List Int) : Nat → Lc → Lc × Int × Int
  | 0, c => if stopB p I c = true then (c, wantP p c.1) else (c, 1, 0)
  | f + 1, c => if stopB p I c = true then (c, wantP p c.1) else al p I f ((lstep p I c).getD c)
/-- no more was read than was there, and no more was written than may be -/
structure Wf (I : Nat → List Int) (c : Lc) : Prop where
  rd : ∀ b, c.2.2 b ≤ (I b).length
  wr : ∀ b, (c.2.1 b).length ≤ 400
theorem wf_c0 (I : Nat → List Int) : Wf I c0 := ⟨fun _ => Nat.zero_le _, fun _ => by show ([] : List Int).length ≤ 400; simp⟩
theorem lstep_stop {p : Program} {I : Nat → List Int} {c : Lc} (w : Wf I c) (h : stopB p I c = false) : ∃ d, lstep p I c = some d ∧ Wf I d := by
  unfold stopB at h
  simp only [Bool.or_eq_false_iff, Bool.and_eq_false_iff, decide_eq_false_iff_not] at h
  obtain ⟨⟨h0, h2⟩, h3⟩ := h
  unfold lstep
  rw [if_neg h0]
  by_cases c2 : (wantP p c.1).1 = 2
  · have h2 : ¬ c.2.2 (wantP p c.1).2.toNat = (I (wantP p c.1).2.toNat).length := by
      rcases h2 with h | h
      · exact absurd c2 h
      · exact h
    have hlt : c.2.2 (wantP p c.1).2.toNat < (I (wantP p c.1).2.toNat).length := by have := w.rd (wantP p c.1).2.toNat; omega
    rw [if_pos c2, if_pos hlt]
    refine ⟨_, rfl, fun b => ?_, w.wr⟩
    show upd _ _ _ b ≤ _
    by_cases hb : b = (wantP p c.1).2.toNat
    · subst hb; rw [upd_same]; omega
    · rw [upd_ne hb]; exact w.rd b
  · rw [if_neg c2]
    by_cases c3 : (wantP p c.1).1 = 3
    · have h3 : ¬ (c.2.1 (wantP p c.1).2.toNat).length = 400 := by
        rcases h3 with h | h
        · exact absurd c3 h
        · exact h
      rw [if_pos c3]
      refine ⟨_, rfl, w.rd, fun b => ?_⟩
      show List.length (upd _ _ _ b) ≤ 400
      by_cases hb : b = (wantP p c.1).2.toNat
      · subst hb; rw [upd_same, List.length_append, List.length_singleton]
        have := w.wr (wantP p c.1).2.toNat; omega
      · rw [upd_ne hb]; exact w.wr b
    · rw [if_neg c3]
      exact ⟨_, rfl, w.rd, w.wr⟩
/-! ### rounds -/
def atL (h : List (List Int)) (j : Nat) : List Int := h.getD j []
def runK (nt : Network) (h : Nat → List Int) (k : Nat) : Lc × Int × Int := al (prog nt k) (inF nt h k) 3000 c0
def newS (nt : Network) (h : Nat → List Int) (j : Nat) : List Int := toks nt j ++ if 0 ≤ (lnk nt j).1 then (runK nt h (lnk nt j).1.toNat).1.2.1 (lnk nt j).2.1.toNat else []
def rndOk (nt : Network) (h : Nat → List Int) : Bool := ((List.range nt.1.length).all fun k => decide ((runK nt h k).2.1 ≠ 1) && decide ((runK nt h k).2.1 ≠ 3)) && (List.range nt.2.length).all fun j => okS (newS nt h j)
def rndP (nt : Network) (h : List (List Int)) : Option (List (List Int)) := if rndOk nt (atL h) = true then some ((List.range nt.2.length).map (newS nt (atL h))) else none
def leastF (nt : Network) : Nat → Int → List (List Int) → Option (List (List Int) × Int)
  | 0, _, _ => none
  | m + 1, r, h => match rndP nt h with | none => none | some g => if g = h then some (h, r) else leastF nt m (r + 1) g
def tokL (nt : Network) : List (List Int) := nt.2.map (fun l => l.2.2.2.2)
section
variable {nt : Network}
theorem atL_tokL (j : Nat) : atL (tokL nt) j = toks nt j := sent_start nt j
theorem rnd_ok {h : Nat → List Int} (ok : rndOk nt h = true) {j : Nat} (hj : j < nt.2.length) : okS (newS nt h j) = true := by
  unfold rndOk at ok
  simp only [Bool.and_eq_true, List.all_eq_true, List.mem_range, decide_eq_true_eq] at ok
  exact ok.2 j hj
theorem rndP_some {h g : List (List Int)} (e : rndP nt h = some g) : rndOk nt (atL h) = true ∧ g = (List.range nt.2.length).map (newS nt (atL h)) := by
  unfold rndP at e
  split at e
  · rename_i h1; cases e; exact ⟨h1, rfl⟩
  · cases e
theorem atL_map {f : Nat → List Int} {L j : Nat} (hj : j < L) : atL ((List.range L).map f) j = f j := by
  unfold atL; simp [hj]
theorem atL_big {f : Nat → List Int} {L j : Nat} (hj : L ≤ j) : atL ((List.range L).map f) j = [] := by
  unfold atL
  rw [List.getD_eq_getElem?_getD, List.getElem?_eq_none (by simpa using hj)]; rfl
/-! ### runs come to them -/
variable {g : State → Nat → Bool} {s0 s : State} {m : Nat → Nat} {h : Nat → List Int}
end
end Go.AmT
