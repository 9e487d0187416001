/- Least streams, in plain Lean: they are made of themselves, below all that are, and runs come to them. -/
import Derived.Test.YtgepghodhnmhjaaPKahn2
namespace Go.AmT
open Go Go.Am
set_option linter.unusedVariables false
set_option linter.unusedSimpArgs false

def c0 : Lc := (newA, fun _ => [], fun _ => 0)
theorem sent_start (nt : Network) (j : Nat) : sent (start nt) j = toks nt j := by
  unfold sent toks lnk start
  rcases Nat.lt_or_ge j nt.2.length with h | h
  · simp [h]
  · simp only [List.getD_eq_getElem?_getD, List.getElem?_map, List.getElem?_eq_none h]; rfl
/-! ### a process that is run as far as it goes -/
def stopB (p : Program) (I : Nat → List Int) (c : Lc) : Bool :=
  decide ((wantP p c.1).1 = 0) || (decide ((wantP p c.1).1 = 2) && decide (c.2.2 (wantP p c.1).2.toNat = (I (wantP p c.1).2.toNat).length)) || (decide ((wantP p c.1).1 = 3) && decide ((c.2.1 (wantP p c.1).2.toNat).length = 400))
def al (p : Program) (I : Nat → List Int) : Nat → Lc → Lc × Int × Int
  | 0, c => if stopB p I c = true then (c, wantP p c.1) else (c, 1, 0)
  | f + 1, c => if stopB p I c = true then (c, wantP p c.1) else al p I f ((lstep p I c).getD c)
theorem lrun_succ {p : Program} {I : Nat → List Int} (m : Nat) (c : Lc) : lrun p I (m + 1) c = (lstep p I c).bind (lrun p I m) := by
  rw [Nat.add_comm, lrun_add]
  show ((some c).bind _).bind _ = _
  rw [Option.bind_some]
/-- no more was read than was there, and no more was written than may be -/
structure Wf (I : Nat → List Int) (c : Lc) : Prop where
  rd : ∀ b, c.2.2 b ≤ (I b).length
  wr : ∀ b, (c.2.1 b).length ≤ 400
theorem wf_c0 (I : Nat → List Int) : Wf I c0 := ⟨fun _ => Nat.zero_le _, fun _ => by show ([] : List Int).length ≤ 400; simp⟩
theorem lstep_stop {p : Program} {I : Nat → List Int} {c : Lc} (w : Wf I c) (h : stopB p I c = false) : ∃ d, lstep p I c = some d ∧ Wf I d := by
  unfold stopB at h
  simp only [Bool.or_eq_false_iff, Bool.and_eq_false_iff, decide_eq_false_iff_not] at h
  obtain ⟨⟨h0, h2⟩, h3⟩ := h
  unfold lstep
  rw [if_neg h0]
  by_cases c2 : (wantP p c.1).1 = 2
  · have h2 : ¬ c.2.2 (wantP p c.1).2.toNat = (I (wantP p c.1).2.toNat).length := by
      rcases h2 with h | h
      · exact absurd c2 h
      · exact h
    have hlt : c.2.2 (wantP p c.1).2.toNat < (I (wantP p c.1).2.toNat).length := by have := w.rd (wantP p c.1).2.toNat; omega
    rw [if_pos c2, if_pos hlt]
    refine ⟨_, rfl, fun b => ?_, w.wr⟩
    show upd _ _ _ b ≤ _
    by_cases hb : b = (wantP p c.1).2.toNat
    · subst hb; rw [upd_same]; omega
    · rw [upd_ne hb]; exact w.rd b
  · rw [if_neg c2]
    by_cases c3 : (wantP p c.1).1 = 3
    · have h3 : ¬ (c.2.1 (wantP p c.1).2.toNat).length = 400 := by
        rcases h3 with h | h
        · exact absurd c3 h
        · exact h
      rw [if_pos c3]
      refine ⟨_, rfl, w.rd, fun b => ?_⟩
      show List.length (upd _ _ _ b) ≤ 400
      by_cases hb : b = (wantP p c.1).2.toNat
      · subst hb; rw [upd_same, List.length_append, List.length_singleton]
        have := w.wr (wantP p c.1).2.toNat; omega
      · rw [upd_ne hb]; exact w.wr b
    · rw [if_neg c3]
      exact ⟨_, rfl, w.rd, w.wr⟩
theorem al_full {p : Program} {I : Nat → List Int} : ∀ {f : Nat} {c : Lc}, Wf I c → (al p I f c).2.1 ≠ 1 → (al p I f c).2.1 ≠ 3 → ∃ M, M ≤ f ∧ Full p I c M (al p I f c).1 ∧ Wf I (al p I f c).1
  | f, c, w, h1, h3 => by
    cases hs : stopB p I c
    · cases f with
      | zero => simp [al, hs] at h1
      | succ f =>
        obtain ⟨d, e, wd⟩ := lstep_stop w hs
        have ea : al p I (f + 1) c = al p I f d := by
          show (if stopB p I c = true then _ else al p I f ((lstep p I c).getD c)) = _
          rw [hs, e]; rfl
        rw [ea] at h1 h3 ⊢
        obtain ⟨M, hM, F, W⟩ := al_full wd h1 h3
        exact ⟨M + 1, by omega, ⟨by rw [lrun_succ, e, Option.bind_some]; exact F.1, F.2⟩, W⟩
    · have ea : al p I f c = (c, wantP p c.1) := by cases f <;> simp [al, hs]
      rw [ea] at h1 h3 ⊢
      refine ⟨0, Nat.zero_le _, ⟨rfl, ?_⟩, w⟩
      have h3 : (wantP p c.1).1 ≠ 3 := h3
      have h1 : (wantP p c.1).1 ≠ 1 := h1
      unfold stopB at hs
      simp only [Bool.or_eq_true, Bool.and_eq_true, decide_eq_true_eq] at hs
      show lstep p I c = none
      unfold lstep
      rcases hs with (h | h) | h
      · rw [if_pos h]
      · rw [if_neg (by omega), if_pos h.1, if_neg (by omega)]
      · exact absurd h.1 h3
/-! ### rounds -/
def atL (h : List (List Int)) (j : Nat) : List Int := h.getD j []
def runK (nt : Network) (h : Nat → List Int) (k : Nat) : Lc × Int × Int := al (prog nt k) (inF nt h k) 3000 c0
def newS (nt : Network) (h : Nat → List Int) (j : Nat) : List Int := toks nt j ++ if 0 ≤ (lnk nt j).1 then (runK nt h (lnk nt j).1.toNat).1.2.1 (lnk nt j).2.1.toNat else []
def rndOk (nt : Network) (h : Nat → List Int) : Bool := ((List.range nt.1.length).all fun k => decide ((runK nt h k).2.1 ≠ 1) && decide ((runK nt h k).2.1 ≠ 3)) && (List.range nt.2.length).all fun j => okS (newS nt h j)
def rndP (nt : Network) (h : List (List Int)) : Option (List (List Int)) := if rndOk nt (atL h) = true then some ((List.range nt.2.length).map (newS nt (atL h))) else none
def leastF (nt : Network) : Nat → Int → List (List Int) → Option (List (List Int) × Int)
  | 0, _, _ => none
  | m + 1, r, h => match rndP nt h with | none => none | some g => if g = h then some (h, r) else leastF nt m (r + 1) g
def tokL (nt : Network) : List (List Int) := nt.2.map (fun l => l.2.2.2.2)
def leastP (nt : Network) : Option (List (List Int) × Int) := leastF nt 300 1 (tokL nt)

section
variable {nt : Network}
theorem atL_tokL (j : Nat) : atL (tokL nt) j = toks nt j := sent_start nt j
/-- streams that a round makes of themselves -/
structure Fix (nt : Network) (B : Nat → Lc) (h : Nat → List Int) : Prop where
  inp : ∀ j, j < nt.2.length → (lnk nt j).1 = -1 → h j = toks nt j
  run : ∀ k, k < nt.1.length → ∃ M d, Full (prog nt k) (inF nt h k) (B k) M d ∧ ∀ b : Nat, (b : Int) < (prog nt k).2.1 → h (lfr nt k b) = toks nt (lfr nt k b) ++ d.2.1 b
theorem newS_in {h : Nat → List Int} {j : Nat} (h1 : (lnk nt j).1 = -1) : newS nt h j = toks nt j := by
  unfold newS
  rw [if_neg (by omega), List.append_nil]
theorem newS_from (o : OkN nt) {h : Nat → List Int} {k b : Nat} (hk : k < nt.1.length) (hb : (b : Int) < (prog nt k).2.1) : newS nt h (lfr nt k b) = toks nt (lfr nt k b) ++ (runK nt h k).1.2.1 b := by
  obtain ⟨hl, l1, l2⟩ := lfr_spec o hk hb
  unfold newS
  rw [l1, l2, if_pos (Int.natCast_nonneg k)]; rfl
/-- what a round makes of streams -/
theorem rnd_run {h : Nat → List Int} (ok : rndOk nt h = true) {k : Nat} (hk : k < nt.1.length) : ∃ M, M ≤ 3000 ∧ Full (prog nt k) (inF nt h k) c0 M (runK nt h k).1 ∧ Wf (inF nt h k) (runK nt h k).1 := by
  unfold rndOk at ok
  simp only [Bool.and_eq_true, List.all_eq_true, List.mem_range, decide_eq_true_eq] at ok
  exact al_full (wf_c0 _) (ok.1 k hk).1 (ok.1 k hk).2
theorem rnd_ok {h : Nat → List Int} (ok : rndOk nt h = true) {j : Nat} (hj : j < nt.2.length) : okS (newS nt h j) = true := by
  unfold rndOk at ok
  simp only [Bool.and_eq_true, List.all_eq_true, List.mem_range, decide_eq_true_eq] at ok
  exact ok.2 j hj
/-- a round of streams below ones that are made of themselves is below them -/
theorem rnd_le (o : OkN nt) {h F : Nat → List Int} (ok : rndOk nt h = true) (hF : Fix nt (fun _ => c0) F) (S : Sub h F) {j : Nat} (hj : j < nt.2.length) : newS nt h j <+: F j := by
  rcases link_cases o hj with h1 | ⟨k, b, hk, hb, rfl⟩
  · rw [newS_in h1, hF.inp j hj h1]; exact List.prefix_rfl
  · obtain ⟨M, d, e1, e2⟩ := hF.run k hk
    obtain ⟨M', -, F', -⟩ := rnd_run ok hk
    rw [newS_from o hk hb, e2 b hb, List.prefix_append_right_inj]
    exact (full_le e1 F'.1 (inF_mono S)).2.2 b
theorem rndP_some {h g : List (List Int)} (e : rndP nt h = some g) : rndOk nt (atL h) = true ∧ g = (List.range nt.2.length).map (newS nt (atL h)) := by
  unfold rndP at e
  split at e
  · rename_i h1; cases e; exact ⟨h1, rfl⟩
  · cases e
theorem atL_map {f : Nat → List Int} {L j : Nat} (hj : j < L) : atL ((List.range L).map f) j = f j := by
  unfold atL; simp [hj]
theorem atL_big {f : Nat → List Int} {L j : Nat} (hj : L ≤ j) : atL ((List.range L).map f) j = [] := by
  unfold atL
  rw [List.getD_eq_getElem?_getD, List.getElem?_eq_none (by simpa using hj)]; rfl
/-- how least streams are found: a chain of rounds -/
inductive Chain (nt : Network) : Nat → List (List Int) → Prop
  | zero : Chain nt 0 (tokL nt)
  | succ {i : Nat} {h g : List (List Int)} : Chain nt i h → rndP nt h = some g → Chain nt (i + 1) g
theorem leastF_chain : ∀ {m : Nat} {r : Int} {h g : List (List Int)} {r' : Int} {i : Nat}, Chain nt i h → leastF nt m r h = some (g, r') → ∃ j, i ≤ j ∧ j < i + m ∧ r' = r + ((j - i : Nat) : Int) ∧ Chain nt j g ∧ rndP nt g = some g
  | 0, r, h, g, r', i, C, e => by cases e
  | m + 1, r, h, g, r', i, C, e => by
    unfold leastF at e
    cases h1 : rndP nt h with
    | none => rw [h1] at e; cases e
    | some x =>
      rw [h1] at e
      simp only at e
      split at e
      · rename_i hx
        cases e
        subst hx
        exact ⟨i, Nat.le_refl _, by omega, by simp, C, h1⟩
      · obtain ⟨j, a1, a2, a3, a4, a5⟩ := leastF_chain (.succ C h1) e
        exact ⟨j, by omega, by omega, by omega, a4, a5⟩
theorem leastP_chain {h : List (List Int)} {r : Int} (e : leastP nt = some (h, r)) : ∃ j : Nat, j < 300 ∧ r = (j : Int) + 1 ∧ Chain nt j h ∧ rndP nt h = some h := by
  obtain ⟨j, -, a2, a3, a4, a5⟩ := leastF_chain .zero e
  exact ⟨j, by omega, by omega, a4, a5⟩
theorem Chain.sub (o : OkN nt) {F : Nat → List Int} (hF : Fix nt (fun _ => c0) F) (h0 : ∀ j, toks nt j <+: F j) {i : Nat} {h : List (List Int)} (C : Chain nt i h) : Sub (atL h) F := by
  induction C with
  | zero => intro j; rw [atL_tokL]; exact h0 j
  | succ C e ih =>
    obtain ⟨ok, rfl⟩ := rndP_some e
    intro j
    rcases Nat.lt_or_ge j nt.2.length with hj | hj
    · rw [atL_map hj]; exact rnd_le o ok hF ih hj
    · rw [atL_big hj]; exact List.nil_prefix
theorem fix_toks (o : OkN nt) {F : Nat → List Int} (hF : Fix nt (fun _ => c0) F) (j : Nat) : toks nt j <+: F j := by
  rcases Nat.lt_or_ge j nt.2.length with hj | hj
  · rcases link_cases o hj with h1 | ⟨k, b, hk, hb, rfl⟩
    · rw [hF.inp j hj h1]; exact List.prefix_rfl
    · obtain ⟨M, d, e1, e2⟩ := hF.run k hk
      rw [e2 b hb]; exact List.prefix_append _ _
  · have : toks nt j = [] := by unfold toks lnk; rw [List.getD_eq_getElem?_getD, List.getElem?_eq_none hj]; rfl
    rw [this]; exact List.nil_prefix
theorem rnd_fix (o : OkN nt) {h : List (List Int)} (e : rndP nt h = some h) : Fix nt (fun _ => c0) (atL h) := by
  obtain ⟨ok, e2⟩ := rndP_some e
  have hn : ∀ j, j < nt.2.length → atL h j = newS nt (atL h) j := fun j hj => by
    conv => lhs; rw [e2]
    exact atL_map hj
  refine ⟨fun j hj h1 => by rw [hn j hj, newS_in h1], fun k hk => ?_⟩
  obtain ⟨M, -, F, -⟩ := rnd_run ok hk
  refine ⟨M, _, F, fun b hb => ?_⟩
  rw [hn _ (lfr_spec o hk hb).1, newS_from o hk hb]
theorem least_fix (o : OkN nt) {h : List (List Int)} {r : Int} (e : leastP nt = some (h, r)) : Fix nt (fun _ => c0) (atL h) := by
  obtain ⟨j, -, -, -, e2⟩ := leastP_chain e
  exact rnd_fix o e2
theorem least_len {h : List (List Int)} {r : Int} (e : leastP nt = some (h, r)) : h.length = nt.2.length := by
  obtain ⟨j, -, -, -, e2⟩ := leastP_chain e
  have := (rndP_some e2).2
  rw [this]; simp
theorem least_okS {h : List (List Int)} {r : Int} (e : leastP nt = some (h, r)) {j : Nat} (hj : j < nt.2.length) : okS (atL h j) = true := by
  obtain ⟨i, -, -, -, e2⟩ := leastP_chain e
  obtain ⟨ok, e3⟩ := rndP_some e2
  rw [e3, atL_map hj]
  exact rnd_ok ok hj

/-! ### runs come to them -/
variable {g : State → Nat → Bool} {s0 s : State} {m : Nat → Nat} {h : Nat → List Int}
end
end Go.AmT
