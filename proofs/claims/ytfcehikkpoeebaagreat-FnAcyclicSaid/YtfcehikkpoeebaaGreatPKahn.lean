/- How far processes have come, in plain Lean: what a process does hangs on what it reads alone. -/
import Derived.Test.YtfcehikkpoeebaaGreatPStep
namespace Go.AmT
open Go Go.Am
set_option linter.unusedVariables false
set_option linter.unusedSimpArgs false

/-! ### a process alone -/
/-- its actor, what it has written to its ports, and how much it has read from its ports -/
abbrev Lc : Type := Actor × (Nat → List Int) × (Nat → Nat)
def upd {α : Type} (f : Nat → α) (b : Nat) (x : α) : Nat → α := fun c => if c = b then x else f c
theorem upd_same {α : Type} {f : Nat → α} {b : Nat} {x : α} : upd f b x b = x := by simp [upd]
theorem upd_ne {α : Type} {f : Nat → α} {b c : Nat} {x : α} (h : c ≠ b) : upd f b x c = f c := by simp [upd, h]

def lstep (p : Program) (I : Nat → List Int) (c : Lc) : Option Lc :=
  if (wantP p c.1).1 = 0 then none
  else if (wantP p c.1).1 = 2 then
    if c.2.2 (wantP p c.1).2.toNat < (I (wantP p c.1).2.toNat).length then some (stepA p c.1 ((I (wantP p c.1).2.toNat).getD (c.2.2 (wantP p c.1).2.toNat) 0), c.2.1, upd c.2.2 (wantP p c.1).2.toNat (c.2.2 (wantP p c.1).2.toNat + 1)) else none
  else if (wantP p c.1).1 = 3 then some (stepA p c.1 0, upd c.2.1 (wantP p c.1).2.toNat (c.2.1 (wantP p c.1).2.toNat ++ [outP (instrP p c.1) c.1]), c.2.2)
  else some (stepA p c.1 0, c.2.1, c.2.2)
def lrun (p : Program) (I : Nat → List Int) : Nat → Lc → Option Lc
  | 0, c => some c
  | m + 1, c => (lrun p I m c).bind (lstep p I)
def Sub (I I' : Nat → List Int) : Prop := ∀ b, I b <+: I' b
theorem Sub.refl (I : Nat → List Int) : Sub I I := fun _ => List.prefix_rfl
theorem Sub.trans {I J K : Nat → List Int} (h : Sub I J) (h' : Sub J K) : Sub I K := fun b => (h b).trans (h' b)

theorem lstep_mono {p : Program} {I I' : Nat → List Int} {c d : Lc} (h : Sub I I') (e : lstep p I c = some d) : lstep p I' c = some d := by
  unfold lstep at e ⊢
  split at e
  · cases e
  · rename_i h0
    rw [if_neg h0]
    split at e
    · rename_i h2
      rw [if_pos h2]
      split at e
      · rename_i hlt
        obtain ⟨h1, h3⟩ := prefix_getD.1 (h (wantP p c.1).2.toNat)
        rw [if_pos (Nat.lt_of_lt_of_le hlt h1), h3 _ hlt]
        exact e
      · cases e
    · rename_i h2
      rw [if_neg h2]; exact e
theorem lrun_mono {p : Program} {I I' : Nat → List Int} (h : Sub I I') : ∀ {m : Nat} {c d : Lc}, lrun p I m c = some d → lrun p I' m c = some d
  | 0, c, d, e => e
  | m + 1, c, d, e => by
    unfold lrun at e ⊢
    obtain ⟨x, e1, e2⟩ := Option.bind_eq_some_iff.1 e
    rw [lrun_mono h e1]
    exact lstep_mono h e2
/-! ### links of ports -/
def lnk (nt : Network) (j : Nat) : Link := nt.2.getD j zLink
def toks (nt : Network) (j : Nat) : List Int := (lnk nt j).2.2.2.2
def queue (s : State) (j : Nat) : List Int := s.2.1.getD j []
def sent (s : State) (j : Nat) : List Int := s.2.2.1.getD j []
def used (s : State) (j : Nat) : Nat := (sent s j).length - (queue s j).length
def lto (nt : Network) (k b : Nat) : Nat := (onlyIx (isTo (k : Int) (b : Int)) nt.2).toNat
def lfr (nt : Network) (k b : Nat) : Nat := (onlyIx (isFrom (k : Int) (b : Int)) nt.2).toNat
theorem lto_spec {nt : Network} (o : OkN nt) {k b : Nat} (hk : k < nt.1.length) (hb : (b : Int) < (prog nt k).1) :
    lto nt k b < nt.2.length ∧ (lnk nt (lto nt k b)).2.2.1 = (k : Int) ∧ (lnk nt (lto nt k b)).2.2.2.1 = (b : Int) := by
  unfold prog at hb
  rw [getD_lt hk] at hb
  obtain ⟨j, hj, hf, e⟩ := onlyIx_ex (o.ins k hk b hb)
  unfold isTo at hf
  simp only [Bool.and_eq_true, decide_eq_true_eq] at hf
  have e2 : lto nt k b = j := by unfold lto; rw [e]; rfl
  rw [e2]
  unfold lnk
  rw [getD_lt hj]
  exact ⟨hj, hf⟩
theorem lfr_spec {nt : Network} (o : OkN nt) {k b : Nat} (hk : k < nt.1.length) (hb : (b : Int) < (prog nt k).2.1) :
    lfr nt k b < nt.2.length ∧ (lnk nt (lfr nt k b)).1 = (k : Int) ∧ (lnk nt (lfr nt k b)).2.1 = (b : Int) := by
  unfold prog at hb
  rw [getD_lt hk] at hb
  obtain ⟨j, hj, hf, e⟩ := onlyIx_ex (o.outs k hk b hb)
  unfold isFrom at hf
  simp only [Bool.and_eq_true, decide_eq_true_eq] at hf
  have e2 : lfr nt k b = j := by unfold lfr; rw [e]; rfl
  rw [e2]
  unfold lnk
  rw [getD_lt hj]
  exact ⟨hj, hf⟩
theorem lto_uniq {nt : Network} (o : OkN nt) {j k b : Nat} (hj : j < nt.2.length) (hk : k < nt.1.length) (hb : (b : Int) < (prog nt k).1) (h1 : (lnk nt j).2.2.1 = (k : Int)) (h2 : (lnk nt j).2.2.2.1 = (b : Int)) : lto nt k b = j := by
  unfold prog at hb
  rw [getD_lt hk] at hb
  unfold lnk at h1 h2
  rw [getD_lt hj] at h1 h2
  unfold lto
  rw [onlyIx_at hj (o.ins k hk b hb) (by simp [isTo, h1, h2])]; rfl
theorem lfr_uniq {nt : Network} (o : OkN nt) {j k b : Nat} (hj : j < nt.2.length) (hk : k < nt.1.length) (hb : (b : Int) < (prog nt k).2.1) (h1 : (lnk nt j).1 = (k : Int)) (h2 : (lnk nt j).2.1 = (b : Int)) : lfr nt k b = j := by
  unfold prog at hb
  rw [getD_lt hk] at hb
  unfold lnk at h1 h2
  rw [getD_lt hj] at h1 h2
  unfold lfr
  rw [onlyIx_at hj (o.outs k hk b hb) (by simp [isFrom, h1, h2])]; rfl

/-! ### a step, seen from a process -/
def inF (nt : Network) (h : Nat → List Int) (k : Nat) : Nat → List Int := fun b => if (b : Int) < (prog nt k).1 then h (lto nt k b) else []
def outF (nt : Network) (h : Nat → List Int) (k : Nat) : Nat → List Int := fun b => if (b : Int) < (prog nt k).2.1 then (h (lfr nt k b)).drop (toks nt (lfr nt k b)).length else []
def useF (nt : Network) (u : Nat → Nat) (k : Nat) : Nat → Nat := fun b => if (b : Int) < (prog nt k).1 then u (lto nt k b) else 0
def lc (nt : Network) (s : State) (k : Nat) : Lc := (actor s k, outF nt (sent s) k, useF nt (used s) k)
theorem inF_mono {nt : Network} {h h' : Nat → List Int} {k : Nat} (S : Sub h h') : Sub (inF nt h k) (inF nt h' k) := by
  intro b
  unfold inF
  split
  · exact S _
  · exact List.prefix_rfl
theorem step_actor {nt : Network} {s : State} {k : Nat} (hk : k < s.1.length) (j : Nat) : actor (stepP nt s k) j = if j = k then stepA (prog nt k) (actor s k) (tokenOf nt s k) else actor s j := by
  show (s.1.set k _).getD j zActor = _
  by_cases h : j = k
  · subst h; rw [getD_set_same hk, if_pos rfl]
  · rw [getD_set_ne (Ne.symm h), if_neg h]; rfl
theorem step_sent {nt : Network} {s : State} {k : Nat} (o : OkSt nt s) (hk : k < nt.1.length) (j : Nat) : sent (stepP nt s k) j = if (wantOf nt s k).1 = 3 ∧ j = (linkOf nt s k).toNat then sent s j ++ [outOf nt s k] else sent s j := by
  show (if (wantOf nt s k).1 = 3 then s.2.2.1.set (linkOf nt s k).toNat (s.2.2.1.getD (linkOf nt s k).toNat [] ++ [outOf nt s k]) else s.2.2.1).getD j [] = _
  by_cases c3 : (wantOf nt s k).1 = 3
  · obtain ⟨l, hl, e, -⟩ := linkOf_from o hk c3
    rw [if_pos c3, e, Int.toNat_natCast]
    by_cases hj : j = l
    · subst hj; rw [getD_set_same (by rw [o.ns]; exact hl), if_pos ⟨c3, rfl⟩]; rfl
    · rw [getD_set_ne (Ne.symm hj), if_neg (fun h => hj h.2)]; rfl
  · rw [if_neg c3, if_neg (fun h => c3 h.1)]; rfl
theorem step_used {nt : Network} {s : State} {k : Nat} (o : OkSt nt s) (hk : k < nt.1.length) (hc : canP nt s k = true) (j : Nat) : used (stepP nt s k) j = if (wantOf nt s k).1 = 2 ∧ j = (linkOf nt s k).toNat then used s j + 1 else used s j := by
  have hs := step_sent o hk j
  have hq := o.nq
  obtain ⟨w0, w20, w2, w3⟩ := canP_facts hc
  have hqe : queue (stepP nt s k) j = if (wantOf nt s k).1 = 2 ∧ j = (linkOf nt s k).toNat then (queue s j).drop 1 else if (wantOf nt s k).1 = 3 ∧ j = (linkOf nt s k).toNat then queue s j ++ [outOf nt s k] else queue s j := by
    show (if (wantOf nt s k).1 = 2 then s.2.1.set (linkOf nt s k).toNat ((s.2.1.getD (linkOf nt s k).toNat []).drop 1) else if (wantOf nt s k).1 = 3 then s.2.1.set (linkOf nt s k).toNat (s.2.1.getD (linkOf nt s k).toNat [] ++ [outOf nt s k]) else s.2.1).getD j [] = _
    by_cases c2 : (wantOf nt s k).1 = 2
    · obtain ⟨l, hl, e, -⟩ := linkOf_to o hk c2
      rw [if_pos c2, e, Int.toNat_natCast]
      by_cases hj : j = l
      · subst hj; rw [getD_set_same (by omega), if_pos ⟨c2, rfl⟩]; rfl
      · rw [getD_set_ne (Ne.symm hj), if_neg (fun h => hj h.2), if_neg (fun h => hj h.2)]; rfl
    · rw [if_neg c2]
      by_cases c3 : (wantOf nt s k).1 = 3
      · obtain ⟨l, hl, e, -⟩ := linkOf_from o hk c3
        rw [if_pos c3, e, Int.toNat_natCast]
        by_cases hj : j = l
        · subst hj; rw [getD_set_same (by omega), if_neg (fun h => c2 h.1), if_pos ⟨c3, rfl⟩]; rfl
        · rw [getD_set_ne (Ne.symm hj), if_neg (fun h => hj h.2), if_neg (fun h => hj h.2)]; rfl
      · rw [if_neg c3, if_neg (fun h => c2 h.1), if_neg (fun h => c3 h.1)]; rfl
  unfold used
  rw [hs, hqe]
  by_cases hj : j = (linkOf nt s k).toNat
  · by_cases c2 : (wantOf nt s k).1 = 2
    · have hlen := w2 c2
      obtain ⟨l, hl, e, -⟩ := linkOf_to o hk c2
      have hle := (o.lnk l hl).suf.length_le
      rw [e, Int.toNat_natCast] at hj
      rw [e, Int.toNat_natCast] at hlen
      subst hj
      rw [if_neg (fun h => absurd h.1 (by omega)), if_pos ⟨c2, by rw [e]; rfl⟩, if_pos ⟨c2, by rw [e]; rfl⟩, List.length_drop]
      show (sent s j).length - ((queue s j).length - 1) = _
      have h1 : 0 < (queue s j).length := hlen
      have h2 : (queue s j).length ≤ (sent s j).length := hle
      omega
    · by_cases c3 : (wantOf nt s k).1 = 3
      · rw [if_pos ⟨c3, hj⟩, if_neg (fun h => c2 h.1), if_pos ⟨c3, hj⟩, if_neg (fun h => c2 h.1), List.length_append, List.length_append]
        omega
      · rw [if_neg (fun h => c3 h.1), if_neg (fun h => c2 h.1), if_neg (fun h => c3 h.1), if_neg (fun h => c2 h.1)]
  · rw [if_neg (fun h => hj h.2), if_neg (fun h => hj h.2), if_neg (fun h => hj h.2), if_neg (fun h => hj h.2)]
theorem sent_grows {nt : Network} {s : State} {k : Nat} (o : OkSt nt s) (hk : k < nt.1.length) : Sub (sent s) (sent (stepP nt s k)) := by
  intro j
  rw [step_sent o hk]
  split
  · exact List.prefix_append _ _
  · exact List.prefix_rfl
theorem toks_le {nt : Network} {s : State} (o : OkSt nt s) {j : Nat} (hj : j < nt.2.length) : toks nt j <+: sent s j := (o.lnk j hj).pre
theorem queue_suf {nt : Network} {s : State} (o : OkSt nt s) {j : Nat} (hj : j < nt.2.length) : queue s j = (sent s j).drop (used s j) := List.suffix_iff_eq_drop.1 (o.lnk j hj).suf

theorem step_own {nt : Network} {s : State} {k : Nat} (o : OkSt nt s) (hk : k < nt.1.length) (hc : canP nt s k = true) : lstep (prog nt k) (inF nt (sent s) k) (lc nt s k) = some (lc nt (stepP nt s k) k) := by
  obtain ⟨w0, w20, w2, w3⟩ := canP_facts hc
  obtain ⟨b, eb, hb2, hb3⟩ := port_nat o hk
  have hks : k < s.1.length := by rw [o.na]; exact hk
  have ep : nt.1[k] = prog nt k := by unfold prog; rw [getD_lt hk]
  rw [ep] at hb2 hb3
  have hA := step_actor (nt := nt) hks k
  rw [if_pos rfl] at hA
  have hw : wantP (prog nt k) (lc nt s k).1 = wantOf nt s k := rfl
  unfold lstep
  rw [hw, eb, Int.toNat_natCast, if_neg w0]
  by_cases c2 : (wantOf nt s k).1 = 2
  · have hb := hb2 c2
    obtain ⟨hl, l1, l2⟩ := lto_spec o.net hk hb
    have e : (linkOf nt s k).toNat = lto nt k b := by unfold linkOf lto; rw [if_pos c2, eb]
    have hlen := w2 c2
    rw [e] at hlen
    have hlen : 0 < (queue s (lto nt k b)).length := hlen
    have hq := queue_suf o hl
    have hIn : inF nt (sent s) k b = sent s (lto nt k b) := by unfold inF; rw [if_pos hb]
    have hU : (lc nt s k).2.2 b = used s (lto nt k b) := by show useF _ _ _ _ = _; unfold useF; rw [if_pos hb]
    have hlt : used s (lto nt k b) < (sent s (lto nt k b)).length := by
      rw [hq, List.length_drop] at hlen; omega
    have htok : tokenOf nt s k = (sent s (lto nt k b)).getD (used s (lto nt k b)) 0 := by
      unfold tokenOf
      rw [if_pos c2, e]
      show (queue s (lto nt k b)).getD 0 0 = _
      rw [hq, List.getD_eq_getElem?_getD, List.getD_eq_getElem?_getD, List.getElem?_drop, Nat.add_zero]
    rw [if_pos c2, hIn, hU, if_pos hlt, ← htok]
    have e1 : outF nt (sent (stepP nt s k)) k = outF nt (sent s) k := by
      funext c
      unfold outF
      split
      · rw [step_sent o hk, if_neg (fun h => absurd h.1 (by omega))]
      · rfl
    have e2 : useF nt (used (stepP nt s k)) k = upd (useF nt (used s) k) b (used s (lto nt k b) + 1) := by
      funext c
      by_cases hcb : c = b
      · subst hcb
        rw [upd_same]; unfold useF
        rw [if_pos hb, step_used o hk hc, if_pos ⟨c2, e.symm⟩]
      · rw [upd_ne hcb]; unfold useF
        split
        · rename_i hcp
          rw [step_used o hk hc, if_neg]
          rintro ⟨-, h⟩
          rw [e] at h
          have := (lto_spec o.net hk hcp).2.2
          rw [h, l2] at this
          omega
        · rfl
    unfold lc
    rw [hA, e1, e2]
  · rw [if_neg c2]
    have htok : tokenOf nt s k = 0 := by unfold tokenOf; rw [if_neg c2]
    have e2 : useF nt (used (stepP nt s k)) k = useF nt (used s) k := by
      funext c
      unfold useF
      split
      · rw [step_used o hk hc, if_neg (fun h => c2 h.1)]
      · rfl
    by_cases c3 : (wantOf nt s k).1 = 3
    · have hb := hb3 c3
      obtain ⟨hl, l1, l2⟩ := lfr_spec o.net hk hb
      have e : (linkOf nt s k).toNat = lfr nt k b := by unfold linkOf lfr; rw [if_neg c2, if_pos c3, eb]
      rw [if_pos c3]
      have e1 : outF nt (sent (stepP nt s k)) k = upd (outF nt (sent s) k) b (outF nt (sent s) k b ++ [outOf nt s k]) := by
        funext c
        by_cases hcb : c = b
        · subst hcb
          rw [upd_same]; unfold outF
          rw [if_pos hb, if_pos hb, step_sent o hk, if_pos ⟨c3, e.symm⟩, List.drop_append_of_le_length (toks_le o hl).length_le]
        · rw [upd_ne hcb]; unfold outF
          split
          · rename_i hcp
            rw [step_sent o hk, if_neg]
            rintro ⟨-, h⟩
            rw [e] at h
            have := (lfr_spec o.net hk hcp).2.2
            rw [h, l2] at this
            omega
          · rfl
      unfold lc
      rw [hA, e1, e2, htok]; rfl
    · rw [if_neg c3]
      have e1 : outF nt (sent (stepP nt s k)) k = outF nt (sent s) k := by
        funext c
        unfold outF
        split
        · rw [step_sent o hk, if_neg (fun h => c3 h.1)]
        · rfl
      unfold lc
      rw [hA, e1, e2, htok]
theorem step_other {nt : Network} {s : State} {k j : Nat} (o : OkSt nt s) (hk : k < nt.1.length) (hj : j < nt.1.length) (hc : canP nt s k = true) (hjk : j ≠ k) : lc nt (stepP nt s k) j = lc nt s j := by
  obtain ⟨b, eb, hb2, hb3⟩ := port_nat o hk
  have hks : k < s.1.length := by rw [o.na]; exact hk
  have ep : nt.1[k] = prog nt k := by unfold prog; rw [getD_lt hk]
  rw [ep] at hb2 hb3
  have hA := step_actor (nt := nt) hks j
  rw [if_neg hjk] at hA
  have e1 : outF nt (sent (stepP nt s k)) j = outF nt (sent s) j := by
    funext c
    unfold outF
    split
    · rename_i hcp
      rw [step_sent o hk, if_neg]
      rintro ⟨c3, h⟩
      have e : (linkOf nt s k).toNat = lfr nt k b := by unfold linkOf lfr; rw [if_neg (by omega), if_pos c3, eb]
      rw [e] at h
      have h1 := (lfr_spec o.net hj hcp).2.1
      rw [h, (lfr_spec o.net hk (hb3 c3)).2.1] at h1
      omega
    · rfl
  have e2 : useF nt (used (stepP nt s k)) j = useF nt (used s) j := by
    funext c
    unfold useF
    split
    · rename_i hcp
      rw [step_used o hk hc, if_neg]
      rintro ⟨c2, h⟩
      have e : (linkOf nt s k).toNat = lto nt k b := by unfold linkOf lto; rw [if_pos c2, eb]
      rw [e] at h
      have h1 := (lto_spec o.net hj hcp).2.1
      rw [h, (lto_spec o.net hk (hb2 c2)).2.1] at h1
      omega
    · rfl
  unfold lc
  rw [hA, e1, e2]

/-! ### a state is known by how far its processes have come -/
end Go.AmT
