/- Why a demand fails, in plain Lean: links that wait for each other, or for what never comes. -/
import Derived.Test.YtgepghodhnmhjaaPKahn3
import Derived.Test.YtgepghodhnmhjaaPDem0
import Derived.Test.YtgepghodhnmhjaaPRunK
namespace Go.AmT
open Go Go.Am
set_option linter.unusedVariables false
set_option linter.unusedSimpArgs false

/-- links that get no more -/
inductive Blk (nt : Network) (t : State) : (Nat → Bool) → Nat → Prop
  | busy {f : Nat → Bool} {l : Nat} : f l = true → Blk nt t f l
  | inp {f : Nat → Bool} {l : Nat} : fromK nt l < 0 → Blk nt t f l
  | dead {f : Nat → Bool} {l : Nat} : 0 ≤ fromK nt l → (wantOf nt t (fromK nt l).toNat).1 ≠ 2 → canP nt t (fromK nt l).toNat = false → Blk nt t f l
  | read {f : Nat → Bool} {l : Nat} : 0 ≤ fromK nt l → (wantOf nt t (fromK nt l).toNat).1 = 2 → canP nt t (fromK nt l).toNat = false → Blk nt t (busyU f l) (linkOf nt t (fromK nt l).toNat).toNat → Blk nt t f l
/-- a set of links that wait for each other -/
def Wait (nt : Network) (t : State) (B : Nat → Prop) (f : Nat → Bool) : Prop :=
  ∀ j, B j → f j = true ∨ fromK nt j < 0 ∨ (0 ≤ fromK nt j ∧ canP nt t (fromK nt j).toNat = false ∧ ((wantOf nt t (fromK nt j).toNat).1 ≠ 2 ∨ B (linkOf nt t (fromK nt j).toNat).toNat))
theorem Blk.wait {nt : Network} {t : State} {f : Nat → Bool} {l : Nat} (h : Blk nt t f l) : ∃ B : Nat → Prop, B l ∧ Wait nt t B f := by
  induction h with
  | @busy f l hb => exact ⟨fun j => j = l, rfl, fun j e => by subst e; exact .inl hb⟩
  | @inp f l hb => exact ⟨fun j => j = l, rfl, fun j e => by subst e; exact .inr (.inl hb)⟩
  | @dead f l h0 hw hc => exact ⟨fun j => j = l, rfl, fun j e => by subst e; exact .inr (.inr ⟨h0, hc, .inl hw⟩)⟩
  | @read f l h0 hw hc _ ih =>
    obtain ⟨B, hB, hW⟩ := ih
    refine ⟨fun j => B j ∨ j = l, .inr rfl, fun j hj => ?_⟩
    have hl : fromK nt l < 0 ∨ (0 ≤ fromK nt l ∧ canP nt t (fromK nt l).toNat = false ∧ ((wantOf nt t (fromK nt l).toNat).1 ≠ 2 ∨ (B (linkOf nt t (fromK nt l).toNat).toNat ∨ (linkOf nt t (fromK nt l).toNat).toNat = l))) := .inr ⟨h0, hc, .inr (.inl hB)⟩
    rcases hj with hj | rfl
    · rcases hW j hj with h1 | h1 | ⟨h1, h2, h3 | h3⟩
      · unfold busyU at h1
        simp only [Bool.or_eq_true, decide_eq_true_eq] at h1
        rcases h1 with h1 | rfl
        · exact .inl h1
        · exact .inr hl
      · exact .inr (.inl h1)
      · exact .inr (.inr ⟨h1, h2, .inl h3⟩)
      · exact .inr (.inr ⟨h1, h2, .inr (.inl h3)⟩)
    · exact .inr hl
section
variable {nt : Network}
/-- the process that sends over a link -/
theorem from_link (o : OkN nt) {j : Nat} (hj : j < nt.2.length) (h : 0 ≤ fromK nt j) : ∃ b : Nat, (fromK nt j).toNat < nt.1.length ∧ (b : Int) < (prog nt (fromK nt j).toNat).2.1 ∧ lfr nt (fromK nt j).toNat b = j := by
  rcases link_cases o hj with h1 | ⟨k, b, hk, hb, e⟩
  · unfold lnk at h1; unfold fromK at h; omega
  · have := (lfr_spec o hk hb).2.1
    rw [e] at this
    have e2 : fromK nt j = (k : Int) := this
    rw [e2, Int.toNat_natCast]
    exact ⟨b, hk, hb, e⟩
theorem not_from (o : OkN nt) {j : Nat} (hj : j < nt.2.length) (h : ¬ 0 ≤ fromK nt j) : (lnk nt j).1 = -1 := by
  rcases link_cases o hj with h5 | ⟨k5, b5, hk5, hb5, e5⟩
  · exact h5
  · have := (lfr_spec o hk5 hb5).2.1
    rw [e5] at this
    have : fromK nt j = (k5 : Int) := this
    omega
theorem link2 {s : State} (o : OkSt nt s) {k : Nat} (hk : k < nt.1.length) (h : (wantOf nt s k).1 = 2) : ∃ b : Nat, (b : Int) < (prog nt k).1 ∧ (wantOf nt s k).2 = (b : Int) ∧ (linkOf nt s k).toNat = lto nt k b := by
  obtain ⟨b, eb, hb2, -⟩ := port_nat o hk
  refine ⟨b, by unfold prog; rw [getD_lt hk]; exact hb2 h, eb, ?_⟩
  unfold linkOf lto; rw [if_pos h, eb]
/-- links that wait for each other get no more -/
theorem Wait.stay {t t' : State} {B : Nat → Prop} {g : State → Nat → Bool} {m : Nat → Nat} (ot : OkSt nt t) (ht : t.2.2.2 < 20000) (W : Wait nt t B (fun _ => false)) (S : Steps nt g t t' m) :
    ∀ j, B j → j < nt.2.length → sent t' j = sent t j ∧ (0 ≤ fromK nt j → lc nt t' (fromK nt j).toNat = lc nt t (fromK nt j).toNat) := by
  have key : ∀ j, B j → j < nt.2.length → 0 ≤ fromK nt j → lc nt t' (fromK nt j).toNat = lc nt t (fromK nt j).toNat := by
    induction S with
    | refl => intro j _ _ _; rfl
    | @step s m k S hk _ hc ih =>
      intro j hj hjl h0
      have os := S.ok ot
      obtain ⟨b, hkj, hb, e⟩ := from_link ot.net hjl h0
      by_cases hkk : k = (fromK nt j).toNat
      · exfalso
        subst hkk
        have hlc := ih j hj hjl h0
        have hw : wantOf nt s (fromK nt j).toNat = wantOf nt t (fromK nt j).toNat := want_of_lc hlc
        obtain ⟨c0, -, c2, c3⟩ := (can_iff os hk).1 hc
        rcases W j hj with h1 | h1 | ⟨h1, h2, h3⟩
        · cases h1
        · omega
        · have : canP nt t (fromK nt j).toNat = true := by
            rw [can_iff ot hk]
            rw [hw] at c0 c2 c3
            refine ⟨c0, ht, fun w2 => ?_, fun w3 => ?_⟩
            · rcases h3 with h3 | h3
              · exact absurd w2 h3
              · obtain ⟨b2, hb2, eb, el⟩ := link2 ot hk w2
                rw [el] at h3
                have hll := (lto_spec ot.net hk hb2).1
                have c2 := c2 w2
                rw [eb, Int.toNat_natCast] at c2 ⊢
                have hu : used s (lto nt (fromK nt j).toNat b2) = used t (lto nt (fromK nt j).toNat b2) := by rw [used_to os hk hb2, used_to ot hk hb2, hlc]
                have hs : sent s (lto nt (fromK nt j).toNat b2) = sent t (lto nt (fromK nt j).toNat b2) := by
                  by_cases hf : 0 ≤ fromK nt (lto nt (fromK nt j).toNat b2)
                  · obtain ⟨b3, hk3, hb3, e3⟩ := from_link ot.net hll hf
                    have := ih _ h3 hll hf
                    rw [← e3, sent_from os hk3 hb3, sent_from ot hk3 hb3, this]
                  · have h5 := not_from ot.net hll hf
                    rw [sent_in os hll h5, sent_in ot hll h5]
                rwa [hu, hs] at c2
            · have c3 := c3 w3
              obtain ⟨b4, eb4, -, hb4⟩ := port_nat ot hk
              have hb4 : (b4 : Int) < (prog nt (fromK nt j).toNat).2.1 := by unfold prog; rw [getD_lt hk]; exact hb4 w3
              rw [eb4, Int.toNat_natCast] at c3 ⊢
              rw [sent_from os hk hb4, hlc, ← sent_from ot hk hb4] at c3
              exact c3
          rw [h2] at this; cases this
      · rw [step_other os hk hkj hc (fun e => hkk e.symm)]
        exact ih j hj hjl h0
  intro j hj hjl
  refine ⟨?_, key j hj hjl⟩
  have os := S.ok ot
  by_cases hf : 0 ≤ fromK nt j
  · obtain ⟨b3, hk3, hb3, e3⟩ := from_link ot.net hjl hf
    have := key j hj hjl hf
    rw [← e3, sent_from os hk3 hb3, sent_from ot hk3 hb3]
    rw [this]
  · have h5 := not_from ot.net hjl hf
    rw [sent_in os hjl h5, sent_in ot hjl h5]
theorem sentL_eq {s : State} {j : Nat} : sentL s j = ((sent s j).length : Int) := rfl
/-- what a demand leaves behind when it fails -/
def Lft (nt : Network) (fin : Int) (t : State) (f : Nat → Bool) (l : Nat) : Prop := Blk nt t f l ∨ fin ≤ t.2.2.2 ∨ t.2.2.2 = 20000
theorem dloop_left {fin count : Int} {link d : Nat} {f : Nat → Bool} (hln : link < nt.2.length) (h0 : 0 ≤ fromK nt link) (hk : (fromK nt link).toNat < nt.1.length)
    (hr : ∀ s l, OkSt nt s → l < nt.2.length → (dem nt fin d (busyU f link) s l (sentL s l + 1)).2 = false → Lft nt fin (dem nt fin d (busyU f link) s l (sentL s l + 1)).1 (busyU f link) l ∧ sentL (dem nt fin d (busyU f link) s l (sentL s l + 1)).1 l < sentL s l + 1) :
    ∀ m s, OkSt nt s → (dloop nt fin count link (dem nt fin d (busyU f link)) m s).2 = false → (Lft nt fin (dloop nt fin count link (dem nt fin d (busyU f link)) m s).1 f link ∧ sentL (dloop nt fin count link (dem nt fin d (busyU f link)) m s).1 link < count) ∨ s.2.2.2 + m ≤ (dloop nt fin count link (dem nt fin d (busyU f link)) m s).1.2.2.2
  | 0, s, o, h => .inr (by show s.2.2.2 + ((0 : Nat) : Int) ≤ s.2.2.2; omega)
  | m + 1, s, o, h => by
    unfold dloop at h ⊢
    by_cases c1 : sentL s link < count
    rotate_left
    · rw [if_neg c1] at h; cases h
    rw [if_pos c1] at h ⊢
    by_cases c2 : s.2.2.2 < fin ∧ canP nt s (fromK nt link).toNat = true
    · rw [if_pos c2] at h ⊢
      rcases dloop_left hln h0 hk hr m _ (stepP_ok o hk c2.2) h with h1 | h1
      · exact .inl h1
      · refine .inr ?_
        have e : (stepP nt s (fromK nt link).toNat).2.2.2 = s.2.2.2 + 1 := rfl
        rw [e] at h1; omega
    rw [if_neg c2] at h ⊢
    by_cases c3 : ¬ s.2.2.2 < fin ∨ (wantOf nt s (fromK nt link).toNat).1 ≠ 2 ∨ s.2.2.2 = 20000
    · rw [if_pos c3]
      refine .inl ⟨?_, c1⟩
      by_cases hfin : s.2.2.2 < fin
      · rcases c3 with h3 | h3 | h3
        · exact absurd hfin h3
        · refine .inl (.dead h0 h3 ?_)
          cases hc : canP nt s (fromK nt link).toNat
          · rfl
          · exact absurd ⟨hfin, hc⟩ c2
        · exact .inr (.inr h3)
      · exact .inr (.inl (by show fin ≤ s.2.2.2; omega))
    rw [if_neg c3] at h ⊢
    have hfin : s.2.2.2 < fin := by
      by_cases hfin : s.2.2.2 < fin
      · exact hfin
      · exact absurd (.inl hfin) c3
    have hw : (wantOf nt s (fromK nt link).toNat).1 = 2 := by
      by_cases hw : (wantOf nt s (fromK nt link).toNat).1 = 2
      · exact hw
      · exact absurd (.inr (.inl hw)) c3
    have h20 : s.2.2.2 < 20000 := by
      have := o.steps.2
      by_cases h : s.2.2.2 = 20000
      · exact absurd (.inr (.inr h)) c3
      · omega
    have hcan : canP nt s (fromK nt link).toNat = false := by
      cases hc : canP nt s (fromK nt link).toNat
      · rfl
      · exact absurd ⟨hfin, hc⟩ c2
    obtain ⟨b, hb, eb, el⟩ := link2 o hk hw
    have hl := (lto_spec o.net hk hb).1
    rw [el] at h ⊢
    have A := dem_adv (fin := fin) (d := d) (f := busyU f link) (count := sentL s (lto nt (fromK nt link).toNat b) + 1) o hl
    have hmore := dem_more (fin := fin) (d := d) (f := busyU f link) o hl
    have hleft := hr s _ o hl
    have hinv := dem_inv (fin := fin) (fun s1 => OkSt nt s1 ∧ (lc nt s1 (fromK nt link).toNat = lc nt s (fromK nt link).toNat ∨ sentL s (lto nt (fromK nt link).toNat b) < sentL s1 (lto nt (fromK nt link).toNat b))) (fun _ h => h.1) (fun s1 k1 h1 hk1 hc1 => by
      refine ⟨stepP_ok h1.1 hk1 hc1, ?_⟩
      rcases h1.2 with h2 | h2
      · by_cases hkk : k1 = (fromK nt link).toNat
        · subst hkk
          have hw1 := want_of_lc (s := s1) (t := s) h2
          have := ((can_iff h1.1 hk).1 hc1).2.2.1 (by rw [hw1]; exact hw)
          rw [hw1, eb, Int.toNat_natCast, used_to h1.1 hk hb, h2, ← used_to o hk hb] at this
          have hno : ¬ used s (lto nt (fromK nt link).toNat b) < (sent s (lto nt (fromK nt link).toNat b)).length := fun hlt => by
            have : canP nt s (fromK nt link).toNat = true := (can_iff o hk).2 ⟨by omega, h20, fun _ => by rw [eb, Int.toNat_natCast]; exact hlt, fun h3 => by omega⟩
            rw [hcan] at this; cases this
          refine .inr ?_
          have hg := (sent_grows (k := (fromK nt link).toNat) h1.1 hk (lto nt (fromK nt link).toNat b)).length_le
          rw [sentL_eq, sentL_eq]; omega
        · exact .inl (by rw [step_other h1.1 hk1 hk hc1 (fun e => hkk e.symm)]; exact h2)
      · refine .inr ?_
        have hg := (sent_grows (k := k1) h1.1 hk1 (lto nt (fromK nt link).toNat b)).length_le
        rw [sentL_eq, sentL_eq] at *; omega) d (busyU f link) s (lto nt (fromK nt link).toNat b) (sentL s (lto nt (fromK nt link).toNat b) + 1) hl ⟨o, .inl rfl⟩
    generalize dem nt fin d (busyU f link) s (lto nt (fromK nt link).toNat b) (sentL s (lto nt (fromK nt link).toNat b) + 1) = R at *
    by_cases c4 : R.2 = true
    · rw [if_pos c4] at h ⊢
      rcases dloop_left hln h0 hk hr m _ A.ok h with h1 | h1
      · exact .inl h1
      · have := hmore c4
        exact .inr (by omega)
    · rw [if_neg c4]
      have c4 : R.2 = false := by simpa using c4
      obtain ⟨hL, hlt⟩ := hleft c4
      have hlc : lc nt R.1 (fromK nt link).toNat = lc nt s (fromK nt link).toNat := by
        rcases hinv.2 with h1 | h1
        · exact h1
        · omega
      have hsame : sentL R.1 link = sentL s link := by
        obtain ⟨b3, hk3, hb3, e3⟩ := from_link o.net hln h0
        rw [sentL_eq, sentL_eq, ← e3, sent_from A.ok hk3 hb3, sent_from o hk3 hb3, hlc]
      refine .inl ⟨?_, by show sentL R.1 link < count; omega⟩
      rcases hL with hB | hL
      rotate_left
      · exact .inr hL
      have hw1 : wantOf nt R.1 (fromK nt link).toNat = wantOf nt s (fromK nt link).toNat := want_of_lc hlc
      obtain ⟨b', hb', eb', el'⟩ := link2 A.ok hk (by rw [hw1]; exact hw)
      have ebb : b' = b := by rw [hw1, eb] at eb'; omega
      subst ebb
      refine .inl (.read h0 (by rw [hw1]; exact hw) ?_ (by rw [el']; exact hB))
      cases hc : canP nt R.1 (fromK nt link).toNat
      · rfl
      · exfalso
        have := ((can_iff A.ok hk).1 hc).2.2.1 (by rw [hw1]; exact hw)
        rw [hw1, eb, Int.toNat_natCast, used_to A.ok hk hb, hlc, ← used_to o hk hb] at this
        rw [sentL_eq, sentL_eq] at hlt
        have : canP nt s (fromK nt link).toNat = true := (can_iff o hk).2 ⟨by omega, h20, fun _ => by rw [eb, Int.toNat_natCast]; omega, fun h3 => by omega⟩
        rw [hcan] at this; cases this
theorem dem_left {fin : Int} : ∀ (d : Nat) (f : Nat → Bool) (s : State) (link : Nat) (count : Int), OkSt nt s → link < nt.2.length → freeN f nt.2.length < d → (dem nt fin d f s link count).2 = false → Lft nt fin (dem nt fin d f s link count).1 f link ∧ sentL (dem nt fin d f s link count).1 link < count
  | 0, f, s, link, count, o, hl, hd, h => by omega
  | d + 1, f, s, link, count, o, hl, hd, h => by
    have A := dem_adv (fin := fin) (d := d + 1) (f := f) (count := count) o hl
    unfold dem at h A ⊢
    by_cases c1 : count ≤ sentL s link
    · rw [if_pos c1] at h; cases h
    rw [if_neg c1] at h A ⊢
    by_cases c2 : fromK nt link < 0 ∨ f link = true
    · rw [if_pos c2]
      refine ⟨.inl ?_, by show sentL s link < count; omega⟩
      rcases c2 with h | h
      · exact .inp h
      · exact .busy h
    rw [if_neg c2] at h A ⊢
    have h0 : 0 ≤ fromK nt link := by
      by_cases h : fromK nt link < 0
      · exact absurd (.inl h) c2
      · omega
    have hf : f link = false := by
      cases hb : f link
      · rfl
      · exact absurd (.inr hb) c2
    obtain ⟨b, hk, -, -⟩ := from_link o.net hl h0
    rcases dloop_left hl h0 hk (fun s l os hls hr => dem_left d (busyU f link) s l _ os hls (by have := freeN_lt hf hl; omega) hr) 20001 s o h with h1 | h1
    · exact h1
    · exfalso
      have := A.ok.steps.2
      have := o.steps.1
      omega
/-- a demand that fails asks for more than will ever be sent -/
theorem dem_short {fin : Int} {d : Nat} {s t : State} {link : Nat} {count : Int} {g g' : State → Nat → Bool} {s0 : State} {ms mt : Nat → Nat} (o0 : OkSt nt s0) (S : Steps nt g s0 s ms) (hl : link < nt.2.length) (hd : nt.2.length < d) (hfin : 20000 ≤ fin)
    (T : Steps nt g' s0 t mt) (hq : anyCan nt t = false) (ht : t.2.2.2 < 20000) :
    ∃ m, Steps nt (fun _ _ => true) s0 (dem nt fin d (fun _ => false) s link count).1 m ∧ ((dem nt fin d (fun _ => false) s link count).2 = false → ((sent t link).length : Int) < count) ∧ Sub (sent s) (sent (dem nt fin d (fun _ => false) s link count).1) := by
  have o := S.ok o0
  have hinv := dem_inv (fin := fin) (fun s1 => OkSt nt s1 ∧ Sub (sent s) (sent s1) ∧ ∃ m, Steps nt (fun _ _ => true) s0 s1 m) (fun _ h => h.1) (fun s1 k h hk hc => ⟨stepP_ok h.1 hk hc, h.2.1.trans (sent_grows h.1 hk), let ⟨m, h2⟩ := h.2.2; ⟨_, h2.step hk rfl hc⟩⟩) d (fun _ => false) s link count hl ⟨o, Sub.refl _, ms, S.mono (fun _ _ _ => rfl)⟩
  have hleft := dem_left (fin := fin) d (fun _ => false) s link count o hl (by have := freeN_le (f := fun _ => false) (L := nt.2.length); omega)
  generalize dem nt fin d (fun _ => false) s link count = R at *
  obtain ⟨oR, hsub, m, SR⟩ := hinv
  refine ⟨m, SR, fun hf => ?_, hsub⟩
  obtain ⟨hL, hlt⟩ := hleft hf
  have h20 := (SR.one_end o0 T hq ht).2.2
  have hB : Blk nt R.1 (fun _ => false) link := by
    rcases hL with h | h | h
    · exact h
    · omega
    · omega
  obtain ⟨B, hBl, W⟩ := hB.wait
  obtain ⟨m2, S2⟩ := runT_steps (c := none) (most := 20000) oR
  have hE := runT_end (c := none) (most := 20000) oR
  have S2' := SR.trans (S2.mono (g' := fun _ _ => true) (fun _ _ _ => rfl))
  have hle := (S2'.one_end o0 T hq ht).2.2
  have hst := (W.stay oR (by omega) S2 link hBl hl).1
  have hR0 := oR.steps.1
  have hq2 : anyCan nt (runT nt none 20000 R.1) = false := by
    cases hx : anyCan nt (runT nt none 20000 R.1)
    · rfl
    · exact absurd ⟨hx, by omega⟩ hE
  rw [← S2'.same_end o0 T hq2 (by omega) hq ht, hst]
  rw [sentL_eq] at hlt
  exact hlt
end
end Go.AmT
