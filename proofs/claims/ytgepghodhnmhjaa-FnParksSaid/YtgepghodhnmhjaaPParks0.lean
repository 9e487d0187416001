/- Runs whose capacities are raised when they are jammed, in plain Lean: both programs make the same. -/
import Derived.Test.YtgepghodhnmhjaaLParks0
namespace Go.AmT
open Go Go.Am
set_option linter.unusedVariables false
set_option linter.unusedSimpArgs false

def clip (most : Int) : Int := max 0 (min most 20000)
/-- the number of steps does not matter beyond what can be made -/
theorem runT_clip {nt : Network} {c : Option (List Int)} {t : State} {d most : Int} (o : OkSt nt t) (hd : 0 ≤ d) (hd2 : d ≤ t.2.2.2) (hneg : most < 0 → d = 0) : runT nt c (most - d) t = runT nt c (clip most - d) t := by
  unfold runT turnsP
  have hG : Good (mayO nt c) (stepP nt) (most - d) nt.1.length (fun x => JS nt x ∧ x.2.2.2.2 = t.2.2.2 + x.1) muS := by
    rintro ⟨m, s⟩ k ⟨hx, he⟩ hk hm hg
    have := good_of (most := most - d) (fun _ _ => mayO_can) (m, s) k hx hk hm hg
    refine ⟨⟨this.1, ?_⟩, this.2⟩
    have he : s.2.2.2 = t.2.2.2 + m := he
    show s.2.2.2 + 1 = t.2.2.2 + (m + 1)
    omega
  rw [turnsF_most (m2 := clip most - d) hG ?_ 20001 (x := (0, t)) ⟨⟨o, Int.le_refl _, o.steps.1⟩, by show t.2.2.2 = t.2.2.2 + 0; omega⟩]
  rintro ⟨m, s⟩ ⟨hx, he⟩
  have hle := hx.le
  have he : s.2.2.2 = t.2.2.2 + m := he
  simp only at hle ⊢
  unfold clip
  by_cases h : s.2.2.2 < 20000
  · refine .inl ?_
    omega
  · refine .inr (fun k hk => ?_)
    cases hm : mayO nt c s k
    · rfl
    · exact absurd (canP_facts (mayO_can hm)).2.1 h
theorem runB_clip {nt : Network} {caps : List Int} {t : State} {d most : Int} (o : OkSt nt t) (hd : 0 ≤ d) (hd2 : d ≤ t.2.2.2) (hneg : most < 0 → d = 0) : runB nt t caps (most - d) = runB nt t caps (clip most - d) := by
  unfold runB
  rw [runT_clip o hd hd2 hneg]

/-! ### capacities that are raised come to an end -/
def room (caps : List Int) : Nat := (caps.map fun c => (400 - c).toNat).sum
theorem room_set : ∀ {caps : List Int} {b : Nat} (hb : b < caps.length), caps[b] < 400 → room (caps.set b (caps[b] + 1)) < room caps
  | c :: l, 0, _, h => by
    have h : c < 400 := h
    show (400 - (c + 1)).toNat + room l < (400 - c).toNat + room l
    omega
  | c :: l, b + 1, hb, h => by
    have hb' : b < l.length := by simpa using hb
    have := room_set (caps := l) (b := b) (by simpa using hb) (by simpa using h)
    show (400 - c).toNat + room (l.set b (l[b] + 1)) < (400 - c).toNat + room l
    omega
theorem room_le : ∀ {caps : List Int}, (∀ c ∈ caps, 0 ≤ c) → room caps ≤ 400 * caps.length
  | [], _ => Nat.le_refl _
  | c :: l, h => by
    have h1 := h c (by simp)
    have := room_le (caps := l) (fun x hx => h x (by simp [hx]))
    show (400 - c).toNat + room l ≤ 400 * (l.length + 1)
    omega
theorem okC_room {nt : Network} {caps : List Int} (o : OkN nt) (h : okC nt.2 caps = true) : room caps ≤ 12000 := by
  have hl := okC_len h
  have hL := o.links
  have := room_le (caps := caps) (fun c hc => by
    obtain ⟨i, hi, rfl⟩ := List.mem_iff_getElem.1 hc
    have := okC_cap h (show i < nt.2.length by omega)
    unfold capA at this
    rw [getD_lt hi] at this
    omega)
  omega
theorem okC_of {ls : List Link} {caps : List Int} (hl : caps.length = ls.length) (h : ∀ j, j < ls.length → ((ls.getD j zLink).2.2.2.2.length : Int) ≤ capA caps j ∧ capA caps j ≤ 400) : okC ls caps = true := by
  unfold okC
  simp only [Bool.and_eq_true, decide_eq_true_eq, List.all_eq_true, List.mem_range]
  exact ⟨hl, fun j hj => h j (by omega)⟩
theorem capA_set {caps : List Int} {b j : Nat} {x : Int} (hb : b < caps.length) : capA (caps.set b x) j = if j = b then x else capA caps j := by
  unfold capA
  by_cases h : j = b
  · subst h; rw [getD_set_same hb, if_pos rfl]
  · rw [getD_set_ne (Ne.symm h), if_neg h]
theorem raiseP_ok {nt : Network} {s : State} {caps : List Int} (o : OkSt nt s) (hc : okC nt.2 caps = true) (h : (raiseP nt s caps).2.2 = true) : ∃ b : Nat, b < nt.2.length ∧ bestP nt s caps = (b : Int) ∧ capA caps b < 400 ∧ (raiseP nt s caps).1 = caps.set b (capA caps b + 1) ∧ okC nt.2 (raiseP nt s caps).1 = true ∧ room (raiseP nt s caps).1 < room caps := by
  have hl := okC_len hc
  unfold raiseP raiseR at h ⊢
  split at h
  · cases h
  · rename_i hn
    rw [if_neg hn]
    have B := bestP_is (caps := caps) o
    have hlt := best_lt o (Nat.le_refl _) B (by omega)
    obtain ⟨b, hb⟩ : ∃ b : Nat, bestP nt s caps = (b : Int) := ⟨(bestP nt s caps).toNat, by omega⟩
    rw [hb] at hn hlt ⊢
    rw [Int.toNat_natCast] at hn ⊢
    have hbl : b < nt.2.length := by omega
    have hcap := okC_cap hc hbl
    have h4 : capA caps b < 400 := by omega
    refine ⟨b, hbl, rfl, h4, rfl, okC_of (by rw [List.length_set]; exact hl) (fun j hj => ?_), ?_⟩
    · rw [capA_set (by omega)]
      have := okC_cap hc hj
      split
      · rename_i e; subst e; omega
      · exact this
    · have hb2 : b < caps.length := by omega
      have e : capA caps b = caps[b] := by unfold capA; rw [getD_lt hb2]
      rw [e] at h4 ⊢
      exact room_set hb2 h4

/-! ### the run -/
abbrev Pk : Type := State × List Int
def prkR (nt : Network) (s0 M : Int) (x : Pk) : State × Int := runB nt x.1 x.2 (M - (x.1.2.2.2 - s0))
def prkC (nt : Network) (s0 M : Int) (x : Pk) : Bool := decide ((prkR nt s0 M x).2 = 2) && (raiseP nt (prkR nt s0 M x).1 x.2).2.2
def prkF (nt : Network) (s0 M : Int) (x : Pk) : Pk := ((prkR nt s0 M x).1, (raiseP nt (prkR nt s0 M x).1 x.2).1)
structure PkOk (nt : Network) (s0 most : Int) (x : Pk) : Prop where
  ok : OkSt nt x.1
  cap : okC nt.2 x.2 = true
  le : s0 ≤ x.1.2.2.2
  neg : most ≤ 0 → x.1.2.2.2 = s0
theorem runT_adv {nt : Network} {c : Option (List Int)} {most : Int} {t : State} (o : OkSt nt t) : t.2.2.2 ≤ (runT nt c most t).2.2.2 ∧ (most ≤ 0 → runT nt c most t = t) := by
  constructor
  · have hG : Good (mayO nt c) (stepP nt) most nt.1.length (fun x => JS nt x ∧ x.2.2.2.2 = t.2.2.2 + x.1) muS := by
      rintro ⟨m, s⟩ k ⟨hx, he⟩ hk hm hg
      have := good_of (most := most) (fun _ _ => mayO_can) (m, s) k hx hk hm hg
      refine ⟨⟨this.1, ?_⟩, this.2⟩
      have he : s.2.2.2 = t.2.2.2 + m := he
      show s.2.2.2 + 1 = t.2.2.2 + (m + 1)
      omega
    have := turnsP_good hG (x := (0, t)) ⟨⟨o, Int.le_refl _, o.steps.1⟩, by show t.2.2.2 = t.2.2.2 + 0; omega⟩
    obtain ⟨hJ, he⟩ := this
    have := hJ.2.1
    unfold runT
    omega
  · intro h
    unfold runT
    rw [turnsP_end]
    rintro ⟨-, h2⟩
    have h2 : (0 : Int) < most := h2
    omega
theorem prk_step {nt : Network} {s0 most : Int} (x : Pk) (hx : PkOk nt s0 most x) (h : prkC nt s0 (clip most) x = true) : PkOk nt s0 most (prkF nt s0 (clip most) x) ∧ room (prkF nt s0 (clip most) x).2 < room x.2 := by
  unfold prkC at h
  rw [Bool.and_eq_true] at h
  have o1 : OkSt nt (prkR nt s0 (clip most) x).1 := runB_ok hx.ok
  obtain ⟨b, -, -, -, -, h1, h2⟩ := raiseP_ok o1 hx.cap h.2
  have hs := runT_adv (c := some x.2) (most := clip most - (x.1.2.2.2 - s0)) hx.ok
  refine ⟨⟨o1, h1, ?_, fun hm => ?_⟩, h2⟩
  · have := hx.le
    show s0 ≤ (runT nt (some x.2) (clip most - (x.1.2.2.2 - s0)) x.1).2.2.2
    omega
  · have e := hx.neg hm
    show (runT nt (some x.2) (clip most - (x.1.2.2.2 - s0)) x.1).2.2.2 = s0
    rw [hs.2 (by unfold clip; omega)]; exact e
noncomputable def runParks (nt : Network) (s : State) (caps : List Int) (most : Int) : State × List Int × Int :=
  if okSt nt s && okC nt.2 caps then
    ((prkR nt s.2.2.2 (clip most) (whileF (prkC nt s.2.2.2 (clip most)) (prkF nt s.2.2.2 (clip most)) 12001 (s, caps))).1, (whileF (prkC nt s.2.2.2 (clip most)) (prkF nt s.2.2.2 (clip most)) 12001 (s, caps)).2, (prkR nt s.2.2.2 (clip most) (whileF (prkC nt s.2.2.2 (clip most)) (prkF nt s.2.2.2 (clip most)) 12001 (s, caps))).2)
  else (([], ([], ([], 0))), [], 0)
theorem pk0 {nt : Network} {s : State} {caps : List Int} {most : Int} (o : OkSt nt s) (hc : okC nt.2 caps = true) : PkOk nt s.2.2.2 most (s, caps) := ⟨o, hc, Int.le_refl _, fun _ => rfl⟩
theorem jam_of {nt : Network} {s0 M : Int} {x : Pk} (o : OkSt nt x.1) (hc : okC nt.2 x.2 = true) (h : (prkR nt s0 M x).2 = 2) : jamB nt (prkR nt s0 M x).1 x.2 = true := by
  have o1 : OkSt nt (prkR nt s0 M x).1 := runB_ok o
  have h : bndW nt (prkR nt s0 M x).1 x.2 = 2 := h
  unfold jamB
  rw [show okSt nt (prkR nt s0 M x).1 = true from decide_eq_true o1, hc]
  unfold bndW at h
  cases h1 : anyCan nt (prkR nt s0 M x).1
  · rw [h1] at h; simp at h
  · rw [h1] at h
    cases h2 : anyMay nt (prkR nt s0 M x).1 x.2
    · rfl
    · rw [h2] at h; simp at h
/-- a round of the program -/
theorem iParks_round {n : Nat} {nt : Network} {s0 most : Int} {x : Pk} (h : SmallN nt) (hx : PkOk nt s0 most x) (h0 : 0 ≤ s0) (hn : 1048576 < n) (hm1 : -9223372036854775808 ≤ most) (hm2 : most ≤ 9223372036854775807) {ρ : Type} {G : State → Int → Option ρ} {H : State → List Int → Option ρ} {st : State} (hst : st = x.1) :
    ((iRunBounded.f n nt st x.2 (w64 (most - w64 (x.1.2.2.2 - s0)))).bind fun r21 => (iRaise.f n nt r21.1 x.2).bind fun r22 => cut (α := (Bool × Unit)) (br (!decide (r21.2.1 = 2)) (some (.inr (true, ()))) (some (.inr ((!r22.2.2.1), ())))) fun y23 => br y23.1 (G r21.1 r21.2.1) (H r21.1 r22.1)) =
      if prkC nt s0 (clip most) x = true then H (prkF nt s0 (clip most) x).1 (prkF nt s0 (clip most) x).2 else G (prkR nt s0 (clip most) x).1 (prkR nt s0 (clip most) x).2 := by
  subst hst
  obtain ⟨t, c⟩ := x
  have ot : OkSt nt t := hx.ok
  have hcl : c.length = nt.2.length := okC_len hx.cap
  have hL := ot.net.links
  have hle : s0 ≤ t.2.2.2 := hx.le
  have hneg : most ≤ 0 → t.2.2.2 = s0 := hx.neg
  have s2 := ot.steps
  have hw : w64 (most - w64 (t.2.2.2 - s0)) = most - (t.2.2.2 - s0) := by
    rw [w64_id (n := t.2.2.2 - s0) (by omega) (by omega), w64_id (by omega) (by omega)]
  simp only [hw]
  rw [iRunBounded_spec h (small_of_ok ot) (by omega) hn]
  have eR : runBounded nt t c (most - (t.2.2.2 - s0)) = prkR nt s0 (clip most) (t, c) := by
    unfold runBounded
    rw [show okSt nt t = true from decide_eq_true ot, show okC nt.2 c = true from hx.cap]
    exact runB_clip ot (by omega) (by omega) (fun hh => by have := hneg (by omega); omega)
  rw [eR]
  have hjam := jam_of (x := (t, c)) (s0 := s0) (M := clip most) ot (show okC nt.2 c = true from hx.cap)
  have oR : OkSt nt (prkR nt s0 (clip most) (t, c)).1 := runB_ok ot
  simp only [Option.bind_some]
  rw [iRaise_spec h (small_of_ok oR) (by omega) hn]
  simp only [Option.bind_some]
  unfold prkC prkF
  generalize hR : prkR nt s0 (clip most) (t, c) = R at *
  by_cases h2 : R.2 = 2
  · have hj : jamB nt R.1 c = true := hjam h2
    have hra : raiseCap nt R.1 c = raiseP nt R.1 c := by unfold raiseCap; rw [hj]; rfl
    rw [hra, decide_eq_true h2, Bool.not_true, br_false, cut_inr]
    simp only [Bool.true_and]
    cases (raiseP nt R.1 c).2.2
    · rw [Bool.not_false, br_true, if_neg (by simp)]
    · rw [Bool.not_true, br_false, if_pos rfl]
  · rw [decide_eq_false h2, Bool.not_false, br_true, cut_inr, br_true, Bool.false_and, if_neg (by simp)]
theorem whileF_succ {α : Type} {c : α → Bool} {f : α → α} {J : α → Prop} {μ : α → Nat} (hJ : ∀ x, J x → c x = true → J (f x) ∧ μ (f x) < μ x) : ∀ (m : Nat) (x : α), J x → μ x < m → whileF c f (m + 1) x = whileF c f m x
  | 0, x, _, h => absurd h (Nat.not_lt_zero _)
  | m + 1, x, hx, h => by
    show (if c x = true then whileF c f (m + 1) (f x) else x) = (if c x = true then whileF c f m (f x) else x)
    split
    · rename_i hc
      have := hJ x hx hc
      exact whileF_succ hJ m _ this.1 (by omega)
    · rfl
theorem iRunParks_spec {n : Nat} {nt : Network} {s : State} {caps : List Int} {most : Int} (h : SmallN nt) (hs : SmallSt s) (hc : caps.length ≤ 1048576) (hn : 1048576 < n) (hm1 : -9223372036854775808 ≤ most) (hm2 : most ≤ 9223372036854775807) :
    iRunParks.f n nt s caps most = some ((runParks nt s caps most).1, ((runParks nt s caps most).2.1, ((runParks nt s caps most).2.2, ()))) := by
  unfold iRunParks.f runParks
  rw [iBounded_spec h hs hc hn]
  cases e : okSt nt s && okC nt.2 caps
  · rfl
  · rw [Bool.and_eq_true] at e
    have o := okSt_of e.1
    have hr := okC_room o.net e.2
    simp only [Option.bind_some, Bool.not_true, br_false, if_true]
    rw [cloneI_run hc]
    simp only [Option.bind_some]
    have P0 := pk0 (most := most) o e.2
    have key : ∀ (F : (Int × (List Actor) × (List (List Int)) × (List (List Int)) × (List Int) × Unit → Option (State × (List Int) × (Int × Unit))) → Int × (List Actor) × (List (List Int)) × (List (List Int)) × (List Int) × Unit → Option (State × (List Int) × (Int × Unit))),
        (∀ ih x, PkOk nt s.2.2.2 most x → F ih (x.1.2.2.2, (x.1.1, (x.1.2.1, (x.1.2.2.1, (x.2, ()))))) = if prkC nt s.2.2.2 (clip most) x = true then ih ((prkF nt s.2.2.2 (clip most) x).1.2.2.2, ((prkF nt s.2.2.2 (clip most) x).1.1, ((prkF nt s.2.2.2 (clip most) x).1.2.1, ((prkF nt s.2.2.2 (clip most) x).1.2.2.1, ((prkF nt s.2.2.2 (clip most) x).2, ()))))) else some ((prkR nt s.2.2.2 (clip most) x).1, (x.2, ((prkR nt s.2.2.2 (clip most) x).2, ())))) →
        ((iRunBounded.f n nt s caps (w64 (most - w64 (s.2.2.2 - s.2.2.2)))).bind fun r3 => (iRaise.f n nt r3.1 caps).bind fun r4 => cut (α := (Bool × Unit)) (br (!decide (r3.2.1 = 2)) (some (.inr (true, ()))) (some (.inr ((!r4.2.2.1), ())))) fun y5 => br y5.1 (some (r3.1, (caps, (r3.2.1, ())))) (iter n F (r3.1.2.2.2, (r3.1.1, (r3.1.2.1, (r3.1.2.2.1, (r4.1, ()))))))) =
        some ((prkR nt s.2.2.2 (clip most) (whileF (prkC nt s.2.2.2 (clip most)) (prkF nt s.2.2.2 (clip most)) 12001 (s, caps))).1, ((whileF (prkC nt s.2.2.2 (clip most)) (prkF nt s.2.2.2 (clip most)) 12001 (s, caps)).2, ((prkR nt s.2.2.2 (clip most) (whileF (prkC nt s.2.2.2 (clip most)) (prkF nt s.2.2.2 (clip most)) 12001 (s, caps))).2, ()))) := by
      intro F hF
      refine (iParks_round (x := (s, caps)) h P0 o.steps.1 hn hm1 hm2 (G := fun t w => some (t, (caps, (w, ())))) (H := fun t cc => iter n F (t.2.2.2, (t.1, (t.2.1, (t.2.2.1, (cc, ())))))) rfl).trans ?_
      rw [← whileF_succ (μ := fun x : Pk => room x.2) prk_step 12001 (s, caps) P0 (by show room caps < 12001; omega)]
      have e1 : whileF (prkC nt s.2.2.2 (clip most)) (prkF nt s.2.2.2 (clip most)) (12001 + 1) (s, caps) = if prkC nt s.2.2.2 (clip most) (s, caps) = true then whileF (prkC nt s.2.2.2 (clip most)) (prkF nt s.2.2.2 (clip most)) 12001 (prkF nt s.2.2.2 (clip most) (s, caps)) else (s, caps) := rfl
      rw [e1]
      cases hC : prkC nt s.2.2.2 (clip most) (s, caps)
      · rfl
      · simp only [if_true]
        obtain ⟨P1, hlt⟩ := prk_step _ P0 hC
        have hlt : room (prkF nt s.2.2.2 (clip most) (s, caps)).2 < room caps := hlt
        exact while_loop (c := prkC nt s.2.2.2 (clip most)) (f := prkF nt s.2.2.2 (clip most)) (J := PkOk nt s.2.2.2 most) (μ := fun x => room x.2) prk_step (fun x => (x.1.2.2.2, (x.1.1, (x.1.2.1, (x.1.2.2.1, (x.2, ()))))))
          (G := fun x => some ((prkR nt s.2.2.2 (clip most) x).1, (x.2, ((prkR nt s.2.2.2 (clip most) x).2, ())))) hF (x := prkF nt s.2.2.2 (clip most) (s, caps)) P1 (by show room _ < n; omega) (by show room _ < 12001; omega)
    exact key _ (fun ih x hx => iParks_round (x := x) h hx o.steps.1 hn hm1 hm2 (G := fun t w => some (t, (x.2, (w, ())))) (H := fun t cc => ih (t.2.2.2, (t.1, (t.2.1, (t.2.2.1, (cc, ())))))) rfl)
end Go.AmT
