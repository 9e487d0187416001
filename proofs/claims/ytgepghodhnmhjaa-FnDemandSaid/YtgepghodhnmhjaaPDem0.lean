/- Demands, in plain Lean: both programs meet the same. -/
import Derived.Test.YtgepghodhnmhjaaLDem0
namespace Go.AmT
open Go Go.Am
set_option linter.unusedVariables false
set_option linter.unusedSimpArgs false

/-! ### what a demand does -/
def sentL (s : State) (j : Nat) : Int := ((s.2.2.1.getD j []).length : Int)
def fromK (nt : Network) (link : Nat) : Int := (nt.2.getD link zLink).1
def busyU (f : Nat → Bool) (l : Nat) : Nat → Bool := fun j => f j || decide (j = l)
def dloop (nt : Network) (fin count : Int) (link : Nat) (rec : State → Nat → Int → State × Bool) : Nat → State → State × Bool
  | 0, s => (s, false)
  | m + 1, s =>
    if sentL s link < count then
      if s.2.2.2 < fin ∧ canP nt s (fromK nt link).toNat = true then dloop nt fin count link rec m (stepP nt s (fromK nt link).toNat)
      else if ¬ s.2.2.2 < fin ∨ (wantOf nt s (fromK nt link).toNat).1 ≠ 2 ∨ s.2.2.2 = 20000 then (s, false)
      else if (rec s (linkOf nt s (fromK nt link).toNat).toNat (sentL s (linkOf nt s (fromK nt link).toNat).toNat + 1)).2 = true then dloop nt fin count link rec m (rec s (linkOf nt s (fromK nt link).toNat).toNat (sentL s (linkOf nt s (fromK nt link).toNat).toNat + 1)).1
      else ((rec s (linkOf nt s (fromK nt link).toNat).toNat (sentL s (linkOf nt s (fromK nt link).toNat).toNat + 1)).1, false)
    else (s, true)
def dem (nt : Network) (fin : Int) : Nat → (Nat → Bool) → State → Nat → Int → State × Bool
  | 0, _, s, _, _ => (s, false)
  | d + 1, f, s, link, count =>
    if count ≤ sentL s link then (s, true)
    else if fromK nt link < 0 ∨ f link = true then (s, false)
    else dloop nt fin count link (dem nt fin d (busyU f link)) 20001 s
def freeN (f : Nat → Bool) : Nat → Nat
  | 0 => 0
  | L + 1 => freeN f L + if f L = true then 0 else 1
theorem freeN_busy {f : Nat → Bool} {l : Nat} (h : f l = false) : ∀ {L : Nat}, freeN (busyU f l) L + (if l < L then 1 else 0) = freeN f L
  | 0 => by simp [freeN]
  | L + 1 => by
    have ih := freeN_busy (L := L) h
    show freeN (busyU f l) L + (if busyU f l L = true then 0 else 1) + _ = freeN f L + _
    by_cases e : L = l
    · subst e
      rw [if_neg (by omega)] at ih
      rw [if_pos (show busyU f L L = true by simp [busyU]), if_pos (show L < L + 1 by omega), h]
      simp only [Bool.false_eq_true, if_false]
      omega
    · have e2 : busyU f l L = f L := by simp [busyU, e]
      rw [e2]
      by_cases h1 : l < L
      · rw [if_pos h1] at ih; rw [if_pos (show l < L + 1 by omega)]; omega
      · rw [if_neg h1] at ih; rw [if_neg (show ¬ l < L + 1 by omega)]; omega
theorem freeN_lt {f : Nat → Bool} {l L : Nat} (h : f l = false) (hl : l < L) : freeN (busyU f l) L < freeN f L := by
  have := freeN_busy (L := L) h
  rw [if_pos hl] at this
  omega
theorem freeN_le {f : Nat → Bool} : ∀ {L : Nat}, freeN f L ≤ L
  | 0 => Nat.le_refl _
  | L + 1 => by
    have := freeN_le (f := f) (L := L)
    show freeN f L + _ ≤ L + 1
    split <;> omega

/-- what steps keep, demands keep -/
theorem dloop_inv {nt : Network} {fin count : Int} {link : Nat} {rec : State → Nat → Int → State × Bool} (J : State → Prop) (hk : (fromK nt link).toNat < nt.1.length)
    (hs : ∀ s k, J s → k < nt.1.length → canP nt s k = true → J (stepP nt s k)) (hl : ∀ s k, J s → k < nt.1.length → (wantOf nt s k).1 = 2 → (linkOf nt s k).toNat < nt.2.length)
    (hr : ∀ s l c, J s → l < nt.2.length → J (rec s l c).1) : ∀ m s, J s → J (dloop nt fin count link rec m s).1
  | 0, s, h => h
  | m + 1, s, h => by
    unfold dloop
    split
    · split
      · rename_i hc; exact dloop_inv J hk hs hl hr m _ (hs s _ h hk hc.2)
      · split
        · exact h
        · rename_i h1 h2
          have hw : (wantOf nt s (fromK nt link).toNat).1 = 2 := by
            by_cases hh : (wantOf nt s (fromK nt link).toNat).1 = 2
            · exact hh
            · exact absurd (.inr (.inl hh)) h2
          have := hr s _ (sentL s (linkOf nt s (fromK nt link).toNat).toNat + 1) h (hl s _ h hk hw)
          split
          · exact dloop_inv J hk hs hl hr m _ this
          · exact this
    · exact h
theorem from_lt {nt : Network} (o : OkN nt) {link : Nat} (hl : link < nt.2.length) (h : ¬ fromK nt link < 0) : (fromK nt link).toNat < nt.1.length ∧ fromK nt link = ((fromK nt link).toNat : Int) := by
  have E := (o.ends link hl).out
  unfold fromK at h ⊢
  rw [getD_lt hl] at h ⊢
  rcases E with ⟨h1, -⟩ | ⟨h1, h2, -⟩
  · omega
  · omega
theorem dem_inv {nt : Network} {fin : Int} (J : State → Prop) (ho : ∀ s, J s → OkSt nt s) (hs : ∀ s k, J s → k < nt.1.length → canP nt s k = true → J (stepP nt s k)) : ∀ d f s link count, link < nt.2.length → J s → J (dem nt fin d f s link count).1
  | 0, f, s, link, count, hl, h => h
  | d + 1, f, s, link, count, hl, h => by
    unfold dem
    split
    · exact h
    · split
      · exact h
      · rename_i h2
        obtain ⟨hk, -⟩ := from_lt (ho s h).net hl (fun hh => h2 (.inl hh))
        exact dloop_inv J hk hs (fun s k hJ hk hw => by obtain ⟨j, hj, e, -⟩ := linkOf_to (ho s hJ) hk hw; rw [e]; exact hj) (fun s l c hJ hl => dem_inv J ho hs d _ s l c hl hJ) 20001 s h
theorem dloop_true {nt : Network} {fin count : Int} {link : Nat} {rec : State → Nat → Int → State × Bool} : ∀ m s, (dloop nt fin count link rec m s).2 = true → count ≤ sentL (dloop nt fin count link rec m s).1 link
  | 0, s, h => by cases h
  | m + 1, s, h => by
    unfold dloop at h ⊢
    split
    · rename_i hc
      rw [if_pos hc] at h
      split
      · rename_i h1
        rw [if_pos h1] at h
        exact dloop_true m _ h
      · rename_i h1
        rw [if_neg h1] at h
        split
        · rename_i h2; rw [if_pos h2] at h; cases h
        · rename_i h2
          rw [if_neg h2] at h
          split
          · rename_i h3; rw [if_pos h3] at h; exact dloop_true m _ h
          · rename_i h3; rw [if_neg h3] at h; cases h
    · rename_i hc
      show count ≤ sentL s link
      omega
theorem dem_true {nt : Network} {fin : Int} {d : Nat} {f : Nat → Bool} {s : State} {link : Nat} {count : Int} (h : (dem nt fin d f s link count).2 = true) : count ≤ sentL (dem nt fin d f s link count).1 link := by
  cases d with
  | zero => cases h
  | succ d =>
    unfold dem at h ⊢
    split
    · rename_i h1; exact h1
    · rename_i h1
      rw [if_neg h1] at h
      split
      · rename_i h2; rw [if_pos h2] at h; cases h
      · rename_i h2; rw [if_neg h2] at h; exact dloop_true _ _ h
/-- states that come later -/
structure Adv (nt : Network) (s t : State) : Prop where
  ok : OkSt nt t
  le : s.2.2.2 ≤ t.2.2.2
  eq : t.2.2.2 = s.2.2.2 → t = s
theorem Adv.refl {nt : Network} {s : State} (o : OkSt nt s) : Adv nt s s := ⟨o, Int.le_refl _, fun _ => rfl⟩
theorem Adv.step {nt : Network} {s t : State} {k : Nat} (A : Adv nt s t) (hk : k < nt.1.length) (hc : canP nt t k = true) : Adv nt s (stepP nt t k) := by
  have h := A.le
  refine ⟨stepP_ok A.ok hk hc, ?_, fun e => ?_⟩
  · show s.2.2.2 ≤ t.2.2.2 + 1
    omega
  · have e : t.2.2.2 + 1 = s.2.2.2 := e
    omega
theorem dem_adv {nt : Network} {fin : Int} {d : Nat} {f : Nat → Bool} {s : State} {link : Nat} {count : Int} (o : OkSt nt s) (hl : link < nt.2.length) : Adv nt s (dem nt fin d f s link count).1 :=
  dem_inv (Adv nt s) (fun _ A => A.ok) (fun _ _ A hk hc => A.step hk hc) d f s link count hl (Adv.refl o)
theorem dem_more {nt : Network} {fin : Int} {d : Nat} {f : Nat → Bool} {s : State} {link : Nat} (o : OkSt nt s) (hl : link < nt.2.length) (h : (dem nt fin d f s link (sentL s link + 1)).2 = true) : s.2.2.2 < (dem nt fin d f s link (sentL s link + 1)).1.2.2.2 := by
  have A := dem_adv (fin := fin) (d := d) (f := f) (count := sentL s link + 1) o hl
  have h1 := dem_true h
  have h2 := A.le
  rcases Int.lt_or_eq_of_le h2 with h3 | h3
  · exact h3
  · rw [A.eq h3.symm] at h1
    omega
/-! ### the program -/
abbrev DA : Type := (List Program) × (List Link) × (Int × (Option (List Int)) × (List Actor) × (List (List Int)) × (List (List Int)) × (List (List Int)) × (List (List Int)) × (Int × (List Int) × Unit))
abbrev DSlf : Type := (Int) → (Int) → (List Program) → (List Link) → (Int) → (Option (List Int)) → (List Actor) → (List (List Int)) → (List (List Int)) → (List (List Int)) → (List (List Int)) → (Int) → (List Int) → Option (Bool × DA)
/-- a round of the loop -/
noncomputable def dBody {ρ : Type} (n : Nat) (link count k : Int) (slf : DSlf) (out : Bool → DA → Option ρ) (ih : DA → Option ρ) (x : DA) : Option ρ :=
  chk (0 ≤ link ∧ link < (x.2.2.2.2.2.2.1.length : Int)) (br (decide (((x.2.2.2.2.2.2.1.getD link.toNat []).length : Int) < count)) ((can.f n ((x.1, x.2.1), ((x.2.2.2.2.1, (x.2.2.2.2.2.1, (x.2.2.2.2.2.2.1, x.2.2.1))), (x.2.2.2.2.2.2.2.1, (x.2.2.2.2.2.2.2.2.1, x.2.2.2.1)))) k).bind fun r26 => br r26.1 (br (decide (x.2.2.2.2.2.2.2.2.2.1 ≤ 0)) (out false x) ((runStep.f n k x.1 x.2.1 x.2.2.1 x.2.2.2.1 x.2.2.2.2.1 x.2.2.2.2.2.1 x.2.2.2.2.2.2.1 x.2.2.2.2.2.2.2.1 x.2.2.2.2.2.2.2.2.1).bind fun r28 => ih (r28.1, (r28.2.1, (r28.2.2.1, (r28.2.2.2.1, (r28.2.2.2.2.1, (r28.2.2.2.2.2.1, (r28.2.2.2.2.2.2.1, (r28.2.2.2.2.2.2.2.1, (r28.2.2.2.2.2.2.2.2.1, ((w64 (x.2.2.2.2.2.2.2.2.2.1 - 1)), (x.2.2.2.2.2.2.2.2.2.2.1, ()))))))))))))) ((wants.f n ((x.1, x.2.1), ((x.2.2.2.2.1, (x.2.2.2.2.2.1, (x.2.2.2.2.2.2.1, x.2.2.1))), (x.2.2.2.2.2.2.2.1, (x.2.2.2.2.2.2.2.2.1, x.2.2.2.1)))) k).bind fun r29 => br (!decide (r29.1 = 2)) (out false x) (chk (0 ≤ r29.2.1 ∧ r29.2.1 < (x.2.2.2.2.2.2.1.length : Int)) ((slf r29.2.1 (w64 (((x.2.2.2.2.2.2.1.getD r29.2.1.toNat []).length : Int) + 1)) x.1 x.2.1 x.2.2.1 x.2.2.2.1 x.2.2.2.2.1 x.2.2.2.2.2.1 x.2.2.2.2.2.2.1 x.2.2.2.2.2.2.2.1 x.2.2.2.2.2.2.2.2.1 x.2.2.2.2.2.2.2.2.2.1 x.2.2.2.2.2.2.2.2.2.2.1).bind fun r30 => br (!r30.1) (out false r30.2) (ih (r30.2.1, (r30.2.2.1, (r30.2.2.2.1, (r30.2.2.2.2.1, (r30.2.2.2.2.2.1, (r30.2.2.2.2.2.2.1, (r30.2.2.2.2.2.2.2.1, (r30.2.2.2.2.2.2.2.2.1, (r30.2.2.2.2.2.2.2.2.2.1, (r30.2.2.2.2.2.2.2.2.2.2.1, (r30.2.2.2.2.2.2.2.2.2.2.2.1, ())))))))))))))))) (out true x))
def encD (nt : Network) (to fr : List (List Int)) (s0 most : Int) (bl : List Int) (t : State) : DA := (nt.1, (nt.2, (t.2.2.2, (none, (t.1, (t.2.1, (t.2.2.1, (to, (fr, (most - (t.2.2.2 - s0), (bl, ())))))))))))
def clipD (most : Int) : Int := max 0 (min most 20000)
def stopD (fin : Int) (t : State) : Prop := ¬ t.2.2.2 < fin ∨ t.2.2.2 = 20000
theorem dem_stop {nt : Network} {fin : Int} {d : Nat} {f : Nat → Bool} {t : State} {link : Nat} (h : stopD fin t) : dem nt fin d f t link (sentL t link + 1) = (t, false) := by
  cases d with
  | zero => rfl
  | succ d =>
    unfold dem
    rw [if_neg (by omega)]
    split
    · rfl
    · show (if sentL t link < sentL t link + 1 then _ else _) = _
      rw [if_pos (by omega)]
      split
      · rename_i h1
        have := (canP_facts h1.2).2.1
        rcases h with h | h
        · exact absurd h1.1 h
        · omega
      · rw [if_pos (by rcases h with h | h; exact .inl h; exact .inr (.inr h))]
theorem stop_iff {s0 most : Int} {t : State} (h0 : 0 ≤ s0) (h1 : s0 ≤ t.2.2.2) (h2 : t.2.2.2 ≤ 20000) : stopD (s0 + clipD most) t ↔ (most - (t.2.2.2 - s0) ≤ 0 ∨ t.2.2.2 = 20000) := by
  unfold stopD clipD
  omega
theorem dloopI {ρ : Type} {n : Nat} {nt : Network} {to fr : List (List Int)} {s0 most count : Int} {link : Nat} {slf : DSlf} {d : Nat} {f : Nat → Bool} {bl : List Int} (out : Bool → DA → Option ρ) (hn : 1048576 < n)
    (T : Tab nt toP toQ (fun p => p.1) to nt.2.length) (E : Tab nt frP frQ (fun p => p.2.1) fr nt.2.length) (h0 : 0 ≤ s0) (hm1 : -9223372036854775808 ≤ most) (hm2 : most ≤ 9223372036854775807) (hl : link < nt.2.length) (hk : (fromK nt link).toNat < nt.1.length) (ek : fromK nt link = ((fromK nt link).toNat : Int))
    (hrec : ∀ t j c, OkSt nt t → s0 ≤ t.2.2.2 → j < nt.2.length → slf (j : Int) c nt.1 nt.2 t.2.2.2 none t.1 t.2.1 t.2.2.1 to fr (most - (t.2.2.2 - s0)) bl = some ((dem nt (s0 + clipD most) d f t j c).2, encD nt to fr s0 most bl (dem nt (s0 + clipD most) d f t j c).1)) :
    ∀ (m m' : Nat) (t : State), OkSt nt t → s0 ≤ t.2.2.2 → (20000 - t.2.2.2).toNat < m → (20000 - t.2.2.2).toNat < m' → ∀ F : (DA → Option ρ) → DA → Option ρ, (∀ ih x, F ih x = dBody n (link : Int) count (fromK nt link) slf out ih x) →
      iter m F (encD nt to fr s0 most bl t) = out (dloop nt (s0 + clipD most) count link (dem nt (s0 + clipD most) d f) m' t).2 (encD nt to fr s0 most bl (dloop nt (s0 + clipD most) count link (dem nt (s0 + clipD most) d f) m' t).1) := by
  intro m
  induction m with
  | zero => intro m' t ot _ h; omega
  | succ m IH =>
    intro m' t ot hs0 hm hm' F hF
    obtain ⟨m', rfl⟩ : ∃ q, m' = q + 1 := ⟨m' - 1, by omega⟩
    show F (iter m F) _ = _
    rw [hF]
    have hnt := ot.ns
    have hst := ot.steps
    have R : IsRun nt t (nt, (t, (to, (fr, none)))) := ⟨rfl, rfl, T, E⟩
    have hstop := stop_iff (most := most) h0 hs0 hst.2
    unfold dBody encD
    simp only [Int.toNat_natCast]
    rw [chk_true (by omega)]
    unfold dloop
    show br (decide (sentL t link < count)) _ _ = _
    by_cases c1 : sentL t link < count
    · rw [br_yes c1, if_pos c1, ek]
      generalize (fromK nt link).toNat = k at hk ⊢
      have hcan : can.f n ((nt.1, nt.2), ((t.1, (t.2.1, (t.2.2.1, t.2.2.2))), (to, (fr, (none : Option (List Int)))))) (k : Int) = some (canP nt t k, ()) := can_spec R ot hk
      have hw : wants.f n ((nt.1, nt.2), ((t.1, (t.2.1, (t.2.2.1, t.2.2.2))), (to, (fr, (none : Option (List Int)))))) (k : Int) = some ((wantOf nt t k).1, (linkOf nt t k, ())) := wants_spec R ot hk
      simp only [Int.toNat_natCast]
      rw [hcan, hw]
      simp only [Option.bind_some]
      by_cases hS : stopD (s0 + clipD most) t
      · have hS2 := hstop.1 hS
        have e1 : ¬ (t.2.2.2 < s0 + clipD most ∧ canP nt t k = true) := by
          rintro ⟨a, b⟩
          have := (canP_facts b).2.1
          rcases hS with h | h
          · exact h a
          · omega
        rw [if_neg e1, if_pos (by rcases hS with h | h; exact .inl h; exact .inr (.inr h))]
        cases c3 : canP nt t k
        · rw [br_false]
          by_cases d2 : (wantOf nt t k).1 = 2
          · obtain ⟨j, hj, ej, -⟩ := linkOf_to ot hk d2
            have hq : (t.2.2.1.getD j []).length ≤ 1048576 := by rw [getD_lt (by omega)]; exact (small_of_ok ot).sent _ (List.getElem_mem (by omega))
            rw [decide_eq_true d2, Bool.not_true, br_false]
            simp only [ej, Int.toNat_natCast]
            rw [chk_true (by omega), w64_id (by omega) (by omega), show ((t.2.2.1.getD j []).length : Int) + 1 = sentL t j + 1 from rfl, hrec t j _ ot hs0 hj, dem_stop hS]
            rfl
          · rw [decide_eq_false d2, Bool.not_false, br_true]
        · have h20 := (canP_facts c3).2.1
          rw [br_true, br_yes (by omega)]
      · have hS2 := mt hstop.2 hS
        have hS3 : t.2.2.2 < s0 + clipD most ∧ t.2.2.2 ≠ 20000 := by unfold stopD at hS; omega
        cases c3 : canP nt t k
        · rw [br_false, if_neg (by simp)]
          by_cases d2 : (wantOf nt t k).1 = 2
          · obtain ⟨j, hj, ej, -⟩ := linkOf_to ot hk d2
            have hq : (t.2.2.1.getD j []).length ≤ 1048576 := by rw [getD_lt (by omega)]; exact (small_of_ok ot).sent _ (List.getElem_mem (by omega))
            rw [decide_eq_true d2, Bool.not_true, br_false, if_neg (by omega)]
            simp only [ej, Int.toNat_natCast]
            rw [chk_true (by omega), w64_id (by omega) (by omega), show ((t.2.2.1.getD j []).length : Int) + 1 = sentL t j + 1 from rfl, hrec t j _ ot hs0 hj]
            have hA := dem_adv (fin := s0 + clipD most) (d := d) (f := f) (count := sentL t j + 1) ot hj
            have hM := dem_more (fin := s0 + clipD most) (d := d) (f := f) ot hj
            generalize dem nt (s0 + clipD most) d f t j (sentL t j + 1) = Q at hA hM ⊢
            simp only [Option.bind_some]
            cases h5 : Q.2
            · rw [Bool.not_false, br_true, if_neg (by simp)]; rfl
            · rw [Bool.not_true, br_false, if_pos rfl]
              have hM := hM h5
              have hst' := hA.ok.steps
              exact IH m' Q.1 hA.ok (by omega) (by omega) (by omega) F hF
          · rw [decide_eq_false d2, Bool.not_false, br_true, if_pos (.inr (.inl d2))]
        · rw [br_true, br_no (by omega), if_pos ⟨hS3.1, rfl⟩]
          have hs := runStep_spec (n := n) R ot (small_of_ok ot) hk c3 hn
          simp only at hs
          rw [hs]
          simp only [Option.bind_some]
          rw [w64_id (n := most - (t.2.2.2 - s0) - 1) (by omega) (by omega)]
          have e2 : most - (t.2.2.2 - s0) - 1 = most - ((stepP nt t k).2.2.2 - s0) := by
            show _ = most - (t.2.2.2 + 1 - s0)
            omega
          rw [e2]
          refine IH m' (stepP nt t k) (stepP_ok ot hk c3) ?_ ?_ ?_ F hF
          · show s0 ≤ t.2.2.2 + 1
            omega
          · show (20000 - (t.2.2.2 + 1)).toNat < m
            omega
          · show (20000 - (t.2.2.2 + 1)).toNat < m'
            omega
    · rw [br_no c1, if_neg c1]
theorem indexI_spec {n : Nat} {l : List Int} {x : Int} (hl : l.length ≤ 1048576) (hn : 1048576 < n) : ∃ r : Int, indexI.f n l x = some (r, ()) ∧ decide (0 ≤ r) = decide (x ∈ l) := by
  unfold indexI.f
  have := index_loop l (fun y => decide (x = y)) (F := (fun ih6 x5 => br (decide (x5.1 < (l.length : Int))) (chk (0 ≤ x5.1 ∧ x5.1 < (l.length : Int)) (br (decide (x = (l.getD x5.1.toNat 0))) (some (x5.1, ())) (ih6 ((w64 (x5.1 + 1)), ())))) (some ((-1), ())))) (fun ih i hi => by
    have c1 : (i : Int) < (l.length : Int) := by omega
    simp only [br_yes c1, Int.toNat_natCast, getD_lt hi, brd]
    rw [chk_true (by omega), w64_succ (by omega)]
    by_cases h : x = l[i]
    · rw [if_pos h, if_pos (decide_eq_true h)]
    · rw [if_neg h, if_neg (by simp [h])]) (fun ih => br_no (Int.lt_irrefl _)) (n := n) (by omega)
  obtain ⟨r, e, h⟩ := this
  refine ⟨r, e, h.trans ?_⟩
  rw [Bool.eq_iff_iff, List.any_eq_true, decide_eq_true_eq]
  constructor
  · rintro ⟨y, hy, e⟩
    rw [decide_eq_true_eq] at e
    rw [e]; exact hy
  · intro h; exact ⟨x, h, decide_eq_true rfl⟩
theorem containsI_spec {n : Nat} {l : List Int} {x : Int} (hl : l.length ≤ 1048576) (hn : 1048576 < n) : containsI.f n l x = some (decide (x ∈ l), ()) := by
  obtain ⟨r, e, h⟩ := indexI_spec (x := x) hl hn
  unfold containsI.f
  rw [e, Option.bind_some, h]
def inB (bl : List Int) : Nat → Bool := fun j => decide ((j : Int) ∈ bl)
theorem inB_add {bl : List Int} {link : Nat} : inB (bl ++ [(link : Int)]) = busyU (inB bl) link := by
  funext j
  unfold inB busyU
  rw [Bool.eq_iff_iff, Bool.or_eq_true, decide_eq_true_eq, decide_eq_true_eq, decide_eq_true_eq, List.mem_append, List.mem_singleton]
  constructor
  · rintro (h | h)
    · exact .inl h
    · exact .inr (by omega)
  · rintro (h | h)
    · exact .inl h
    · exact .inr (by omega)
theorem demand_spec {n : Nat} {nt : Network} {to fr : List (List Int)} {s0 most : Int} (hn : 1048576 < n)
    (T : Tab nt toP toQ (fun p => p.1) to nt.2.length) (E : Tab nt frP frQ (fun p => p.2.1) fr nt.2.length) (h0 : 0 ≤ s0) (hm1 : -9223372036854775808 ≤ most) (hm2 : most ≤ 9223372036854775807) :
    ∀ (d : Nat) (bl : List Int) (t : State) (link : Nat) (count : Int), OkSt nt t → s0 ≤ t.2.2.2 → link < nt.2.length → freeN (inB bl) nt.2.length < d → bl.length + freeN (inB bl) nt.2.length ≤ 1000 →
      demand.F n d (link : Int) count nt.1 nt.2 t.2.2.2 none t.1 t.2.1 t.2.2.1 to fr (most - (t.2.2.2 - s0)) bl = some ((dem nt (s0 + clipD most) d (inB bl) t link count).2, encD nt to fr s0 most bl (dem nt (s0 + clipD most) d (inB bl) t link count).1)
  | 0, bl, t, link, count, o, hs0, hl, hd, hb => absurd hd (Nat.not_lt_zero _)
  | d + 1, bl, t, link, count, o, hs0, hl, hd, hb => by
    have hns := o.ns
    show demand.B n (demand.F n d) (link : Int) count nt.1 nt.2 t.2.2.2 none t.1 t.2.1 t.2.2.1 to fr (most - (t.2.2.2 - s0)) bl = _
    unfold demand.B
    simp only [Int.toNat_natCast]
    rw [chk_true (by omega)]
    show br (decide (count ≤ sentL t link)) _ _ = _
    unfold dem
    by_cases h1 : count ≤ sentL t link
    · rw [br_yes h1, if_pos h1]; rfl
    · rw [br_no h1, if_neg h1, chk_true (by omega)]
      show cut (α := Bool × Unit) (br (decide (fromK nt link < 0)) _ _) _ = _
      by_cases h2 : fromK nt link < 0
      · rw [br_yes h2, cut_inr, br_true, if_pos (.inl h2)]; rfl
      · rw [br_no h2, containsI_spec (by omega) hn]
        simp only [Option.bind_some, cut_inr]
        rw [show decide ((link : Int) ∈ bl) = inB bl link from rfl]
        cases h3 : inB bl link
        · rw [br_false, if_neg (by simp [h2])]
          obtain ⟨hk, ek⟩ := from_lt o.net hl h2
          have hfree := freeN_lt h3 hl
          rw [cloneI_run (by omega)]
          simp only [Option.bind_some]
          rw [small_chk (by simp only [List.length_singleton]; omega)]
          have hst := o.steps
          refine dloopI (link := link) (fun b x => some (b, (x.1, (x.2.1, (x.2.2.1, (x.2.2.2.1, (x.2.2.2.2.1, (x.2.2.2.2.2.1, (x.2.2.2.2.2.2.1, (x.2.2.2.2.2.2.2.1, (x.2.2.2.2.2.2.2.2.1, (x.2.2.2.2.2.2.2.2.2.1, (bl, ())))))))))))))
            hn T E h0 hm1 hm2 hl hk ek (slf := demand.F n d) (bl := bl ++ [(link : Int)]) (d := d) (f := busyU (inB bl) link) (fun u j c ou hu hj => ?_) n 20001 t o hs0 (by omega) (by omega) _ (fun ih x => rfl)
          have := demand_spec hn T E h0 hm1 hm2 d (bl ++ [(link : Int)]) u j c ou hu hj (by rw [inB_add]; omega) (by rw [inB_add, List.length_append, List.length_singleton]; omega)
          rw [inB_add] at this
          exact this
        · rw [br_true, if_pos (.inr rfl)]; rfl
noncomputable def runDemand (n : Nat) (nt : Network) (s : State) (link count most : Int) : State × Bool :=
  if okSt nt s = true ∧ 0 ≤ link ∧ link < (nt.2.length : Int) then dem nt (s.2.2.2 + clipD most) (n + 1) (fun _ => false) s link.toNat count else (([], ([], ([], 0))), false)
theorem inB_nil : inB [] = fun _ => false := by funext j; rfl
theorem iRunDemand_spec {n : Nat} {nt : Network} {s : State} {link count most : Int} (h : SmallN nt) (hs : SmallSt s) (hn : 1048576 < n) (hm1 : -9223372036854775808 ≤ most) (hm2 : most ≤ 9223372036854775807) : iRunDemand.f n nt s link count most = some ((runDemand n nt s link count most).1, ((runDemand n nt s link count most).2, ())) := by
  unfold iRunDemand.f runDemand
  rw [iIsState_spec h hs hn]
  cases e1 : okSt nt s
  · rfl
  · have o := okSt_of e1
    have hL := o.net.links
    have hst := o.steps
    simp only [Option.bind_some, Bool.not_true, br_false, true_and]
    by_cases h1 : 0 ≤ link
    · by_cases h2 : link < (nt.2.length : Int)
      · rw [br_no (by omega), decide_eq_false (show ¬ (nt.2.length : Int) ≤ link by omega), if_pos ⟨h1, h2⟩]
        simp only [cut_inr, br_false]
        refine W_eq.1 (W_bind.2 (W_and (newRun_spec (caps := none) o.net hs hn) (fun r ⟨to, fr, e, T, F⟩ => W_eq.2 ?_)))
        subst e
        obtain ⟨l, rfl⟩ : ∃ l : Nat, link = (l : Int) := ⟨link.toNat, by omega⟩
        have hl : l < nt.2.length := by omega
        have hns := o.ns
        have hf := freeN_le (f := fun _ => false) (L := nt.2.length)
        simp only
        have key : demand0.f n (l : Int) count nt.1 nt.2 s.2.2.2 none s.1 s.2.1 s.2.2.1 to fr most = some ((dem nt (s.2.2.2 + clipD most) (n + 1) (fun _ => false) s l count).2, (nt.1, (nt.2, ((dem nt (s.2.2.2 + clipD most) (n + 1) (fun _ => false) s l count).1.2.2.2, (none, ((dem nt (s.2.2.2 + clipD most) (n + 1) (fun _ => false) s l count).1.1, ((dem nt (s.2.2.2 + clipD most) (n + 1) (fun _ => false) s l count).1.2.1, ((dem nt (s.2.2.2 + clipD most) (n + 1) (fun _ => false) s l count).1.2.2.1, (to, (fr, (most - ((dem nt (s.2.2.2 + clipD most) (n + 1) (fun _ => false) s l count).1.2.2.2 - s.2.2.2), ()))))))))))) := by
          unfold demand0.f
          simp only [Int.toNat_natCast]
          rw [chk_true (by omega)]
          show br (decide (count ≤ sentL s l)) _ _ = _
          unfold dem
          have e0 : most - (s.2.2.2 - s.2.2.2) = most := by omega
          by_cases h3 : count ≤ sentL s l
          · rw [br_yes h3, if_pos h3, e0]
          · rw [br_no h3, if_neg h3, chk_true (by omega)]
            show cut (α := Bool × Unit) (br (decide (fromK nt l < 0)) _ _) _ = _
            by_cases h4 : fromK nt l < 0
            · rw [br_yes h4, cut_inr, br_true, if_pos (.inl h4), e0]
            · rw [br_no h4, containsI_spec (by simp) hn]
              simp only [Option.bind_some, cut_inr, List.not_mem_nil, decide_false, br_false]
              rw [if_neg (by simp [h4])]
              obtain ⟨hk, ek⟩ := from_lt o.net hl h4
              rw [cloneI_run (by simp)]
              simp only [Option.bind_some]
              rw [small_chk (by simp)]
              have hd := dloopI (link := l) (count := count) (n := n) (s0 := s.2.2.2) (most := most) (fun b x => some (b, (x.1, (x.2.1, (x.2.2.1, (x.2.2.2.1, (x.2.2.2.2.1, (x.2.2.2.2.2.1, (x.2.2.2.2.2.2.1, (x.2.2.2.2.2.2.2.1, (x.2.2.2.2.2.2.2.2.1, (x.2.2.2.2.2.2.2.2.2.1, ()))))))))))))
                hn T F hst.1 hm1 hm2 hl hk ek (slf := demand.f n) (bl := [(l : Int)]) (d := n) (f := busyU (fun _ => false) l) (fun u j c ou hu hj => by
                  have hfree := freeN_lt (f := fun _ => false) (l := l) (L := nt.2.length) rfl hl
                  have e2 : inB [(l : Int)] = busyU (fun _ => false) l := (inB_add (bl := [])).trans (by rw [inB_nil])
                  have := demand_spec hn T F hst.1 hm1 hm2 n [(l : Int)] u j c ou hu hj (by rw [e2]; omega) (by rw [e2]; simp only [List.length_singleton]; omega)
                  rw [e2] at this
                  exact this) n 20001 s o (Int.le_refl _) (by omega) (by omega)
              have hd2 := hd _ (fun ih x => rfl)
              unfold encD at hd2
              rw [e0] at hd2
              exact hd2
        rw [key]
        rfl
      · rw [br_no (by omega), decide_eq_true (show (nt.2.length : Int) ≤ link by omega), if_neg (fun hh => h2 hh.2)]
        rfl
    · rw [br_yes (by omega), if_neg (fun hh => h1 hh.1)]; rfl
end Go.AmT
