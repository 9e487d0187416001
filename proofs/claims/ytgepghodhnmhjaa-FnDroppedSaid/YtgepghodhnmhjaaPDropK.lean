/- A process that is dropped, in whose place its streams come from outside: the least streams. -/
import Derived.Test.YtgepghodhnmhjaaPKahn3
import Derived.Test.YtgepghodhnmhjaaPDrop
namespace Go.AmT
open Go Go.Am
set_option linter.unusedVariables false
set_option linter.unusedSimpArgs false

/-- a process that gets less ends as well -/
theorem al_less {p : Program} {I I' : Nat → List Int} {c' d : Lc} {M : Nat} (F : Full p I c' M d) (hd : ∀ b, (d.2.1 b).length ≤ 400) (S : Sub I' I) :
    ∀ (f m : Nat) (c : Lc), Wf I' c → lrun p I' m c' = some c → M ≤ m + f → (al p I' f c).2.1 ≠ 1 ∧ (al p I' f c).2.1 ≠ 3 := by
  intro f
  induction f with
  | zero =>
    intro m c w h hM
    obtain ⟨l1, l2, l3⟩ := full_le F h S
    have hz : M - m = 0 := by omega
    rw [hz] at l2
    have ecd : c = d := by have := l2; cases this; rfl
    have hn := F.2
    rw [← ecd] at hn
    have want : (wantP p c.1).1 = 0 ∨ ((wantP p c.1).1 = 2 ∧ c.2.2 (wantP p c.1).2.toNat = (I' (wantP p c.1).2.toNat).length) := by
      unfold lstep at hn
      by_cases c0 : (wantP p c.1).1 = 0
      · exact Or.inl c0
      · rw [if_neg c0] at hn
        by_cases c2 : (wantP p c.1).1 = 2
        · rw [if_pos c2] at hn
          split at hn
          · cases hn
          · rename_i hlt
            have a := w.rd (wantP p c.1).2.toNat
            have b := (S (wantP p c.1).2.toNat).length_le
            exact Or.inr ⟨c2, by omega⟩
        · rw [if_neg c2] at hn
          split at hn <;> cases hn
    have hs : stopB p I' c = true := by
      unfold stopB
      rcases want with h0 | ⟨h0, h1⟩
      · simp [h0]
      · simp [h0, h1]
    have e : al p I' 0 c = (c, wantP p c.1) := by simp [al, hs]
    rw [e]
    simp only
    rcases want with h0 | ⟨h0, h1⟩ <;> omega
  | succ f ih =>
    intro m c w h hM
    obtain ⟨l1, l2, l3⟩ := full_le F h S
    by_cases hs : stopB p I' c = true
    · have e : al p I' (f + 1) c = (c, wantP p c.1) := by simp [al, hs]
      rw [e]
      simp only
      have hs2 := hs
      unfold stopB at hs2
      simp only [Bool.or_eq_true, Bool.and_eq_true, decide_eq_true_eq] at hs2
      refine ⟨by omega, fun h3 => ?_⟩
      have hlen : (c.2.1 (wantP p c.1).2.toNat).length = 400 := by
        rcases hs2 with (h | h) | h
        · omega
        · omega
        · exact h.2
      have hst : lstep p I c = some (stepA p c.1 0, upd c.2.1 (wantP p c.1).2.toNat (c.2.1 (wantP p c.1).2.toNat ++ [outP (instrP p c.1) c.1]), c.2.2) := by
        unfold lstep
        rw [if_neg (by omega), if_neg (by omega), if_pos h3]
      cases hk : M - m with
      | zero =>
        rw [hk] at l2
        have ecd : c = d := by have := l2; cases this; rfl
        have hn := F.2
        rw [← ecd, hst] at hn
        cases hn
      | succ s =>
        rw [hk, lrun_succ, hst, Option.bind_some] at l2
        have l4 := (lrun_outs l2 (wantP p c.1).2.toNat).length_le
        have l5 := hd (wantP p c.1).2.toNat
        simp only at l4
        rw [upd_same, List.length_append, List.length_singleton] at l4
        omega
    · have hs' : stopB p I' c = false := by simpa using hs
      obtain ⟨x, e1, w1⟩ := lstep_stop w hs'
      have ea : al p I' (f + 1) c = al p I' f x := by
        show (if stopB p I' c = true then _ else al p I' f ((lstep p I' c).getD c)) = _
        rw [hs', e1]; rfl
      rw [ea]
      refine ih (m + 1) x w1 ?_ (by omega)
      show (lrun p I' m c').bind (lstep p I') = some x
      rw [h, Option.bind_some, e1]

section
variable {nt : Network}
theorem runK_full {h : Nat → List Int} {k : Nat} (h1 : (runK nt h k).2.1 ≠ 1) (h3 : (runK nt h k).2.1 ≠ 3) : ∃ M, M ≤ 3000 ∧ Full (prog nt k) (inF nt h k) c0 M (runK nt h k).1 ∧ ∀ b, ((runK nt h k).1.2.1 b).length ≤ 400 := by
  obtain ⟨M, a, b, c⟩ := al_full (wf_c0 _) h1 h3
  exact ⟨M, a, b, c.wr⟩
theorem runK_less {G H : Nat → List Int} {k : Nat} (S : Sub G H) (h1 : (runK nt H k).2.1 ≠ 1) (h3 : (runK nt H k).2.1 ≠ 3) : (runK nt G k).2.1 ≠ 1 ∧ (runK nt G k).2.1 ≠ 3 := by
  obtain ⟨M, a, F, c⟩ := runK_full h1 h3
  exact al_less F c (inF_mono S) 3000 0 c0 (wf_c0 _) rfl (by omega)
theorem runK_mono {G H : Nat → List Int} {k : Nat} (S : Sub G H) (h1 : (runK nt H k).2.1 ≠ 1) (h3 : (runK nt H k).2.1 ≠ 3) (b : Nat) : (runK nt G k).1.2.1 b <+: (runK nt H k).1.2.1 b := by
  obtain ⟨g1, g3⟩ := runK_less S h1 h3
  obtain ⟨M, a, F, c⟩ := runK_full h1 h3
  obtain ⟨M', a', F', c'⟩ := runK_full g1 g3
  exact (full_le F F'.1 (inF_mono S)).2.2 b
theorem rndOk_run {h : Nat → List Int} (ok : rndOk nt h = true) {k : Nat} (hk : k < nt.1.length) : (runK nt h k).2.1 ≠ 1 ∧ (runK nt h k).2.1 ≠ 3 := by
  unfold rndOk at ok
  rw [Bool.and_eq_true, List.all_eq_true] at ok
  have := ok.1 k (List.mem_range.2 hk)
  simpa using this
theorem newS_mono (o : OkN nt) {G H : Nat → List Int} (S : Sub G H) (ok : rndOk nt H = true) {i : Nat} (hi : i < nt.2.length) : newS nt G i <+: newS nt H i := by
  unfold newS
  split
  · rename_i h0
    have hk : (lnk nt i).1.toNat < nt.1.length := by
      have E := o.ends i hi
      rw [← getD_lt hi zLink] at E
      rcases E.out with ⟨h1, _⟩ | ⟨h1, h2, _⟩
      · unfold lnk at h0; omega
      · unfold lnk; omega
    obtain ⟨r1, r3⟩ := rndOk_run ok hk
    exact List.prefix_append_right_inj _ |>.2 (runK_mono S r1 r3 _)
  · exact List.prefix_rfl
theorem okS_pre {a b : List Int} (h : a <+: b) (hb : okS b = true) : okS a = true := by
  obtain ⟨h1, h2⟩ := okS_len hb
  exact okS_of (Nat.le_trans h.length_le h1) (fun x hx => h2 x (h.subset hx))
theorem sub_antisymm {F G : Nat → List Int} (h1 : Sub F G) (h2 : Sub G F) : F = G := by
  funext i
  exact (h1 i).eq_of_length (Nat.le_antisymm (h1 i).length_le (h2 i).length_le)

/-! ### rounds without a process -/
variable {k : Nat} {H : Nat → List Int}
def Liv (nt : Network) (k : Nat) (i : Nat) : Prop := i < nt.2.length ∧ keepL (k : Int) (lnk nt i) = true ∧ (lnk nt i).1 ≠ (k : Int)
instance (nt : Network) (k i : Nat) : Decidable (Liv nt k i) := by unfold Liv; exact inferInstance
def rndD (nt : Network) (k : Nat) (H G : Nat → List Int) : Nat → List Int := fun i => if Liv nt k i then newS nt G i else H i
def stD (nt : Network) (k : Nat) (H : Nat → List Int) : Nat → List Int := fun i => if Liv nt k i then toks nt i else H i
def chD (nt : Network) (k : Nat) (H : Nat → List Int) : Nat → Nat → List Int
  | 0 => stD nt k H
  | t + 1 => rndD nt k H (chD nt k H t)

structure Lst (nt : Network) (hL : List (List Int)) : Prop where
  ok : rndOk nt (atL hL) = true
  fx : ∀ i, i < nt.2.length → newS nt (atL hL) i = atL hL i
  tk : ∀ i, toks nt i <+: atL hL i
theorem lst_of (o : OkN nt) {hL : List (List Int)} {r : Int} (e : leastP nt = some (hL, r)) : Lst nt hL := by
  obtain ⟨J, -, -, -, e2⟩ := leastP_chain e
  obtain ⟨ok, e3⟩ := rndP_some e2
  refine ⟨ok, fun i hi => ?_, fix_toks o (least_fix o e)⟩
  conv => rhs; rw [e3]
  exact (atL_map hi).symm

variable {hL : List (List Int)}
theorem rndD_sub (o : OkN nt) (L : Lst nt hL) {G : Nat → List Int} (S : Sub G (atL hL)) : Sub (rndD nt k (atL hL) G) (atL hL) := by
  intro i
  unfold rndD
  split
  · rename_i h
    rw [← L.fx i h.1]
    exact newS_mono o S L.ok h.1
  · exact List.prefix_rfl
theorem chD_sub (o : OkN nt) (L : Lst nt hL) : ∀ t, Sub (chD nt k (atL hL) t) (atL hL)
  | 0 => by
    intro i
    unfold chD stD
    split
    · exact L.tk i
    · exact List.prefix_rfl
  | t + 1 => rndD_sub o L (chD_sub o L t)
theorem chD_over (o : OkN nt) {r : Int} (e : leastP nt = some (hL, r)) (L : Lst nt hL) : ∀ {t : Nat} {h : List (List Int)}, Chain nt t h → Sub (atL h) (chD nt k (atL hL) t) := by
  intro t h C
  induction C with
  | zero =>
    intro i
    rw [atL_tokL]
    unfold chD stD
    split
    · exact List.prefix_rfl
    · exact L.tk i
  | @succ t h g C e1 ih =>
    have Cg : Chain nt (t + 1) g := .succ C e1
    have sg := Cg.sub o (least_fix o e) L.tk
    obtain ⟨ok, rfl⟩ := rndP_some e1
    intro i
    show _ <+: rndD nt k (atL hL) (chD nt k (atL hL) t) i
    unfold rndD
    split
    · rename_i hi
      rw [atL_map hi.1]
      unfold newS
      split
      · rename_i h0
        have hk : (lnk nt i).1.toNat < nt.1.length := by
          have E := o.ends i hi.1
          rw [← getD_lt hi.1 zLink] at E
          rcases E.out with ⟨h1, _⟩ | ⟨h1, h2, _⟩
          · unfold lnk at h0; omega
          · unfold lnk; omega
        obtain ⟨r1, r3⟩ := rndOk_run L.ok hk
        obtain ⟨q1, q3⟩ := runK_less (chD_sub (k := k) o L t) r1 r3
        exact List.prefix_append_right_inj _ |>.2 (runK_mono ih q1 q3 _)
      · exact List.prefix_rfl
    · exact sg i
theorem chD_fix (o : OkN nt) (L : Lst nt hL) : rndD nt k (atL hL) (atL hL) = atL hL := by
  funext i
  unfold rndD
  split
  · rename_i h; exact L.fx i h.1
  · rfl
theorem chD_stay {H : Nat → List Int} {t : Nat} (h : chD nt k H (t + 1) = chD nt k H t) : ∀ s, chD nt k H (t + s) = chD nt k H t
  | 0 => rfl
  | s + 1 => by
    have ih := chD_stay h s
    show rndD nt k H (chD nt k H (t + s)) = _
    rw [ih]; exact h
end
end Go.AmT
