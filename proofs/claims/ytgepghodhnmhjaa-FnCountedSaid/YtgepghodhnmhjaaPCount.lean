/- A process that counts for ever: the law. -/
import Derived.Test.YtgepghodhnmhjaaLCount
import Derived.Test.YtgepghodhnmhjaaPRunS
import Derived.Test.YtgepghodhnmhjaaPBoundR
import Derived.Test.YtgepghodhnmhjaaPRunK
import Derived.Test.YtgepghodhnmhjaaPLeast
import Derived.Test.YtgepghodhnmhjaaPStart
import Derived.Test.YtgepghodhnmhjaaPGenS
namespace Go.AmT
open Go Go.Am
set_option linter.unusedVariables false
set_option linter.unusedSimpArgs false

def cP : Program := (0, (1, [(2, (0, (0, 0))), (3, (1, (1, 0))), (4, (0, (0, 1))), (8, (0, (0, 0)))]))
def sP : Program := (1, (1, [(1, (1, (0, 0))), (4, (0, (0, 1))), (2, (0, (0, 0))), (8, (0, (0, 0)))]))
def nC : Network := ([cP, sP], [(0, (0, (1, (0, [])))), (1, (0, ((-1), (0, []))))])

theorem two {i : Nat} (h : i < 2) : i = 0 ∨ i = 1 := by omega
theorem okNC : OkN nC := by
  refine ⟨by decide, by decide, fun i hi => ?_, fun i hi => ?_, fun i hi => ?_, fun i hi k hk => ?_, fun i hi k hk => ?_⟩
  · rcases two hi with rfl | rfl
    · show okP cP = true; decide
    · show okP sP = true; decide
  · rcases two hi with rfl | rfl
    · show EndOk nC ((0, (0, (1, (0, [])))) : Link)
      exact ⟨Or.inr (by decide), Or.inr (by decide), by decide⟩
    · show EndOk nC ((1, (0, ((-1), (0, [])))) : Link)
      exact ⟨Or.inr (by decide), Or.inl (by decide), by decide⟩
  · rcases two hi with rfl | rfl <;> rfl
  · rcases two hi with rfl | rfl
    · have hk : (k : Int) < 0 := hk
      omega
    · have hk : (k : Int) < 1 := hk
      have : k = 0 := by omega
      subst this; decide
  · rcases two hi with rfl | rfl
    · have hk : (k : Int) < 1 := hk
      have : k = 0 := by omega
      subst this; decide
    · have hk : (k : Int) < 1 := hk
      have : k = 0 := by omega
      subst this; decide
theorem smallNC : SmallN nC := by
  refine ⟨by decide, fun p hp => ?_, by decide, fun l hl => ?_⟩
  · simp only [nC, List.mem_cons, List.not_mem_nil, or_false] at hp
    rcases hp with rfl | rfl <;> exact ⟨by decide⟩
  · simp only [nC, List.mem_cons, List.not_mem_nil, or_false] at hl
    rcases hl with rfl | rfl <;> exact ⟨by decide⟩

/-! ### it never ends -/
theorem al_count {I : Nat → List Int} : ∀ (f : Nat) (c : Lc), (c.1.1 = 0 ∨ c.1.1 = 1 ∨ c.1.1 = 2 ∨ c.1.1 = 3) → (al cP I f c).2.1 = 1 ∨ (al cP I f c).2.1 = 3 := by
  intro f
  induction f with
  | zero =>
    intro c hc
    obtain ⟨⟨pc, regs⟩, o, u⟩ := c
    unfold al
    split
    · rename_i h
      rcases hc with h0 | h0 | h0 | h0 <;> (simp only at h0; subst h0)
      · exact Or.inr rfl
      · exact absurd h (by simp [stopB, wantP, cP])
      · exact absurd h (by simp [stopB, wantP, cP])
      · exact absurd h (by simp [stopB, wantP, cP])
    · exact Or.inl rfl
  | succ f ih =>
    intro c hc
    obtain ⟨⟨pc, regs⟩, o, u⟩ := c
    unfold al
    split
    · rename_i h
      rcases hc with h0 | h0 | h0 | h0 <;> (simp only at h0; subst h0)
      · exact Or.inr rfl
      · exact absurd h (by simp [stopB, wantP, cP])
      · exact absurd h (by simp [stopB, wantP, cP])
      · exact absurd h (by simp [stopB, wantP, cP])
    · refine ih _ ?_
      rcases hc with h0 | h0 | h0 | h0 <;> (simp only at h0; subst h0)
      · exact Or.inr (Or.inl rfl)
      · exact Or.inr (Or.inr (Or.inl rfl))
      · exact Or.inr (Or.inr (Or.inr rfl))
      · exact Or.inl rfl

theorem least_none : leastR nC 300 1 (tokL nC) = ([], (0, (false, ()))) := by
  have : rndP nC (tokL nC) = none := by
    unfold rndP
    rw [if_neg]
    intro h
    unfold rndOk at h
    rw [Bool.and_eq_true, List.all_eq_true] at h
    have := h.1 0 (List.mem_range.2 (by decide))
    simp only [Bool.and_eq_true, decide_eq_true_eq] at this
    have e : runK nC (atL (tokL nC)) 0 = al cP (inF nC (atL (tokL nC)) 0) 3000 c0 := rfl
    rw [e] at this
    rcases al_count (I := inF nC (atL (tokL nC)) 0) 3000 c0 (Or.inl rfl) with h | h
    · exact this.1 h
    · exact this.2 h
  unfold leastR
  have : leastF nC 300 1 (tokL nC) = none := by
    unfold leastF; rw [this]
  rw [this]

/-! ### where the two are -/
def sm : Nat → Int
  | 0 => 0
  | k + 1 => sm k + k
theorem sm_le : ∀ k : Nat, 0 ≤ sm k ∧ sm k ≤ (k : Int) * 300 ∨ 300 < k
  | 0 => Or.inl (by simp [sm])
  | k + 1 => by
    rcases sm_le k with ⟨h1, h2⟩ | h
    · by_cases hk : 300 < k + 1
      · exact Or.inr hk
      · refine Or.inl ⟨by simp only [sm]; omega, by simp only [sm]; omega⟩
    · exact Or.inr (by omega)
theorem wr_id {x : Int} (h : -999999 ≤ x ∧ x ≤ 999999) : wr x = x := by
  unfold wr
  have : x.tmod 1999999 = x := by
    rcases Int.lt_or_le x 0 with hx | hx
    · obtain ⟨y, rfl⟩ : ∃ y : Int, x = -y := ⟨-x, by omega⟩
      rw [Int.neg_tmod, Int.tmod_eq_of_lt (by omega) (by omega)]
    · exact Int.tmod_eq_of_lt hx (by omega)
  rw [this, if_neg (by omega), if_neg (by omega)]

def co (q b : Nat) : Nat := if q = 1 ∨ q = 2 then b + 1 else b
def tp (a p : Nat) : Int := if p = 0 then 4 * (a : Int) else 4 * (a : Int) - 4 + p
def tq (b q : Nat) : Int := if q = 3 then 4 * (b : Int) - 1 else 4 * (b : Int) + q
def tt (a b p q : Nat) : Int := tp a p + tq b q
theorem tp_ge (a p : Nat) : 4 * (a : Int) - 4 ≤ tp a p := by unfold tp; split <;> omega
theorem tp_le (a p : Nat) (h : p ≤ 3) : tp a p ≤ 4 * (a : Int) := by unfold tp; split <;> omega
theorem tp_nn (a p : Nat) (h : p ≠ 0 → 1 ≤ a) : 0 ≤ tp a p := by unfold tp; split <;> omega
theorem tq_ge (b q : Nat) : 4 * (b : Int) - 1 ≤ tq b q := by unfold tq; split <;> omega
theorem tq_le (b q : Nat) (h : q ≤ 3) : tq b q ≤ 4 * (b : Int) + 2 := by unfold tq; split <;> omega
theorem tq_nn (b q : Nat) (h : q = 3 → 1 ≤ b) : 0 ≤ tq b q := by unfold tq; split <;> omega
/-- the steps of the two programs -/
theorem c0s {r y t : Int} : stepA cP (((0 : Nat) : Int), [r, y, 0, 0]) t = (((1 : Nat) : Int), [r, y, 0, 0]) := by simp [stepA, instrP, cP, pcP, valP, rg]
theorem c1s {r y t : Int} : stepA cP (((1 : Nat) : Int), [r, y, 0, 0]) t = (((2 : Nat) : Int), [r, 1, 0, 0]) := by simp [stepA, instrP, cP, pcP, valP, rg]
theorem c2s {r y t : Int} : stepA cP (((2 : Nat) : Int), [r, y, 0, 0]) t = (((3 : Nat) : Int), [wr (r + y), y, 0, 0]) := by simp [stepA, instrP, cP, pcP, valP, rg]
theorem c3s {r y t : Int} : stepA cP (((3 : Nat) : Int), [r, y, 0, 0]) t = (((0 : Nat) : Int), [r, y, 0, 0]) := by simp [stepA, instrP, cP, pcP, valP, rg]
theorem s0s {r y t : Int} : stepA sP (((0 : Nat) : Int), [r, y, 0, 0]) t = (((1 : Nat) : Int), [r, t, 0, 0]) := by simp [stepA, instrP, sP, pcP, valP, rg]
theorem s1s {r y t : Int} : stepA sP (((1 : Nat) : Int), [r, y, 0, 0]) t = (((2 : Nat) : Int), [wr (r + y), y, 0, 0]) := by simp [stepA, instrP, sP, pcP, valP, rg]
theorem s2s {r y t : Int} : stepA sP (((2 : Nat) : Int), [r, y, 0, 0]) t = (((3 : Nat) : Int), [r, y, 0, 0]) := by simp [stepA, instrP, sP, pcP, valP, rg]
theorem s3s {r y t : Int} : stepA sP (((3 : Nat) : Int), [r, y, 0, 0]) t = (((0 : Nat) : Int), [r, y, 0, 0]) := by simp [stepA, instrP, sP, pcP, valP, rg]
structure CI (s : State) (a b p q : Nat) (r y z x : Int) : Prop where
  ok : OkSt nC s
  A0 : actor s 0 = ((p : Int), [r, y, 0, 0])
  A1 : actor s 1 = ((q : Int), [z, x, 0, 0])
  p3 : p ≤ 3
  q3 : q ≤ 3
  hr : r = if p = 1 ∨ p = 2 then (a : Int) - 1 else a
  hy : p = 2 → y = 1
  ha : p ≠ 0 → 1 ≤ a
  hz : z = if q = 2 then sm (b + 1) else sm b
  hx : q = 1 → x = b
  hb : q = 3 → 1 ≤ b
  le : co q b ≤ a
  s0 : sent s 0 = (List.range a).map (fun i : Nat => (i : Int))
  s1 : sent s 1 = (List.range b).map (fun i : Nat => sm (i + 1))
  q0 : queue s 0 = (sent s 0).drop (co q b)
  st : s.2.2.2 = tt a b p q

theorem set_get {α : Type} {l : List α} {i j : Nat} {x d : α} (hi : i < l.length) : (l.set i x).getD j d = if j = i then x else l.getD j d := by
  rw [List.getD_eq_getElem?_getD, List.getElem?_set, List.getD_eq_getElem?_getD]
  by_cases h : i = j
  · subst h; rw [if_pos rfl, if_pos hi, if_pos rfl]; rfl
  · rw [if_neg h, if_neg (fun e => h e.symm)]

section
variable {s : State} {a b p q : Nat} {r y z x : Int}
theorem CI.len (h : CI s a b p q r y z x) : s.1.length = 2 ∧ s.2.1.length = 2 ∧ s.2.2.1.length = 2 := ⟨h.ok.na, h.ok.nq, h.ok.ns⟩
theorem act_step (h : CI s a b p q r y z x) {k : Nat} (hk : k < 2) (j : Nat) : actor (stepP nC s k) j = if j = k then stepA (prog nC k) (actor s k) (tokenOf nC s k) else actor s j := by
  unfold actor stepP
  exact set_get (by rw [h.len.1]; exact hk)
theorem want0 (h : CI s a b p q r y z x) : wantOf nC s 0 = if p = 0 then (3, 0) else (1, 0) := by
  unfold wantOf
  rw [h.A0]
  have h3 := h.p3
  obtain rfl | rfl | rfl | rfl : p = 0 ∨ p = 1 ∨ p = 2 ∨ p = 3 := by omega
  all_goals rfl
theorem want1 (h : CI s a b p q r y z x) : wantOf nC s 1 = if q = 0 then (2, 0) else if q = 2 then (3, 0) else (1, 0) := by
  unfold wantOf
  rw [h.A1]
  have h3 := h.q3
  obtain rfl | rfl | rfl | rfl : q = 0 ∨ q = 1 ∨ q = 2 ∨ q = 3 := by omega
  all_goals rfl

theorem bnd (h : CI s a b p q r y z x) (hs : s.2.2.2 ≤ 900) : a ≤ 226 ∧ b ≤ 226 := by
  have := h.st
  have t1 := tp_ge a p
  have t2 := tq_ge b q
  have t3 := tp_nn a p h.ha
  have t4 := tq_nn b q h.hb
  unfold tt at this
  omega

theorem actor1_0 (h : CI s a b p q r y z x) : actor (stepP nC s 0) 1 = actor s 1 := by rw [act_step h (by omega), if_neg (by omega)]
theorem actor0_1 (h : CI s a b p q r y z x) : actor (stepP nC s 1) 0 = actor s 0 := by rw [act_step h (by omega), if_neg (by omega)]
theorem calm {k : Nat} (hw : (wantOf nC s k).1 = 1) (j : Nat) : queue (stepP nC s k) j = queue s j ∧ sent (stepP nC s k) j = sent s j := by
  unfold queue sent stepP
  rw [if_neg (show ¬ (wantOf nC s k).1 = 2 by omega), if_neg (show ¬ (wantOf nC s k).1 = 3 by omega), if_neg (show ¬ (wantOf nC s k).1 = 3 by omega)]
  exact ⟨rfl, rfl⟩
theorem wrote {k i : Nat} {o : Int} (hw : (wantOf nC s k).1 = 3) (hl : linkOf nC s k = (i : Int)) (ho : outOf nC s k = o) (h1 : i < s.2.1.length) (h2 : i < s.2.2.1.length) (j : Nat) :
    queue (stepP nC s k) j = (if j = i then queue s i ++ [o] else queue s j) ∧ sent (stepP nC s k) j = (if j = i then sent s i ++ [o] else sent s j) := by
  unfold queue sent stepP
  rw [if_neg (show ¬ (wantOf nC s k).1 = 2 by omega), if_pos hw, if_pos hw, hl, ho, Int.toNat_natCast]
  exact ⟨set_get h1, set_get h2⟩
theorem took {k i : Nat} (hw : (wantOf nC s k).1 = 2) (hl : linkOf nC s k = (i : Int)) (h1 : i < s.2.1.length) (j : Nat) :
    queue (stepP nC s k) j = (if j = i then (queue s i).drop 1 else queue s j) ∧ sent (stepP nC s k) j = sent s j := by
  unfold queue sent stepP
  rw [if_pos hw, if_neg (show ¬ (wantOf nC s k).1 = 3 by omega), hl, Int.toNat_natCast]
  exact ⟨set_get h1, rfl⟩

theorem step0 (h : CI s a b p q r y z x) (hs : s.2.2.2 ≤ 900) (hc : canP nC s 0 = true) :
    ∃ a' p' r' y', CI (stepP nC s 0) a' b p' q r' y' z x ∧ a ≤ a' ∧ (queue (stepP nC s 0) 0).length = (queue s 0).length + (if p = 0 then 1 else 0) := by
  have ok' := stepP_ok h.ok (k := 0) (by decide) hc
  have hw := want0 h
  have st' : (stepP nC s 0).2.2.2 = s.2.2.2 + 1 := rfl
  have hst := h.st
  have A1' : actor (stepP nC s 0) 1 = ((q : Int), [z, x, 0, 0]) := by rw [actor1_0 h]; exact h.A1
  have A0' : actor (stepP nC s 0) 0 = stepA cP ((p : Int), [r, y, 0, 0]) (tokenOf nC s 0) := by
    rw [act_step h (by omega), if_pos rfl, h.A0]; rfl
  obtain ⟨b1, b2⟩ := bnd h hs
  have h3 := h.p3
  have hr := h.hr
  have hl := h.len
  obtain rfl | rfl | rfl | rfl : p = 0 ∨ p = 1 ∨ p = 2 ∨ p = 3 := by omega
  · rw [if_pos rfl] at hw
    rw [if_neg (by omega)] at hr
    have hlk : linkOf nC s 0 = ((0 : Nat) : Int) := by unfold linkOf; rw [hw]; rfl
    have ho : outOf nC s 0 = r := by unfold outOf; rw [h.A0]; rfl
    have W := wrote (k := 0) (i := 0) (by rw [hw]) hlk ho (by omega) (by omega)
    rw [c0s] at A0'
    refine ⟨a + 1, 1, r, y, ⟨ok', A0', A1', by omega, h.q3, by rw [if_pos (Or.inl rfl)]; omega, fun e => absurd e (by omega), fun _ => by omega, h.hz, h.hx, h.hb, by have := h.le; omega, ?_, ?_, ?_, ?_⟩, by omega, ?_⟩
    · rw [(W 0).2, if_pos rfl, h.s0, List.range_succ, List.map_append, hr]; rfl
    · rw [(W 1).2, if_neg (by omega)]; exact h.s1
    · rw [(W 0).1, (W 0).2, if_pos rfl, if_pos rfl, h.q0, List.drop_append_of_le_length (by rw [h.s0]; simpa using h.le)]
    · rw [st', hst]; simp [tt, tp]; omega
    · rw [(W 0).1, if_pos rfl, if_pos rfl]; simp
  all_goals
    rw [if_neg (by omega)] at hw
    have C := calm (k := 0) (s := s) (by rw [hw])
  · rw [if_pos (Or.inl rfl)] at hr
    rw [c1s] at A0'
    refine ⟨a, 2, r, 1, ⟨ok', A0', A1', by omega, h.q3, by rw [if_pos (Or.inr rfl)]; exact hr, fun _ => rfl, fun _ => h.ha (by omega), h.hz, h.hx, h.hb, h.le, ?_, ?_, ?_, ?_⟩, by omega, ?_⟩
    · rw [(C 0).2]; exact h.s0
    · rw [(C 1).2]; exact h.s1
    · rw [(C 0).1, (C 0).2]; exact h.q0
    · rw [st', hst]; simp [tt, tp]; omega
    · rw [(C 0).1, if_neg (by omega)]; rfl
  · rw [if_pos (Or.inr rfl)] at hr
    have hy := h.hy rfl
    have ha := h.ha (by omega)
    have ew : wr (r + y) = (a : Int) := by rw [wr_id (by omega)]; omega
    have A0'' : actor (stepP nC s 0) 0 = (((3 : Nat) : Int), [(a : Int), y, 0, 0]) := by rw [A0', c2s, ew]
    refine ⟨a, 3, a, y, ⟨ok', A0'', A1', by omega, h.q3, by rw [if_neg (by omega)], fun e => absurd e (by omega), fun _ => ha, h.hz, h.hx, h.hb, h.le, ?_, ?_, ?_, ?_⟩, by omega, ?_⟩
    · rw [(C 0).2]; exact h.s0
    · rw [(C 1).2]; exact h.s1
    · rw [(C 0).1, (C 0).2]; exact h.q0
    · rw [st', hst]; simp [tt, tp]; omega
    · rw [(C 0).1, if_neg (by omega)]; rfl
  · rw [if_neg (by omega)] at hr
    have ha := h.ha (by omega)
    rw [c3s] at A0'
    refine ⟨a, 0, r, y, ⟨ok', A0', A1', by omega, h.q3, by rw [if_neg (by omega)]; exact hr, fun e => absurd e (by omega), fun e => absurd rfl e, h.hz, h.hx, h.hb, h.le, ?_, ?_, ?_, ?_⟩, by omega, ?_⟩
    · rw [(C 0).2]; exact h.s0
    · rw [(C 1).2]; exact h.s1
    · rw [(C 0).1, (C 0).2]; exact h.q0
    · rw [st', hst]; simp [tt, tp]; omega
    · rw [(C 0).1, if_neg (by omega)]; rfl

theorem step1 (h : CI s a b p q r y z x) (hs : s.2.2.2 ≤ 900) (hc : canP nC s 1 = true) :
    ∃ b' q' z' x', CI (stepP nC s 1) a b' p q' r y z' x' ∧ b ≤ b' ∧ (queue (stepP nC s 1) 0).length ≤ (queue s 0).length := by
  have ok' := stepP_ok h.ok (k := 1) (by decide) hc
  have hw := want1 h
  have st' : (stepP nC s 1).2.2.2 = s.2.2.2 + 1 := rfl
  have hst := h.st
  have A0' : actor (stepP nC s 1) 0 = ((p : Int), [r, y, 0, 0]) := by rw [actor0_1 h]; exact h.A0
  have A1' : actor (stepP nC s 1) 1 = stepA sP ((q : Int), [z, x, 0, 0]) (tokenOf nC s 1) := by rw [act_step h (by omega), if_pos rfl, h.A1]; rfl
  obtain ⟨b1, b2⟩ := bnd h hs
  have h3 := h.q3
  have hz := h.hz
  have hl := h.len
  have hle := h.le
  unfold co at hle
  obtain rfl | rfl | rfl | rfl : q = 0 ∨ q = 1 ∨ q = 2 ∨ q = 3 := by omega
  · rw [if_pos rfl] at hw
    rw [if_neg (by omega)] at hz
    have hlk : linkOf nC s 1 = ((0 : Nat) : Int) := by unfold linkOf; rw [hw]; rfl
    have T := took (k := 1) (i := 0) (by rw [hw]) hlk (by omega)
    have q0 := h.q0
    unfold co at q0
    rw [if_neg (by omega)] at q0
    have f := (canP_facts hc).2.2.1 (by rw [hw])
    rw [hlk] at f
    have f : 0 < (queue s 0).length := f
    rw [q0, h.s0] at f
    have hba : b < a := by simp at f; omega
    have tk : tokenOf nC s 1 = (b : Int) := by
      unfold tokenOf
      rw [if_pos (by rw [hw]), hlk]
      show (queue s 0).getD 0 0 = _
      rw [q0, h.s0, getD_lt (by simp; omega)]
      simp
    have A1'' : actor (stepP nC s 1) 1 = (((1 : Nat) : Int), [z, (b : Int), 0, 0]) := by rw [A1', s0s, tk]
    refine ⟨b, 1, z, b, ⟨ok', A0', A1'', h.p3, by omega, h.hr, h.hy, h.ha, by rw [if_neg (by omega)]; exact hz, fun _ => rfl, fun e => absurd e (by omega), by unfold co; rw [if_pos (Or.inl rfl)]; omega, ?_, ?_, ?_, ?_⟩, by omega, ?_⟩
    · rw [(T 0).2]; exact h.s0
    · rw [(T 1).2]; exact h.s1
    · rw [(T 0).1, (T 0).2, if_pos rfl, q0, List.drop_drop]; unfold co; rw [if_pos (Or.inl rfl)]
    · rw [st', hst]; simp [tt, tq]; omega
    · rw [(T 0).1, if_pos rfl, List.length_drop]; omega
  · rw [if_neg (by omega), if_neg (by omega)] at hw
    have C := calm (k := 1) (s := s) (by rw [hw])
    rw [if_neg (by omega)] at hz
    have hx := h.hx rfl
    have sb := sm_le b
    have ew : wr (z + x) = sm (b + 1) := by
      rw [wr_id (by omega)]
      simp only [sm]; omega
    have A1'' : actor (stepP nC s 1) 1 = (((2 : Nat) : Int), [sm (b + 1), x, 0, 0]) := by rw [A1', s1s, ew]
    have le' := h.le
    refine ⟨b, 2, sm (b + 1), x, ⟨ok', A0', A1'', h.p3, by omega, h.hr, h.hy, h.ha, by rw [if_pos rfl], fun e => absurd e (by omega), fun e => absurd e (by omega), le', ?_, ?_, ?_, ?_⟩, by omega, ?_⟩
    · rw [(C 0).2]; exact h.s0
    · rw [(C 1).2]; exact h.s1
    · rw [(C 0).1, (C 0).2]; exact h.q0
    · rw [st', hst]; simp [tt, tq]; omega
    · rw [(C 0).1]; exact Nat.le_refl _
  · rw [if_neg (by omega), if_pos rfl] at hw
    rw [if_pos rfl] at hz
    have hlk : linkOf nC s 1 = ((1 : Nat) : Int) := by unfold linkOf; rw [hw]; rfl
    have ho : outOf nC s 1 = z := by unfold outOf; rw [h.A1]; rfl
    have W := wrote (k := 1) (i := 1) (by rw [hw]) hlk ho (by omega) (by omega)
    rw [s2s] at A1'
    refine ⟨b + 1, 3, z, x, ⟨ok', A0', A1', h.p3, by omega, h.hr, h.hy, h.ha, by rw [if_neg (by omega)]; exact hz, fun e => absurd e (by omega), fun _ => by omega, by unfold co; rw [if_neg (by omega)]; simpa using hle, ?_, ?_, ?_, ?_⟩, by omega, ?_⟩
    · rw [(W 0).2, if_neg (by omega)]; exact h.s0
    · rw [(W 1).2, if_pos rfl, h.s1, List.range_succ, List.map_append, hz]; rfl
    · rw [(W 0).1, (W 0).2, if_neg (by omega), if_neg (by omega)]; exact h.q0
    · rw [st', hst]; simp [tt, tq]; omega
    · rw [(W 0).1, if_neg (by omega)]; exact Nat.le_refl _
  · rw [if_neg (by omega), if_neg (by omega)] at hw
    have C := calm (k := 1) (s := s) (by rw [hw])
    rw [if_neg (by omega)] at hz
    have hb := h.hb rfl
    rw [s3s] at A1'
    refine ⟨b, 0, z, x, ⟨ok', A0', A1', h.p3, by omega, h.hr, h.hy, h.ha, by rw [if_neg (by omega)]; exact hz, fun e => absurd e (by omega), fun e => absurd e (by omega), h.le, ?_, ?_, ?_, ?_⟩, by omega, ?_⟩
    · rw [(C 0).2]; exact h.s0
    · rw [(C 1).2]; exact h.s1
    · rw [(C 0).1, (C 0).2]; exact h.q0
    · rw [st', hst]; simp [tt, tq]; omega
    · rw [(C 0).1]; exact Nat.le_refl _
end
/-! ### runs -/
def P0 (s : State) : Prop := ∃ a b p q r y z x, CI s a b p q r y z x
theorem ci_start : CI (start nC) 0 0 0 0 0 0 0 0 := by
  refine ⟨start_ok okNC, rfl, rfl, by omega, by omega, rfl, fun e => absurd e (by omega), fun e => absurd rfl e, rfl, fun e => absurd e (by omega), fun e => absurd e (by omega), by decide, rfl, rfl, rfl, rfl⟩
theorem stepP_steps {s : State} {k : Nat} : (stepP nC s k).2.2.2 = s.2.2.2 + 1 := rfl

theorem sch_inv : ∀ (l : List Int) (v : Int × State), P0 v.2 → v.2.2.2.2 + l.length ≤ 900 → P0 (l.foldl (schOne nC) v).2 ∧ (l.foldl (schOne nC) v).2.2.2.2 ≤ v.2.2.2.2 + l.length
  | [], v, h, _ => ⟨h, by simp⟩
  | k :: l, v, h, hs => by
    simp only [List.length_cons] at hs
    have hs : v.2.2.2.2 + ((l.length : Int) + 1) ≤ 900 := by omega
    obtain ⟨a, b, p, q, r, y, z, x, H⟩ := h
    rw [List.foldl_cons]
    by_cases hc : 0 ≤ k ∧ k < (nC.1.length : Int) ∧ canP nC v.2 k.toNat = true
    · have e : schOne nC v k = (v.1 + 1, stepP nC v.2 k.toNat) := by unfold schOne; rw [if_pos hc]
      rw [e]
      have hk2 : k < 2 := hc.2.1
      have hP : P0 (stepP nC v.2 k.toNat) := by
        obtain hk | hk : k.toNat = 0 ∨ k.toNat = 1 := by omega
        · have hcc := hc.2.2
          rw [hk] at hcc ⊢
          obtain ⟨a', p', r', y', h', -⟩ := step0 H (by omega) hcc
          exact ⟨_, _, _, _, _, _, _, _, h'⟩
        · have hcc := hc.2.2
          rw [hk] at hcc ⊢
          obtain ⟨b', q', z', x', h', -⟩ := step1 H (by omega) hcc
          exact ⟨_, _, _, _, _, _, _, _, h'⟩
      have := sch_inv l (v.1 + 1, stepP nC v.2 k.toNat) hP (by simp only [stepP_steps]; omega)
      refine ⟨this.1, ?_⟩
      have h2 := this.2
      simp only [stepP_steps] at h2
      simp only [List.length_cons]
      omega
    · have e : schOne nC v k = v := by unfold schOne; rw [if_neg hc]
      rw [e]
      have := sch_inv l v ⟨a, b, p, q, r, y, z, x, H⟩ (by omega)
      refine ⟨this.1, ?_⟩
      simp only [List.length_cons]
      omega

def capC : List Int := [1, 0]
theorem may_inv {s0 : State} {a0 b0 p0 q0 : Nat} {r0 y0 z0 x0 : Int} (H0 : CI s0 a0 b0 p0 q0 r0 y0 z0 x0) {t : State} {m : Nat → Nat} (S : Steps nC (mayO nC (some capC)) s0 t m) :
    t.2.2.2 ≤ 900 → ∃ a b p q r y z x, CI t a b p q r y z x ∧ a0 ≤ a ∧ b0 ≤ b ∧ ((queue t 0).length ≤ (queue s0 0).length ∨ (queue t 0).length ≤ 1) := by
  induction S with
  | refl => intro _; exact ⟨_, _, _, _, _, _, _, _, H0, by omega, by omega, Or.inl (Nat.le_refl _)⟩
  | @step s m k S hk hg hc ih =>
    intro hs
    rw [stepP_steps] at hs
    obtain ⟨a, b, p, q, r, y, z, x, H, ha, hb, hq⟩ := ih (by omega)
    have hk2 : k < 2 := hk
    obtain rfl | rfl := two hk2
    · obtain ⟨a', p', r', y', h', l1, l2⟩ := step0 H (by omega) hc
      refine ⟨_, _, _, _, _, _, _, _, h', by omega, hb, ?_⟩
      by_cases e : p = 0
      · rw [if_pos e] at l2
        have hw := want0 H
        rw [if_pos e] at hw
        have hlk : linkOf nC s 0 = ((0 : Nat) : Int) := by unfold linkOf; rw [hw]; rfl
        have hm : mayP nC s capC 0 = true := hg
        unfold mayP at hm
        rw [hw, hlk] at hm
        simp only [Bool.and_eq_true, decide_true, Bool.not_true, Bool.false_or, Bool.or_eq_true, decide_eq_true_eq] at hm
        have hm2 := hm.2
        rcases hm2 with h1 | h1
        · exact absurd h1 (by decide)
        · have h1 : ((queue s 0).length : Int) < 1 := h1
          exact Or.inr (by omega)
      · rw [if_neg e] at l2
        rw [l2]; exact hq
    · obtain ⟨b', q', z', x', h', l1, l2⟩ := step1 H (by omega) hc
      refine ⟨_, _, _, _, _, _, _, _, h', ha, by omega, ?_⟩
      rcases hq with h | h
      · exact Or.inl (by omega)
      · exact Or.inr (by omega)

theorem busy {s : State} {a b p q : Nat} {r y z x : Int} (H : CI s a b p q r y z x) (hs : s.2.2.2 ≤ 900) : mayP nC s capC 0 = true ∨ mayP nC s capC 1 = true := by
  obtain ⟨b1, b2⟩ := bnd H hs
  have w0 := want0 H
  have w1 := want1 H
  have q3 := H.q3
  have l0 : (sent s 0).length = a := by rw [H.s0]; simp
  have l1 : (sent s 1).length = b := by rw [H.s1]; simp
  by_cases e : p = 0
  · rw [if_pos e] at w0
    have hlk : linkOf nC s 0 = ((0 : Nat) : Int) := by unfold linkOf; rw [w0]; rfl
    by_cases hq : (queue s 0).length = 0
    · refine Or.inl ?_
      have hc : canP nC s 0 = true := by
        unfold canP
        rw [w0, hlk, if_neg (by simp only; omega), if_neg (by simp), if_pos rfl]
        exact decide_eq_true (show ((sent s 0).length : Int) < 400 by omega)
      unfold mayP
      rw [hc, w0, hlk]
      have : decide (((s.2.1.getD ((0 : Nat) : Int).toNat []).length : Int) < capC.getD ((0 : Nat) : Int).toNat 0) = true := decide_eq_true (show ((queue s 0).length : Int) < 1 by omega)
      rw [this]; simp
    · refine Or.inr ?_
      obtain rfl | rfl | rfl | rfl : q = 0 ∨ q = 1 ∨ q = 2 ∨ q = 3 := by omega
      · rw [if_pos rfl] at w1
        have hl1 : linkOf nC s 1 = ((0 : Nat) : Int) := by unfold linkOf; rw [w1]; rfl
        have hc : canP nC s 1 = true := by
          unfold canP
          rw [w1, hl1, if_neg (by simp only; omega), if_pos rfl]
          exact decide_eq_true (show (0 : Int) < ((queue s 0).length : Int) by omega)
        unfold mayP
        rw [hc, w1]; simp
      · rw [if_neg (by omega), if_neg (by omega)] at w1
        have hc : canP nC s 1 = true := by
          unfold canP
          rw [w1, if_neg (by simp only; omega), if_neg (by simp), if_neg (by simp)]
        unfold mayP
        rw [hc, w1]; simp
      · rw [if_neg (by omega), if_pos rfl] at w1
        have hl1 : linkOf nC s 1 = ((1 : Nat) : Int) := by unfold linkOf; rw [w1]; rfl
        have hc : canP nC s 1 = true := by
          unfold canP
          rw [w1, hl1, if_neg (by simp only; omega), if_neg (by simp), if_pos rfl]
          exact decide_eq_true (show ((sent s 1).length : Int) < 400 by omega)
        unfold mayP
        rw [hc, w1, hl1]
        have : decide ((nC.2.getD ((1 : Nat) : Int).toNat zLink).2.2.1 < 0) = true := by decide
        rw [this]; simp
      · rw [if_neg (by omega), if_neg (by omega)] at w1
        have hc : canP nC s 1 = true := by
          unfold canP
          rw [w1, if_neg (by simp only; omega), if_neg (by simp), if_neg (by simp)]
        unfold mayP
        rw [hc, w1]; simp
  · rw [if_neg e] at w0
    refine Or.inl ?_
    have hc : canP nC s 0 = true := by
      unfold canP
      rw [w0, if_neg (by simp only; omega), if_neg (by simp), if_neg (by simp)]
    unfold mayP
    rw [hc, w0]; simp

theorem may_any {s : State} (h : mayP nC s capC 0 = true ∨ mayP nC s capC 1 = true) : anyMay nC s capC = true ∧ anyCan nC s = true := by
  unfold anyMay anyCan
  rcases h with h | h
  · exact ⟨List.any_eq_true.2 ⟨0, List.mem_range.2 (by decide), h⟩, List.any_eq_true.2 ⟨0, List.mem_range.2 (by decide), may_can h⟩⟩
  · exact ⟨List.any_eq_true.2 ⟨1, List.mem_range.2 (by decide), h⟩, List.any_eq_true.2 ⟨1, List.mem_range.2 (by decide), may_can h⟩⟩

/-- 600 steps with capacities -/
theorem bounded_run {s : State} {a b p q : Nat} {r y z x : Int} (H : CI s a b p q r y z x) (hs : s.2.2.2 ≤ 300) :
    OkSt nC (runB nC s capC 600).1 ∧ (runB nC s capC 600).2 = 3 ∧ (sent s 1).length < (sent (runB nC s capC 600).1 1).length := by
  obtain ⟨m, S⟩ := runT_steps (nt := nC) (c := some capC) (most := 600) H.ok
  have hm := runT_most (nt := nC) (c := some capC) (most := 600) H.ok
  have he := runT_end (nt := nC) (c := some capC) (most := 600) H.ok
  have h0 := H.ok.steps
  have hm : (runT nC (some capC) 600 s).2.2.2 - s.2.2.2 ≤ 600 := by
    have : max (0 : Int) 600 = 600 := by decide
    rw [this] at hm; exact hm
  obtain ⟨a', b', p', q', r', y', z', x', H', ha, hb, hq⟩ := may_inv H S (by omega)
  unfold runB
  simp only
  generalize runT nC (some capC) 600 s = t at *
  have hbz := busy H' (by omega)
  obtain ⟨m1, m2⟩ := may_any hbz
  have hst : s.2.2.2 + 600 ≤ t.2.2.2 := by
    have : (List.range nC.1.length).any (mayO nC (some capC) t) = true := m1
    by_cases hlt : t.2.2.2 - s.2.2.2 < 600
    · exact absurd ⟨this, hlt⟩ he
    · omega
  refine ⟨H'.ok, by unfold bndW; rw [if_pos m2, if_pos m1], ?_⟩
  have l1 : (sent s 1).length = b := by rw [H.s1]; simp
  have l2 : (sent t 1).length = b' := by rw [H'.s1]; simp
  rw [l1, l2]
  refine Nat.lt_of_le_of_ne hb (fun e => ?_)
  subst e
  have e1 := H.st
  have e2 := H'.st
  unfold tt at e1 e2
  have t1 := tp_ge a p
  have t2 := tq_ge b q
  have t3 := tp_le a' p' H'.p3
  have t4 := tq_le b q' H'.q3
  have k1 : (queue s 0).length = a - co q b := by rw [H.q0, H.s0]; simp
  have k2 : (queue t 0).length = a' - co q' b := by rw [H'.q0, H'.s0]; simp
  have c1 : b ≤ co q b := by unfold co; split <;> omega
  have c2 : co q' b ≤ b + 1 := by unfold co; split <;> omega
  have c3 := H.le
  rw [k1, k2] at hq
  omega

theorem makeSchedO_W {n : Nat} {code : List Int} {nt : Network} (hb : code.length ≤ 1048576) (o : OkN nt) (hn : 1048576 < n) : W (makeSchedO.f n code nt 300) (fun r => r.1.length ≤ 300) := by
  have hp := o.progs
  unfold makeSchedO.f
  rw [W_bind]
  refine W_and (curNew_W hb hn) (fun r1 c1 => ?_)
  rw [W_bind]
  refine W_and (below_W hb c1) (fun r2 ⟨⟨a0, a1, _⟩, c2⟩ => ?_)
  have a1 := a1 (by omega)
  refine W_iter (fun x => 0 ≤ x.1 ∧ CurR code (x.2.1, (x.2.2.1, (x.2.2.2.1, ()))) ∧ (x.2.2.2.2.1.length : Int) + x.1 ≤ 300) (fun x => x.1.toNat) (fun ih x hx hS => ?_) ⟨a0, c2, by show ((0 : Nat) : Int) + r2.1 ≤ 300; omega⟩ (by show r2.1.toNat < n; omega)
  obtain ⟨k, cb, ci, ch, l, ⟨⟩⟩ := x
  obtain ⟨k0, k1, k2⟩ := hx
  simp only at k0 k1 k2
  by_cases hk : 0 < k
  · simp only [br_yes hk]
    rw [W_bind]
    refine W_and (below_W (c := (cb, (ci, (ch, ())))) hb k1) (fun r24 ⟨_, c24⟩ => ?_)
    rw [small_chk (by simp; omega), w64_id (n := k - 1) (by omega) (by omega)]
    exact hS _ ⟨by simp only; omega, c24, by simp; omega⟩ (by simp only; omega)
  · simp only [br_no hk]
    rw [W_some]
    show l.length ≤ 300
    omega

theorem law_true (code : List Int) : ∃ n, law.f n code = some (true, ()) := by
  refine ⟨1048577, ?_⟩
  have hn : 1048576 < 1048577 := by omega
  unfold law.f
  by_cases hl : code.length ≤ 1048576
  rotate_left
  · rw [br_yes (by omega)]
  rw [br_no (show ¬ (1048576 < (code.length : Int)) by omega)]
  refine W_eq.1 ?_
  rw [show iSampleProgram.f 1048577 [99, 111, 117, 110, 116] = some (cP, ()) from rfl, bind_unit, show iSampleProgram.f 1048577 [115, 117, 109, 115] = some (sP, ()) from rfl, bind_unit]
  have en : (([cP, sP], [(0, (0, (1, (0, [])))), (1, (0, ((-1), (0, []))))]) : Network) = nC := rfl
  simp only [en]
  rw [iLeast_spec smallNC okNC hn, bind_unit, least_none, iStartState_spec smallNC okNC hn, bind_unit, W_bind]
  refine W_and (makeSchedO_W hl okNC hn) (fun r5 h5 => ?_)
  obtain ⟨l, ⟨⟩⟩ := r5
  have h5 : l.length ≤ 300 := h5
  have hst := small_of_ok (start_ok okNC)
  simp only
  rw [iRunSchedule_spec smallNC hst (by omega) hn, bind_unit]
  unfold runSchedule
  rw [if_pos (okSt_true (start_ok okNC))]
  obtain ⟨⟨a, b, p, q, r, y, z, x, H⟩, hsl⟩ := sch_inv l (0, start nC) ⟨_, _, _, _, _, _, _, _, ci_start⟩ (by show (0 : Int) + l.length ≤ 900; omega)
  have hs : (schP nC (start nC) l).2.2.2.2 ≤ 300 := by
    have : (schP nC (start nC) l).2.2.2.2 ≤ (0 : Int) + l.length := hsl
    omega
  have H : CI (schP nC (start nC) l).2 a b p q r y z x := H
  generalize schP nC (start nC) l = v at *
  obtain ⟨made, s⟩ := v
  simp only at H hs
  have sms := small_of_ok H.ok
  obtain ⟨b1, b2⟩ := bnd H (by omega)
  have l0 : (sent s 0).length = a := by rw [H.s0]; simp
  have l1 : (sent s 1).length = b := by rw [H.s1]; simp
  have hle := H.le
  have hba : b ≤ a := by unfold co at hle; split at hle <;> omega
  have ns : s.2.2.1.length = 2 := H.ok.ns
  simp only [br_false]
  rw [sIsState_spec smallNC sms hn, okSt_true H.ok]
  simp only [bind_unit, Option.bind_some, Bool.not_true, cut_inr, br_false]
  rw [chk_true (by omega)]
  have g0 : s.2.2.1.getD 0 [] = sent s 0 := rfl
  have g1 : s.2.2.1.getD 1 [] = sent s 1 := rfl
  simp only [g0, g1]
  refine W_up (fun i (_ : Unit) => (sm i, ((i : Int), ()))) a (fun _ _ => True) (s0 := ()) rfl trivial (by omega) (fun ih _ _ => ?_) (fun ih i _ hi _ hS => ?_)
  rotate_left
  · have e0 : (sent s 0).getD i 0 = (i : Int) := by rw [H.s0, getD_lt (by simpa using hi)]; simp
    have sb := sm_le i
    have sb1 : sm i + (i : Int) = sm (i + 1) := rfl
    simp only [br_yes (show (i : Int) < ((sent s 0).length : Int) by omega), Int.toNat_natCast, e0, decide_true, Bool.not_true, br_false]
    rw [chk_true (by omega), chk_true (by omega), w64_id (n := sm i + (i : Int)) (by omega) (by omega), sb1, w64_succ (by omega)]
    by_cases hib : i < b
    · have e1 : (sent s 1).getD i 0 = sm (i + 1) := by rw [H.s1, getD_lt (by simpa using hib)]; simp
      rw [br_yes (by omega), chk_true (by omega), chk_true (by omega)]
      simp only [Int.toNat_natCast, e1, decide_true, Bool.not_true, br_false]
      exact hS () trivial
    · rw [br_no (by omega)]
      exact hS () trivial
  · simp only [br_no (show ¬ (a : Int) < ((sent s 0).length : Int) by omega)]
    have ec : (([1, 0] : List Int)) = capC := rfl
    rw [ec, iRunBounded_spec smallNC sms (by decide) hn, bind_unit]
    have er : runBounded nC s capC 600 = runB nC s capC 600 := by
      unfold runBounded
      rw [if_pos (by rw [okSt_true H.ok]; decide)]
    obtain ⟨o1, o2, o3⟩ := bounded_run H hs
    rw [er]
    generalize runB nC s capC 600 = w at *
    obtain ⟨t, why⟩ := w
    simp only at o1 o2 o3
    have smt := small_of_ok o1
    have nt : t.2.2.1.length = 2 := o1.ns
    have g2 : t.2.2.1.getD 1 [] = sent t 1 := rfl
    simp only [g2]
    rw [chk_true (by omega), chk_true (by omega), br_yes (by omega), sIsState_spec smallNC smt hn, okSt_true o1]
    simp only [bind_unit, Option.bind_some, br_true]
    rw [br_yes o2, chk_true (by omega), chk_true (by omega), decide_eq_true (by omega)]
    exact W_some.2 rfl
end Go.AmT
