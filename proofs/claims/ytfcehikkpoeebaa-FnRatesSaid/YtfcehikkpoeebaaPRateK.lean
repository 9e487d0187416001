/- Firings as runs of processes, in plain Lean. -/
import Derived.Test.YtfcehikkpoeebaaPNetOf
import Derived.Test.YtfcehikkpoeebaaPRunS
import Derived.Test.YtfcehikkpoeebaaPStart
import Derived.Test.YtfcehikkpoeebaaPSchR
namespace Go.AmT
open Go Go.Am
set_option linter.unusedVariables false
set_option linter.unusedSimpArgs false

/-! ### the instructions of a node -/
section
variable {β : Type} [BEq β] [LawfulBEq β] {f g : Edge → Int} {h : Int → β} {k : Int}
theorem rdA_count_lt (hinj : ∀ a b, h a = h b → a = b) : ∀ {es : List Edge} {c c0 : Int}, c0 < c → (rdA f g h k c es).count (h c0) = 0
  | [], c, c0, _ => rfl
  | x :: es, c, c0, hc => by
    simp only [rdA]
    split
    · rw [List.count_append, rdA_count_lt hinj (by omega), List.count_eq_zero.2]
      intro hm
      have := List.eq_of_mem_replicate hm
      have := hinj _ _ this
      omega
    · exact rdA_count_lt hinj hc
theorem rdA_count (hinj : ∀ a b, h a = h b → a = b) : ∀ {es : List Edge} {c : Int} {j : Nat} (hj : j < es.length), f es[j] = k → (rdA f g h k c es).count (h (c + cnt f k (es.take j))) = (g es[j]).toNat
  | x :: es, c, 0, _, hf => by
    simp only [List.getElem_cons_zero] at hf
    simp only [rdA, hf, if_true, List.take_zero]
    rw [show c + cnt f k [] = c by simp [cnt], List.count_append, rdA_count_lt hinj (by omega), List.count_replicate_self]
    simp
  | x :: es, c, j + 1, hj, hf => by
    simp only [List.length_cons] at hj
    simp only [List.getElem_cons_succ] at hf
    simp only [rdA, List.take_succ_cons, cnt_cons, List.getElem_cons_succ]
    by_cases hx : f x = k
    · simp only [hx, if_true]
      have ih := rdA_count hinj (es := es) (c := c + 1) (j := j) (by omega) hf
      rw [List.count_append, show c + (cnt f k (es.take j) + 1) = c + 1 + cnt f k (es.take j) by omega, ih, List.count_eq_zero.2]
      · omega
      · intro hm
        have := List.eq_of_mem_replicate hm
        have := hinj _ _ this
        have := (cnt_le (f := f) (k := k) (es := es.take j)).1
        omega
    · simp only [hx, if_false]
      have ih := rdA_count hinj (es := es) (c := c) (j := j) (by omega) hf
      rw [show c + (cnt f k (es.take j) + 0) = c + cnt f k (es.take j) by omega, ih]
end

def rI (p : Int) : Instr := (1, (0, (p, 0)))
def wI (p : Int) : Instr := (2, (0, (p, 0)))
def jI : Instr := (8, (0, (0, 0)))
def codeK (g : Graph) (k : Int) : List Instr := (progK g k).2.2
def rc (g : Graph) (k : Int) (c : Nat) (p : Int) : Int := (((codeK g k).take c).count (rI p) : Nat)
def wc (g : Graph) (k : Int) (c : Nat) (p : Int) : Int := (((codeK g k).take c).count (wI p) : Nat)
def tot (g : Graph) (k : Int) : Nat := (rdT k g.2).length + (rdF k g.2).length

theorem codeK_eq (g : Graph) (k : Int) : codeK g k = rdT k g.2 ++ rdF k g.2 ++ [jI] := rfl
theorem codeK_len (g : Graph) (k : Int) : (codeK g k).length = tot g k + 1 := by rw [codeK_eq]; unfold tot; simp; omega
theorem rdT_mem {k : Int} {es : List Edge} {x : Instr} (h : x ∈ rdT k es) : ∃ p, x = rI p := rdA_mem h
theorem rdF_mem {k : Int} {es : List Edge} {x : Instr} (h : x ∈ rdF k es) : ∃ p, x = wI p := rdA_mem h
theorem codeK_at {g : Graph} {k : Int} {c : Nat} (hc : c < tot g k) : ∃ p, (codeK g k).getD c zInstr = rI p ∨ (codeK g k).getD c zInstr = wI p := by
  have hl := codeK_len g k
  rw [getD_lt (by omega)]
  have : (codeK g k)[c]'(by omega) = (rdT k g.2 ++ rdF k g.2)[c]'(by rw [List.length_append]; exact hc) := by
    simp only [codeK_eq]
    rw [List.getElem_append_left]
  rw [this]
  have hm := List.getElem_mem (l := rdT k g.2 ++ rdF k g.2) (n := c) (by rw [List.length_append]; exact hc)
  rcases List.mem_append.1 hm with h | h
  · obtain ⟨p, e⟩ := rdT_mem h; exact ⟨p, Or.inl e⟩
  · obtain ⟨p, e⟩ := rdF_mem h; exact ⟨p, Or.inr e⟩
theorem codeK_last {g : Graph} {k : Int} : (codeK g k).getD (tot g k) zInstr = jI := by
  have hl := codeK_len g k
  rw [codeK_eq, List.getD_eq_getElem?_getD, List.getElem?_append_right (by unfold tot; simp)]
  unfold tot; simp

theorem rc_zero {g : Graph} {k p : Int} : rc g k 0 p = 0 := by simp [rc]
theorem wc_zero {g : Graph} {k p : Int} : wc g k 0 p = 0 := by simp [wc]
theorem rc_succ {g : Graph} {k p : Int} {c : Nat} (hc : c < (codeK g k).length) : rc g k (c + 1) p = rc g k c p + (if (codeK g k).getD c zInstr = rI p then 1 else 0) := by
  unfold rc
  rw [List.take_succ_eq_append_getElem hc, List.count_append, List.count_singleton, getD_lt hc]
  by_cases e : (codeK g k)[c] = rI p
  · rw [if_pos e, if_pos (by simpa using e)]; omega
  · rw [if_neg e, if_neg (by simpa using e)]; omega
theorem wc_succ {g : Graph} {k p : Int} {c : Nat} (hc : c < (codeK g k).length) : wc g k (c + 1) p = wc g k c p + (if (codeK g k).getD c zInstr = wI p then 1 else 0) := by
  unfold wc
  rw [List.take_succ_eq_append_getElem hc, List.count_append, List.count_singleton, getD_lt hc]
  by_cases e : (codeK g k)[c] = wI p
  · rw [if_pos e, if_pos (by simpa using e)]; omega
  · rw [if_neg e, if_neg (by simpa using e)]; omega
theorem rc_le {g : Graph} {k p : Int} {c : Nat} : 0 ≤ rc g k c p ∧ rc g k c p ≤ ((codeK g k).count (rI p) : Nat) := by
  unfold rc
  have := (List.take_sublist c (codeK g k)).count_le (a := rI p)
  omega
theorem wc_le {g : Graph} {k p : Int} {c : Nat} : 0 ≤ wc g k c p ∧ wc g k c p ≤ ((codeK g k).count (wI p) : Nat) := by
  unfold wc
  have := (List.take_sublist c (codeK g k)).count_le (a := wI p)
  omega

/-- the ports of an edge -/
def inOf (g : Graph) (j : Nat) : Int := cnt eT (g.2.getD j zEdge).2.1 (g.2.take j)
def outOfE (g : Graph) (j : Nat) : Int := cnt eF (g.2.getD j zEdge).1 (g.2.take j)

theorem count_R {g : Graph} {j : Nat} (hj : j < g.2.length) : (codeK g (g.2.getD j zEdge).2.1).count (rI (inOf g j)) = (g.2.getD j zEdge).2.2.2.1.toNat := by
  rw [codeK_eq, List.count_append, List.count_append]
  have a : (rdT (g.2.getD j zEdge).2.1 g.2).count (rI (inOf g j)) = (g.2.getD j zEdge).2.2.2.1.toNat := by
    have := rdA_count (f := eT) (g := eTk) (h := fun c => ((1, 0, c, 0) : Instr)) (k := (g.2.getD j zEdge).2.1) (fun a b h => by simpa using h) (es := g.2) (c := 0) (j := j) hj (by rw [getD_lt hj]; rfl)
    rw [Int.zero_add] at this
    refine Eq.trans this ?_
    rw [getD_lt hj]; rfl
  have b : (rdF (g.2.getD j zEdge).2.1 g.2).count (rI (inOf g j)) = 0 := by
    rw [List.count_eq_zero]; intro h; obtain ⟨p, e⟩ := rdF_mem h; simp [rI, wI] at e
  rw [a, b, List.count_eq_zero.2 (by simp [rI, jI])]
  omega
theorem count_W {g : Graph} {j : Nat} (hj : j < g.2.length) : (codeK g (g.2.getD j zEdge).1).count (wI (outOfE g j)) = (g.2.getD j zEdge).2.2.1.toNat := by
  rw [codeK_eq, List.count_append, List.count_append]
  have a : (rdF (g.2.getD j zEdge).1 g.2).count (wI (outOfE g j)) = (g.2.getD j zEdge).2.2.1.toNat := by
    have := rdA_count (f := eF) (g := eMk) (h := fun c => ((2, 0, c, 0) : Instr)) (k := (g.2.getD j zEdge).1) (fun a b h => by simpa using h) (es := g.2) (c := 0) (j := j) hj (by rw [getD_lt hj]; rfl)
    rw [Int.zero_add] at this
    refine Eq.trans this ?_
    rw [getD_lt hj]; rfl
  have b : (rdT (g.2.getD j zEdge).1 g.2).count (wI (outOfE g j)) = 0 := by
    rw [List.count_eq_zero]; intro h; obtain ⟨p, e⟩ := rdT_mem h; simp [rI, wI] at e
  rw [a, b, List.count_eq_zero.2 (by simp [wI, jI])]
  omega

theorem cnt_lt {f : Edge → Int} {k : Int} {es : List Edge} {j j' : Nat} (hj : j < j') (hj' : j' ≤ es.length) (hf : f (es.getD j zEdge) = k) : cnt f k (es.take j) < cnt f k (es.take j') := by
  have h1 : es.take (j + 1) = es.take j ++ [es.getD j zEdge] := by rw [getD_lt (by omega)]; exact List.take_succ_eq_append_getElem (by omega)
  have h2 := cnt_snoc (f := f) (k := k) (es := es.take j) (e := es.getD j zEdge)
  rw [← h1, if_pos hf] at h2
  have h3 : es.take (j + 1) = (es.take j').take (j + 1) := by rw [List.take_take, show min (j + 1) j' = j + 1 by omega]
  have h4 : cnt f k (es.take (j + 1)) ≤ cnt f k (es.take j') := by
    unfold cnt
    have := (List.take_sublist (j + 1) (es.take j')).countP_le (p := fun e => decide (f e = k))
    rw [← h3] at this
    omega
  omega
theorem uniqR {g : Graph} {j j' : Nat} (hj : j < g.2.length) (hj' : j' < g.2.length) (e : (g.2.getD j zEdge).2.1 = (g.2.getD j' zEdge).2.1) (e' : inOf g j = inOf g j') : j = j' := by
  unfold inOf at e'
  rw [← e] at e'
  rcases Nat.lt_trichotomy j j' with h | h | h
  · have := cnt_lt (f := eT) (k := (g.2.getD j zEdge).2.1) h (by omega : j' ≤ g.2.length) rfl; omega
  · exact h
  · have := cnt_lt (f := eT) (k := (g.2.getD j zEdge).2.1) h (by omega : j ≤ g.2.length) e.symm; omega
theorem uniqW {g : Graph} {j j' : Nat} (hj : j < g.2.length) (hj' : j' < g.2.length) (e : (g.2.getD j zEdge).1 = (g.2.getD j' zEdge).1) (e' : outOfE g j = outOfE g j') : j = j' := by
  unfold outOfE at e'
  rw [← e] at e'
  rcases Nat.lt_trichotomy j j' with h | h | h
  · have := cnt_lt (f := eF) (k := (g.2.getD j zEdge).1) h (by omega : j' ≤ g.2.length) rfl; omega
  · exact h
  · have := cnt_lt (f := eF) (k := (g.2.getD j zEdge).1) h (by omega : j ≤ g.2.length) e.symm; omega

/-! ### a process within a firing -/
structure Mid (g : Graph) (tk : List Int) (snt : Nat → Int) (st0 : Int) (k c : Nat) (s : State) : Prop where
  ok : OkSt (netG g) s
  act : ∀ i, i < g.1.toNat → actor s i = (if i = k then (c : Int) else 0, [0, 0, 0, 0])
  que : ∀ j, j < g.2.length → ((s.2.1.getD j []).length : Int) = tk.getD j 0 - (if (g.2.getD j zEdge).2.1 = (k : Int) then rc g k c (inOf g j) else 0) + (if (g.2.getD j zEdge).1 = (k : Int) then wc g k c (outOfE g j) else 0)
  zer : ∀ j, j < g.2.length → ∀ x ∈ s.2.1.getD j [], x = 0
  sen : ∀ j, j < g.2.length → ((s.2.2.1.getD j []).length : Int) = snt j + (if (g.2.getD j zEdge).1 = (k : Int) then wc g k c (outOfE g j) else 0)
  stp : s.2.2.2 = st0 + c

/-- all processes at their starts -/
structure Bas (g : Graph) (tk : List Int) (snt : Nat → Int) (st0 : Int) (s : State) : Prop where
  ok : OkSt (netG g) s
  act : ∀ i, i < g.1.toNat → actor s i = (0, [0, 0, 0, 0])
  que : ∀ j, j < g.2.length → ((s.2.1.getD j []).length : Int) = tk.getD j 0
  zer : ∀ j, j < g.2.length → ∀ x ∈ s.2.1.getD j [], x = 0
  sen : ∀ j, j < g.2.length → ((s.2.2.1.getD j []).length : Int) = snt j
  stp : s.2.2.2 = st0

theorem Bas.mid {g : Graph} {tk : List Int} {snt : Nat → Int} {st0 : Int} {s : State} (h : Bas g tk snt st0 s) (k : Nat) : Mid g tk snt st0 k 0 s := by
  refine ⟨h.ok, fun i hi => ?_, fun j hj => ?_, h.zer, fun j hj => ?_, by have := h.stp; omega⟩
  · rw [h.act i hi]; split <;> rfl
  · rw [rc_zero, wc_zero, h.que j hj]; split <;> split <;> omega
  · rw [wc_zero, h.sen j hj]; split <;> omega

theorem netG_len {g : Graph} : (netG g).1.length = g.1.toNat ∧ (netG g).2.length = g.2.length := by simp [netG]
theorem netG_prog {g : Graph} {k : Nat} (hk : k < g.1.toNat) : prog (netG g) k = progK g (k : Int) := by
  unfold prog
  rw [getD_lt (by rw [netG_len.1]; exact hk)]
  simp [netG]
theorem netG_link {g : Graph} {j : Nat} (hj : j < (netG g).2.length) : (netG g).2[j] = lnkAt g j := by simp [netG]

section
variable {g : Graph} {tk : List Int} {snt : Nat → Int} {st0 : Int} {k c : Nat} {s : State}

theorem Mid.want (h : Mid g tk snt st0 k c s) (hk : k < g.1.toNat) (hc : c < (codeK g k).length) : actor s k = ((c : Int), [0, 0, 0, 0]) ∧ instrP (prog (netG g) k) (actor s k) = (codeK g k).getD c zInstr := by
  have a := h.act k hk
  rw [if_pos rfl] at a
  refine ⟨a, ?_⟩
  unfold instrP
  rw [netG_prog hk, a, Int.toNat_natCast]; rfl

theorem Mid.read (h : Mid g tk snt st0 k c s) (hk : k < g.1.toNat) (hc : c < (codeK g k).length) {p : Int} (hx : (codeK g k).getD c zInstr = rI p)
    (hf : ∀ j, j < g.2.length → (g.2.getD j zEdge).2.1 = (k : Int) → (g.2.getD j zEdge).2.2.2.1 ≤ tk.getD j 0) (hpos : ∀ j, j < g.2.length → 0 ≤ (g.2.getD j zEdge).2.2.2.1) (hs : st0 + c < 20000) :
    canP (netG g) s k = true ∧ Mid g tk snt st0 k (c + 1) (stepP (netG g) s k) := by
  obtain ⟨a, i⟩ := h.want hk hc
  rw [hx] at i
  have hkl : k < (netG g).1.length := by rw [netG_len.1]; exact hk
  have hw : wantOf (netG g) s k = (2, p) := by
    have hi := i
    unfold instrP at hi
    unfold wantOf wantP
    rw [netG_prog hk, a] at *
    have hl : ((progK g (k : Int)).2.2.length : Int) = ((codeK g k).length : Int) := rfl
    rw [if_neg (by simp only; omega), hi]
    simp [rI]
  obtain ⟨j, hj, e1, e2, e3⟩ := linkOf_to h.ok hkl (by rw [hw])
  rw [netG_link] at e2 e3
  have hj' : j < g.2.length := by rw [← netG_len.2]; exact hj
  have e2 : (g.2.getD j zEdge).2.1 = (k : Int) := e2
  have e3 : inOf g j = p := by rw [hw] at e3; exact e3
  have q := h.que j hj'
  rw [if_pos e2] at q
  have r1 := rc_succ (g := g) (k := k) (p := p) hc
  rw [if_pos hx] at r1
  have cr := count_R hj'
  rw [e2, e3] at cr
  have r2 := rc_le (g := g) (k := k) (p := p) (c := c + 1)
  have f := hf j hj' e2
  have f0 := hpos j hj'
  have w0 := wc_le (g := g) (k := k) (p := outOfE g j) (c := c)
  rw [e3] at q
  have qpos : 0 < ((s.2.1.getD j []).length : Int) := by
    split at q <;> omega
  have can : canP (netG g) s k = true := by
    unfold canP
    rw [if_neg (by rw [hw]; simp only; have := h.stp; omega), if_pos (by rw [hw]), e1, Int.toNat_natCast]
    exact decide_eq_true qpos
  have stp := stepP_ok h.ok hkl can
  have tk0 : tokenOf (netG g) s k = 0 := by
    unfold tokenOf
    rw [if_pos (by rw [hw]), e1, Int.toNat_natCast, getD_lt (by omega)]
    exact h.zer j hj' _ (List.getElem_mem _)
  have nq := h.ok.nq
  rw [netG_len.2] at nq
  have na := h.ok.na
  rw [netG_len.1] at na
  refine ⟨can, stp, fun i' hi' => ?_, fun j' hj2 => ?_, fun j' hj2 x hx' => ?_, fun j' hj2 => ?_, ?_⟩
  · show (s.1.set k (stepA (prog (netG g) k) (actor s k) (tokenOf (netG g) s k))).getD i' zActor = _
    rw [List.getD_eq_getElem?_getD, List.getElem?_set]
    by_cases e : k = i'
    · subst e
      rw [if_pos rfl, if_pos (by omega), if_pos rfl]
      unfold stepA
      rw [i, tk0, a]
      rfl
    · rw [if_neg e, if_neg (fun h => e h.symm), ← List.getD_eq_getElem?_getD]
      have := h.act i' hi'
      rw [if_neg (fun h => e h.symm)] at this
      exact this
  · have q' := h.que j' hj2
    have w1 := wc_succ (g := g) (k := k) (p := outOfE g j') hc
    rw [if_neg (by rw [hx]; simp [rI, wI])] at w1
    have gq : ((stepP (netG g) s k).2.1.getD j' []) = if j' = j then (s.2.1.getD j []).drop 1 else s.2.1.getD j' [] := by
      unfold stepP
      rw [if_pos (show (wantOf (netG g) s k).1 = 2 by rw [hw])]
      simp only
      rw [e1, Int.toNat_natCast, List.getD_eq_getElem?_getD, List.getElem?_set]
      by_cases e : j = j'
      · subst e; rw [if_pos rfl, if_pos (by omega), if_pos rfl]; rfl
      · rw [if_neg e, if_neg (fun h => e h.symm), ← List.getD_eq_getElem?_getD]
    rw [gq, w1]
    by_cases e : j' = j
    · subst e
      rw [if_pos rfl, if_pos e2, e3, r1, List.length_drop]
      rw [if_pos e2, e3] at q'
      split <;> rename_i hh <;> first | rw [if_pos hh] at q' | rw [if_neg hh] at q'
      all_goals omega
    · rw [if_neg e, q']
      have rn : (g.2.getD j' zEdge).2.1 = (k : Int) → rc g k (c + 1) (inOf g j') = rc g k c (inOf g j') := by
        intro h2
        rw [rc_succ hc, if_neg (fun h3 => e (uniqR hj2 hj' (by rw [h2, e2]) (by rw [hx] at h3; rw [e3]; simpa [rI] using h3.symm)))]
        omega
      by_cases h2 : (g.2.getD j' zEdge).2.1 = (k : Int)
      · rw [if_pos h2, if_pos h2, rn h2]; split <;> omega
      · rw [if_neg h2, if_neg h2]; split <;> omega
  · have gq : ((stepP (netG g) s k).2.1.getD j' []) = if j' = j then (s.2.1.getD j []).drop 1 else s.2.1.getD j' [] := by
      unfold stepP
      rw [if_pos (show (wantOf (netG g) s k).1 = 2 by rw [hw])]
      simp only
      rw [e1, Int.toNat_natCast, List.getD_eq_getElem?_getD, List.getElem?_set]
      by_cases e : j = j'
      · subst e; rw [if_pos rfl, if_pos (by omega), if_pos rfl]; rfl
      · rw [if_neg e, if_neg (fun h => e h.symm), ← List.getD_eq_getElem?_getD]
    rw [gq] at hx'
    by_cases e : j' = j
    · rw [if_pos e] at hx'; exact h.zer j hj' x (List.mem_of_mem_drop hx')
    · rw [if_neg e] at hx'; exact h.zer j' hj2 x hx'
  · have w1 := wc_succ (g := g) (k := k) (p := outOfE g j') hc
    rw [if_neg (by rw [hx]; simp [rI, wI])] at w1
    have gs : (stepP (netG g) s k).2.2.1 = s.2.2.1 := by
      unfold stepP
      simp only
      rw [if_neg (by rw [hw]; simp)]
    rw [gs, w1, h.sen j' hj2]; split <;> omega
  · show s.2.2.2 + 1 = _
    have := h.stp; omega

theorem Mid.write (h : Mid g tk snt st0 k c s) (hk : k < g.1.toNat) (hc : c < (codeK g k).length) {p : Int} (hx : (codeK g k).getD c zInstr = wI p)
    (hf : ∀ j, j < g.2.length → (g.2.getD j zEdge).1 = (k : Int) → snt j + (g.2.getD j zEdge).2.2.1 ≤ 400) (hpos : ∀ j, j < g.2.length → 0 ≤ (g.2.getD j zEdge).2.2.1) (hs : st0 + c < 20000) :
    canP (netG g) s k = true ∧ Mid g tk snt st0 k (c + 1) (stepP (netG g) s k) := by
  obtain ⟨a, i⟩ := h.want hk hc
  rw [hx] at i
  have hkl : k < (netG g).1.length := by rw [netG_len.1]; exact hk
  have hw : wantOf (netG g) s k = (3, p) := by
    have hi := i
    unfold instrP at hi
    unfold wantOf wantP
    rw [netG_prog hk, a] at *
    have hl : ((progK g (k : Int)).2.2.length : Int) = ((codeK g k).length : Int) := rfl
    rw [if_neg (by simp only; omega), hi]
    simp [wI]
  obtain ⟨j, hj, e1, e2, e3⟩ := linkOf_from h.ok hkl (by rw [hw])
  rw [netG_link] at e2 e3
  have hj' : j < g.2.length := by rw [← netG_len.2]; exact hj
  have e2 : (g.2.getD j zEdge).1 = (k : Int) := e2
  have e3 : outOfE g j = p := by rw [hw] at e3; exact e3
  have sn := h.sen j hj'
  rw [if_pos e2, e3] at sn
  have w1 := wc_succ (g := g) (k := k) (p := p) hc
  rw [if_pos hx] at w1
  have cw := count_W hj'
  rw [e2, e3] at cw
  have w2 := wc_le (g := g) (k := k) (p := p) (c := c + 1)
  have f := hf j hj' e2
  have f0 := hpos j hj'
  have can : canP (netG g) s k = true := by
    unfold canP
    rw [if_neg (by rw [hw]; simp only; have := h.stp; omega), if_neg (by rw [hw]; simp), if_pos (by rw [hw]), e1, Int.toNat_natCast]
    exact decide_eq_true (by omega)
  have stp := stepP_ok h.ok hkl can
  have ot0 : outOf (netG g) s k = 0 := by
    unfold outOf
    rw [i, a]; rfl
  have nq := h.ok.nq
  rw [netG_len.2] at nq
  have ns := h.ok.ns
  rw [netG_len.2] at ns
  have na := h.ok.na
  rw [netG_len.1] at na
  have gq : ∀ j', ((stepP (netG g) s k).2.1.getD j' []) = if j' = j then s.2.1.getD j [] ++ [0] else s.2.1.getD j' [] := by
    intro j'
    unfold stepP
    rw [if_neg (show ¬ (wantOf (netG g) s k).1 = 2 by rw [hw]; simp), if_pos (show (wantOf (netG g) s k).1 = 3 by rw [hw])]
    simp only
    rw [e1, Int.toNat_natCast, ot0, List.getD_eq_getElem?_getD, List.getElem?_set]
    by_cases e : j = j'
    · subst e; rw [if_pos rfl, if_pos (by omega), if_pos rfl]; rfl
    · rw [if_neg e, if_neg (fun h => e h.symm), ← List.getD_eq_getElem?_getD]
  have gs : ∀ j', ((stepP (netG g) s k).2.2.1.getD j' []) = if j' = j then s.2.2.1.getD j [] ++ [0] else s.2.2.1.getD j' [] := by
    intro j'
    unfold stepP
    simp only
    rw [if_pos (show (wantOf (netG g) s k).1 = 3 by rw [hw])]
    rw [e1, Int.toNat_natCast, ot0, List.getD_eq_getElem?_getD, List.getElem?_set]
    by_cases e : j = j'
    · subst e; rw [if_pos rfl, if_pos (by omega), if_pos rfl]; rfl
    · rw [if_neg e, if_neg (fun h => e h.symm), ← List.getD_eq_getElem?_getD]
  have wn : ∀ j', j' < g.2.length → j' ≠ j → (g.2.getD j' zEdge).1 = (k : Int) → wc g k (c + 1) (outOfE g j') = wc g k c (outOfE g j') := by
    intro j' hj2 e h2
    rw [wc_succ hc, if_neg (fun h3 => e (uniqW hj2 hj' (by rw [h2, e2]) (by rw [hx] at h3; rw [e3]; simpa [wI] using h3.symm)))]
    omega
  refine ⟨can, stp, fun i' hi' => ?_, fun j' hj2 => ?_, fun j' hj2 x hx' => ?_, fun j' hj2 => ?_, ?_⟩
  · show (s.1.set k (stepA (prog (netG g) k) (actor s k) (tokenOf (netG g) s k))).getD i' zActor = _
    rw [List.getD_eq_getElem?_getD, List.getElem?_set]
    by_cases e : k = i'
    · subst e
      rw [if_pos rfl, if_pos (by omega), if_pos rfl]
      unfold stepA
      rw [i, a]
      rfl
    · rw [if_neg e, if_neg (fun h => e h.symm), ← List.getD_eq_getElem?_getD]
      have := h.act i' hi'
      rw [if_neg (fun h => e h.symm)] at this
      exact this
  · have q' := h.que j' hj2
    have r1 := rc_succ (g := g) (k := k) (p := inOf g j') hc
    rw [if_neg (by rw [hx]; simp [rI, wI])] at r1
    rw [gq, r1]
    by_cases e : j' = j
    · subst e
      rw [if_pos e2, e3] at q'
      rw [if_pos rfl, if_pos e2, e3, w1, List.length_append, List.length_singleton]
      split <;> rename_i hh <;> first | rw [if_pos hh] at q' | rw [if_neg hh] at q'
      all_goals omega
    · rw [if_neg e, q']
      by_cases h2 : (g.2.getD j' zEdge).1 = (k : Int)
      · rw [if_pos h2, if_pos h2, wn j' hj2 e h2]; split <;> omega
      · rw [if_neg h2, if_neg h2]; split <;> omega
  · rw [gq] at hx'
    by_cases e : j' = j
    · rw [if_pos e] at hx'
      rcases List.mem_append.1 hx' with h1 | h1
      · exact h.zer j hj' x h1
      · exact List.mem_singleton.1 h1
    · rw [if_neg e] at hx'; exact h.zer j' hj2 x hx'
  · have s' := h.sen j' hj2
    rw [gs]
    by_cases e : j' = j
    · subst e
      rw [if_pos e2, e3] at s'
      rw [if_pos rfl, if_pos e2, e3, w1, List.length_append, List.length_singleton]
      omega
    · rw [if_neg e, s']
      by_cases h2 : (g.2.getD j' zEdge).1 = (k : Int)
      · rw [if_pos h2, if_pos h2, wn j' hj2 e h2]
      · rw [if_neg h2, if_neg h2]
  · show s.2.2.2 + 1 = _
    have := h.stp; omega

theorem Mid.jump (h : Mid g tk snt st0 k (tot g k) s) (hk : k < g.1.toNat) (hs : st0 + (tot g k : Int) < 20000) (htl : tk.length = g.2.length) (hpos : ∀ j, j < g.2.length → 0 ≤ (g.2.getD j zEdge).2.2.1 ∧ 0 ≤ (g.2.getD j zEdge).2.2.2.1) :
    canP (netG g) s k = true ∧ Bas g (after g tk (k : Int)) (fun j => snt j + makes (k : Int) (g.2.getD j zEdge)) (st0 + (codeK g k).length) (stepP (netG g) s k) := by
  have hcl := codeK_len g k
  have hc : tot g k < (codeK g k).length := by omega
  have hx := codeK_last (g := g) (k := k)
  obtain ⟨a, i⟩ := h.want hk hc
  rw [hx] at i
  have hkl : k < (netG g).1.length := by rw [netG_len.1]; exact hk
  have hw : wantOf (netG g) s k = (1, 0) := by
    have hi := i
    unfold instrP at hi
    unfold wantOf wantP
    rw [netG_prog hk, a] at *
    have hl : ((progK g (k : Int)).2.2.length : Int) = ((codeK g k).length : Int) := rfl
    rw [if_neg (by simp only; omega), hi]
    simp [jI]
  have can : canP (netG g) s k = true := by
    unfold canP
    rw [if_neg (by rw [hw]; simp only; have := h.stp; omega), if_neg (by rw [hw]; simp), if_neg (by rw [hw]; simp)]
  have stp := stepP_ok h.ok hkl can
  have na := h.ok.na
  rw [netG_len.1] at na
  have gq : (stepP (netG g) s k).2.1 = s.2.1 := by
    unfold stepP; simp only; rw [if_neg (by rw [hw]; simp), if_neg (by rw [hw]; simp)]
  have gs : (stepP (netG g) s k).2.2.1 = s.2.2.1 := by
    unfold stepP; simp only; rw [if_neg (by rw [hw]; simp)]
  have full : ∀ x : Instr, x ≠ jI → ((codeK g k).take (tot g k)).count x = (codeK g k).count x := by
    intro x hne
    have e : (codeK g k) = (codeK g k).take (tot g k) ++ [jI] := by
      rw [codeK_eq]; unfold tot
      rw [List.take_append_of_le_length (by simp), List.take_of_length_le (by simp)]
    conv => rhs; rw [e]
    rw [List.count_append, show [jI].count x = 0 from List.count_eq_zero.2 (by rw [List.mem_singleton]; exact hne), Nat.add_zero]
  have rf : ∀ j, j < g.2.length → (g.2.getD j zEdge).2.1 = (k : Int) → rc g k (tot g k) (inOf g j) = (g.2.getD j zEdge).2.2.2.1 := by
    intro j hj e
    unfold rc
    rw [full _ (by simp [rI, jI])]
    have := count_R hj
    rw [e] at this
    rw [this]; have := (hpos j hj).2; omega
  have wf : ∀ j, j < g.2.length → (g.2.getD j zEdge).1 = (k : Int) → wc g k (tot g k) (outOfE g j) = (g.2.getD j zEdge).2.2.1 := by
    intro j hj e
    unfold wc
    rw [full _ (by simp [wI, jI])]
    have := count_W hj
    rw [e] at this
    rw [this]; have := (hpos j hj).1; omega
  refine ⟨can, stp, fun i' hi' => ?_, fun j hj => ?_, fun j hj => ?_, fun j hj => ?_, ?_⟩
  · show (s.1.set k (stepA (prog (netG g) k) (actor s k) (tokenOf (netG g) s k))).getD i' zActor = _
    rw [List.getD_eq_getElem?_getD, List.getElem?_set]
    by_cases e : k = i'
    · subst e
      rw [if_pos rfl, if_pos (by omega)]
      unfold stepA
      rw [i, a]
      rfl
    · rw [if_neg e, ← List.getD_eq_getElem?_getD]
      have := h.act i' hi'
      rw [if_neg (fun h => e h.symm)] at this
      exact this
  · rw [gq, h.que j hj, after_get (by omega)]
    unfold takes makes
    by_cases e : (g.2.getD j zEdge).2.1 = (k : Int) <;> by_cases e' : (g.2.getD j zEdge).1 = (k : Int)
    · rw [if_pos e, if_pos e', if_pos e, if_pos e', rf j hj e, wf j hj e']
    · rw [if_pos e, if_neg e', if_pos e, if_neg e', rf j hj e]
    · rw [if_neg e, if_pos e', if_neg e, if_pos e', wf j hj e']
    · rw [if_neg e, if_neg e', if_neg e, if_neg e']
  · rw [gq]; exact h.zer j hj
  · rw [gs, h.sen j hj]
    unfold makes
    by_cases e' : (g.2.getD j zEdge).1 = (k : Int)
    · rw [if_pos e', if_pos e', wf j hj e']
    · rw [if_neg e', if_neg e']
  · show s.2.2.2 + 1 = _
    have := h.stp; omega
end

theorem schOne_can {nt : Network} {x : Int × State} {k : Nat} (hk : k < nt.1.length) (h : canP nt x.2 k = true) : schOne nt x (k : Int) = (x.1 + 1, stepP nt x.2 k) := by
  unfold schOne
  rw [if_pos ⟨by omega, by omega, by rw [Int.toNat_natCast]; exact h⟩, Int.toNat_natCast]

/-- one firing, as a run of a process -/
theorem fire_run {g : Graph} {tk : List Int} {snt : Nat → Int} {st0 : Int} {k : Nat} {s : State} (hg : okG g = true) (h : Bas g tk snt st0 s) (hk : k < g.1.toNat) (htl : tk.length = g.2.length)
    (hcan : ∀ j, j < tk.length → canAt g tk (k : Int) j = true) (hsn : ∀ j, j < g.2.length → (g.2.getD j zEdge).1 = (k : Int) → snt j + (g.2.getD j zEdge).2.2.1 ≤ 400) :
    OkSt (netG g) (schP (netG g) s (List.replicate (codeK g k).length (k : Int))).2 ∧
    (20000 ≤ (schP (netG g) s (List.replicate (codeK g k).length (k : Int))).2.2.2.2 ∨
     ((schP (netG g) s (List.replicate (codeK g k).length (k : Int))).1 = ((codeK g k).length : Int) ∧
      Bas g (after g tk (k : Int)) (fun j => snt j + makes (k : Int) (g.2.getD j zEdge)) (st0 + (codeK g k).length) (schP (netG g) s (List.replicate (codeK g k).length (k : Int))).2)) := by
  obtain ⟨g0, g8, g16, ge⟩ := okG_un hg
  have hpos : ∀ j, j < g.2.length → 0 ≤ (g.2.getD j zEdge).2.2.1 ∧ 0 ≤ (g.2.getD j zEdge).2.2.2.1 := by
    intro j hj
    have := ge _ (List.getElem_mem hj)
    rw [getD_lt hj]; omega
  have hf : ∀ j, j < g.2.length → (g.2.getD j zEdge).2.1 = (k : Int) → (g.2.getD j zEdge).2.2.2.1 ≤ tk.getD j 0 := by
    intro j hj e
    have := hcan j (by omega)
    unfold canAt at this
    simp only [e, decide_true, Bool.true_and, Bool.not_eq_true', decide_eq_false_iff_not] at this
    omega
  have hkl : k < (netG g).1.length := by rw [netG_len.1]; exact hk
  have hcl := codeK_len g k
  -- the first instructions
  have key : ∀ c : Nat, c ≤ tot g k → st0 + c ≤ 20000 → (schP (netG g) s (List.replicate c (k : Int))).1 = (c : Int) ∧ Mid g tk snt st0 k c (schP (netG g) s (List.replicate c (k : Int))).2 := by
    intro c
    induction c with
    | zero => intro _ _; exact ⟨rfl, h.mid k⟩
    | succ c ih =>
      intro hc hst
      obtain ⟨i1, i2⟩ := ih (by omega) (by omega)
      rw [List.replicate_succ', schP, List.foldl_append]
      rw [schP] at i1 i2
      obtain ⟨p, hx | hx⟩ := codeK_at (g := g) (k := (k : Int)) (c := c) (by omega)
      · obtain ⟨can, m⟩ := i2.read hk (by omega) hx hf (fun j hj => (hpos j hj).2) (by omega)
        simp only [List.foldl_cons, List.foldl_nil]
        rw [schOne_can hkl can]
        exact ⟨by simp only; omega, m⟩
      · obtain ⟨can, m⟩ := i2.write hk (by omega) hx hsn (fun j hj => (hpos j hj).1) (by omega)
        simp only [List.foldl_cons, List.foldl_nil]
        rw [schOne_can hkl can]
        exact ⟨by simp only; omega, m⟩
  have st0' := h.ok.steps
  have stpe := h.stp
  -- no more steps
  have stuck : ∀ (m : Nat) (x : Int × State), 20000 ≤ x.2.2.2.2 → (List.replicate m (k : Int)).foldl (schOne (netG g)) x = x := by
    intro m
    induction m with
    | zero => intro x _; rfl
    | succ m ih =>
      intro x hx
      rw [List.replicate_succ, List.foldl_cons]
      have : schOne (netG g) x (k : Int) = x := by
        unfold schOne
        rw [if_neg]
        rintro ⟨_, _, h3⟩
        rw [Int.toNat_natCast] at h3
        have := (canP_facts h3).2.1
        omega
      rw [this]; exact ih x hx
  by_cases hall : st0 + (tot g k : Int) < 20000
  · obtain ⟨i1, i2⟩ := key (tot g k) (Nat.le_refl _) (by omega)
    obtain ⟨can, b⟩ := i2.jump hk hall htl hpos
    have e : schP (netG g) s (List.replicate (codeK g k).length (k : Int)) = ((((codeK g k).length : Nat) : Int), stepP (netG g) (schP (netG g) s (List.replicate (tot g k) (k : Int))).2 k) := by
      rw [hcl, List.replicate_succ', schP, List.foldl_append]
      rw [schP] at i1 i2 can
      simp only [List.foldl_cons, List.foldl_nil]
      rw [schOne_can hkl can, i1]
      simp only [schP]
      rfl
    rw [e]
    exact ⟨b.ok, Or.inr ⟨rfl, b⟩⟩
  · obtain ⟨d, hd⟩ : ∃ d : Nat, st0 + (d : Int) = 20000 := ⟨(20000 - st0).toNat, by omega⟩
    obtain ⟨i1, i2⟩ := key d (by omega) (by omega)
    have e : schP (netG g) s (List.replicate (codeK g k).length (k : Int)) = schP (netG g) s (List.replicate d (k : Int)) := by
      have hsplit : List.replicate (codeK g k).length (k : Int) = List.replicate d (k : Int) ++ List.replicate ((codeK g k).length - d) (k : Int) := by
        rw [List.replicate_append_replicate]; congr 1; omega
      rw [hsplit, schP, List.foldl_append]
      refine stuck _ _ ?_
      have := i2.stp
      rw [schP] at this
      omega
    rw [e]
    exact ⟨i2.ok, Or.inl (by have := i2.stp; omega)⟩
end Go.AmT
