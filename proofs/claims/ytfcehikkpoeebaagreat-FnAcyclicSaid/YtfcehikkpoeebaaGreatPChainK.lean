/- Chains of sample programs never jam, and end. -/
import Derived.Test.YtfcehikkpoeebaaGreatPChain
namespace Go.AmT
open Go Go.Am
set_option linter.unusedVariables false
set_option linter.unusedSimpArgs false

/-! ### what is left to do -/
def remC (c : Instr → Nat) (w : Nat) : List Instr → Nat
  | [] => 0
  | x :: r => c x + (if x.1 = 2 then w else 0) + remC c w r
def wtL (c : Instr → Nat) : List Program → Nat
  | [] => 0
  | p :: r => remC c (wtL c r) p.2.2
def sumN (f : Nat → Nat) : Nat → Nat
  | 0 => 0
  | m + 1 => sumN f m + f m
theorem sumN_congr {f g : Nat → Nat} : ∀ {m : Nat}, (∀ i, i < m → g i = f i) → sumN g m = sumN f m
  | 0, _ => rfl
  | m + 1, h => by unfold sumN; rw [sumN_congr (m := m) (fun i hi => h i (by omega)), h m (by omega)]
theorem sumN_two {f g : Nat → Nat} {k e d : Nat} (h1 : g k + e + d = f k) (h2 : g (k + 1) = f (k + 1) + d) (h : ∀ i, i ≠ k → i ≠ k + 1 → g i = f i) : ∀ t, sumN g (k + 2 + t) + e = sumN f (k + 2 + t)
  | 0 => by
    show sumN g k + g k + g (k + 1) + e = sumN f k + f k + f (k + 1)
    rw [sumN_congr (m := k) (fun i hi => h i (by omega) (by omega)), h2]; omega
  | t + 1 => by
    show sumN g (k + 2 + t) + g (k + 2 + t) + e = sumN f (k + 2 + t) + f (k + 2 + t)
    have := sumN_two h1 h2 h t
    rw [h (k + 2 + t) (by omega) (by omega)]; omega
theorem sumN_one {f : Nat → Nat} (h : ∀ i, 0 < i → f i = 0) : ∀ m, sumN f (m + 1) = f 0
  | 0 => by simp [sumN]
  | m + 1 => by show sumN f (m + 1) + f (m + 1) = f 0; rw [sumN_one h m, h (m + 1) (by omega)]; rfl

def pot (c : Instr → Nat) (nt : Network) (k : Nat) (a : Actor) : Nat := if a.1 = 0 then 0 else remC c (wtL c (nt.1.drop (k + 1))) ((prog nt k).2.2.drop a.1.toNat)
def phiK (c : Instr → Nat) (nt : Network) (s : State) (k : Nat) : Nat := (queue s k).length * wtL c (nt.1.drop k) + pot c nt k (actor s k)
def phi (c : Instr → Nat) (nt : Network) (s : State) : Nat := sumN (phiK c nt s) (nt.1.length + 1)
theorem remC_drop (c : Instr → Nat) (w : Nat) {l : List Instr} {i : Nat} (h : i < l.length) : remC c w (l.drop i) = c (l.getD i zInstr) + (if (l.getD i zInstr).1 = 2 then w else 0) + remC c w (l.drop (i + 1)) := by
  rw [List.drop_eq_getElem_cons h, getD_lt h]; rfl
theorem wtL_drop (c : Instr → Nat) {nt : Network} {k : Nat} (h : k < nt.1.length) : wtL c (nt.1.drop k) = remC c (wtL c (nt.1.drop (k + 1))) (prog nt k).2.2 := by
  unfold prog
  rw [List.drop_eq_getElem_cons h, getD_lt h]; rfl

section
variable {ps : List Program} {t : List Int}
theorem cprog {k : Nat} (hs : ∀ p ∈ ps, Smp p) (hk : k < ps.length) : Smp (prog (chainN ps t) k) := by
  unfold prog chainN
  simp only
  rw [getD_lt hk]; exact hs _ (List.getElem_mem hk)
theorem clen2 : (chainN ps t).2.length = ps.length + 1 := by simp [chainN]
theorem clnkS {i : Nat} (h : i < ps.length) : lnk (chainN ps t) (i + 1) = lkC ps.length i := by
  unfold lnk chainN
  simp only
  rw [getD_lt (by simpa using h)]; simp
theorem clto (o : OkN (chainN ps t)) (hs : ∀ p ∈ ps, Smp p) {k : Nat} (hk : k < ps.length) : lto (chainN ps t) k 0 = k := by
  refine lto_uniq o (by rw [clen2]; omega) hk (by rw [(cprog hs hk).ins]; decide) ?_ ?_
  · cases k with
    | zero => rfl
    | succ k => rw [clnkS (by omega)]; unfold lkC; simp only; rw [if_neg (by omega)]
  · cases k with
    | zero => rfl
    | succ k => rw [clnkS (by omega)]; rfl
theorem clfr (o : OkN (chainN ps t)) (hs : ∀ p ∈ ps, Smp p) {k : Nat} (hk : k < ps.length) : lfr (chainN ps t) k 0 = k + 1 := by
  refine lfr_uniq o (by rw [clen2]; omega) hk (by rw [(cprog hs hk).outs]; decide) ?_ ?_
  · rw [clnkS hk]; rfl
  · rw [clnkS hk]; rfl

/-- the places of the processes -/
def Pcs (nt : Network) (s : State) : Prop := ∀ k, k < nt.1.length → 0 ≤ (actor s k).1 ∧ (actor s k).1 < ((prog nt k).2.2.length : Int)
theorem want_read {nt : Network} {s : State} {k : Nat} (h : (actor s k).1 < ((prog nt k).2.2.length : Int)) (h1 : (instrP (prog nt k) (actor s k)).1 = 1) : wantOf nt s k = (2, (instrP (prog nt k) (actor s k)).2.2.1) := by
  unfold wantOf wantP
  have h1 : ((prog nt k).2.2.getD (actor s k).1.toNat zInstr).1 = 1 := h1
  rw [if_neg (by omega), if_neg (by omega), if_pos h1]; rfl
theorem want_write {nt : Network} {s : State} {k : Nat} (h : (actor s k).1 < ((prog nt k).2.2.length : Int)) (h1 : (instrP (prog nt k) (actor s k)).1 = 2) : wantOf nt s k = (3, (instrP (prog nt k) (actor s k)).2.2.1) := by
  unfold wantOf wantP
  have h1 : ((prog nt k).2.2.getD (actor s k).1.toNat zInstr).1 = 2 := h1
  rw [if_neg (by omega), if_neg (by omega), if_neg (by omega), if_pos h1]; rfl
theorem want_step {nt : Network} {s : State} {k : Nat} (h : (actor s k).1 < ((prog nt k).2.2.length : Int)) (h1 : 3 ≤ (instrP (prog nt k) (actor s k)).1) (h2 : (instrP (prog nt k) (actor s k)).1 ≤ 8) : wantOf nt s k = (1, 0) := by
  unfold wantOf wantP
  have h1 : 3 ≤ ((prog nt k).2.2.getD (actor s k).1.toNat zInstr).1 := h1
  have h2 : ((prog nt k).2.2.getD (actor s k).1.toNat zInstr).1 ≤ 8 := h2
  rw [if_neg (by omega), if_neg (by omega), if_neg (by omega), if_neg (by omega)]
/-- the ports of chains -/
theorem port0 {nt : Network} {s : State} (O : OkSt nt s) {k : Nat} (hk : k < nt.1.length) (S : Smp (prog nt k)) : ((wantOf nt s k).1 = 2 ∨ (wantOf nt s k).1 = 3) → (wantOf nt s k).2 = 0 := by
  obtain ⟨b, e, h2, h3⟩ := port_nat O hk
  have hp : nt.1[k] = prog nt k := (getD_lt hk _).symm
  rw [hp, S.ins] at h2
  rw [hp, S.outs] at h3
  intro h
  rcases h with h | h
  · have := h2 h; omega
  · have := h3 h; omega
theorem link_read {s : State} (o : OkN (chainN ps t)) (hs : ∀ p ∈ ps, Smp p) (O : OkSt (chainN ps t) s) {k : Nat} (hk : k < ps.length) (h : (wantOf (chainN ps t) s k).1 = 2) : (linkOf (chainN ps t) s k).toNat = k := by
  have p := port0 O hk (cprog hs hk) (Or.inl h)
  unfold linkOf
  rw [if_pos h, p]
  exact clto o hs hk
theorem link_write {s : State} (o : OkN (chainN ps t)) (hs : ∀ p ∈ ps, Smp p) (O : OkSt (chainN ps t) s) {k : Nat} (hk : k < ps.length) (h : (wantOf (chainN ps t) s k).1 = 3) : (linkOf (chainN ps t) s k).toNat = k + 1 := by
  have p := port0 O hk (cprog hs hk) (Or.inr h)
  unfold linkOf
  rw [if_neg (by omega), if_pos h, p]
  exact clfr o hs hk
theorem getD_setne {α : Type} {l : List α} {i j : Nat} (h : j ≠ i) (x z : α) : (l.set i x).getD j z = l.getD j z := getD_set_ne (fun e => h e.symm) x z

/-- what a step of a process of a chain does -/
theorem step_chain {c : Instr → Nat} {s : State} (o : OkN (chainN ps t)) (hs : ∀ p ∈ ps, Smp p) (O : OkSt (chainN ps t) s) (P : Pcs (chainN ps t) s) {k : Nat} (hk : k < ps.length) (hc : canP (chainN ps t) s k = true) :
    Pcs (chainN ps t) (stepP (chainN ps t) s k) ∧ phi c (chainN ps t) (stepP (chainN ps t) s k) + c (instrP (prog (chainN ps t) k) (actor s k)) = phi c (chainN ps t) s ∧
    ∀ j, (sent (stepP (chainN ps t) s k) j).length ≤ (sent s j).length + (if (instrP (prog (chainN ps t) k) (actor s k)).1 = 2 then 1 else 0) := by
  have S := cprog (t := t) hs hk
  have hpc := P k hk
  have na : k < s.1.length := by rw [O.na]; exact hk
  have nq : s.2.1.length = ps.length + 1 := by rw [O.nq, clen2]
  have ns : s.2.2.1.length = ps.length + 1 := by rw [O.ns, clen2]
  have act1 : actor (stepP (chainN ps t) s k) k = stepA (prog (chainN ps t) k) (actor s k) (tokenOf (chainN ps t) s k) := by
    unfold actor stepP
    simp only
    rw [getD_set_same na]; rfl
  have act2 : ∀ i, i ≠ k → actor (stepP (chainN ps t) s k) i = actor s i := fun i hi => by
    unfold actor stepP
    simp only
    exact getD_setne hi _ _
  have pc1 : (actor (stepP (chainN ps t) s k) k).1 = pcP (instrP (prog (chainN ps t) k) (actor s k)) (actor s k) := by rw [act1]; rfl
  obtain ⟨pc, epc⟩ : ∃ pc : Nat, (actor s k).1 = (pc : Int) := ⟨(actor s k).1.toNat, by omega⟩
  have hlt : pc < (prog (chainN ps t) k).2.2.length := by omega
  have ex : instrP (prog (chainN ps t) k) (actor s k) = (prog (chainN ps t) k).2.2.getD pc zInstr := by unfold instrP; rw [epc, Int.toNat_natCast]
  generalize hx : instrP (prog (chainN ps t) k) (actor s k) = x at *
  have sumg : ∀ {d : Nat}, phiK c (chainN ps t) (stepP (chainN ps t) s k) k + c x + d = phiK c (chainN ps t) s k → phiK c (chainN ps t) (stepP (chainN ps t) s k) (k + 1) = phiK c (chainN ps t) s (k + 1) + d →
      (∀ i, i ≠ k → i ≠ k + 1 → queue (stepP (chainN ps t) s k) i = queue s i) → phi c (chainN ps t) (stepP (chainN ps t) s k) + c x = phi c (chainN ps t) s := by
    intro d h1 h2 h3
    have := sumN_two h1 h2 (fun i a b => by unfold phiK; rw [h3 i a b, act2 i a]) (ps.length - k - 1)
    rw [show k + 2 + (ps.length - k - 1) = ps.length + 1 by omega] at this
    exact this
  have pcs : (0 ≤ pcP x (actor s k) ∧ pcP x (actor s k) < ((prog (chainN ps t) k).2.2.length : Int)) → Pcs (chainN ps t) (stepP (chainN ps t) s k) := by
    intro h i hi
    by_cases e : i = k
    · subst e; rw [pc1]; exact h
    · rw [act2 i e]; exact P i hi
  have two := S.two
  have potk : pot c (chainN ps t) k (actor s k) = if pc = 0 then 0 else remC c (wtL c ((chainN ps t).1.drop (k + 1))) ((prog (chainN ps t) k).2.2.drop pc) := by
    unfold pot
    rw [epc, Int.toNat_natCast]
    by_cases h : pc = 0
    · rw [if_pos (by omega), if_pos h]
    · rw [if_neg (by omega), if_neg h]
  by_cases c0 : pc = 0
  · -- a read
    subst c0
    have x1 : x.1 = 1 := by rw [ex]; exact S.read
    have w := want_read (nt := chainN ps t) (s := s) (k := k) hpc.2 (by rw [hx]; exact x1)
    have w1 : (wantOf (chainN ps t) s k).1 = 2 := by rw [w]
    have lk := link_read o hs O hk w1
    have pcv : pcP x (actor s k) = 1 := by unfold pcP; rw [if_neg (by omega), epc]; rfl
    have hq : 0 < (queue s k).length := by
      have := (canP_facts hc).2.2.1 w1
      rw [lk] at this; exact this
    have q1 : queue (stepP (chainN ps t) s k) k = (queue s k).drop 1 := by
      unfold queue stepP
      simp only
      rw [if_pos w1, lk, getD_set_same (by omega)]
    have q2 : ∀ i, i ≠ k → queue (stepP (chainN ps t) s k) i = queue s i := fun i hi => by
      unfold queue stepP
      simp only
      rw [if_pos w1, lk, getD_setne hi]
    refine ⟨pcs (by rw [pcv]; omega), sumg (d := 0) ?_ ?_ (fun i a b => q2 i a), fun j => ?_⟩
    · unfold phiK
      rw [q1, potk, if_pos rfl, List.length_drop]
      have hp' : pot c (chainN ps t) k (actor (stepP (chainN ps t) s k) k) = remC c (wtL c ((chainN ps t).1.drop (k + 1))) ((prog (chainN ps t) k).2.2.drop 1) := by
        unfold pot
        rw [pc1, pcv, if_neg (by omega)]; rfl
      have hw : wtL c ((chainN ps t).1.drop k) = c x + remC c (wtL c ((chainN ps t).1.drop (k + 1))) ((prog (chainN ps t) k).2.2.drop 1) := by
        rw [wtL_drop c (nt := chainN ps t) hk]
        have := remC_drop c (wtL c ((chainN ps t).1.drop (k + 1))) hlt
        rw [← ex, if_neg (by omega), List.drop_zero] at this
        rw [this]; simp only [Nat.zero_add, Nat.add_zero]
      rw [hp']
      obtain ⟨q, hq'⟩ : ∃ q, (queue s k).length = q + 1 := ⟨(queue s k).length - 1, by omega⟩
      rw [hq', Nat.add_sub_cancel, Nat.add_mul, Nat.one_mul]
      omega
    · unfold phiK
      rw [q2 (k + 1) (by omega), act2 (k + 1) (by omega)]; rfl
    · unfold sent stepP
      simp only
      rw [if_neg (by omega)]; omega
  · by_cases c1 : pc + 1 = (prog (chainN ps t) k).2.2.length
    · -- back to the start
      have xl := S.last pc (by omega) c1
      rw [← ex] at xl
      have w := want_step (nt := chainN ps t) (s := s) (k := k) hpc.2 (by rw [hx]; omega) (by rw [hx]; omega)
      have w1 : (wantOf (chainN ps t) s k).1 = 1 := by rw [w]
      have pcv : pcP x (actor s k) = 0 := by unfold pcP; rw [if_pos (Or.inl xl.1)]; exact xl.2
      have q2 : ∀ i, queue (stepP (chainN ps t) s k) i = queue s i := fun i => by
        unfold queue stepP
        simp only
        rw [if_neg (by omega), if_neg (by omega)]
      refine ⟨pcs (by rw [pcv]; omega), sumg (d := 0) ?_ ?_ (fun i a b => q2 i), fun j => ?_⟩
      · unfold phiK
        rw [q2, potk, if_neg c0, remC_drop c _ hlt, ← ex, if_neg (by omega), c1, List.drop_length]
        have hp' : pot c (chainN ps t) k (actor (stepP (chainN ps t) s k) k) = 0 := by
          unfold pot
          rw [pc1, pcv, if_pos rfl]
        rw [hp']
        show _ = _ + (c x + 0 + 0)
        omega
      · unfold phiK
        rw [q2 (k + 1), act2 (k + 1) (by omega)]; rfl
      · unfold sent stepP
        simp only
        rw [if_neg (by omega)]; omega
    · have xm := S.mid pc (by omega) (by omega)
      rw [← ex] at xm
      have pcv : pcP x (actor s k) = ((pc + 1 : Nat) : Int) := by unfold pcP; rw [if_neg (by omega), epc]; rfl
      have hp' : pot c (chainN ps t) k (actor (stepP (chainN ps t) s k) k) = remC c (wtL c ((chainN ps t).1.drop (k + 1))) ((prog (chainN ps t) k).2.2.drop (pc + 1)) := by
        unfold pot
        rw [pc1, pcv, if_neg (by omega), Int.toNat_natCast]
      by_cases c2 : x.1 = 2
      · -- a write
        have w := want_write (nt := chainN ps t) (s := s) (k := k) hpc.2 (by rw [hx]; exact c2)
        have w1 : (wantOf (chainN ps t) s k).1 = 3 := by rw [w]
        have lk := link_write o hs O hk w1
        have q1 : queue (stepP (chainN ps t) s k) (k + 1) = queue s (k + 1) ++ [outOf (chainN ps t) s k] := by
          unfold queue stepP
          simp only
          rw [if_neg (by omega), if_pos w1, lk, getD_set_same (by omega)]
        have q2 : ∀ i, i ≠ k + 1 → queue (stepP (chainN ps t) s k) i = queue s i := fun i hi => by
          unfold queue stepP
          simp only
          rw [if_neg (by omega), if_pos w1, lk, getD_setne hi]
        refine ⟨pcs (by rw [pcv]; omega), sumg (d := wtL c ((chainN ps t).1.drop (k + 1))) ?_ ?_ (fun i a b => q2 i b), fun j => ?_⟩
        · unfold phiK
          rw [q2 k (by omega), hp', potk, if_neg c0, remC_drop c _ hlt, ← ex, if_pos c2]
          omega
        · unfold phiK
          rw [q1, act2 (k + 1) (by omega), List.length_append, List.length_singleton, Nat.add_mul, Nat.one_mul]
          omega
        · unfold sent stepP
          simp only
          rw [if_pos w1, lk, if_pos c2]
          by_cases e : j = k + 1
          · subst e; rw [getD_set_same (by omega)]; simp
          · rw [getD_setne e]; omega
      · -- a step
        have w := want_step (nt := chainN ps t) (s := s) (k := k) hpc.2 (by rw [hx]; omega) (by rw [hx]; omega)
        have w1 : (wantOf (chainN ps t) s k).1 = 1 := by rw [w]
        have q2 : ∀ i, queue (stepP (chainN ps t) s k) i = queue s i := fun i => by
          unfold queue stepP
          simp only
          rw [if_neg (by omega), if_neg (by omega)]
        refine ⟨pcs (by rw [pcv]; omega), sumg (d := 0) ?_ ?_ (fun i a b => q2 i), fun j => ?_⟩
        · unfold phiK
          rw [q2, hp', potk, if_neg c0, remC_drop c _ hlt, ← ex, if_neg c2]
          omega
        · unfold phiK
          rw [q2 (k + 1), act2 (k + 1) (by omega)]; rfl
        · unfold sent stepP
          simp only
          rw [if_neg (by omega)]; omega
/-! ### how much there is to do at first -/
def cOne (x : Instr) : Nat := 1
def cWr (x : Instr) : Nat := if x.1 = 2 then 1 else 0
theorem remC_one (w : Nat) : ∀ l : List Instr, remC cOne w l = l.length + l.countP (fun x => decide (x.1 = 2)) * w
  | [] => by simp [remC]
  | x :: r => by
    show cOne x + (if x.1 = 2 then w else 0) + remC cOne w r = _
    rw [remC_one w r, List.length_cons, List.countP_cons]
    unfold cOne
    by_cases h : x.1 = 2
    · rw [if_pos h, if_pos (by simpa using h), Nat.add_mul]; omega
    · rw [if_neg h, if_neg (by simpa using h)]; simp only [Nat.add_zero]; omega
theorem remC_wr (w : Nat) : ∀ l : List Instr, remC cWr w l = l.countP (fun x => decide (x.1 = 2)) * (1 + w)
  | [] => by simp [remC]
  | x :: r => by
    show cWr x + (if x.1 = 2 then w else 0) + remC cWr w r = _
    rw [remC_wr w r, List.countP_cons]
    unfold cWr
    by_cases h : x.1 = 2
    · rw [if_pos h, if_pos h, if_pos (by simpa using h), Nat.add_mul]; omega
    · rw [if_neg h, if_neg h, if_neg (by simpa using h)]; simp only [Nat.add_zero]; omega
theorem rem_one_le {p : Program} (S : Smp p) (w : Nat) : remC cOne w p.2.2 ≤ 6 + 2 * w := by
  rw [remC_one]
  have := S.six
  have := Nat.mul_le_mul_right w S.writes
  omega
theorem rem_wr_le {p : Program} (S : Smp p) (w : Nat) : remC cWr w p.2.2 ≤ 2 * (1 + w) := by
  rw [remC_wr]
  exact Nat.mul_le_mul_right _ S.writes
theorem wt_one (hs : ∀ p ∈ ps, Smp p) (h4 : ps.length ≤ 4) : wtL cOne ps ≤ 90 := by
  rcases ps with _ | ⟨p1, _ | ⟨p2, _ | ⟨p3, _ | ⟨p4, _ | ⟨p5, r⟩⟩⟩⟩⟩
  · simp [wtL]
  · have := rem_one_le (hs p1 (by simp)) 0
    simp only [wtL]; omega
  · have a := rem_one_le (hs p2 (by simp)) 0
    have b := rem_one_le (hs p1 (by simp)) (remC cOne 0 p2.2.2)
    simp only [wtL]; omega
  · have a := rem_one_le (hs p3 (by simp)) 0
    have b := rem_one_le (hs p2 (by simp)) (remC cOne 0 p3.2.2)
    have c := rem_one_le (hs p1 (by simp)) (remC cOne (remC cOne 0 p3.2.2) p2.2.2)
    simp only [wtL]; omega
  · have a := rem_one_le (hs p4 (by simp)) 0
    have b := rem_one_le (hs p3 (by simp)) (remC cOne 0 p4.2.2)
    have c := rem_one_le (hs p2 (by simp)) (remC cOne (remC cOne 0 p4.2.2) p3.2.2)
    have d := rem_one_le (hs p1 (by simp)) (remC cOne (remC cOne (remC cOne 0 p4.2.2) p3.2.2) p2.2.2)
    simp only [wtL]; omega
  · simp at h4
theorem wt_wr (hs : ∀ p ∈ ps, Smp p) (h4 : ps.length ≤ 4) : wtL cWr ps ≤ 30 := by
  rcases ps with _ | ⟨p1, _ | ⟨p2, _ | ⟨p3, _ | ⟨p4, _ | ⟨p5, r⟩⟩⟩⟩⟩
  · simp [wtL]
  · have := rem_wr_le (hs p1 (by simp)) 0
    simp only [wtL]; omega
  · have a := rem_wr_le (hs p2 (by simp)) 0
    have b := rem_wr_le (hs p1 (by simp)) (remC cWr 0 p2.2.2)
    simp only [wtL]; omega
  · have a := rem_wr_le (hs p3 (by simp)) 0
    have b := rem_wr_le (hs p2 (by simp)) (remC cWr 0 p3.2.2)
    have c := rem_wr_le (hs p1 (by simp)) (remC cWr (remC cWr 0 p3.2.2) p2.2.2)
    simp only [wtL]; omega
  · have a := rem_wr_le (hs p4 (by simp)) 0
    have b := rem_wr_le (hs p3 (by simp)) (remC cWr 0 p4.2.2)
    have c := rem_wr_le (hs p2 (by simp)) (remC cWr (remC cWr 0 p4.2.2) p3.2.2)
    have d := rem_wr_le (hs p1 (by simp)) (remC cWr (remC cWr (remC cWr 0 p4.2.2) p3.2.2) p2.2.2)
    simp only [wtL]; omega
  · simp at h4
theorem ctoks {j : Nat} (h : 0 < j) : toks (chainN ps t) j = [] := by
  unfold toks
  cases j with
  | zero => omega
  | succ j =>
    by_cases hj : j < ps.length
    · rw [clnkS hj]; rfl
    · unfold lnk
      rw [List.getD_eq_getElem?_getD, List.getElem?_eq_none (by rw [clen2]; omega)]; rfl
theorem act_start (nt : Network) (k : Nat) : (actor (start nt) k).1 = 0 := by
  unfold actor start
  simp only
  rcases Nat.lt_or_ge k nt.1.length with h | h
  · rw [getD_lt (by simpa using h)]; simp [newA]
  · rw [List.getD_eq_getElem?_getD, List.getElem?_eq_none (by simpa using h)]; rfl
theorem phi_start (c : Instr → Nat) : phi c (chainN ps t) (start (chainN ps t)) = t.length * wtL c ps := by
  unfold phi
  have e : ∀ k, queue (start (chainN ps t)) k = toks (chainN ps t) k := fun k => sent_start _ k
  rw [sumN_one]
  · unfold phiK pot
    rw [e, act_start, if_pos rfl]
    show (toks (chainN ps t) 0).length * wtL c (ps.drop 0) + 0 = _
    rw [List.drop_zero]; rfl
  · intro i hi
    unfold phiK pot
    rw [e, act_start, if_pos rfl, ctoks hi]; simp

/-! ### the run -/
structure CInv (ps : List Program) (t : List Int) (s : State) : Prop where
  pcs : Pcs (chainN ps t) s
  steps : s.2.2.2 ≤ 540
  sent : ∀ j, (sent s j).length ≤ 200
theorem chain_inv (o : OkN (chainN ps t)) (hs : ∀ p ∈ ps, Smp p) (h4 : ps.length ≤ 4) (ht : t.length ≤ 6) {g : State → Nat → Bool} {s : State} {m : Nat → Nat} (T : Steps (chainN ps t) g (start (chainN ps t)) s m) : CInv ps t s := by
  have key : Pcs (chainN ps t) s ∧ s.2.2.2 + (phi cOne (chainN ps t) s : Int) = (phi cOne (chainN ps t) (start (chainN ps t)) : Int) ∧ ∀ j, (sent s j).length + phi cWr (chainN ps t) s ≤ (toks (chainN ps t) j).length + phi cWr (chainN ps t) (start (chainN ps t)) := by
    induction T with
    | refl =>
      refine ⟨fun k hk => ?_, ?_, fun j => ?_⟩
      · rw [act_start]
        have := (cprog (t := t) hs hk).two
        omega
      · show (0 : Int) + _ = _; omega
      · rw [sent_start]; exact Nat.le_refl _
    | @step s m k T hk _ hc ih =>
      obtain ⟨P, h1, h2⟩ := ih
      have O := T.ok (start_ok o)
      obtain ⟨q1, q2, _⟩ := step_chain (c := cOne) o hs O P hk hc
      obtain ⟨_, r2, r3⟩ := step_chain (c := cWr) o hs O P hk hc
      refine ⟨q1, ?_, fun j => ?_⟩
      · have e : (stepP (chainN ps t) s k).2.2.2 = s.2.2.2 + 1 := rfl
        have c1 : cOne (instrP (prog (chainN ps t) k) (actor s k)) = 1 := rfl
        rw [c1] at q2
        rw [e]
        omega
      · have := r3 j
        have := h2 j
        unfold cWr at r2
        unfold cWr at *
        omega
  obtain ⟨P, h1, h2⟩ := key
  rw [phi_start] at h1
  have w1 := wt_one hs h4
  have w2 := wt_wr hs h4
  have m1 : t.length * wtL cOne ps ≤ 6 * 90 := Nat.mul_le_mul ht w1
  have m2 : t.length * wtL cWr ps ≤ 6 * 30 := Nat.mul_le_mul ht w2
  refine ⟨P, by omega, fun j => ?_⟩
  have := h2 j
  rw [phi_start] at this
  have tl : (toks (chainN ps t) j).length ≤ 6 := by
    cases j with
    | zero => exact ht
    | succ j => rw [ctoks (by omega)]; simp
  omega
/-- a chain whose links can hold a token each never jams -/
theorem no_jam (o : OkN (chainN ps t)) (hs : ∀ p ∈ ps, Smp p) {s : State} (O : OkSt (chainN ps t) s) (I : CInv ps t s) {caps : List Int} (hcap : ∀ j, j < ps.length + 1 → 1 ≤ caps.getD j 0) (hm : ∀ k, k < ps.length → mayP (chainN ps t) s caps k = false) :
    ∀ (d k : Nat), k + d + 1 = ps.length → canP (chainN ps t) s k = false := by
  have st : ∀ k, k < ps.length → canP (chainN ps t) s k = true → k + 1 < ps.length ∧ 0 < (queue s (k + 1)).length := by
    intro k hk hc
    have h := hm k hk
    unfold mayP at h
    rw [hc, Bool.true_and, Bool.or_eq_false_iff, Bool.or_eq_false_iff] at h
    simp only [Bool.not_eq_false', decide_eq_true_eq, decide_eq_false_iff_not] at h
    obtain ⟨h1, h2, h3⟩ := h
    rw [link_write o hs O hk h1] at h2 h3
    have e : (chainN ps t).2.getD (k + 1) zLink = lkC ps.length k := clnkS hk
    rw [e] at h2
    unfold lkC at h2
    simp only at h2
    have lt : k + 1 < ps.length := by
      rcases Nat.lt_or_ge (k + 1) ps.length with h | h
      · exact h
      · rw [if_pos (by omega)] at h2; omega
    have hc := hcap (k + 1) (by omega)
    have h3 : ¬ ((queue s (k + 1)).length : Int) < caps.getD (k + 1) 0 := h3
    exact ⟨lt, by omega⟩
  have nx : ∀ k, k < ps.length → 0 < (queue s k).length → canP (chainN ps t) s k = true := by
    intro k hk hq
    have S := cprog (t := t) hs hk
    have hpc := I.pcs k hk
    have sx := I.steps
    unfold canP
    have w0 : (wantOf (chainN ps t) s k).1 ≠ 0 := by
      have two := S.two
      by_cases c0 : (actor s k).1.toNat = 0
      · rw [want_read hpc.2 (by unfold instrP; rw [c0]; exact S.read)]; simp
      · by_cases c1 : (actor s k).1.toNat + 1 = (prog (chainN ps t) k).2.2.length
        · have := S.last _ (by omega) c1
          rw [want_step hpc.2 (by unfold instrP; omega) (by unfold instrP; omega)]; simp
        · have := S.mid _ (show 0 < (actor s k).1.toNat by omega) (by omega)
          by_cases c2 : ((prog (chainN ps t) k).2.2.getD (actor s k).1.toNat zInstr).1 = 2
          · rw [want_write hpc.2 c2]; simp
          · rw [want_step hpc.2 (by unfold instrP; omega) (by unfold instrP; omega)]; simp
    rw [if_neg (by omega)]
    by_cases c2 : (wantOf (chainN ps t) s k).1 = 2
    · rw [if_pos c2, link_read o hs O hk c2]
      exact decide_eq_true (by exact_mod_cast hq)
    · rw [if_neg c2]
      by_cases c3 : (wantOf (chainN ps t) s k).1 = 3
      · rw [if_pos c3, link_write o hs O hk c3]
        have := I.sent (k + 1)
        exact decide_eq_true (show ((sent s (k + 1)).length : Int) < 400 by omega)
      · rw [if_neg c3]
  intro d
  induction d with
  | zero =>
    intro k hk
    cases hc : canP (chainN ps t) s k with
    | false => rfl
    | true => have := (st k (by omega) hc).1; omega
  | succ d ih =>
    intro k hk
    cases hc : canP (chainN ps t) s k with
    | false => rfl
    | true =>
      obtain ⟨h1, h2⟩ := st k (by omega) hc
      have := nx (k + 1) h1 h2
      rw [ih (k + 1) (by omega)] at this
      cases this
theorem chain_quiet (o : OkN (chainN ps t)) (hs : ∀ p ∈ ps, Smp p) (h4 : ps.length ≤ 4) (ht : t.length ≤ 6) {caps : List Int} (hcap : ∀ j, j < ps.length + 1 → 1 ≤ caps.getD j 0) :
    (runB (chainN ps t) (start (chainN ps t)) caps 5000).2 = 1 := by
  have O0 := start_ok o
  obtain ⟨m, T⟩ := runT_steps (c := some caps) (most := 5000) O0
  have I := chain_inv o hs h4 ht T
  have O := T.ok O0
  have en := runT_end (c := some caps) (most := 5000) O0
  have s0 : (start (chainN ps t)).2.2.2 = 0 := rfl
  have st := I.steps
  have hm : ∀ k, k < ps.length → mayP (chainN ps t) (runT (chainN ps t) (some caps) 5000 (start (chainN ps t))) caps k = false := by
    intro k hk
    cases e : mayP (chainN ps t) (runT (chainN ps t) (some caps) 5000 (start (chainN ps t))) caps k with
    | false => rfl
    | true => exact absurd ⟨List.any_eq_true.2 ⟨k, List.mem_range.2 hk, e⟩, by omega⟩ en
  show bndW (chainN ps t) (runT (chainN ps t) (some caps) 5000 (start (chainN ps t))) caps = 1
  unfold bndW
  rw [if_neg]
  intro h
  obtain ⟨k, hk, hc⟩ := List.any_eq_true.1 h
  have hk : k < ps.length := List.mem_range.1 hk
  have := no_jam o hs O I hcap hm (ps.length - k - 1) k (by omega)
  rw [this] at hc
  cases hc
end
end Go.AmT
