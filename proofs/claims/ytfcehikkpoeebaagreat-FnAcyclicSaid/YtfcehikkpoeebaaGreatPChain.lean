/- Chains of sample programs, in plain Lean: they are valid, they never jam, and they end. -/
import Derived.Test.YtfcehikkpoeebaaGreatLChain
import Derived.Test.YtfcehikkpoeebaaGreatPReach
import Derived.Test.YtfcehikkpoeebaaGreatPRunK
import Derived.Test.YtfcehikkpoeebaaGreatPBoundR
import Derived.Test.YtfcehikkpoeebaaGreatPGenS
import Derived.Test.YtfcehikkpoeebaaGreatPCopy
namespace Go.AmT
open Go Go.Am
set_option linter.unusedVariables false
set_option linter.unusedSimpArgs false

/-! ### chains -/
def lkC (N k : Nat) : Link := ((k : Int), 0, if k + 1 = N then -1 else ((k + 1 : Nat) : Int), 0, [])
def chainN (ps : List Program) (t : List Int) : Network := (ps, (-1, 0, 0, 0, t) :: (List.range ps.length).map (lkC ps.length))
theorem chain_small {ps : List Program} {t : List Int} (hp : ∀ p ∈ ps, SmallP p) (hl : ps.length ≤ 12) (ht : t.length ≤ 1048576) : SmallN (chainN ps t) := by
  refine ⟨by simp [chainN]; omega, hp, by simp [chainN]; omega, fun l hl => ?_⟩
  rcases List.mem_cons.1 hl with h | h
  · subst h; exact ⟨ht⟩
  · obtain ⟨k, _, rfl⟩ := List.mem_map.1 h
    exact ⟨by simp [lkC]⟩
theorem iChain_spec {n : Nat} {ps : List Program} {t : List Int} (hp : ∀ p ∈ ps, SmallP p) (h1 : ∀ p ∈ ps, p.1 = 1 ∧ p.2.1 = 1) (h0 : 0 < ps.length) (hl : ps.length ≤ 12) (ht : t.length ≤ 1048576) (o : OkN (chainN ps t)) (hn : 1048576 < n) :
    iChain.f n ps t = some (chainN ps t, (true, ())) := by
  unfold iChain.f
  rw [br_no (show ¬ (ps.length : Int) = 0 by omega)]
  simp only [cut_inr]
  rw [br_no (show ¬ (12 : Int) < (ps.length : Int) by omega)]
  refine W_eq.1 ?_
  refine W_up (fun i (s : List Link) => ((i : Int), (ps, (s, ())))) ps.length (fun i s => s = (-1, 0, 0, 0, t) :: (List.range i).map (lkC ps.length)) (s0 := [(-1, 0, 0, 0, t)]) rfl rfl (by omega) (fun ih s hI => ?_) (fun ih i s hi hI hS => ?_)
  · subst hI
    simp only [br_no (Int.lt_irrefl _)]
    rw [show (ps, ((-1, 0, 0, 0, t) : Link) :: (List.range ps.length).map (lkC ps.length)) = chainN ps t from rfl, iChecked_spec (chain_small hp hl ht) hn, show okN (chainN ps t) = true by simp [okN, o]]
    exact W_some.2 rfl
  · subst hI
    simp only [br_yes (show (i : Int) < (ps.length : Int) by omega), Int.toNat_natCast]
    have g := h1 (ps.getD i zProgram) (by rw [getD_lt hi]; exact List.getElem_mem hi)
    rw [chk_true (by omega), w64_succ (by omega)]
    simp only [g.1, g.2, decide_true, Bool.not_true, br_false, cut_inr]
    have hcut : ∀ {ρ : Type} {f : (Int × Unit) → Option ρ}, cut (br (decide (((i + 1 : Nat) : Int) = (ps.length : Int))) (some (.inr ((-1 : Int), ()))) (some (.inr (((i + 1 : Nat) : Int), ())))) f = f ((lkC ps.length i).2.2.1, ()) := by
      intro ρ f
      unfold lkC
      simp only
      by_cases h : i + 1 = ps.length
      · rw [br_yes (by omega), if_pos h]; rfl
      · rw [br_no (by omega), if_neg h]; rfl
    rw [hcut, small_chk (by simp; omega)]
    refine hS _ ?_
    rw [List.range_succ, List.map_append]; rfl

/-! ### programs that read, then write, and begin anew -/
def smpB (p : Program) : Bool := okP p && (decide (p.1 = 1) && (decide (p.2.1 = 1) && (decide (2 ≤ p.2.2.length) && (decide (p.2.2.length ≤ 6) && (decide ((p.2.2.getD 0 zInstr).1 = 1) && (decide (p.2.2.countP (fun x => decide (x.1 = 2)) ≤ 2) &&
  (List.range p.2.2.length).all (fun i => decide (i = 0) || (if i + 1 = p.2.2.length then decide ((p.2.2.getD i zInstr).1 = 8) && decide ((p.2.2.getD i zInstr).2.2.1 = 0) else decide (2 ≤ (p.2.2.getD i zInstr).1) && decide ((p.2.2.getD i zInstr).1 ≤ 7)))))))))
structure Smp (p : Program) : Prop where
  ok : okP p = true
  ins : p.1 = 1
  outs : p.2.1 = 1
  two : 2 ≤ p.2.2.length
  six : p.2.2.length ≤ 6
  read : (p.2.2.getD 0 zInstr).1 = 1
  writes : p.2.2.countP (fun x => decide (x.1 = 2)) ≤ 2
  mid : ∀ i, 0 < i → i + 1 < p.2.2.length → 2 ≤ (p.2.2.getD i zInstr).1 ∧ (p.2.2.getD i zInstr).1 ≤ 7
  last : ∀ i, 0 < i → i + 1 = p.2.2.length → (p.2.2.getD i zInstr).1 = 8 ∧ (p.2.2.getD i zInstr).2.2.1 = 0
theorem smp_of {p : Program} (h : smpB p = true) : Smp p := by
  unfold smpB at h
  simp only [Bool.and_eq_true, decide_eq_true_eq, List.all_eq_true, List.mem_range] at h
  obtain ⟨h1, h2, h3, h4, h5, h6, h7, h8⟩ := h
  refine ⟨h1, h2, h3, h4, h5, h6, h7, fun i hi hl => ?_, fun i hi hl => ?_⟩
  · have := h8 i (by omega)
    rw [if_neg (by omega), Bool.or_eq_true, decide_eq_true_eq, Bool.and_eq_true, decide_eq_true_eq, decide_eq_true_eq] at this
    rcases this with h | h
    · omega
    · exact h
  · have := h8 i (by omega)
    rw [if_pos hl, Bool.or_eq_true, decide_eq_true_eq, Bool.and_eq_true, decide_eq_true_eq, decide_eq_true_eq] at this
    rcases this with h | h
    · omega
    · exact h
def pThrough : Program := (1, 1, [(1, 0, 0, 0), (2, 0, 0, 0), (8, 0, 0, 0)])
def pSums : Program := (1, 1, [(1, 1, 0, 0), (4, 0, 0, 1), (2, 0, 0, 0), (8, 0, 0, 0)])
def pSteps : Program := (1, 1, [(1, 1, 0, 0), (5, 2, 1, 0), (2, 2, 0, 0), (3, 3, 0, 0), (4, 0, 1, 3), (8, 0, 0, 0)])
def pTwice : Program := (1, 1, [(1, 0, 0, 0), (2, 0, 0, 0), (2, 0, 0, 0), (8, 0, 0, 0)])
theorem smp_through : Smp pThrough := smp_of (by decide)
theorem smp_sums : Smp pSums := smp_of (by decide)
theorem smp_steps : Smp pSteps := smp_of (by decide)
theorem smp_twice : Smp pTwice := smp_of (by decide)
theorem s_through {n : Nat} (hn : 1048576 < n) : sSampleProgram.f n ([116, 104, 114, 111, 117, 103, 104] : List UInt8) = some (pThrough, ()) := by
  obtain ⟨m, rfl⟩ : ∃ m, n = m + 10 := ⟨n - 10, by omega⟩
  rfl
theorem s_sums {n : Nat} (hn : 1048576 < n) : sSampleProgram.f n ([115, 117, 109, 115] : List UInt8) = some (pSums, ()) := by
  obtain ⟨m, rfl⟩ : ∃ m, n = m + 10 := ⟨n - 10, by omega⟩
  rfl
theorem s_steps {n : Nat} (hn : 1048576 < n) : sSampleProgram.f n ([115, 116, 101, 112, 115] : List UInt8) = some (pSteps, ()) := by
  obtain ⟨m, rfl⟩ : ∃ m, n = m + 10 := ⟨n - 10, by omega⟩
  rfl
theorem s_twice {n : Nat} (hn : 1048576 < n) : sSampleProgram.f n ([116, 119, 105, 99, 101] : List UInt8) = some (pTwice, ()) := by
  obtain ⟨m, rfl⟩ : ∃ m, n = m + 10 := ⟨n - 10, by omega⟩
  rfl

theorem chain_ok {ps : List Program} {t : List Int} (hs : ∀ p ∈ ps, Smp p) (h0 : 0 < ps.length) (h4 : ps.length ≤ 4) (ht : okS t = true) : OkN (chainN ps t) := by
  have hp : ∀ (i : Nat) (hi : i < ps.length), Smp ps[i] := fun i hi => hs _ (List.getElem_mem hi)
  have ge : ∀ (i : Nat), i < ps.length → (ps.getD i zProgram).1 = 1 ∧ (ps.getD i zProgram).2.1 = 1 := fun i hi => by rw [getD_lt hi]; exact ⟨(hp i hi).ins, (hp i hi).outs⟩
  have len : (chainN ps t).2.length = ps.length + 1 := by simp [chainN]
  have get0 : ∀ h, (chainN ps t).2[0]'h = (-1, 0, 0, 0, t) := fun h => rfl
  have getS : ∀ (i : Nat) h, (chainN ps t).2[i + 1]'h = lkC ps.length i := fun i h => by simp [chainN]
  have hc : ∀ (f : Link → Bool) (i : Nat) (hi : i < (chainN ps t).2.length), f ((chainN ps t).2[i]'hi) = true → (∀ (j : Nat) (hj : j < (chainN ps t).2.length), f ((chainN ps t).2[j]'hj) = true → j = i) → (chainN ps t).2.countP f = 1 := by
    intro f i hi h1 h2
    rw [List.countP_eq_length_filter]
    have key : ∀ (l : List Link) (i : Nat) (hi : i < l.length), f l[i] = true → (∀ (j : Nat) (hj : j < l.length), f l[j] = true → j = i) → (l.filter f).length = 1 := by
      intro l
      induction l with
      | nil => intro i hi; exact absurd hi (Nat.not_lt_zero _)
      | cons x r ih =>
        intro i hi h1 h2
        cases i with
        | zero =>
          have h1 : f x = true := h1
          rw [List.filter_cons, if_pos h1, List.length_cons]
          have : r.filter f = [] := by
            rw [List.filter_eq_nil_iff]
            intro y hy hf
            obtain ⟨j, hj, rfl⟩ := List.getElem_of_mem hy
            have := h2 (j + 1) (by simpa using hj) (by simpa using hf)
            omega
          rw [this]; rfl
        | succ i =>
          have hx : f x = false := by
            cases e : f x with
            | false => rfl
            | true => have := h2 0 (by simp) (by simpa using e); omega
          rw [List.filter_cons, if_neg (by rw [hx]; simp)]
          exact ih i (by simpa using hi) (by simpa using h1) (fun j hj hf => by have := h2 (j + 1) (by simpa using hj) (by simpa using hf); omega)
    exact key _ i hi h1 h2
  refine ⟨by show ps.length ≤ 12; omega, by rw [len]; omega, fun i hi => (hp i hi).ok, fun i hi => ?_, fun i hi => ?_, fun i hi k hk => ?_, fun i hi k hk => ?_⟩
  · rw [len] at hi
    cases i with
    | zero =>
      rw [get0]
      refine ⟨Or.inl ⟨rfl, rfl⟩, Or.inr ⟨Int.le_refl _, by show (0 : Int) < (ps.length : Int); omega, Int.le_refl _, ?_⟩, by simp⟩
      show (0 : Int) < (ps.getD 0 zProgram).1
      rw [(ge 0 h0).1]; omega
    | succ i =>
      rw [getS]
      refine ⟨Or.inr ⟨by simp only [lkC]; omega, by simp only [lkC]; show (i : Int) < (ps.length : Int); omega, Int.le_refl _, ?_⟩, ?_, by simp only [lkC]; omega⟩
      · show (0 : Int) < (ps.getD (i : Int).toNat zProgram).2.1
        rw [Int.toNat_natCast, (ge i (by omega)).2]; omega
      · by_cases h : i + 1 = ps.length
        · exact Or.inl ⟨by simp only [lkC]; rw [if_pos h], rfl⟩
        · refine Or.inr ⟨by simp only [lkC]; rw [if_neg h]; omega, by simp only [lkC]; rw [if_neg h]; show ((i + 1 : Nat) : Int) < (ps.length : Int); omega, Int.le_refl _, ?_⟩
          simp only [lkC]
          rw [if_neg h]
          show (0 : Int) < (ps.getD ((i + 1 : Nat) : Int).toNat zProgram).1
          rw [Int.toNat_natCast, (ge (i + 1) (by omega)).1]; omega
  · rw [len] at hi
    cases i with
    | zero => rw [get0]; exact ht
    | succ i => rw [getS]; rfl
  · have hi : i < ps.length := hi
    have hk : (k : Int) < (ps[i]'hi).1 := hk
    rw [(hp i hi).ins] at hk
    obtain rfl : k = 0 := by omega
    refine hc _ i (by rw [len]; omega) ?_ (fun j hj hf => ?_)
    · cases i with
      | zero => rw [get0]; rfl
      | succ i => rw [getS]; unfold isTo lkC; simp only; rw [if_neg (by omega)]; simp
    · rw [len] at hj
      cases j with
      | zero => rw [get0] at hf; unfold isTo at hf; simp at hf; omega
      | succ j =>
        rw [getS] at hf; unfold isTo lkC at hf; simp only [Bool.and_eq_true, decide_eq_true_eq] at hf
        have := hf.1
        split at this <;> omega
  · have hi : i < ps.length := hi
    have hk : (k : Int) < (ps[i]'hi).2.1 := hk
    rw [(hp i hi).outs] at hk
    obtain rfl : k = 0 := by omega
    refine hc _ (i + 1) (by rw [len]; omega) ?_ (fun j hj hf => ?_)
    · rw [getS]; simp [isFrom, lkC]
    · rw [len] at hj
      cases j with
      | zero => rw [get0] at hf; unfold isFrom at hf; simp at hf
      | succ j =>
        rw [getS] at hf; unfold isFrom lkC at hf; simp only [Bool.and_eq_true, decide_eq_true_eq] at hf
        omega
end Go.AmT
