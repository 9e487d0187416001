/- Networks, in plain Lean: what a valid one is, told by both programs alike. -/
import Derived.Test.YtgddbcdkhfdojaaGreatDoorLNet
import Derived.Test.YtgddbcdkhfdojaaGreatDoorAmE
namespace Go.AmT
open Go Go.Am
set_option linter.unusedVariables false
set_option linter.unusedSimpArgs false

theorem cut_inr {α ρ : Type} (y : α) (f : α → Option ρ) : cut (some (.inr y)) f = f y := rfl
theorem sL1In_spec (n : Nat) (a b c : Int) : sL1In.f n a b c = some (decide (b ≤ a) && decide (a ≤ c), ()) := by
  unfold sL1In.f
  by_cases h : b ≤ a <;> simp [h, br]

/-! ### sizes -/
def small (k : Nat) : Prop := k ≤ 1048576
structure SmallP (p : Program) : Prop where
  code : p.2.2.length ≤ 1048576
structure SmallL (l : Link) : Prop where
  tokens : l.2.2.2.2.length ≤ 1048576
structure SmallN (nt : Network) : Prop where
  progs : nt.1.length ≤ 1048576
  prog : ∀ p ∈ nt.1, SmallP p
  links : nt.2.length ≤ 1048576
  link : ∀ l ∈ nt.2, SmallL l

/-! ### copies, and that a copy is the same -/
/-- a list is the same as itself -/
theorem refl_loop {α : Type} (a : List α) (f : α → α → Option (Bool × Unit)) (hf : ∀ x ∈ a, f x x = some (true, ())) {F : (Int × Unit → Option (Bool × Unit)) → Int × Unit → Option (Bool × Unit)}
    (hF : ∀ ih (i : Nat) (hi : i < a.length), F ih ((i : Int), ()) = (f a[i] a[i]).bind fun r => br (!r.1) (some (false, ())) (ih (((i + 1 : Nat) : Int), ())))
    (hE : ∀ ih, F ih ((a.length : Int), ()) = some (true, ())) {n : Nat} (hn : a.length < n) : iter n F (0, ()) = some (true, ()) :=
  (all_loop a (fun _ => true) (fun ih i hi => by rw [hF ih i hi, hf _ (List.getElem_mem hi)]; rfl) hE hn).trans (by simp)

theorem eqInstr_refl (n : Nat) (e : Instr) : eqInstr.f n e e = some (true, ()) := by unfold eqInstr.f; simp [br]

theorem eqInstrS_refl {n : Nat} {a : List Instr} (hl : a.length ≤ 1048576) (hn : 1048576 < n) : eqInstrS.f n a a = some (true, ()) := by
  unfold eqInstrS.f
  simp only [decide_true, Bool.not_true, br_false]
  refine refl_loop a (fun x y => eqInstr.f n x y) (fun x _ => eqInstr_refl n x) (fun ih i hi => ?_) (fun ih => ?_) (by omega)
  · have h1 : (i : Int) < (a.length : Int) := by omega
    simp only [h1, decide_true, br_true, Int.toNat_natCast, getD_lt hi]
    rw [chk_true (by simp), chk_true (by simp), w64_succ (by omega)]
  · simp [br]

theorem eqIntS_refl {n : Nat} {a : List Int} (hl : a.length ≤ 1048576) (hn : 1048576 < n) : eqIntS.f n a a = some (true, ()) := by
  unfold eqIntS.f
  simp only [decide_true, Bool.not_true, br_false]
  refine (all_loop a (fun _ => true) (fun ih i hi => ?_) (fun ih => ?_) (by omega)).trans (by simp)
  · have h1 : (i : Int) < (a.length : Int) := by omega
    simp only [h1, decide_true, br_true, Bool.not_true, br_false, if_true]
    rw [chk_true (by simp), chk_true (by simp), w64_succ (by omega)]
  · simp [br]

theorem eqProgram_refl {n : Nat} {p : Program} (hp : SmallP p) (hn : 1048576 < n) : eqProgram.f n p p = some (true, ()) := by
  unfold eqProgram.f
  rw [eqInstrS_refl hp.code hn]; simp [br]

theorem eqLink_refl {n : Nat} {p : Link} (hp : SmallL p) (hn : 1048576 < n) : eqLink.f n p p = some (true, ()) := by
  unfold eqLink.f
  rw [eqIntS_refl hp.tokens hn]; simp [br]

theorem eqProgramS_refl {n : Nat} {a : List Program} (hl : a.length ≤ 1048576) (ha : ∀ p ∈ a, SmallP p) (hn : 1048576 < n) : eqProgramS.f n a a = some (true, ()) := by
  unfold eqProgramS.f
  simp only [decide_true, Bool.not_true, br_false]
  refine refl_loop a (fun x y => eqProgram.f n x y) (fun x hx => eqProgram_refl (ha x hx) hn) (fun ih i hi => ?_) (fun ih => ?_) (by omega)
  · have h1 : (i : Int) < (a.length : Int) := by omega
    simp only [h1, decide_true, br_true, Int.toNat_natCast, getD_lt hi]
    rw [chk_true (by simp), chk_true (by simp), w64_succ (by omega)]
  · simp [br]

theorem eqLinkS_refl {n : Nat} {a : List Link} (hl : a.length ≤ 1048576) (ha : ∀ p ∈ a, SmallL p) (hn : 1048576 < n) : eqLinkS.f n a a = some (true, ()) := by
  unfold eqLinkS.f
  simp only [decide_true, Bool.not_true, br_false]
  refine refl_loop a (fun x y => eqLink.f n x y) (fun x hx => eqLink_refl (ha x hx) hn) (fun ih i hi => ?_) (fun ih => ?_) (by omega)
  · have h1 : (i : Int) < (a.length : Int) := by omega
    simp only [h1, decide_true, br_true, Int.toNat_natCast, getD_lt hi]
    rw [chk_true (by simp), chk_true (by simp), w64_succ (by omega)]
  · simp [br]

theorem eqNetwork_refl {n : Nat} {nt : Network} (h : SmallN nt) (hn : 1048576 < n) : eqNetwork.f n nt nt = some (true, ()) := by
  unfold eqNetwork.f
  rw [eqProgramS_refl h.progs h.prog hn, eqLinkS_refl h.links h.link hn]; simp [br]


/-! ### programs and streams -/
def reg (a : Int) : Bool := decide (0 ≤ a) && decide (a ≤ 3)
def tok (a : Int) : Bool := decide (-999999 ≤ a) && decide (a ≤ 999999)
def okI (ins outs size : Int) (x : Instr) : Bool :=
  if x.1 = 1 then reg x.2.1 && (decide (0 ≤ x.2.2.1) && decide (x.2.2.1 < ins) && decide (x.2.2.2 = 0))
  else if x.1 = 2 then reg x.2.1 && (decide (0 ≤ x.2.2.1) && decide (x.2.2.1 < outs) && decide (x.2.2.2 = 0))
  else if x.1 = 3 then reg x.2.1 && (tok x.2.2.1 && decide (x.2.2.2 = 0))
  else if x.1 = 4 ∨ x.1 = 5 ∨ x.1 = 6 ∨ x.1 = 7 then reg x.2.1 && (reg x.2.2.1 && reg x.2.2.2)
  else if x.1 = 8 then decide (x.2.1 = 0) && (decide (0 ≤ x.2.2.1) && decide (x.2.2.1 ≤ size) && decide (x.2.2.2 = 0))
  else if x.1 = 9 ∨ x.1 = 10 then reg x.2.1 && (decide (0 ≤ x.2.2.1) && decide (x.2.2.1 ≤ size) && decide (x.2.2.2 = 0))
  else if x.1 = 11 then decide (x.2.1 = 0) && (decide (x.2.2.1 = 0) && decide (x.2.2.2 = 0))
  else false
def okP (p : Program) : Bool := decide (0 ≤ p.1) && decide (p.1 ≤ 3) && (decide (0 ≤ p.2.1) && decide (p.2.1 ≤ 3)) && (decide (1 ≤ p.2.2.length) && decide (p.2.2.length ≤ 24)) && p.2.2.all (okI p.1 p.2.1 (p.2.2.length : Int))
def okS (s : List Int) : Bool := decide (s.length ≤ 400) && s.all tok

theorem isReg_spec (n : Nat) (a : Int) : isReg.f n a = some (reg a, ()) := by
  unfold isReg.f reg
  by_cases h : 0 ≤ a <;> simp [h, br]
theorem isToken_spec (n : Nat) (a : Int) : isToken.f n a = some (tok a, ()) := by
  unfold isToken.f tok
  by_cases h : -999999 ≤ a <;> simp [h, br]
theorem sL1Token_spec (n : Nat) (a : Int) : sL1Token.f n a = some (tok a, ()) := by
  unfold sL1Token.f tok
  rw [sL1In_spec]; rfl

theorem isInstr_spec (n : Nat) (x : Instr) (ins outs size : Int) : isInstr.f n x ins outs size = some (okI ins outs size x, ()) := by
  have e1 : (br (decide (0 ≤ x.2.2.1)) (br (decide (x.2.2.1 ≤ size)) (some (Sum.inr (α := Bool × Unit) (decide (x.2.2.2 = 0), ()))) (some (.inr (false, ())))) (some (.inr (false, ())))) = some (.inr ((decide (0 ≤ x.2.2.1) && decide (x.2.2.1 ≤ size) && decide (x.2.2.2 = 0)), ())) := by
    cases decide (0 ≤ x.2.2.1) <;> cases decide (x.2.2.1 ≤ size) <;> rfl
  unfold isInstr.f okI
  simp only [e1, cut_inr, isReg_spec, isToken_spec, Option.bind_some]
  by_cases h1 : x.1 = 1
  · simp only [h1, decide_true, br_true, if_true]
    cases reg x.2.1 <;> cases decide (0 ≤ x.2.2.1) <;> cases decide (x.2.2.1 < ins) <;> rfl
  by_cases h2 : x.1 = 2
  · simp only [h2, decide_true, decide_false, br_true, br_false, if_true, show ¬ ((2 : Int) = 1) by omega, if_false]
    cases reg x.2.1 <;> cases decide (0 ≤ x.2.2.1) <;> cases decide (x.2.2.1 < outs) <;> rfl
  by_cases h3 : x.1 = 3
  · simp only [h3, decide_true, decide_false, br_true, br_false, if_true, show ¬ ((3 : Int) = 1) by omega, show ¬ ((3 : Int) = 2) by omega, if_false]
    cases reg x.2.1 <;> cases tok x.2.2.1 <;> rfl
  simp only [h1, h2, h3, decide_false, br_false, if_false]
  by_cases h4 : x.1 = 4 ∨ x.1 = 5 ∨ x.1 = 6 ∨ x.1 = 7
  · have e2 : br (decide (x.1 = 4)) (some (Sum.inr (α := Bool × Unit) (decide (x.1 = 4), ()))) (br (decide (x.1 = 5)) (some (.inr (decide (x.1 = 5), ()))) (br (decide (x.1 = 6)) (some (.inr (decide (x.1 = 6), ()))) (some (.inr (decide (x.1 = 7), ()))))) = some (.inr (true, ())) := by
      rcases h4 with h | h | h | h <;> simp [h, br]
    rw [e2]
    simp only [h4, if_true, cut_inr, br_true]
    cases reg x.2.1 <;> cases reg x.2.2.1 <;> rfl
  · have e2 : br (decide (x.1 = 4)) (some (Sum.inr (α := Bool × Unit) (decide (x.1 = 4), ()))) (br (decide (x.1 = 5)) (some (.inr (decide (x.1 = 5), ()))) (br (decide (x.1 = 6)) (some (.inr (decide (x.1 = 6), ()))) (some (.inr (decide (x.1 = 7), ()))))) = some (.inr (false, ())) := by
      simp only [not_or] at h4
      simp [h4, br]
    rw [e2]
    simp only [h4, if_false, cut_inr, br_false]
    by_cases h8 : x.1 = 8
    · simp only [h8, decide_true, br_true, if_true]
      cases decide (x.2.1 = 0) <;> rfl
    · simp only [h8, decide_false, br_false, if_false]
      by_cases h9 : x.1 = 9 ∨ x.1 = 10
      · have e3 : br (decide (x.1 = 9)) (some (Sum.inr (α := Bool × Unit) (decide (x.1 = 9), ()))) (some (.inr (decide (x.1 = 10), ()))) = some (.inr (true, ())) := by
          rcases h9 with h | h <;> simp [h, br]
        rw [e3]
        simp only [h9, if_true, cut_inr, br_true]
        cases reg x.2.1 <;> rfl
      · have e3 : br (decide (x.1 = 9)) (some (Sum.inr (α := Bool × Unit) (decide (x.1 = 9), ()))) (some (.inr (decide (x.1 = 10), ()))) = some (.inr (false, ())) := by
          simp only [not_or] at h9
          simp [h9, br]
        rw [e3]
        simp only [h9, if_false, cut_inr, br_false]
        by_cases h11 : x.1 = 11
        · simp only [h11, decide_true, br_true, if_true, Bool.and_true, Bool.true_and]
        · simp only [h11, decide_false, br_false, if_false]

theorem lt_pred (b ins : Int) : decide (b ≤ ins - 1) = decide (b < ins) := by
  by_cases h : b < ins
  · rw [decide_eq_true h, decide_eq_true (by omega)]
  · rw [decide_eq_false h, decide_eq_false (by omega)]

theorem sL2Operands_spec (n : Nat) (p : Program) (x : Instr) (hi : 0 ≤ p.1 ∧ p.1 ≤ 3) (ho : 0 ≤ p.2.1 ∧ p.2.1 ≤ 3) : sL2Operands.f n p x = some (okI p.1 p.2.1 (p.2.2.length : Int) x, ()) := by
  have w1 : w64 (p.1 - 1) = p.1 - 1 := w64_id (by omega) (by omega)
  have w2 : w64 (p.2.1 - 1) = p.2.1 - 1 := w64_id (by omega) (by omega)
  have e0 : (br (reg x.2.1) (br (reg x.2.2.1) (some (Sum.inr (α := Bool × Unit) (reg x.2.2.2, ()))) (some (.inr (false, ())))) (some (.inr (false, ())))) = some (.inr ((reg x.2.1 && (reg x.2.2.1 && reg x.2.2.2)), ())) := by
    cases reg x.2.1 <;> cases reg x.2.2.1 <;> rfl
  have e1 : (br (decide (0 ≤ x.2.2.1) && decide (x.2.2.1 ≤ (p.2.2.length : Int))) (some (Sum.inr (α := Bool × Unit) (decide (x.2.2.2 = 0), ()))) (some (.inr (false, ())))) = some (.inr ((decide (0 ≤ x.2.2.1) && decide (x.2.2.1 ≤ (p.2.2.length : Int)) && decide (x.2.2.2 = 0)), ())) := by
    cases decide (0 ≤ x.2.2.1) <;> cases decide (x.2.2.1 ≤ (p.2.2.length : Int)) <;> rfl
  have hr : ∀ a : Int, sL1In.f n a 0 3 = some (reg a, ()) := fun a => sL1In_spec n a 0 3
  unfold sL2Operands.f okI
  simp only [hr, Option.bind_some, e0, sL1In_spec, e1, cut_inr, sL1Token_spec, w1, w2, lt_pred]
  by_cases h1 : x.1 = 1
  · simp only [h1, decide_true, br_true, if_true]
    cases reg x.2.1 <;> cases decide (0 ≤ x.2.2.1) <;> cases decide (x.2.2.1 < p.1) <;> rfl
  by_cases h2 : x.1 = 2
  · simp only [h2, decide_true, decide_false, br_true, br_false, if_true, show ¬ ((2 : Int) = 1) by omega, if_false]
    cases reg x.2.1 <;> cases decide (0 ≤ x.2.2.1) <;> cases decide (x.2.2.1 < p.2.1) <;> rfl
  by_cases h3 : x.1 = 3
  · simp only [h3, decide_true, decide_false, br_true, br_false, if_true, show ¬ ((3 : Int) = 1) by omega, show ¬ ((3 : Int) = 2) by omega, if_false]
    cases reg x.2.1 <;> cases tok x.2.2.1 <;> rfl
  simp only [h1, h2, h3, decide_false, br_false, if_false]
  by_cases h4 : x.1 = 4 ∨ x.1 = 5 ∨ x.1 = 6 ∨ x.1 = 7
  · have e2 : br (decide (x.1 = 4)) (some (Sum.inr (α := Bool × Unit) (decide (x.1 = 4), ()))) (br (decide (x.1 = 5)) (some (.inr (decide (x.1 = 5), ()))) (br (decide (x.1 = 6)) (some (.inr (decide (x.1 = 6), ()))) (some (.inr (decide (x.1 = 7), ()))))) = some (.inr (true, ())) := by
      rcases h4 with h | h | h | h <;> simp [h, br]
    rw [e2]
    simp only [h4, if_true, cut_inr, br_true]
  · have e2 : br (decide (x.1 = 4)) (some (Sum.inr (α := Bool × Unit) (decide (x.1 = 4), ()))) (br (decide (x.1 = 5)) (some (.inr (decide (x.1 = 5), ()))) (br (decide (x.1 = 6)) (some (.inr (decide (x.1 = 6), ()))) (some (.inr (decide (x.1 = 7), ()))))) = some (.inr (false, ())) := by
      simp only [not_or] at h4
      simp [h4, br]
    rw [e2]
    simp only [h4, if_false, cut_inr, br_false]
    by_cases h8 : x.1 = 8
    · simp only [h8, decide_true, br_true, if_true]
      cases decide (x.2.1 = 0) <;> rfl
    · simp only [h8, decide_false, br_false, if_false]
      by_cases h9 : x.1 = 9 ∨ x.1 = 10
      · have e3 : br (decide (x.1 = 9)) (some (Sum.inr (α := Bool × Unit) (decide (x.1 = 9), ()))) (some (.inr (decide (x.1 = 10), ()))) = some (.inr (true, ())) := by
          rcases h9 with h | h <;> simp [h, br]
        rw [e3]
        simp only [h9, if_true, cut_inr, br_true]
        cases reg x.2.1 <;> rfl
      · have e3 : br (decide (x.1 = 9)) (some (Sum.inr (α := Bool × Unit) (decide (x.1 = 9), ()))) (some (.inr (decide (x.1 = 10), ()))) = some (.inr (false, ())) := by
          simp only [not_or] at h9
          simp [h9, br]
        rw [e3]
        simp only [h9, if_false, cut_inr, br_false]
        by_cases h11 : x.1 = 11
        · simp only [h11, decide_true, br_true, if_true]
          cases decide (x.2.1 = 0) <;> cases decide (x.2.2.1 = 0) <;> rfl
        · simp only [h11, decide_false, br_false, if_false]

theorem sIsProgram_spec {n : Nat} {p : Program} (hp : SmallP p) (hn : 1048576 < n) : sIsProgram.f n p = some (okP p, ()) := by
  have hc := hp.code
  unfold sIsProgram.f okP
  simp only [sL1In_spec, Option.bind_some]
  by_cases h1 : 0 ≤ p.1 ∧ p.1 ≤ 3
  · by_cases h2 : 0 ≤ p.2.1 ∧ p.2.1 ≤ 3
    · by_cases h3 : 1 ≤ p.2.2.length ∧ p.2.2.length ≤ 24
      · simp only [h1.1, h1.2, h2.1, h2.2, h3.1, h3.2, show (1 : Int) ≤ (p.2.2.length : Int) by omega, show (p.2.2.length : Int) ≤ 24 by omega, decide_true, Bool.and_self, Bool.not_true, br_false, Bool.true_and, cut_inr]
        refine all_loop p.2.2 (okI p.1 p.2.1 (p.2.2.length : Int)) (fun ih i hi => ?_) (fun ih => ?_) (by omega)
        · have h4 : (i : Int) < (p.2.2.length : Int) := by omega
          simp only [h4, decide_true, br_true, Int.toNat_natCast, getD_lt hi, sL2Operands_spec n p _ h1 h2, Option.bind_some]
          rw [chk_true (by simp), w64_succ (by omega), br_if]
          cases okI p.1 p.2.1 (p.2.2.length : Int) p.2.2[i] <;> rfl
        · simp [br]
      · have e1 : (decide ((1 : Int) ≤ (p.2.2.length : Int)) && decide ((p.2.2.length : Int) ≤ 24)) = false := by
          rw [← Bool.not_eq_true]; simp only [Bool.and_eq_true, decide_eq_true_eq]; omega
        have e2 : (decide (1 ≤ p.2.2.length) && decide (p.2.2.length ≤ 24)) = false := by
          rw [← Bool.not_eq_true]; simp only [Bool.and_eq_true, decide_eq_true_eq]; omega
        simp [h1, h2, e1, e2, br, cut]
    · have e2 : (decide (0 ≤ p.2.1) && decide (p.2.1 ≤ 3)) = false := by
        rw [← Bool.not_eq_true]; simp only [Bool.and_eq_true, decide_eq_true_eq]; omega
      simp [h1, e2, br, cut]
  · have e2 : (decide (0 ≤ p.1) && decide (p.1 ≤ 3)) = false := by
      rw [← Bool.not_eq_true]; simp only [Bool.and_eq_true, decide_eq_true_eq]; omega
    simp [e2, br, cut]

theorem iIsProgram_spec {n : Nat} {p : Program} (hp : SmallP p) (hn : 1048576 < n) : iIsProgram.f n p = some (okP p, ()) := by
  have hc := hp.code
  unfold iIsProgram.f okP
  by_cases h1 : 0 ≤ p.1 ∧ p.1 ≤ 3
  · by_cases h2 : 0 ≤ p.2.1 ∧ p.2.1 ≤ 3
    · by_cases h3 : 1 ≤ p.2.2.length ∧ p.2.2.length ≤ 24
      · have a1 : ¬ (p.1 < 0) := by omega
        have a2 : ¬ (3 < p.1) := by omega
        have a3 : ¬ (p.2.1 < 0) := by omega
        have a4 : ¬ (3 < p.2.1) := by omega
        have a5 : ¬ ((p.2.2.length : Int) < 1) := by omega
        have a6 : ¬ (24 < (p.2.2.length : Int)) := by omega
        simp only [a1, a2, a3, a4, a5, a6, h1.1, h1.2, h2.1, h2.2, h3.1, h3.2, decide_true, decide_false, br_false, cut_inr, Bool.and_self, Bool.true_and]
        unfold containsFuncI.f indexFuncI.f
        obtain ⟨r, e1, e2⟩ := index_loop p.2.2 (fun x => !(okI p.1 p.2.1 (p.2.2.length : Int) x)) (n := n) (F := fun ih7 x6 => br (decide (x6.1 < (p.2.2.length : Int))) (chk (0 ≤ x6.1 ∧ x6.1 < (p.2.2.length : Int)) (let v8 := (p.2.2.getD x6.1.toNat zInstr); (isProgramC.f n v8 p).bind fun r9 => br r9.1 (some (x6.1, ())) (ih7 ((w64 (x6.1 + 1)), ())))) (some ((-1), ())))
          (fun ih i hi => by
            have h4 : (i : Int) < (p.2.2.length : Int) := by omega
            unfold isProgramC.f
            simp only [h4, decide_true, br_true, Int.toNat_natCast, getD_lt hi, isInstr_spec, Option.bind_some]
            rw [chk_true (by simp), w64_succ (by omega), br_if]) (fun ih => by simp [br]) (by omega)
        rw [e1]
        simp only [Option.bind_some, e2]
        congr 2
        rw [List.any_eq_not_all_not]
        simp
      · have e2 : (decide (1 ≤ p.2.2.length) && decide (p.2.2.length ≤ 24)) = false := by
          rw [← Bool.not_eq_true]; simp only [Bool.and_eq_true, decide_eq_true_eq]; omega
        have a1 : ¬ (p.1 < 0) := by omega
        have a2 : ¬ (3 < p.1) := by omega
        have a3 : ¬ (p.2.1 < 0) := by omega
        have a4 : ¬ (3 < p.2.1) := by omega
        by_cases a5 : (p.2.2.length : Int) < 1
        · simp [a1, a2, a3, a4, a5, e2, br, cut]
        · have a6 : (24 < (p.2.2.length : Int)) := by omega
          simp [a1, a2, a3, a4, a5, a6, e2, br, cut]
    · have e2 : (decide (0 ≤ p.2.1) && decide (p.2.1 ≤ 3)) = false := by
        rw [← Bool.not_eq_true]; simp only [Bool.and_eq_true, decide_eq_true_eq]; omega
      have a1 : ¬ (p.1 < 0) := by omega
      have a2 : ¬ (3 < p.1) := by omega
      by_cases a3 : p.2.1 < 0
      · simp [a1, a2, a3, e2, br, cut]
      · have a4 : (3 < p.2.1) := by omega
        simp [a1, a2, a3, a4, e2, br, cut]
  · have e2 : (decide (0 ≤ p.1) && decide (p.1 ≤ 3)) = false := by
      rw [← Bool.not_eq_true]; simp only [Bool.and_eq_true, decide_eq_true_eq]; omega
    by_cases a1 : p.1 < 0
    · simp [a1, e2, br, cut]
    · have a2 : (3 < p.1) := by omega
      simp [a1, a2, e2, br, cut]

theorem sIsStream_spec {n : Nat} {s : List Int} (hs : s.length ≤ 1048576) (hn : 1048576 < n) : sIsStream.f n s = some (okS s, ()) := by
  unfold sIsStream.f okS
  have := chk_loop s.length (fun i => tok (s.getD i 0)) (some (false, ())) (some (decide ((s.length : Int) ≤ 400), ())) (n := n) (F := fun ih7 x6 => br (decide (x6.1 < (s.length : Int))) (chk (0 ≤ x6.1 ∧ x6.1 < (s.length : Int)) ((sL1Token.f n (s.getD x6.1.toNat 0)).bind fun r8 => br (!r8.1) (some (false, ())) (ih7 ((w64 (x6.1 + 1)), ())))) (some ((decide ((s.length : Int) ≤ 400)), ())))
    (fun ih i hi => by
      have h4 : (i : Int) < (s.length : Int) := by omega
      simp only [h4, decide_true, br_true, Int.toNat_natCast, sL1Token_spec, Option.bind_some]
      rw [chk_true (by simp), w64_succ (by omega), br_if]
      cases tok (s.getD i 0) <;> rfl)
    (fun ih => by simp [br]) (by omega)
  by_cases h : ∀ i, i < s.length → tok (s.getD i 0) = true
  · rw [this.1 h]
    have : s.all tok = true := by
      rw [List.all_eq_true]
      intro x hx
      obtain ⟨i, hi, rfl⟩ := List.mem_iff_getElem.1 hx
      have := h i hi
      rwa [getD_lt hi] at this
    rw [this, Bool.and_true]
    congr 2
    by_cases h : s.length ≤ 400
    · rw [decide_eq_true h, decide_eq_true (by omega)]
    · rw [decide_eq_false h, decide_eq_false (by omega)]
  · rw [this.2 h]
    have : s.all tok = false := by
      rw [← Bool.not_eq_true, List.all_eq_true]
      intro hh
      refine h (fun i hi => ?_)
      rw [getD_lt hi]
      exact hh _ (List.getElem_mem hi)
    rw [this, Bool.and_false]

theorem iIsStream_spec {n : Nat} {s : List Int} (hs : s.length ≤ 1048576) (hn : 1048576 < n) : iIsStream.f n s = some (okS s, ()) := by
  unfold iIsStream.f okS containsFuncS.f indexFuncS.f
  by_cases h : s.length ≤ 400
  · simp only [h, show (s.length : Int) ≤ 400 by omega, decide_true, br_true, Bool.true_and]
    obtain ⟨r, e1, e2⟩ := index_loop s (fun x => !(tok x)) (n := n) (F := fun ih6 x5 => br (decide (x5.1 < (s.length : Int))) (chk (0 ≤ x5.1 ∧ x5.1 < (s.length : Int)) ((isStreamC.f n (s.getD x5.1.toNat 0)).bind fun r7 => br r7.1 (some (x5.1, ())) (ih6 ((w64 (x5.1 + 1)), ())))) (some ((-1), ())))
      (fun ih i hi => by
        have h4 : (i : Int) < (s.length : Int) := by omega
        unfold isStreamC.f
        simp only [h4, decide_true, br_true, Int.toNat_natCast, getD_lt hi, isToken_spec, Option.bind_some]
        rw [chk_true (by simp), w64_succ (by omega), br_if]) (fun ih => by simp [br]) (by omega)
    rw [e1]
    simp only [Option.bind_some, e2]
    congr 2
    rw [List.any_eq_not_all_not]
    simp
  · have : ¬ ((s.length : Int) ≤ 400) := by omega
    simp [h, this, br]

end Go.AmT
