/- Networks, in plain Lean: what a valid one is, told by both programs alike. -/
import Derived.Test.YtkgknijpmcagmaaGreatLNet
import Derived.Test.YtkgknijpmcagmaaGreatAmD
namespace Go.AmT
open Go Go.Am
set_option linter.unusedVariables false
set_option linter.unusedSimpArgs false

theorem cut_inr {α ρ : Type} (y : α) (f : α → Option ρ) : cut (some (.inr y)) f = f y := rfl
theorem sL1In_spec (n : Nat) (a b c : Int) : sL1In.f n a b c = some (decide (b ≤ a) && decide (a ≤ c), ()) := by
  unfold sL1In.f
  by_cases h : b ≤ a <;> simp [h, br]

/-! ### sizes -/
def small (k : Nat) : Prop := k ≤ 1048576
structure SmallP (p : Program) : Prop where
  code : p.2.2.length ≤ 1048576
structure SmallL (l : Link) : Prop where
  tokens : l.2.2.2.2.length ≤ 1048576
structure SmallN (nt : Network) : Prop where
  progs : nt.1.length ≤ 1048576
  prog : ∀ p ∈ nt.1, SmallP p
  links : nt.2.length ≤ 1048576
  link : ∀ l ∈ nt.2, SmallL l

theorem maxLen_eq : maxLen = 9223372036854775807 := by decide

/-- how a size is told: r is what is left, or less than 0 -/
def Left (left : Int) (o : Option (Int × Unit)) (P : Prop) : Prop := ∃ r : Int, o = some (r, ()) ∧ r ≤ left ∧ (0 ≤ r → P)

theorem szInstrS_spec (n : Nat) {a : List Instr} {left : Int} (hm : a.length ≤ maxLen) (h0 : 0 ≤ left) (h1 : left ≤ 1048576) : Left left (szInstrS.f n a left) (a.length ≤ 1048576) := by
  have hm' := maxLen_eq
  unfold szInstrS.f
  rw [w64_id (by omega) (by omega)]
  by_cases h : left - (a.length : Int) < 0
  · exact ⟨-1, by simp [h, br], by omega, fun h => by omega⟩
  · exact ⟨left - (a.length : Int), by simp [h, br], by omega, fun h => by omega⟩

theorem szIntS_spec (n : Nat) {a : List Int} {left : Int} (hm : a.length ≤ maxLen) (h0 : 0 ≤ left) (h1 : left ≤ 1048576) : Left left (szIntS.f n a left) (a.length ≤ 1048576) := by
  have hm' := maxLen_eq
  unfold szIntS.f
  rw [w64_id (by omega) (by omega)]
  by_cases h : left - (a.length : Int) < 0
  · exact ⟨-1, by simp [h, br], by omega, fun h => by omega⟩
  · exact ⟨left - (a.length : Int), by simp [h, br], by omega, fun h => by omega⟩

theorem szProgram_spec (n : Nat) {p : Program} {left : Int} (hm : p.2.2.length ≤ maxLen) (h0 : 0 ≤ left) (h1 : left ≤ 1048576) : Left left (szProgram.f n p left) (SmallP p) := by
  obtain ⟨r, e, h2, h3⟩ := szInstrS_spec n hm h0 h1
  unfold szProgram.f
  rw [e]
  by_cases h : r < 0
  · exact ⟨-1, by simp [h, br], by omega, fun h => by omega⟩
  · exact ⟨r, by simp [h, br], h2, fun h => ⟨h3 h⟩⟩

theorem szLink_spec (n : Nat) {p : Link} {left : Int} (hm : p.2.2.2.2.length ≤ maxLen) (h0 : 0 ≤ left) (h1 : left ≤ 1048576) : Left left (szLink.f n p left) (SmallL p) := by
  obtain ⟨r, e, h2, h3⟩ := szIntS_spec n hm h0 h1
  unfold szLink.f
  rw [e]
  by_cases h : r < 0
  · exact ⟨-1, by simp [h, br], by omega, fun h => by omega⟩
  · exact ⟨r, by simp [h, br], h2, fun h => ⟨h3 h⟩⟩

/-- sizes of a list's elements, one after the other -/
theorem sz_loop {α : Type} (a : List α) (S : α → Prop) (g : α → Int → Option (Int × Unit)) {F : (Int × (Int × Unit) → Option (Int × Unit)) → Int × (Int × Unit) → Option (Int × Unit)}
    (hg : ∀ x ∈ a, ∀ left, 0 ≤ left → left ≤ 1048576 → Left left (g x left) (S x))
    (hF : ∀ ih (i : Nat) (hi : i < a.length) (left : Int), F ih (left, ((i : Int), ())) = (g a[i] left).bind fun r => br (decide (r.1 < 0)) (some ((-1), ())) (ih (r.1, (((i + 1 : Nat) : Int), ()))))
    (hE : ∀ ih left, F ih (left, ((a.length : Int), ())) = some (left, ())) {n : Nat} (hn : a.length < n) {left : Int} (h0 : 0 ≤ left) (h1 : left ≤ 1048576) :
    Left left (iter n F (left, (0, ()))) (∀ x ∈ a, S x) := by
  have := iter_upG (F := F) (fun i (s : Int) => (s, ((i : Int), ()))) a.length (fun i s o => 0 ≤ s → s ≤ 1048576 → Left s o (∀ x ∈ a.drop i, S x))
    (fun ih s _ _ => ⟨s, hE ih s, by omega, fun _ => by simp⟩)
    (fun ih i s hi h hs1 hs2 => by
      rw [hF ih i hi s]
      obtain ⟨r, e, r1, r2⟩ := hg a[i] (List.getElem_mem hi) s hs1 hs2
      rw [e]
      by_cases hr : r < 0
      · exact ⟨-1, by simp [hr, br], by omega, fun h => by omega⟩
      · obtain ⟨r', e', q1, q2⟩ := h r (by omega) (by omega)
        refine ⟨r', by simp [hr, br]; exact e', by omega, fun hp => ?_⟩
        rw [List.drop_eq_getElem_cons hi]
        intro x hx
        rcases List.mem_cons.1 hx with rfl | hx
        · exact r2 (by omega)
        · exact q2 hp x hx)
    n 0 left (Nat.zero_le _) (by omega) h0 h1
  simpa using this

theorem szProgramS_spec {n : Nat} {a : List Program} {left : Int} (hn : 1048576 < n) (hm : a.length ≤ maxLen) (hm2 : ∀ p ∈ a, p.2.2.length ≤ maxLen) (h0 : 0 ≤ left) (h1 : left ≤ 1048576) :
    Left left (szProgramS.f n a left) (a.length ≤ 1048576 ∧ ∀ p ∈ a, SmallP p) := by
  have hm' := maxLen_eq
  unfold szProgramS.f
  rw [w64_id (by omega) (by omega)]
  by_cases h : left - (a.length : Int) < 0
  · exact ⟨-1, by simp [h, br], by omega, fun h => by omega⟩
  · simp only [h, decide_false, br_false]
    obtain ⟨r, e, r1, r2⟩ := sz_loop a SmallP (fun p => szProgram.f n p) (fun x hx left => szProgram_spec n (hm2 x hx)) (n := n) (left := left - (a.length : Int)) (F := fun ih7 x6 => br (decide (x6.2.1 < (a.length : Int))) (chk (0 ≤ x6.2.1 ∧ x6.2.1 < (a.length : Int)) (let v8 := (a.getD x6.2.1.toNat zProgram); (szProgram.f n v8 x6.1).bind fun r9 => br (decide (r9.1 < 0)) (some ((-1), ())) (ih7 (r9.1, ((w64 (x6.2.1 + 1)), ()))))) (some (x6.1, ())))
      (fun ih i hi left => by
        have h1 : (i : Int) < (a.length : Int) := by omega
        simp only [h1, decide_true, br_true, Int.toNat_natCast, getD_lt hi]
        rw [chk_true (by simp), w64_succ (by omega)])
      (fun ih left => by simp [br]) (by omega) (by omega) (by omega)
    exact ⟨r, e, by omega, fun h => ⟨by omega, r2 h⟩⟩

theorem szLinkS_spec {n : Nat} {a : List Link} {left : Int} (hn : 1048576 < n) (hm : a.length ≤ maxLen) (hm2 : ∀ p ∈ a, p.2.2.2.2.length ≤ maxLen) (h0 : 0 ≤ left) (h1 : left ≤ 1048576) :
    Left left (szLinkS.f n a left) (a.length ≤ 1048576 ∧ ∀ p ∈ a, SmallL p) := by
  have hm' := maxLen_eq
  unfold szLinkS.f
  rw [w64_id (by omega) (by omega)]
  by_cases h : left - (a.length : Int) < 0
  · exact ⟨-1, by simp [h, br], by omega, fun h => by omega⟩
  · simp only [h, decide_false, br_false]
    obtain ⟨r, e, r1, r2⟩ := sz_loop a SmallL (fun p => szLink.f n p) (fun x hx left => szLink_spec n (hm2 x hx)) (n := n) (left := left - (a.length : Int)) (F := fun ih7 x6 => br (decide (x6.2.1 < (a.length : Int))) (chk (0 ≤ x6.2.1 ∧ x6.2.1 < (a.length : Int)) (let v8 := (a.getD x6.2.1.toNat zLink); (szLink.f n v8 x6.1).bind fun r9 => br (decide (r9.1 < 0)) (some ((-1), ())) (ih7 (r9.1, ((w64 (x6.2.1 + 1)), ()))))) (some (x6.1, ())))
      (fun ih i hi left => by
        have h1 : (i : Int) < (a.length : Int) := by omega
        simp only [h1, decide_true, br_true, Int.toNat_natCast, getD_lt hi]
        rw [chk_true (by simp), w64_succ (by omega)])
      (fun ih left => by simp [br]) (by omega) (by omega) (by omega)
    exact ⟨r, e, by omega, fun h => ⟨by omega, r2 h⟩⟩

theorem szNetwork_spec {n : Nat} {nt : Network} {left : Int} (hn : 1048576 < n) (hx : InR tNetwork nt) (h0 : 0 ≤ left) (h1 : left ≤ 1048576) : Left left (szNetwork.f n nt left) (SmallN nt) := by
  obtain ⟨⟨p1, p2⟩, ⟨l1, l2⟩⟩ := hx
  obtain ⟨r, e, r1, r2⟩ := szProgramS_spec hn p1 (fun p hp => (p2 p hp).2.2.1) h0 h1
  unfold szNetwork.f
  rw [e]
  by_cases h : r < 0
  · exact ⟨-1, by simp [h, br], by omega, fun h => by omega⟩
  · obtain ⟨r', e', r1', r2'⟩ := szLinkS_spec hn l1 (fun p hp => (l2 p hp).2.2.2.2.1) (show 0 ≤ r by omega) (by omega)
    simp only [Option.bind_some, h, decide_false, br_false, e']
    by_cases h' : r' < 0
    · exact ⟨-1, by simp [h', br], by omega, fun h => by omega⟩
    · refine ⟨r', by simp [h', br], by omega, fun h => ?_⟩
      obtain ⟨a1, a2⟩ := r2 (by omega)
      obtain ⟨b1, b2⟩ := r2' (by omega)
      exact ⟨a1, a2, b1, b2⟩

/-! ### copies, and that a copy is the same -/
/-- a list that is copied, each element by a function -/
theorem copyf_loop {α : Type} (a : List α) (f : α → Option (α × Unit)) (hf : ∀ x ∈ a, f x = some (x, ())) {F : (Int × List α × Unit → Option (List α × Unit)) → Int × List α × Unit → Option (List α × Unit)}
    (hF : ∀ ih (i : Nat) (hi : i < a.length) ys, ys.length = a.length → F ih ((i : Int), (ys, ())) = (f a[i]).bind fun r => ih (((i + 1 : Nat) : Int), (ys.set i r.1, ())))
    (hE : ∀ ih ys, F ih ((a.length : Int), (ys, ())) = some (ys, ())) {n : Nat} (hn : a.length < n) {ys : List α} (hy : ys.length = a.length) : iter n F (0, (ys, ())) = some (a, ()) :=
  copy_loop a (fun ih i hi ys hy => by rw [hF ih i hi ys hy, hf _ (List.getElem_mem hi)]; rfl) hE hn hy

theorem toInstrS_spec {n : Nat} {a : List Instr} (hl : a.length ≤ 1048576) (hn : 1048576 < n) : toInstrS.f n a = some (a, ()) := by
  unfold toInstrS.f
  rw [chk_true (by refine ⟨rfl, by omega, ?_⟩; have : (maxB : Int) = 140737488355328 := rfl; omega)]
  refine copyf_loop a (fun x => toInstr.f n x) (fun x _ => rfl) (fun ih i hi ys hy => ?_) (fun ih ys => ?_) (by omega) (by simp)
  · have h1 : (i : Int) < (a.length : Int) := by omega
    have h2 : (i : Int) < (ys.length : Int) := by omega
    simp only [h1, decide_true, br_true, Int.toNat_natCast, getD_lt hi]
    rw [chk_true (by simp)]
    congr 1; funext r
    rw [chk_true (by simp; omega), w64_succ (by omega)]
  · simp [br]

theorem toIntS_spec {n : Nat} {a : List Int} (hl : a.length ≤ 1048576) (hn : 1048576 < n) : toIntS.f n a = some (a, ()) := by
  unfold toIntS.f
  rw [chk_true (by refine ⟨rfl, by omega, ?_⟩; have : (maxB : Int) = 140737488355328 := rfl; omega)]
  refine copy_loop a (fun ih i hi ys hy => ?_) (fun ih ys => ?_) (by omega) (by simp)
  · have h1 : (i : Int) < (a.length : Int) := by omega
    have h2 : (i : Int) < (ys.length : Int) := by omega
    simp only [h1, decide_true, br_true]
    rw [chk_true (by simp), chk_true (by simp; omega), w64_succ (by omega), Int.toNat_natCast, getD_lt hi]
  · simp [br]

theorem toProgram_spec {n : Nat} {p : Program} (hp : SmallP p) (hn : 1048576 < n) : toProgram.f n p = some (p, ()) := by
  unfold toProgram.f
  rw [toInstrS_spec hp.code hn]; rfl

theorem toLink_spec {n : Nat} {p : Link} (hp : SmallL p) (hn : 1048576 < n) : toLink.f n p = some (p, ()) := by
  unfold toLink.f
  rw [toIntS_spec hp.tokens hn]; rfl

theorem toProgramS_spec {n : Nat} {a : List Program} (hl : a.length ≤ 1048576) (ha : ∀ p ∈ a, SmallP p) (hn : 1048576 < n) : toProgramS.f n a = some (a, ()) := by
  unfold toProgramS.f
  rw [chk_true (by refine ⟨rfl, by omega, ?_⟩; have : (maxB : Int) = 140737488355328 := rfl; omega)]
  refine copyf_loop a (fun x => toProgram.f n x) (fun x hx => toProgram_spec (ha x hx) hn) (fun ih i hi ys hy => ?_) (fun ih ys => ?_) (by omega) (by simp)
  · have h1 : (i : Int) < (a.length : Int) := by omega
    have h2 : (i : Int) < (ys.length : Int) := by omega
    simp only [h1, decide_true, br_true, Int.toNat_natCast, getD_lt hi]
    rw [chk_true (by simp)]
    congr 1; funext r
    rw [chk_true (by simp; omega), w64_succ (by omega)]
  · simp [br]

theorem toLinkS_spec {n : Nat} {a : List Link} (hl : a.length ≤ 1048576) (ha : ∀ p ∈ a, SmallL p) (hn : 1048576 < n) : toLinkS.f n a = some (a, ()) := by
  unfold toLinkS.f
  rw [chk_true (by refine ⟨rfl, by omega, ?_⟩; have : (maxB : Int) = 140737488355328 := rfl; omega)]
  refine copyf_loop a (fun x => toLink.f n x) (fun x hx => toLink_spec (ha x hx) hn) (fun ih i hi ys hy => ?_) (fun ih ys => ?_) (by omega) (by simp)
  · have h1 : (i : Int) < (a.length : Int) := by omega
    have h2 : (i : Int) < (ys.length : Int) := by omega
    simp only [h1, decide_true, br_true, Int.toNat_natCast, getD_lt hi]
    rw [chk_true (by simp)]
    congr 1; funext r
    rw [chk_true (by simp; omega), w64_succ (by omega)]
  · simp [br]

theorem toNetwork_spec {n : Nat} {nt : Network} (h : SmallN nt) (hn : 1048576 < n) : toNetwork.f n nt = some (nt, ()) := by
  unfold toNetwork.f
  rw [toProgramS_spec h.progs h.prog hn, toLinkS_spec h.links h.link hn]; rfl

/-- a list is the same as itself -/
theorem refl_loop {α : Type} (a : List α) (f : α → α → Option (Bool × Unit)) (hf : ∀ x ∈ a, f x x = some (true, ())) {F : (Int × Unit → Option (Bool × Unit)) → Int × Unit → Option (Bool × Unit)}
    (hF : ∀ ih (i : Nat) (hi : i < a.length), F ih ((i : Int), ()) = (f a[i] a[i]).bind fun r => br (!r.1) (some (false, ())) (ih (((i + 1 : Nat) : Int), ())))
    (hE : ∀ ih, F ih ((a.length : Int), ()) = some (true, ())) {n : Nat} (hn : a.length < n) : iter n F (0, ()) = some (true, ()) :=
  (all_loop a (fun _ => true) (fun ih i hi => by rw [hF ih i hi, hf _ (List.getElem_mem hi)]; rfl) hE hn).trans (by simp)

theorem eqInstr_refl (n : Nat) (e : Instr) : eqInstr.f n e e = some (true, ()) := by unfold eqInstr.f; simp [br]

theorem eqInstrS_refl {n : Nat} {a : List Instr} (hl : a.length ≤ 1048576) (hn : 1048576 < n) : eqInstrS.f n a a = some (true, ()) := by
  unfold eqInstrS.f
  simp only [decide_true, Bool.not_true, br_false]
  refine refl_loop a (fun x y => eqInstr.f n x y) (fun x _ => eqInstr_refl n x) (fun ih i hi => ?_) (fun ih => ?_) (by omega)
  · have h1 : (i : Int) < (a.length : Int) := by omega
    simp only [h1, decide_true, br_true, Int.toNat_natCast, getD_lt hi]
    rw [chk_true (by simp), chk_true (by simp), w64_succ (by omega)]
  · simp [br]

theorem eqIntS_refl {n : Nat} {a : List Int} (hl : a.length ≤ 1048576) (hn : 1048576 < n) : eqIntS.f n a a = some (true, ()) := by
  unfold eqIntS.f
  simp only [decide_true, Bool.not_true, br_false]
  refine (all_loop a (fun _ => true) (fun ih i hi => ?_) (fun ih => ?_) (by omega)).trans (by simp)
  · have h1 : (i : Int) < (a.length : Int) := by omega
    simp only [h1, decide_true, br_true, Bool.not_true, br_false, if_true]
    rw [chk_true (by simp), chk_true (by simp), w64_succ (by omega)]
  · simp [br]

theorem eqProgram_refl {n : Nat} {p : Program} (hp : SmallP p) (hn : 1048576 < n) : eqProgram.f n p p = some (true, ()) := by
  unfold eqProgram.f
  rw [eqInstrS_refl hp.code hn]; simp [br]

theorem eqLink_refl {n : Nat} {p : Link} (hp : SmallL p) (hn : 1048576 < n) : eqLink.f n p p = some (true, ()) := by
  unfold eqLink.f
  rw [eqIntS_refl hp.tokens hn]; simp [br]

theorem eqProgramS_refl {n : Nat} {a : List Program} (hl : a.length ≤ 1048576) (ha : ∀ p ∈ a, SmallP p) (hn : 1048576 < n) : eqProgramS.f n a a = some (true, ()) := by
  unfold eqProgramS.f
  simp only [decide_true, Bool.not_true, br_false]
  refine refl_loop a (fun x y => eqProgram.f n x y) (fun x hx => eqProgram_refl (ha x hx) hn) (fun ih i hi => ?_) (fun ih => ?_) (by omega)
  · have h1 : (i : Int) < (a.length : Int) := by omega
    simp only [h1, decide_true, br_true, Int.toNat_natCast, getD_lt hi]
    rw [chk_true (by simp), chk_true (by simp), w64_succ (by omega)]
  · simp [br]

theorem eqLinkS_refl {n : Nat} {a : List Link} (hl : a.length ≤ 1048576) (ha : ∀ p ∈ a, SmallL p) (hn : 1048576 < n) : eqLinkS.f n a a = some (true, ()) := by
  unfold eqLinkS.f
  simp only [decide_true, Bool.not_true, br_false]
  refine refl_loop a (fun x y => eqLink.f n x y) (fun x hx => eqLink_refl (ha x hx) hn) (fun ih i hi => ?_) (fun ih => ?_) (by omega)
  · have h1 : (i : Int) < (a.length : Int) := by omega
    simp only [h1, decide_true, br_true, Int.toNat_natCast, getD_lt hi]
    rw [chk_true (by simp), chk_true (by simp), w64_succ (by omega)]
  · simp [br]

theorem eqNetwork_refl {n : Nat} {nt : Network} (h : SmallN nt) (hn : 1048576 < n) : eqNetwork.f n nt nt = some (true, ()) := by
  unfold eqNetwork.f
  rw [eqProgramS_refl h.progs h.prog hn, eqLinkS_refl h.links h.link hn]; simp [br]


/-! ### programs and streams -/
def reg (a : Int) : Bool := decide (0 ≤ a) && decide (a ≤ 3)
def tok (a : Int) : Bool := decide (-999999 ≤ a) && decide (a ≤ 999999)
def okI (ins outs size : Int) (x : Instr) : Bool :=
  if x.1 = 1 then reg x.2.1 && (decide (0 ≤ x.2.2.1) && decide (x.2.2.1 < ins) && decide (x.2.2.2 = 0))
  else if x.1 = 2 then reg x.2.1 && (decide (0 ≤ x.2.2.1) && decide (x.2.2.1 < outs) && decide (x.2.2.2 = 0))
  else if x.1 = 3 then reg x.2.1 && (tok x.2.2.1 && decide (x.2.2.2 = 0))
  else if x.1 = 4 ∨ x.1 = 5 ∨ x.1 = 6 ∨ x.1 = 7 then reg x.2.1 && (reg x.2.2.1 && reg x.2.2.2)
  else if x.1 = 8 then decide (x.2.1 = 0) && (decide (0 ≤ x.2.2.1) && decide (x.2.2.1 ≤ size) && decide (x.2.2.2 = 0))
  else if x.1 = 9 ∨ x.1 = 10 then reg x.2.1 && (decide (0 ≤ x.2.2.1) && decide (x.2.2.1 ≤ size) && decide (x.2.2.2 = 0))
  else if x.1 = 11 then decide (x.2.1 = 0) && (decide (x.2.2.1 = 0) && decide (x.2.2.2 = 0))
  else false
def okP (p : Program) : Bool := decide (0 ≤ p.1) && decide (p.1 ≤ 3) && (decide (0 ≤ p.2.1) && decide (p.2.1 ≤ 3)) && (decide (1 ≤ p.2.2.length) && decide (p.2.2.length ≤ 24)) && p.2.2.all (okI p.1 p.2.1 (p.2.2.length : Int))
def okS (s : List Int) : Bool := decide (s.length ≤ 400) && s.all tok

theorem isReg_spec (n : Nat) (a : Int) : isReg.f n a = some (reg a, ()) := by
  unfold isReg.f reg
  by_cases h : 0 ≤ a <;> simp [h, br]
theorem isToken_spec (n : Nat) (a : Int) : isToken.f n a = some (tok a, ()) := by
  unfold isToken.f tok
  by_cases h : -999999 ≤ a <;> simp [h, br]
theorem sL1Token_spec (n : Nat) (a : Int) : sL1Token.f n a = some (tok a, ()) := by
  unfold sL1Token.f tok
  rw [sL1In_spec]; rfl

theorem isInstr_spec (n : Nat) (x : Instr) (ins outs size : Int) : isInstr.f n x ins outs size = some (okI ins outs size x, ()) := by
  have e1 : (br (decide (0 ≤ x.2.2.1)) (br (decide (x.2.2.1 ≤ size)) (some (Sum.inr (α := Bool × Unit) (decide (x.2.2.2 = 0), ()))) (some (.inr (false, ())))) (some (.inr (false, ())))) = some (.inr ((decide (0 ≤ x.2.2.1) && decide (x.2.2.1 ≤ size) && decide (x.2.2.2 = 0)), ())) := by
    cases decide (0 ≤ x.2.2.1) <;> cases decide (x.2.2.1 ≤ size) <;> rfl
  unfold isInstr.f okI
  simp only [e1, cut_inr, isReg_spec, isToken_spec, Option.bind_some]
  by_cases h1 : x.1 = 1
  · simp only [h1, decide_true, br_true, if_true]
    cases reg x.2.1 <;> cases decide (0 ≤ x.2.2.1) <;> cases decide (x.2.2.1 < ins) <;> rfl
  by_cases h2 : x.1 = 2
  · simp only [h2, decide_true, decide_false, br_true, br_false, if_true, show ¬ ((2 : Int) = 1) by omega, if_false]
    cases reg x.2.1 <;> cases decide (0 ≤ x.2.2.1) <;> cases decide (x.2.2.1 < outs) <;> rfl
  by_cases h3 : x.1 = 3
  · simp only [h3, decide_true, decide_false, br_true, br_false, if_true, show ¬ ((3 : Int) = 1) by omega, show ¬ ((3 : Int) = 2) by omega, if_false]
    cases reg x.2.1 <;> cases tok x.2.2.1 <;> rfl
  simp only [h1, h2, h3, decide_false, br_false, if_false]
  by_cases h4 : x.1 = 4 ∨ x.1 = 5 ∨ x.1 = 6 ∨ x.1 = 7
  · have e2 : br (decide (x.1 = 4)) (some (Sum.inr (α := Bool × Unit) (decide (x.1 = 4), ()))) (br (decide (x.1 = 5)) (some (.inr (decide (x.1 = 5), ()))) (br (decide (x.1 = 6)) (some (.inr (decide (x.1 = 6), ()))) (some (.inr (decide (x.1 = 7), ()))))) = some (.inr (true, ())) := by
      rcases h4 with h | h | h | h <;> simp [h, br]
    rw [e2]
    simp only [h4, if_true, cut_inr, br_true]
    cases reg x.2.1 <;> cases reg x.2.2.1 <;> rfl
  · have e2 : br (decide (x.1 = 4)) (some (Sum.inr (α := Bool × Unit) (decide (x.1 = 4), ()))) (br (decide (x.1 = 5)) (some (.inr (decide (x.1 = 5), ()))) (br (decide (x.1 = 6)) (some (.inr (decide (x.1 = 6), ()))) (some (.inr (decide (x.1 = 7), ()))))) = some (.inr (false, ())) := by
      simp only [not_or] at h4
      simp [h4, br]
    rw [e2]
    simp only [h4, if_false, cut_inr, br_false]
    by_cases h8 : x.1 = 8
    · simp only [h8, decide_true, br_true, if_true]
      cases decide (x.2.1 = 0) <;> rfl
    · simp only [h8, decide_false, br_false, if_false]
      by_cases h9 : x.1 = 9 ∨ x.1 = 10
      · have e3 : br (decide (x.1 = 9)) (some (Sum.inr (α := Bool × Unit) (decide (x.1 = 9), ()))) (some (.inr (decide (x.1 = 10), ()))) = some (.inr (true, ())) := by
          rcases h9 with h | h <;> simp [h, br]
        rw [e3]
        simp only [h9, if_true, cut_inr, br_true]
        cases reg x.2.1 <;> rfl
      · have e3 : br (decide (x.1 = 9)) (some (Sum.inr (α := Bool × Unit) (decide (x.1 = 9), ()))) (some (.inr (decide (x.1 = 10), ()))) = some (.inr (false, ())) := by
          simp only [not_or] at h9
          simp [h9, br]
        rw [e3]
        simp only [h9, if_false, cut_inr, br_false]
        by_cases h11 : x.1 = 11
        · simp only [h11, decide_true, br_true, if_true, Bool.and_true, Bool.true_and]
        · simp only [h11, decide_false, br_false, if_false]

theorem lt_pred (b ins : Int) : decide (b ≤ ins - 1) = decide (b < ins) := by
  by_cases h : b < ins
  · rw [decide_eq_true h, decide_eq_true (by omega)]
  · rw [decide_eq_false h, decide_eq_false (by omega)]

theorem sL2Operands_spec (n : Nat) (p : Program) (x : Instr) (hi : 0 ≤ p.1 ∧ p.1 ≤ 3) (ho : 0 ≤ p.2.1 ∧ p.2.1 ≤ 3) : sL2Operands.f n p x = some (okI p.1 p.2.1 (p.2.2.length : Int) x, ()) := by
  have w1 : w64 (p.1 - 1) = p.1 - 1 := w64_id (by omega) (by omega)
  have w2 : w64 (p.2.1 - 1) = p.2.1 - 1 := w64_id (by omega) (by omega)
  have e0 : (br (reg x.2.1) (br (reg x.2.2.1) (some (Sum.inr (α := Bool × Unit) (reg x.2.2.2, ()))) (some (.inr (false, ())))) (some (.inr (false, ())))) = some (.inr ((reg x.2.1 && (reg x.2.2.1 && reg x.2.2.2)), ())) := by
    cases reg x.2.1 <;> cases reg x.2.2.1 <;> rfl
  have e1 : (br (decide (0 ≤ x.2.2.1) && decide (x.2.2.1 ≤ (p.2.2.length : Int))) (some (Sum.inr (α := Bool × Unit) (decide (x.2.2.2 = 0), ()))) (some (.inr (false, ())))) = some (.inr ((decide (0 ≤ x.2.2.1) && decide (x.2.2.1 ≤ (p.2.2.length : Int)) && decide (x.2.2.2 = 0)), ())) := by
    cases decide (0 ≤ x.2.2.1) <;> cases decide (x.2.2.1 ≤ (p.2.2.length : Int)) <;> rfl
  have hr : ∀ a : Int, sL1In.f n a 0 3 = some (reg a, ()) := fun a => sL1In_spec n a 0 3
  unfold sL2Operands.f okI
  simp only [hr, Option.bind_some, e0, sL1In_spec, e1, cut_inr, sL1Token_spec, w1, w2, lt_pred]
  by_cases h1 : x.1 = 1
  · simp only [h1, decide_true, br_true, if_true]
    cases reg x.2.1 <;> cases decide (0 ≤ x.2.2.1) <;> cases decide (x.2.2.1 < p.1) <;> rfl
  by_cases h2 : x.1 = 2
  · simp only [h2, decide_true, decide_false, br_true, br_false, if_true, show ¬ ((2 : Int) = 1) by omega, if_false]
    cases reg x.2.1 <;> cases decide (0 ≤ x.2.2.1) <;> cases decide (x.2.2.1 < p.2.1) <;> rfl
  by_cases h3 : x.1 = 3
  · simp only [h3, decide_true, decide_false, br_true, br_false, if_true, show ¬ ((3 : Int) = 1) by omega, show ¬ ((3 : Int) = 2) by omega, if_false]
    cases reg x.2.1 <;> cases tok x.2.2.1 <;> rfl
  simp only [h1, h2, h3, decide_false, br_false, if_false]
  by_cases h4 : x.1 = 4 ∨ x.1 = 5 ∨ x.1 = 6 ∨ x.1 = 7
  · have e2 : br (decide (x.1 = 4)) (some (Sum.inr (α := Bool × Unit) (decide (x.1 = 4), ()))) (br (decide (x.1 = 5)) (some (.inr (decide (x.1 = 5), ()))) (br (decide (x.1 = 6)) (some (.inr (decide (x.1 = 6), ()))) (some (.inr (decide (x.1 = 7), ()))))) = some (.inr (true, ())) := by
      rcases h4 with h | h | h | h <;> simp [h, br]
    rw [e2]
    simp only [h4, if_true, cut_inr, br_true]
  · have e2 : br (decide (x.1 = 4)) (some (Sum.inr (α := Bool × Unit) (decide (x.1 = 4), ()))) (br (decide (x.1 = 5)) (some (.inr (decide (x.1 = 5), ()))) (br (decide (x.1 = 6)) (some (.inr (decide (x.1 = 6), ()))) (some (.inr (decide (x.1 = 7), ()))))) = some (.inr (false, ())) := by
      simp only [not_or] at h4
      simp [h4, br]
    rw [e2]
    simp only [h4, if_false, cut_inr, br_false]
    by_cases h8 : x.1 = 8
    · simp only [h8, decide_true, br_true, if_true]
      cases decide (x.2.1 = 0) <;> rfl
    · simp only [h8, decide_false, br_false, if_false]
      by_cases h9 : x.1 = 9 ∨ x.1 = 10
      · have e3 : br (decide (x.1 = 9)) (some (Sum.inr (α := Bool × Unit) (decide (x.1 = 9), ()))) (some (.inr (decide (x.1 = 10), ()))) = some (.inr (true, ())) := by
          rcases h9 with h | h <;> simp [h, br]
        rw [e3]
        simp only [h9, if_true, cut_inr, br_true]
        cases reg x.2.1 <;> rfl
      · have e3 : br (decide (x.1 = 9)) (some (Sum.inr (α := Bool × Unit) (decide (x.1 = 9), ()))) (some (.inr (decide (x.1 = 10), ()))) = some (.inr (false, ())) := by
          simp only [not_or] at h9
          simp [h9, br]
        rw [e3]
        simp only [h9, if_false, cut_inr, br_false]
        by_cases h11 : x.1 = 11
        · simp only [h11, decide_true, br_true, if_true]
          cases decide (x.2.1 = 0) <;> cases decide (x.2.2.1 = 0) <;> rfl
        · simp only [h11, decide_false, br_false, if_false]

theorem sIsProgram_spec {n : Nat} {p : Program} (hp : SmallP p) (hn : 1048576 < n) : sIsProgram.f n p = some (okP p, ()) := by
  have hc := hp.code
  unfold sIsProgram.f okP
  simp only [sL1In_spec, Option.bind_some]
  by_cases h1 : 0 ≤ p.1 ∧ p.1 ≤ 3
  · by_cases h2 : 0 ≤ p.2.1 ∧ p.2.1 ≤ 3
    · by_cases h3 : 1 ≤ p.2.2.length ∧ p.2.2.length ≤ 24
      · simp only [h1.1, h1.2, h2.1, h2.2, h3.1, h3.2, show (1 : Int) ≤ (p.2.2.length : Int) by omega, show (p.2.2.length : Int) ≤ 24 by omega, decide_true, Bool.and_self, Bool.not_true, br_false, Bool.true_and, cut_inr]
        refine all_loop p.2.2 (okI p.1 p.2.1 (p.2.2.length : Int)) (fun ih i hi => ?_) (fun ih => ?_) (by omega)
        · have h4 : (i : Int) < (p.2.2.length : Int) := by omega
          simp only [h4, decide_true, br_true, Int.toNat_natCast, getD_lt hi, sL2Operands_spec n p _ h1 h2, Option.bind_some]
          rw [chk_true (by simp), w64_succ (by omega), br_if]
          cases okI p.1 p.2.1 (p.2.2.length : Int) p.2.2[i] <;> rfl
        · simp [br]
      · have e1 : (decide ((1 : Int) ≤ (p.2.2.length : Int)) && decide ((p.2.2.length : Int) ≤ 24)) = false := by
          rw [← Bool.not_eq_true]; simp only [Bool.and_eq_true, decide_eq_true_eq]; omega
        have e2 : (decide (1 ≤ p.2.2.length) && decide (p.2.2.length ≤ 24)) = false := by
          rw [← Bool.not_eq_true]; simp only [Bool.and_eq_true, decide_eq_true_eq]; omega
        simp [h1, h2, e1, e2, br, cut]
    · have e2 : (decide (0 ≤ p.2.1) && decide (p.2.1 ≤ 3)) = false := by
        rw [← Bool.not_eq_true]; simp only [Bool.and_eq_true, decide_eq_true_eq]; omega
      simp [h1, e2, br, cut]
  · have e2 : (decide (0 ≤ p.1) && decide (p.1 ≤ 3)) = false := by
      rw [← Bool.not_eq_true]; simp only [Bool.and_eq_true, decide_eq_true_eq]; omega
    simp [e2, br, cut]

theorem iIsProgram_spec {n : Nat} {p : Program} (hp : SmallP p) (hn : 1048576 < n) : iIsProgram.f n p = some (okP p, ()) := by
  have hc := hp.code
  unfold iIsProgram.f okP
  by_cases h1 : 0 ≤ p.1 ∧ p.1 ≤ 3
  · by_cases h2 : 0 ≤ p.2.1 ∧ p.2.1 ≤ 3
    · by_cases h3 : 1 ≤ p.2.2.length ∧ p.2.2.length ≤ 24
      · have a1 : ¬ (p.1 < 0) := by omega
        have a2 : ¬ (3 < p.1) := by omega
        have a3 : ¬ (p.2.1 < 0) := by omega
        have a4 : ¬ (3 < p.2.1) := by omega
        have a5 : ¬ ((p.2.2.length : Int) < 1) := by omega
        have a6 : ¬ (24 < (p.2.2.length : Int)) := by omega
        simp only [a1, a2, a3, a4, a5, a6, h1.1, h1.2, h2.1, h2.2, h3.1, h3.2, decide_true, decide_false, br_false, cut_inr, Bool.and_self, Bool.true_and]
        unfold containsFuncI.f indexFuncI.f
        obtain ⟨r, e1, e2⟩ := index_loop p.2.2 (fun x => !(okI p.1 p.2.1 (p.2.2.length : Int) x)) (n := n) (F := fun ih7 x6 => br (decide (x6.1 < (p.2.2.length : Int))) (chk (0 ≤ x6.1 ∧ x6.1 < (p.2.2.length : Int)) (let v8 := (p.2.2.getD x6.1.toNat zInstr); (isProgramC.f n v8 p).bind fun r9 => br r9.1 (some (x6.1, ())) (ih7 ((w64 (x6.1 + 1)), ())))) (some ((-1), ())))
          (fun ih i hi => by
            have h4 : (i : Int) < (p.2.2.length : Int) := by omega
            unfold isProgramC.f
            simp only [h4, decide_true, br_true, Int.toNat_natCast, getD_lt hi, isInstr_spec, Option.bind_some]
            rw [chk_true (by simp), w64_succ (by omega), br_if]) (fun ih => by simp [br]) (by omega)
        rw [e1]
        simp only [Option.bind_some, e2]
        congr 2
        rw [List.any_eq_not_all_not]
        simp
      · have e2 : (decide (1 ≤ p.2.2.length) && decide (p.2.2.length ≤ 24)) = false := by
          rw [← Bool.not_eq_true]; simp only [Bool.and_eq_true, decide_eq_true_eq]; omega
        have a1 : ¬ (p.1 < 0) := by omega
        have a2 : ¬ (3 < p.1) := by omega
        have a3 : ¬ (p.2.1 < 0) := by omega
        have a4 : ¬ (3 < p.2.1) := by omega
        by_cases a5 : (p.2.2.length : Int) < 1
        · simp [a1, a2, a3, a4, a5, e2, br, cut]
        · have a6 : (24 < (p.2.2.length : Int)) := by omega
          simp [a1, a2, a3, a4, a5, a6, e2, br, cut]
    · have e2 : (decide (0 ≤ p.2.1) && decide (p.2.1 ≤ 3)) = false := by
        rw [← Bool.not_eq_true]; simp only [Bool.and_eq_true, decide_eq_true_eq]; omega
      have a1 : ¬ (p.1 < 0) := by omega
      have a2 : ¬ (3 < p.1) := by omega
      by_cases a3 : p.2.1 < 0
      · simp [a1, a2, a3, e2, br, cut]
      · have a4 : (3 < p.2.1) := by omega
        simp [a1, a2, a3, a4, e2, br, cut]
  · have e2 : (decide (0 ≤ p.1) && decide (p.1 ≤ 3)) = false := by
      rw [← Bool.not_eq_true]; simp only [Bool.and_eq_true, decide_eq_true_eq]; omega
    by_cases a1 : p.1 < 0
    · simp [a1, e2, br, cut]
    · have a2 : (3 < p.1) := by omega
      simp [a1, a2, e2, br, cut]

theorem sIsStream_spec {n : Nat} {s : List Int} (hs : s.length ≤ 1048576) (hn : 1048576 < n) : sIsStream.f n s = some (okS s, ()) := by
  unfold sIsStream.f okS
  have := chk_loop s.length (fun i => tok (s.getD i 0)) (some (false, ())) (some (decide ((s.length : Int) ≤ 400), ())) (n := n) (F := fun ih7 x6 => br (decide (x6.1 < (s.length : Int))) (chk (0 ≤ x6.1 ∧ x6.1 < (s.length : Int)) ((sL1Token.f n (s.getD x6.1.toNat 0)).bind fun r8 => br (!r8.1) (some (false, ())) (ih7 ((w64 (x6.1 + 1)), ())))) (some ((decide ((s.length : Int) ≤ 400)), ())))
    (fun ih i hi => by
      have h4 : (i : Int) < (s.length : Int) := by omega
      simp only [h4, decide_true, br_true, Int.toNat_natCast, sL1Token_spec, Option.bind_some]
      rw [chk_true (by simp), w64_succ (by omega), br_if]
      cases tok (s.getD i 0) <;> rfl)
    (fun ih => by simp [br]) (by omega)
  by_cases h : ∀ i, i < s.length → tok (s.getD i 0) = true
  · rw [this.1 h]
    have : s.all tok = true := by
      rw [List.all_eq_true]
      intro x hx
      obtain ⟨i, hi, rfl⟩ := List.mem_iff_getElem.1 hx
      have := h i hi
      rwa [getD_lt hi] at this
    rw [this, Bool.and_true]
    congr 2
    by_cases h : s.length ≤ 400
    · rw [decide_eq_true h, decide_eq_true (by omega)]
    · rw [decide_eq_false h, decide_eq_false (by omega)]
  · rw [this.2 h]
    have : s.all tok = false := by
      rw [← Bool.not_eq_true, List.all_eq_true]
      intro hh
      refine h (fun i hi => ?_)
      rw [getD_lt hi]
      exact hh _ (List.getElem_mem hi)
    rw [this, Bool.and_false]

theorem iIsStream_spec {n : Nat} {s : List Int} (hs : s.length ≤ 1048576) (hn : 1048576 < n) : iIsStream.f n s = some (okS s, ()) := by
  unfold iIsStream.f okS containsFuncS.f indexFuncS.f
  by_cases h : s.length ≤ 400
  · simp only [h, show (s.length : Int) ≤ 400 by omega, decide_true, br_true, Bool.true_and]
    obtain ⟨r, e1, e2⟩ := index_loop s (fun x => !(tok x)) (n := n) (F := fun ih6 x5 => br (decide (x5.1 < (s.length : Int))) (chk (0 ≤ x5.1 ∧ x5.1 < (s.length : Int)) ((isStreamC.f n (s.getD x5.1.toNat 0)).bind fun r7 => br r7.1 (some (x5.1, ())) (ih6 ((w64 (x5.1 + 1)), ())))) (some ((-1), ())))
      (fun ih i hi => by
        have h4 : (i : Int) < (s.length : Int) := by omega
        unfold isStreamC.f
        simp only [h4, decide_true, br_true, Int.toNat_natCast, getD_lt hi, isToken_spec, Option.bind_some]
        rw [chk_true (by simp), w64_succ (by omega), br_if]) (fun ih => by simp [br]) (by omega)
    rw [e1]
    simp only [Option.bind_some, e2]
    congr 2
    rw [List.any_eq_not_all_not]
    simp
  · have : ¬ ((s.length : Int) ≤ 400) := by omega
    simp [h, this, br]

end Go.AmT
