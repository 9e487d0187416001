/- States, in plain Lean: both programs tell the same states valid. -/
import Derived.Test.YtkgknijpmcagmaaGreatLSt
import Derived.Test.YtkgknijpmcagmaaGreatPCap
namespace Go.AmT
open Go Go.Am
set_option linter.unusedVariables false
set_option linter.unusedSimpArgs false

/-! ### sizes, copies, equality -/
structure SmallSt (s : State) : Prop where
  actors : s.1.length ≤ 1048576
  actor : ∀ a ∈ s.1, a.2.length ≤ 1048576
  queues : s.2.1.length ≤ 1048576
  queue : ∀ q ∈ s.2.1, q.length ≤ 1048576
  sents : s.2.2.1.length ≤ 1048576
  sent : ∀ q ∈ s.2.2.1, q.length ≤ 1048576

theorem sz_loop2 {α : Type} (a : List α) (S : α → Prop) (g : α → Int → Option (Int × Unit)) {F : (Int × (Int × Unit) → Option (Int × Unit)) → Int × (Int × Unit) → Option (Int × Unit)}
    (hg : ∀ x ∈ a, ∀ left, 0 ≤ left → left ≤ 1048576 → Left left (g x left) (S x))
    (hF : ∀ ih (i : Nat) (hi : i < a.length) (left : Int), F ih (left, ((i : Int), ())) = (g a[i] left).bind fun r => br (decide (r.1 < 0)) (some ((-1), ())) (ih (r.1, (((i + 1 : Nat) : Int), ()))))
    (hE : ∀ ih left, F ih (left, ((a.length : Int), ())) = some (left, ())) {n : Nat} (hn : a.length < n) {left left0 : Int} (h0 : 0 ≤ left) (h1 : left ≤ 1048576) (hle : left ≤ left0) {P : Prop} (hP : (∀ x ∈ a, S x) → P) :
    Left left0 (iter n F (left, (0, ()))) P := by
  obtain ⟨r, e, r1, r2⟩ := sz_loop a S g hg hF hE hn h0 h1
  exact ⟨r, e, by omega, fun h => hP (r2 h)⟩

theorem szActor_spec (n : Nat) {p : Actor} {left : Int} (hm : p.2.length ≤ maxLen) (h0 : 0 ≤ left) (h1 : left ≤ 1048576) : Left left (szActor.f n p left) (p.2.length ≤ 1048576) := by
  obtain ⟨r, e, h2, h3⟩ := szIntS_spec n hm h0 h1
  unfold szActor.f
  rw [e]
  by_cases h : r < 0
  · exact ⟨-1, by simp [h, br], by omega, fun h => by omega⟩
  · exact ⟨r, by simp [h, br], h2, fun h => h3 h⟩

theorem szActorS_spec {n : Nat} {a : List Actor} {left : Int} (hn : 1048576 < n) (hm : a.length ≤ maxLen) (hm2 : ∀ p ∈ a, p.2.length ≤ maxLen) (h0 : 0 ≤ left) (h1 : left ≤ 1048576) :
    Left left (szActorS.f n a left) (a.length ≤ 1048576 ∧ ∀ p ∈ a, p.2.length ≤ 1048576) := by
  have hm' := maxLen_eq
  unfold szActorS.f
  rw [w64_id (by omega) (by omega)]
  by_cases h : left - (a.length : Int) < 0
  · exact ⟨-1, by simp [h, br], by omega, fun h => by omega⟩
  · rw [br_no h]
    refine sz_loop2 a (fun p => p.2.length ≤ 1048576) (fun p => szActor.f n p) (fun x hx left => szActor_spec n (hm2 x hx)) (fun ih i hi left => ?_) (fun ih left => br_no (Int.lt_irrefl _)) (by omega) (by omega) (by omega) (by omega) (fun h => ⟨by omega, h⟩)
    have h1 : (i : Int) < (a.length : Int) := by omega
    simp only [h1, decide_true, br_true, Int.toNat_natCast, getD_lt hi]
    rw [chk_true (by simp), w64_succ (by omega)]

theorem szIntSS_spec {n : Nat} {a : List (List Int)} {left : Int} (hn : 1048576 < n) (hm : a.length ≤ maxLen) (hm2 : ∀ p ∈ a, p.length ≤ maxLen) (h0 : 0 ≤ left) (h1 : left ≤ 1048576) :
    Left left (szIntSS.f n a left) (a.length ≤ 1048576 ∧ ∀ p ∈ a, p.length ≤ 1048576) := by
  have hm' := maxLen_eq
  unfold szIntSS.f
  rw [w64_id (by omega) (by omega)]
  by_cases h : left - (a.length : Int) < 0
  · exact ⟨-1, by simp [h, br], by omega, fun h => by omega⟩
  · rw [br_no h]
    refine sz_loop2 a (fun p => p.length ≤ 1048576) (fun p => szIntS.f n p) (fun x hx left => szIntS_spec n (hm2 x hx)) (fun ih i hi left => ?_) (fun ih left => br_no (Int.lt_irrefl _)) (by omega) (by omega) (by omega) (by omega) (fun h => ⟨by omega, h⟩)
    have h1 : (i : Int) < (a.length : Int) := by omega
    simp only [h1, decide_true, br_true, Int.toNat_natCast, getD_lt hi]
    rw [chk_true (by simp), w64_succ (by omega)]

/-- one size after the other -/
theorem Left.next {left : Int} {o : Option (Int × Unit)} {P Q : Prop} {f : Int × Unit → Option (Int × Unit)} (h : Left left o P) (h0 : 0 ≤ left) (h1 : left ≤ 1048576) (hf : P → ∀ r : Int, 0 ≤ r → r ≤ 1048576 → r ≤ left → Left left (f (r, ())) Q) :
    Left left (o.bind fun r => br (decide (r.1 < 0)) (some ((-1), ())) (f r)) Q := by
  obtain ⟨r, rfl, r1, r2⟩ := h
  simp only [Option.bind_some]
  by_cases h : r < 0
  · exact ⟨-1, by simp [h, br], by omega, fun h => by omega⟩
  · rw [br_no h]
    exact hf (r2 (by omega)) r (by omega) (by omega) r1
theorem Left.mono {left left' : Int} {o : Option (Int × Unit)} {P : Prop} (h : Left left o P) (hl : left ≤ left') : Left left' o P := by
  obtain ⟨r, e, r1, r2⟩ := h
  exact ⟨r, e, by omega, r2⟩
theorem Left.done {left r : Int} {P : Prop} (h : r ≤ left) (hp : P) : Left left (some (r, ())) P := ⟨r, rfl, h, fun _ => hp⟩

theorem szState_spec {n : Nat} {s : State} {left : Int} (hn : 1048576 < n) (hx : InR tState s) (h0 : 0 ≤ left) (h1 : left ≤ 1048576) : Left left (szState.f n s left) (SmallSt s) := by
  obtain ⟨⟨a1, a2⟩, ⟨q1, q2⟩, ⟨s1, s2⟩, -⟩ := hx
  unfold szState.f
  refine Left.next (szActorS_spec hn a1 (fun p hp => (a2 p hp).2.1) h0 h1) h0 h1 (fun ⟨b1, b2⟩ r r0 r1 rl => Left.mono ?_ rl)
  refine Left.next (szIntSS_spec hn q1 (fun p hp => (q2 p hp).1) r0 r1) r0 r1 (fun ⟨c1, c2⟩ r' r0 r1 rl => Left.mono ?_ rl)
  refine Left.next (szIntSS_spec hn s1 (fun p hp => (s2 p hp).1) r0 r1) r0 r1 (fun ⟨d1, d2⟩ r' r0 r1 rl => .done rl ⟨b1, b2, c1, c2, d1, d2⟩)

theorem toActor_spec {n : Nat} {p : Actor} (hp : p.2.length ≤ 1048576) (hn : 1048576 < n) : toActor.f n p = some (p, ()) := by
  unfold toActor.f
  rw [toIntS_spec hp hn]; rfl
theorem toActorS_spec {n : Nat} {a : List Actor} (hl : a.length ≤ 1048576) (ha : ∀ p ∈ a, p.2.length ≤ 1048576) (hn : 1048576 < n) : toActorS.f n a = some (a, ()) := by
  unfold toActorS.f
  rw [chk_true (by refine ⟨rfl, by omega, ?_⟩; have : (maxB : Int) = 140737488355328 := rfl; omega)]
  refine copyf_loop a (fun x => toActor.f n x) (fun x hx => toActor_spec (ha x hx) hn) (fun ih i hi ys hy => ?_) (fun ih ys => br_no (Int.lt_irrefl _)) (by omega) (by simp)
  have h1 : (i : Int) < (a.length : Int) := by omega
  have h2 : (i : Int) < (ys.length : Int) := by omega
  simp only [h1, decide_true, br_true, Int.toNat_natCast, getD_lt hi]
  rw [chk_true (by simp)]
  congr 1; funext r
  rw [chk_true (by simp; omega), w64_succ (by omega)]
theorem toIntSS_spec {n : Nat} {a : List (List Int)} (hl : a.length ≤ 1048576) (ha : ∀ p ∈ a, p.length ≤ 1048576) (hn : 1048576 < n) : toIntSS.f n a = some (a, ()) := by
  unfold toIntSS.f
  rw [chk_true (by refine ⟨rfl, by omega, ?_⟩; have : (maxB : Int) = 140737488355328 := rfl; omega)]
  refine copyf_loop a (fun x => toIntS.f n x) (fun x hx => toIntS_spec (ha x hx) hn) (fun ih i hi ys hy => ?_) (fun ih ys => br_no (Int.lt_irrefl _)) (by omega) (by simp)
  have h1 : (i : Int) < (a.length : Int) := by omega
  have h2 : (i : Int) < (ys.length : Int) := by omega
  simp only [h1, decide_true, br_true, Int.toNat_natCast, getD_lt hi]
  rw [chk_true (by simp)]
  congr 1; funext r
  rw [chk_true (by simp; omega), w64_succ (by omega)]
theorem toState_spec {n : Nat} {s : State} (h : SmallSt s) (hn : 1048576 < n) : toState.f n s = some (s, ()) := by
  unfold toState.f
  rw [toActorS_spec h.actors h.actor hn, toIntSS_spec h.queues h.queue hn, toIntSS_spec h.sents h.sent hn]; rfl

theorem eqActor_refl {n : Nat} {p : Actor} (hp : p.2.length ≤ 1048576) (hn : 1048576 < n) : eqActor.f n p p = some (true, ()) := by
  unfold eqActor.f
  rw [eqIntS_refl hp hn]; simp [br]
theorem eqActorS_refl {n : Nat} {a : List Actor} (hl : a.length ≤ 1048576) (ha : ∀ p ∈ a, p.2.length ≤ 1048576) (hn : 1048576 < n) : eqActorS.f n a a = some (true, ()) := by
  unfold eqActorS.f
  simp only [decide_true, Bool.not_true, br_false]
  refine refl_loop a (fun x y => eqActor.f n x y) (fun x hx => eqActor_refl (ha x hx) hn) (fun ih i hi => ?_) (fun ih => br_no (Int.lt_irrefl _)) (by omega)
  have h1 : (i : Int) < (a.length : Int) := by omega
  simp only [h1, decide_true, br_true, Int.toNat_natCast, getD_lt hi]
  rw [chk_true (by simp), chk_true (by simp), w64_succ (by omega)]
theorem eqIntSS_refl {n : Nat} {a : List (List Int)} (hl : a.length ≤ 1048576) (ha : ∀ p ∈ a, p.length ≤ 1048576) (hn : 1048576 < n) : eqIntSS.f n a a = some (true, ()) := by
  unfold eqIntSS.f
  simp only [decide_true, Bool.not_true, br_false]
  refine refl_loop a (fun x y => eqIntS.f n x y) (fun x hx => eqIntS_refl (ha x hx) hn) (fun ih i hi => ?_) (fun ih => br_no (Int.lt_irrefl _)) (by omega)
  have h1 : (i : Int) < (a.length : Int) := by omega
  simp only [h1, decide_true, br_true, Int.toNat_natCast, getD_lt hi]
  rw [chk_true (by simp), chk_true (by simp), w64_succ (by omega)]
theorem eqState_refl {n : Nat} {s : State} (h : SmallSt s) (hn : 1048576 < n) : eqState.f n s s = some (true, ()) := by
  unfold eqState.f
  rw [eqActorS_refl h.actors h.actor hn, eqIntSS_refl h.queues h.queue hn, eqIntSS_refl h.sents h.sent hn]; simp [br]

/-! ### prefixes -/
theorem eq_of_getD {a b : List Int} (hl : a.length = b.length) (h : ∀ i, i < a.length → a.getD i 0 = b.getD i 0) : a = b := by
  refine List.ext_getElem hl (fun i h1 h2 => ?_)
  have := h i h1
  rwa [getD_lt h1, getD_lt h2] at this

theorem equalI_spec {n : Nat} {a b : List Int} (hl : a.length ≤ 1048576) (hn : 1048576 < n) : equalI.f n a b = some (decide (a = b), ()) := by
  unfold equalI.f
  by_cases h : a.length = b.length
  · have h' : (a.length : Int) = (b.length : Int) := by omega
    rw [show (!decide ((a.length : Int) = (b.length : Int))) = false by simp [h'], br_false]
    refine W_dec (W_chkloop (bad := some (false, ())) a.length (fun i => decide (a.getD i 0 = b.getD i 0)) (fun ih i hi => ?_) (fun ih => br_no (Int.lt_irrefl _)) (by omega) (fun hok => ?_) (fun i hi hb => ?_))
    · have h1 : (i : Int) < (a.length : Int) := by omega
      simp only [h1, decide_true, br_true, Int.toNat_natCast]
      rw [chk_true (by simp), chk_true (by simp; omega), w64_succ (by omega), br_nif]
    · simp only [W_some, true_iff]
      exact eq_of_getD h (fun i hi => by simpa using hok i hi)
    · simp only [W_some, Bool.false_eq_true, false_iff]
      intro e; subst e; simp at hb
  · have h' : ¬ (a.length : Int) = (b.length : Int) := by omega
    have hne : a ≠ b := fun e => h (by rw [e])
    simp [h', hne, br]

theorem prefix_getD {a b : List Int} : a <+: b ↔ a.length ≤ b.length ∧ ∀ i, i < a.length → b.getD i 0 = a.getD i 0 := by
  constructor
  · rintro ⟨c, rfl⟩
    refine ⟨by simp, fun i hi => ?_⟩
    rw [getD_lt hi, getD_lt (by simp; omega), List.getElem_append_left hi]
  · rintro ⟨hl, h⟩
    rw [List.prefix_iff_eq_take]
    refine eq_of_getD (by simp; omega) (fun i hi => ?_)
    rw [← h i hi, getD_lt (by omega), getD_lt (by simp; omega), List.getElem_take]

theorem sL1Begins_spec {n : Nat} {a b : List Int} (hl : a.length ≤ 1048576) (hn : 1048576 < n) : sL1Begins.f n a b = some (decide (a <+: b), ()) := by
  unfold sL1Begins.f
  by_cases h : b.length < a.length
  · have hne : ¬ a <+: b := fun e => by have := (prefix_getD.1 e).1; omega
    simp [hne, br, show (b.length : Int) < (a.length : Int) by omega]
  · rw [br_no (by omega)]
    refine W_dec (W_chkloop (bad := some (false, ())) a.length (fun i => decide (b.getD i 0 = a.getD i 0)) (fun ih i hi => ?_) (fun ih => br_no (Int.lt_irrefl _)) (by omega) (fun hok => ?_) (fun i hi hb => ?_))
    · have h1 : (i : Int) < (a.length : Int) := by omega
      simp only [h1, decide_true, br_true, Int.toNat_natCast]
      rw [chk_true (by simp), chk_true (by simp; omega), w64_succ (by omega), br_nif]
    · simp only [W_some, true_iff]
      exact prefix_getD.2 ⟨by omega, fun i hi => by simpa using hok i hi⟩
    · simp only [W_some, Bool.false_eq_true, false_iff]
      intro e
      have := (prefix_getD.1 e).2 i hi
      rw [this] at hb; simp at hb

theorem suffix_drop {a b : List Int} (h : a.length ≤ b.length) : a <:+ b ↔ a = b.drop (b.length - a.length) := List.suffix_iff_eq_drop

theorem sL5Ends_spec {n : Nat} {a b : List Int} (hl : a.length ≤ 1048576) (hb : b.length ≤ 1048576) (hn : 1048576 < n) : sL5Ends.f n a b = some (decide (a <:+ b), ()) := by
  unfold sL5Ends.f
  by_cases h : a.length ≤ b.length
  · have h' : (a.length : Int) ≤ (b.length : Int) := by omega
    rw [br_yes h', w64_id (by omega) (by omega), chk_true (by omega)]
    simp only [Int.toNat_natCast, List.take_length]
    rw [show ((b.length : Int) - (a.length : Int)).toNat = b.length - a.length by omega, sL1Begins_spec hl hn]
    simp only [Option.bind_some]
    congr 2
    refine decide_eq_decide.2 ?_
    rw [suffix_drop h]
    constructor
    · intro hp
      obtain ⟨c, hc⟩ := hp
      have : c = [] := by
        have := congrArg List.length hc
        simp at this
        exact List.eq_nil_of_length_eq_zero (by omega)
      rw [← hc, this, List.append_nil]
    · intro e
      rw [← e]; exact List.prefix_refl _
  · have hne : ¬ a <:+ b := fun e => h e.length_le
    simp [hne, br, show ¬ (a.length : Int) ≤ (b.length : Int) by omega]

theorem iIsPrefix_spec {n : Nat} {a b : List Int} (hl : a.length ≤ 1048576) (hb : b.length ≤ 1048576) (hn : 1048576 < n) : iIsPrefix.f n a b = some (okS a && (okS b && decide (a <+: b)), ()) := by
  unfold iIsPrefix.f
  rw [iIsStream_spec hl hn, iIsStream_spec hb hn]
  simp only [Option.bind_some]
  cases okS a with
  | false => rfl
  | true => cases okS b with
    | false => rfl
    | true =>
      simp only [br_true, Bool.true_and]
      by_cases h : a.length ≤ b.length
      · rw [br_yes (by omega), chk_true (by omega)]
        simp only [Int.toNat_natCast, List.drop_zero]
        rw [equalI_spec hl hn]
        simp only [Option.bind_some]
        congr 2
        exact decide_eq_decide.2 List.prefix_iff_eq_take.symm
      · have hne : ¬ a <+: b := fun e => h e.length_le
        rw [br_no (by omega)]
        simp [hne]

/-! ### valid states -/
def okA (p : Program) (a : Actor) : Bool := decide (0 ≤ a.1) && (decide (a.1 ≤ (p.2.2.length : Int)) && (decide (a.2.length = 4) && okS a.2))
theorem isActor_spec {n : Nat} {p : Program} {a : Actor} (hl : a.2.length ≤ 1048576) (hn : 1048576 < n) : isActor.f n p a = some (okA p a, ()) := by
  unfold isActor.f okA
  rw [iIsStream_spec hl hn]
  simp only [Option.bind_some]
  by_cases h1 : 0 ≤ a.1 <;> by_cases h2 : a.1 ≤ (p.2.2.length : Int) <;> by_cases h3 : a.2.length = 4 <;> simp [h1, h2, h3, br, show ((a.2.length : Int) = 4) ↔ a.2.length = 4 by omega]
theorem sL2Actor_spec {n : Nat} {p : Program} {a : Actor} (hl : a.2.length ≤ 1048576) (hn : 1048576 < n) : sL2Actor.f n p a = some (okA p a, ()) := by
  unfold sL2Actor.f okA
  rw [sIsStream_spec hl hn, sL1In_spec]
  simp only [Option.bind_some]
  by_cases h1 : 0 ≤ a.1 <;> by_cases h2 : a.1 ≤ (p.2.2.length : Int) <;> by_cases h3 : a.2.length = 4 <;> simp [h1, h2, h3, br, show ((a.2.length : Int) = 4) ↔ a.2.length = 4 by omega]

structure LinkSt (l : Link) (q h : List Int) : Prop where
  qs : okS q = true
  hs : okS h = true
  pre : l.2.2.2.2 <+: h
  suf : q <:+ h
  inp : l.1 = -1 → h.length = l.2.2.2.2.length
  out : l.2.2.1 = -1 → h.length = q.length
noncomputable instance (l : Link) (q h : List Int) : Decidable (LinkSt l q h) := Classical.propDecidable _
structure OkSt (nt : Network) (s : State) : Prop where
  net : OkN nt
  na : s.1.length = nt.1.length
  nq : s.2.1.length = nt.2.length
  ns : s.2.2.1.length = nt.2.length
  steps : 0 ≤ s.2.2.2 ∧ s.2.2.2 ≤ 20000
  act : ∀ i, i < nt.1.length → okA (nt.1.getD i zProgram) (s.1.getD i zActor) = true
  lnk : ∀ i, i < nt.2.length → LinkSt (nt.2.getD i zLink) (s.2.1.getD i []) (s.2.2.1.getD i [])
noncomputable instance (nt : Network) (s : State) : Decidable (OkSt nt s) := Classical.propDecidable _
noncomputable def okSt (nt : Network) (s : State) : Bool := decide (OkSt nt s)

theorem linkSt_iff {l : Link} {q g : List Int} : LinkSt l q g ↔ (okS q = true ∧ okS g = true ∧ l.2.2.2.2 <+: g ∧ q <:+ g ∧ (l.1 = -1 → g.length = l.2.2.2.2.length) ∧ (l.2.2.1 = -1 → g.length = q.length)) :=
  ⟨fun o => ⟨o.qs, o.hs, o.pre, o.suf, o.inp, o.out⟩, fun ⟨a, b, c, d, e, f⟩ => ⟨a, b, c, d, e, f⟩⟩

theorem linkSt_dec (l : Link) (q g : List Int) : decide (LinkSt l q g) = (okS q && (okS g && (decide (l.2.2.2.2 <+: g) && (decide (q <:+ g) && ((!decide (l.1 = -1) || decide (g.length = l.2.2.2.2.length)) && (!decide (l.2.2.1 = -1) || decide (g.length = q.length))))))) := by
  apply Bool.eq_iff_iff.2
  rw [decide_eq_true_iff, linkSt_iff]
  by_cases c5 : l.1 = -1 <;> by_cases c7 : l.2.2.1 = -1 <;> simp [c5, c7]

theorem linkS_step {n : Nat} {l : Link} {q g : List Int} {Y : Option (Bool × Unit)} (e1 : l.2.2.2.2.length ≤ 1048576) (e2 : q.length ≤ 1048576) (e3 : g.length ≤ 1048576) (hn : 1048576 < n) :
    (cut (α := (Bool × Unit)) ((sIsStream.f n q).bind fun r55 => br (!r55.1) (some (.inr (true, ()))) ((sIsStream.f n g).bind fun r56 => br (!r56.1) (some (.inr (true, ()))) ((sL1Begins.f n l.2.2.2.2 g).bind fun r57 => br (!r57.1) (some (.inr (true, ()))) ((sL5Ends.f n q g).bind fun r58 => some (.inr ((!r58.1), ())))))) fun y54 => br y54.1 (some (false, ())) (br (decide (l.1 = (-1))) (br (!decide ((g.length : Int) = (l.2.2.2.2.length : Int))) (some (false, ())) (br (decide (l.2.2.1 = (-1))) (br (!decide ((g.length : Int) = (q.length : Int))) (some (false, ())) Y) Y)) (br (decide (l.2.2.1 = (-1))) (br (!decide ((g.length : Int) = (q.length : Int))) (some (false, ())) Y) Y))) =
    if decide (LinkSt l q g) = true then Y else some (false, ()) := by
  rw [sIsStream_spec e2 hn, sIsStream_spec e3 hn, sL1Begins_spec e1 hn, sL5Ends_spec e2 e3 hn]
  rw [linkSt_dec]
  simp only [Option.bind_some, show ((g.length : Int) = (l.2.2.2.2.length : Int)) ↔ g.length = l.2.2.2.2.length by omega, show ((g.length : Int) = (q.length : Int)) ↔ g.length = q.length by omega]
  generalize okS q = b1
  generalize okS g = b2
  generalize decide (l.2.2.2.2 <+: g) = b3
  generalize decide (q <:+ g) = b4
  generalize decide (l.1 = -1) = b5
  generalize decide (l.2.2.1 = -1) = b6
  generalize decide (g.length = l.2.2.2.2.length) = b7
  generalize decide (g.length = q.length) = b8
  cases b1 <;> cases b2 <;> cases b3 <;> cases b4 <;> cases b5 <;> cases b6 <;> cases b7 <;> cases b8 <;> rfl

theorem linkI_step {n : Nat} {l : Link} {q g : List Int} {Y : Option (Bool × Unit)} (e1 : l.2.2.2.2.length ≤ 1048576) (e2 : q.length ≤ 1048576) (e3 : g.length ≤ 1048576) (e4 : okS l.2.2.2.2 = true) (hn : 1048576 < n) :
    (cut (α := (Bool × Unit)) ((iIsStream.f n q).bind fun r50 => br (!r50.1) (some (.inr (true, ()))) ((iIsPrefix.f n l.2.2.2.2 g).bind fun r51 => br (!r51.1) (some (.inr (true, ()))) (br (decide ((g.length : Int) < (q.length : Int))) (some (.inr (true, ()))) (chk (0 ≤ (w64 ((g.length : Int) - (q.length : Int))) ∧ (w64 ((g.length : Int) - (q.length : Int))) ≤ (g.length : Int) ∧ (g.length : Int) ≤ (g.length : Int)) ((equalI.f n q ((g.take (g.length : Int).toNat).drop (w64 ((g.length : Int) - (q.length : Int))).toNat)).bind fun r52 => some (.inr ((!r52.1), ()))))))) fun y49 => br y49.1 (some (false, ())) (br (decide (l.1 = (-1))) (br (!decide ((g.length : Int) = (l.2.2.2.2.length : Int))) (some (false, ())) (br (decide (l.2.2.1 = (-1))) (br (!decide ((q.length : Int) = (g.length : Int))) (some (false, ())) Y) Y)) (br (decide (l.2.2.1 = (-1))) (br (!decide ((q.length : Int) = (g.length : Int))) (some (false, ())) Y) Y))) =
    if decide (LinkSt l q g) = true then Y else some (false, ()) := by
  rw [iIsStream_spec e2 hn, iIsPrefix_spec e1 e3 hn, e4]
  rw [linkSt_dec]
  simp only [Option.bind_some, Bool.true_and, show ((g.length : Int) = (l.2.2.2.2.length : Int)) ↔ g.length = l.2.2.2.2.length by omega, show ((q.length : Int) = (g.length : Int)) ↔ g.length = q.length by omega]
  by_cases c0 : g.length < q.length
  · have c4 : ¬ q <:+ g := fun e => by have := e.length_le; omega
    cases okS q <;> cases okS g <;> by_cases c3 : l.2.2.2.2 <+: g <;> simp [c0, c3, c4, br, cut, show (g.length : Int) < (q.length : Int) by omega]
  · rw [w64_id (by omega) (by omega), chk_true (by omega), show ((g.length : Int)).toNat = g.length by omega, List.take_length, show ((g.length : Int) - (q.length : Int)).toNat = g.length - q.length by omega, equalI_spec e2 hn]
    have c4' : decide (q = g.drop (g.length - q.length)) = decide (q <:+ g) := decide_eq_decide.2 (suffix_drop (by omega)).symm
    rw [c4']
    simp only [Option.bind_some]
    have c9 : decide ((g.length : Int) < (q.length : Int)) = false := decide_eq_false (by omega)
    have c10 : decide (q.length = g.length) = decide (g.length = q.length) := decide_eq_decide.2 ⟨Eq.symm, Eq.symm⟩
    simp only [c9, c10]
    generalize okS q = b1
    generalize okS g = b2
    generalize decide (l.2.2.2.2 <+: g) = b3
    generalize decide (q <:+ g) = b4
    generalize decide (l.1 = -1) = b5
    generalize decide (l.2.2.1 = -1) = b6
    generalize decide (g.length = l.2.2.2.2.length) = b7
    generalize decide (g.length = q.length) = b8
    cases b1 <;> cases b2 <;> cases b3 <;> cases b4 <;> cases b5 <;> cases b6 <;> cases b7 <;> cases b8 <;> rfl

theorem sIsState_spec {n : Nat} {nt : Network} {s : State} (h : SmallN nt) (hs : SmallSt s) (hn : 1048576 < n) : sIsState.f n nt s = some (okSt nt s, ()) := by
  have hp := h.progs
  have hl := h.links
  unfold sIsState.f okSt
  refine W_dec ?_
  refine W_cut_of (!(okN nt) || (!(decide (s.1.length = nt.1.length)) || (!(decide (s.2.1.length = nt.2.length)) || (!(decide (s.2.2.1.length = nt.2.length)) || !(decide (0 ≤ s.2.2.2) && decide (s.2.2.2 ≤ 20000))))), ()) ?_ ?_
  · rw [sIsNetwork_spec h hn, sL1In_spec]
    simp only [Option.bind_some, show ((s.1.length : Int) = (nt.1.length : Int)) ↔ s.1.length = nt.1.length by omega, show ((s.2.1.length : Int) = (nt.2.length : Int)) ↔ s.2.1.length = nt.2.length by omega, show ((s.2.2.1.length : Int) = (nt.2.length : Int)) ↔ s.2.2.1.length = nt.2.length by omega]
    cases okN nt <;> cases decide (s.1.length = nt.1.length) <;> cases decide (s.2.1.length = nt.2.length) <;> cases decide (s.2.2.1.length = nt.2.length) <;> rfl
  rw [W_br]
  refine ⟨fun a => ?_, fun a => ?_⟩
  · simp only [W_some, Bool.false_eq_true, false_iff]
    intro o
    have := o.steps
    simp [okN, o.net, o.na, o.nq, o.ns, o.steps] at a
  simp only [Bool.or_eq_false_iff, Bool.not_eq_false', Bool.and_eq_true, decide_eq_true_eq, okN] at a
  obtain ⟨a1, a2, a3, a4, a5⟩ := a
  refine W_chkloop (bad := some (false, ())) s.1.length (fun i => okA (nt.1.getD i zProgram) (s.1.getD i zActor)) (fun ih i hi => ?_) (fun ih => br_no (Int.lt_irrefl _)) (by omega) (fun hok => ?_) (fun i hi hb => ?_)
  · have h1 : (i : Int) < (s.1.length : Int) := by omega
    simp only [h1, decide_true, br_true, Int.toNat_natCast]
    rw [chk_true (by simp), chk_true (by simp; omega), sL2Actor_spec (by rw [getD_lt hi]; exact hs.actor _ (List.getElem_mem hi)) hn, w64_succ (by omega), Option.bind_some, br_nif]
  rotate_left
  · simp only [W_some, Bool.false_eq_true, false_iff]
    intro o; have := o.act i (by omega); rw [hb] at this; simp at this
  refine W_chkloop (bad := some (false, ())) nt.2.length (fun i => decide (LinkSt (nt.2.getD i zLink) (s.2.1.getD i []) (s.2.2.1.getD i []))) (fun ih i hi => ?_) (fun ih => br_no (Int.lt_irrefl _)) (by omega) (fun hlk => ?_) (fun i hi hb => ?_)
  · have h1 : (i : Int) < (nt.2.length : Int) := by omega
    have e1 : ((nt.2.getD i zLink).2.2.2.2).length ≤ 1048576 := by rw [getD_lt hi]; exact (h.link _ (List.getElem_mem hi)).tokens
    have e2 : (s.2.1.getD i []).length ≤ 1048576 := by rw [getD_lt (by omega)]; exact hs.queue _ (List.getElem_mem (by omega))
    have e3 : (s.2.2.1.getD i []).length ≤ 1048576 := by rw [getD_lt (by omega)]; exact hs.sent _ (List.getElem_mem (by omega))
    simp only [h1, decide_true, br_true, Int.toNat_natCast]
    rw [chk_true (by simp), chk_true (by simp; omega), chk_true (by simp; omega), w64_succ (by omega)]
    exact linkS_step e1 e2 e3 hn
  · simp only [W_some, true_iff]
    exact ⟨a1, a2, a3, a4, a5, fun i hi => hok i (by omega), fun i hi => by simpa using hlk i hi⟩
  · simp only [W_some, Bool.false_eq_true, false_iff]
    intro o; have := o.lnk i hi; exact of_decide_eq_false hb this

theorem iIsState_spec {n : Nat} {nt : Network} {s : State} (h : SmallN nt) (hs : SmallSt s) (hn : 1048576 < n) : iIsState.f n nt s = some (okSt nt s, ()) := by
  have hp := h.progs
  have hl := h.links
  unfold iIsState.f okSt
  refine W_dec ?_
  refine W_cut_of (!(okN nt) || (!(decide (s.1.length = nt.1.length)) || (!(decide (s.2.1.length = nt.2.length)) || (!(decide (s.2.2.1.length = nt.2.length)) || (decide (s.2.2.2 < 0) || decide (20000 < s.2.2.2))))), ()) ?_ ?_
  · rw [iIsNetwork_spec h hn]
    simp only [Option.bind_some, show ((s.1.length : Int) = (nt.1.length : Int)) ↔ s.1.length = nt.1.length by omega, show ((s.2.1.length : Int) = (nt.2.length : Int)) ↔ s.2.1.length = nt.2.length by omega, show ((s.2.2.1.length : Int) = (nt.2.length : Int)) ↔ s.2.2.1.length = nt.2.length by omega]
    cases okN nt <;> cases decide (s.1.length = nt.1.length) <;> cases decide (s.2.1.length = nt.2.length) <;> cases decide (s.2.2.1.length = nt.2.length) <;> cases decide (s.2.2.2 < 0) <;> rfl
  rw [W_br]
  refine ⟨fun a => ?_, fun a => ?_⟩
  · simp only [W_some, Bool.false_eq_true, false_iff]
    intro o
    have := o.steps
    simp [okN, o.net, o.na, o.nq, o.ns] at a
    omega
  simp only [Bool.or_eq_false_iff, Bool.not_eq_false', Bool.and_eq_true, decide_eq_true_eq, decide_eq_false_iff_not, okN] at a
  obtain ⟨a1, a2, a3, a4, a5⟩ := a
  refine W_chkloop (bad := some (false, ())) nt.1.length (fun i => okA (nt.1.getD i zProgram) (s.1.getD i zActor)) (fun ih i hi => ?_) (fun ih => br_no (Int.lt_irrefl _)) (by omega) (fun hok => ?_) (fun i hi hb => ?_)
  · have h1 : (i : Int) < (nt.1.length : Int) := by omega
    simp only [h1, decide_true, br_true, Int.toNat_natCast]
    rw [chk_true (by simp), chk_true (by simp; omega), isActor_spec (by rw [getD_lt (by omega)]; exact hs.actor _ (List.getElem_mem (by omega))) hn, w64_succ (by omega), Option.bind_some, br_nif]
  rotate_left
  · simp only [W_some, Bool.false_eq_true, false_iff]
    intro o; have := o.act i (by omega); rw [hb] at this; simp at this
  refine W_chkloop (bad := some (false, ())) nt.2.length (fun i => decide (LinkSt (nt.2.getD i zLink) (s.2.1.getD i []) (s.2.2.1.getD i []))) (fun ih i hi => ?_) (fun ih => br_no (Int.lt_irrefl _)) (by omega) (fun hlk => ?_) (fun i hi hb => ?_)
  · have h1 : (i : Int) < (nt.2.length : Int) := by omega
    have e1 : ((nt.2.getD i zLink).2.2.2.2).length ≤ 1048576 := by rw [getD_lt hi]; exact (h.link _ (List.getElem_mem hi)).tokens
    have e2 : (s.2.1.getD i []).length ≤ 1048576 := by rw [getD_lt (by omega)]; exact hs.queue _ (List.getElem_mem (by omega))
    have e3 : (s.2.2.1.getD i []).length ≤ 1048576 := by rw [getD_lt (by omega)]; exact hs.sent _ (List.getElem_mem (by omega))
    have e4 : okS (nt.2.getD i zLink).2.2.2.2 = true := by rw [getD_lt hi]; exact a1.toks i hi
    simp only [h1, decide_true, br_true, Int.toNat_natCast]
    rw [chk_true (by simp), chk_true (by simp; omega), chk_true (by simp; omega), w64_succ (by omega)]
    exact linkI_step e1 e2 e3 e4 hn
  · simp only [W_some, true_iff]
    exact ⟨a1, a2, a3, a4, by omega, fun i hi => hok i (by omega), fun i hi => by simpa using hlk i hi⟩
  · simp only [W_some, Bool.false_eq_true, false_iff]
    intro o; have := o.lnk i hi; exact of_decide_eq_false hb this

end Go.AmT
