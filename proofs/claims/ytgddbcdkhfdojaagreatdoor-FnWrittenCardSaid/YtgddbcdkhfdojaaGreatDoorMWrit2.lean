/- States, in plain Lean: both programs tell the same states valid. -/
import Derived.Test.YtgddbcdkhfdojaaGreatDoorMWrit1
import Derived.Test.YtgddbcdkhfdojaaGreatDoorAmE
namespace Go.AmT
open Go Go.Am
set_option linter.unusedVariables false
set_option linter.unusedSimpArgs false

/-! ### sizes, copies, equality -/
structure SmallSt (s : State) : Prop where
  actors : s.1.length ≤ 1048576
  actor : ∀ a ∈ s.1, a.2.length ≤ 1048576
  queues : s.2.1.length ≤ 1048576
  queue : ∀ q ∈ s.2.1, q.length ≤ 1048576
  sents : s.2.2.1.length ≤ 1048576
  sent : ∀ q ∈ s.2.2.1, q.length ≤ 1048576

theorem Left.mono {left left' : Int} {o : Option (Int × Unit)} {P : Prop} (h : Left left o P) (hl : left ≤ left') : Left left' o P := by
  obtain ⟨r, e, r1, r2⟩ := h
  exact ⟨r, e, by omega, r2⟩
/-! ### prefixes -/
theorem eq_of_getD {a b : List Int} (hl : a.length = b.length) (h : ∀ i, i < a.length → a.getD i 0 = b.getD i 0) : a = b := by
  refine List.ext_getElem hl (fun i h1 h2 => ?_)
  have := h i h1
  rwa [getD_lt h1, getD_lt h2] at this

theorem equalI_spec {n : Nat} {a b : List Int} (hl : a.length ≤ 1048576) (hn : 1048576 < n) : equalI.f n a b = some (decide (a = b), ()) := by
  unfold equalI.f
  by_cases h : a.length = b.length
  · have h' : (a.length : Int) = (b.length : Int) := by omega
    rw [show (!decide ((a.length : Int) = (b.length : Int))) = false by simp [h'], br_false]
    refine W_dec (W_chkloop (bad := some (false, ())) a.length (fun i => decide (a.getD i 0 = b.getD i 0)) (fun ih i hi => ?_) (fun ih => br_no (Int.lt_irrefl _)) (by omega) (fun hok => ?_) (fun i hi hb => ?_))
    · have h1 : (i : Int) < (a.length : Int) := by omega
      simp only [h1, decide_true, br_true, Int.toNat_natCast]
      rw [chk_true (by simp), chk_true (by simp; omega), w64_succ (by omega), br_nif]
    · simp only [W_some, true_iff]
      exact eq_of_getD h (fun i hi => by simpa using hok i hi)
    · simp only [W_some, Bool.false_eq_true, false_iff]
      intro e; subst e; simp at hb
  · have h' : ¬ (a.length : Int) = (b.length : Int) := by omega
    have hne : a ≠ b := fun e => h (by rw [e])
    simp [h', hne, br]

theorem prefix_getD {a b : List Int} : a <+: b ↔ a.length ≤ b.length ∧ ∀ i, i < a.length → b.getD i 0 = a.getD i 0 := by
  constructor
  · rintro ⟨c, rfl⟩
    refine ⟨by simp, fun i hi => ?_⟩
    rw [getD_lt hi, getD_lt (by simp; omega), List.getElem_append_left hi]
  · rintro ⟨hl, h⟩
    rw [List.prefix_iff_eq_take]
    refine eq_of_getD (by simp; omega) (fun i hi => ?_)
    rw [← h i hi, getD_lt (by omega), getD_lt (by simp; omega), List.getElem_take]

theorem sL1Begins_spec {n : Nat} {a b : List Int} (hl : a.length ≤ 1048576) (hn : 1048576 < n) : sL1Begins.f n a b = some (decide (a <+: b), ()) := by
  unfold sL1Begins.f
  by_cases h : b.length < a.length
  · have hne : ¬ a <+: b := fun e => by have := (prefix_getD.1 e).1; omega
    simp [hne, br, show (b.length : Int) < (a.length : Int) by omega]
  · rw [br_no (by omega)]
    refine W_dec (W_chkloop (bad := some (false, ())) a.length (fun i => decide (b.getD i 0 = a.getD i 0)) (fun ih i hi => ?_) (fun ih => br_no (Int.lt_irrefl _)) (by omega) (fun hok => ?_) (fun i hi hb => ?_))
    · have h1 : (i : Int) < (a.length : Int) := by omega
      simp only [h1, decide_true, br_true, Int.toNat_natCast]
      rw [chk_true (by simp), chk_true (by simp; omega), w64_succ (by omega), br_nif]
    · simp only [W_some, true_iff]
      exact prefix_getD.2 ⟨by omega, fun i hi => by simpa using hok i hi⟩
    · simp only [W_some, Bool.false_eq_true, false_iff]
      intro e
      have := (prefix_getD.1 e).2 i hi
      rw [this] at hb; simp at hb

theorem suffix_drop {a b : List Int} (h : a.length ≤ b.length) : a <:+ b ↔ a = b.drop (b.length - a.length) := List.suffix_iff_eq_drop

theorem sL5Ends_spec {n : Nat} {a b : List Int} (hl : a.length ≤ 1048576) (hb : b.length ≤ 1048576) (hn : 1048576 < n) : sL5Ends.f n a b = some (decide (a <:+ b), ()) := by
  unfold sL5Ends.f
  by_cases h : a.length ≤ b.length
  · have h' : (a.length : Int) ≤ (b.length : Int) := by omega
    rw [br_yes h', w64_id (by omega) (by omega), chk_true (by omega)]
    simp only [Int.toNat_natCast, List.take_length]
    rw [show ((b.length : Int) - (a.length : Int)).toNat = b.length - a.length by omega, sL1Begins_spec hl hn]
    simp only [Option.bind_some]
    congr 2
    refine decide_eq_decide.2 ?_
    rw [suffix_drop h]
    constructor
    · intro hp
      obtain ⟨c, hc⟩ := hp
      have : c = [] := by
        have := congrArg List.length hc
        simp at this
        exact List.eq_nil_of_length_eq_zero (by omega)
      rw [← hc, this, List.append_nil]
    · intro e
      rw [← e]; exact List.prefix_refl _
  · have hne : ¬ a <:+ b := fun e => h e.length_le
    simp [hne, br, show ¬ (a.length : Int) ≤ (b.length : Int) by omega]

theorem iIsPrefix_spec {n : Nat} {a b : List Int} (hl : a.length ≤ 1048576) (hb : b.length ≤ 1048576) (hn : 1048576 < n) : iIsPrefix.f n a b = some (okS a && (okS b && decide (a <+: b)), ()) := by
  unfold iIsPrefix.f
  rw [iIsStream_spec hl hn, iIsStream_spec hb hn]
  simp only [Option.bind_some]
  cases okS a with
  | false => rfl
  | true => cases okS b with
    | false => rfl
    | true =>
      simp only [br_true, Bool.true_and]
      by_cases h : a.length ≤ b.length
      · rw [br_yes (by omega), chk_true (by omega)]
        simp only [Int.toNat_natCast, List.drop_zero]
        rw [equalI_spec hl hn]
        simp only [Option.bind_some]
        congr 2
        exact decide_eq_decide.2 List.prefix_iff_eq_take.symm
      · have hne : ¬ a <+: b := fun e => h e.length_le
        rw [br_no (by omega)]
        simp [hne]

/-! ### valid states -/
def okA (p : Program) (a : Actor) : Bool := decide (0 ≤ a.1) && (decide (a.1 ≤ (p.2.2.length : Int)) && (decide (a.2.length = 4) && okS a.2))
theorem isActor_spec {n : Nat} {p : Program} {a : Actor} (hl : a.2.length ≤ 1048576) (hn : 1048576 < n) : isActor.f n p a = some (okA p a, ()) := by
  unfold isActor.f okA
  rw [iIsStream_spec hl hn]
  simp only [Option.bind_some]
  by_cases h1 : 0 ≤ a.1 <;> by_cases h2 : a.1 ≤ (p.2.2.length : Int) <;> by_cases h3 : a.2.length = 4 <;> simp [h1, h2, h3, br, show ((a.2.length : Int) = 4) ↔ a.2.length = 4 by omega]
theorem sL2Actor_spec {n : Nat} {p : Program} {a : Actor} (hl : a.2.length ≤ 1048576) (hn : 1048576 < n) : sL2Actor.f n p a = some (okA p a, ()) := by
  unfold sL2Actor.f okA
  rw [sIsStream_spec hl hn, sL1In_spec]
  simp only [Option.bind_some]
  by_cases h1 : 0 ≤ a.1 <;> by_cases h2 : a.1 ≤ (p.2.2.length : Int) <;> by_cases h3 : a.2.length = 4 <;> simp [h1, h2, h3, br, show ((a.2.length : Int) = 4) ↔ a.2.length = 4 by omega]

structure LinkSt (l : Link) (q h : List Int) : Prop where
  qs : okS q = true
  hs : okS h = true
  pre : l.2.2.2.2 <+: h
  suf : q <:+ h
  inp : l.1 = -1 → h.length = l.2.2.2.2.length
  out : l.2.2.1 = -1 → h.length = q.length
noncomputable instance (l : Link) (q h : List Int) : Decidable (LinkSt l q h) := Classical.propDecidable _
structure OkSt (nt : Network) (s : State) : Prop where
  net : OkN nt
  na : s.1.length = nt.1.length
  nq : s.2.1.length = nt.2.length
  ns : s.2.2.1.length = nt.2.length
  steps : 0 ≤ s.2.2.2 ∧ s.2.2.2 ≤ 20000
  act : ∀ i, i < nt.1.length → okA (nt.1.getD i zProgram) (s.1.getD i zActor) = true
  lnk : ∀ i, i < nt.2.length → LinkSt (nt.2.getD i zLink) (s.2.1.getD i []) (s.2.2.1.getD i [])
noncomputable instance (nt : Network) (s : State) : Decidable (OkSt nt s) := Classical.propDecidable _
noncomputable def okSt (nt : Network) (s : State) : Bool := decide (OkSt nt s)

theorem linkSt_iff {l : Link} {q g : List Int} : LinkSt l q g ↔ (okS q = true ∧ okS g = true ∧ l.2.2.2.2 <+: g ∧ q <:+ g ∧ (l.1 = -1 → g.length = l.2.2.2.2.length) ∧ (l.2.2.1 = -1 → g.length = q.length)) :=
  ⟨fun o => ⟨o.qs, o.hs, o.pre, o.suf, o.inp, o.out⟩, fun ⟨a, b, c, d, e, f⟩ => ⟨a, b, c, d, e, f⟩⟩

theorem linkSt_dec (l : Link) (q g : List Int) : decide (LinkSt l q g) = (okS q && (okS g && (decide (l.2.2.2.2 <+: g) && (decide (q <:+ g) && ((!decide (l.1 = -1) || decide (g.length = l.2.2.2.2.length)) && (!decide (l.2.2.1 = -1) || decide (g.length = q.length))))))) := by
  apply Bool.eq_iff_iff.2
  rw [decide_eq_true_iff, linkSt_iff]
  by_cases c5 : l.1 = -1 <;> by_cases c7 : l.2.2.1 = -1 <;> simp [c5, c7]

theorem linkS_step {n : Nat} {l : Link} {q g : List Int} {Y : Option (Bool × Unit)} (e1 : l.2.2.2.2.length ≤ 1048576) (e2 : q.length ≤ 1048576) (e3 : g.length ≤ 1048576) (hn : 1048576 < n) :
    (cut (α := (Bool × Unit)) ((sIsStream.f n q).bind fun r55 => br (!r55.1) (some (.inr (true, ()))) ((sIsStream.f n g).bind fun r56 => br (!r56.1) (some (.inr (true, ()))) ((sL1Begins.f n l.2.2.2.2 g).bind fun r57 => br (!r57.1) (some (.inr (true, ()))) ((sL5Ends.f n q g).bind fun r58 => some (.inr ((!r58.1), ())))))) fun y54 => br y54.1 (some (false, ())) (br (decide (l.1 = (-1))) (br (!decide ((g.length : Int) = (l.2.2.2.2.length : Int))) (some (false, ())) (br (decide (l.2.2.1 = (-1))) (br (!decide ((g.length : Int) = (q.length : Int))) (some (false, ())) Y) Y)) (br (decide (l.2.2.1 = (-1))) (br (!decide ((g.length : Int) = (q.length : Int))) (some (false, ())) Y) Y))) =
    if decide (LinkSt l q g) = true then Y else some (false, ()) := by
  rw [sIsStream_spec e2 hn, sIsStream_spec e3 hn, sL1Begins_spec e1 hn, sL5Ends_spec e2 e3 hn]
  rw [linkSt_dec]
  simp only [Option.bind_some, show ((g.length : Int) = (l.2.2.2.2.length : Int)) ↔ g.length = l.2.2.2.2.length by omega, show ((g.length : Int) = (q.length : Int)) ↔ g.length = q.length by omega]
  generalize okS q = b1
  generalize okS g = b2
  generalize decide (l.2.2.2.2 <+: g) = b3
  generalize decide (q <:+ g) = b4
  generalize decide (l.1 = -1) = b5
  generalize decide (l.2.2.1 = -1) = b6
  generalize decide (g.length = l.2.2.2.2.length) = b7
  generalize decide (g.length = q.length) = b8
  cases b1 <;> cases b2 <;> cases b3 <;> cases b4 <;> cases b5 <;> cases b6 <;> cases b7 <;> cases b8 <;> rfl

theorem linkI_step {n : Nat} {l : Link} {q g : List Int} {Y : Option (Bool × Unit)} (e1 : l.2.2.2.2.length ≤ 1048576) (e2 : q.length ≤ 1048576) (e3 : g.length ≤ 1048576) (e4 : okS l.2.2.2.2 = true) (hn : 1048576 < n) :
    (cut (α := (Bool × Unit)) ((iIsStream.f n q).bind fun r50 => br (!r50.1) (some (.inr (true, ()))) ((iIsPrefix.f n l.2.2.2.2 g).bind fun r51 => br (!r51.1) (some (.inr (true, ()))) (br (decide ((g.length : Int) < (q.length : Int))) (some (.inr (true, ()))) (chk (0 ≤ (w64 ((g.length : Int) - (q.length : Int))) ∧ (w64 ((g.length : Int) - (q.length : Int))) ≤ (g.length : Int) ∧ (g.length : Int) ≤ (g.length : Int)) ((equalI.f n q ((g.take (g.length : Int).toNat).drop (w64 ((g.length : Int) - (q.length : Int))).toNat)).bind fun r52 => some (.inr ((!r52.1), ()))))))) fun y49 => br y49.1 (some (false, ())) (br (decide (l.1 = (-1))) (br (!decide ((g.length : Int) = (l.2.2.2.2.length : Int))) (some (false, ())) (br (decide (l.2.2.1 = (-1))) (br (!decide ((q.length : Int) = (g.length : Int))) (some (false, ())) Y) Y)) (br (decide (l.2.2.1 = (-1))) (br (!decide ((q.length : Int) = (g.length : Int))) (some (false, ())) Y) Y))) =
    if decide (LinkSt l q g) = true then Y else some (false, ()) := by
  rw [iIsStream_spec e2 hn, iIsPrefix_spec e1 e3 hn, e4]
  rw [linkSt_dec]
  simp only [Option.bind_some, Bool.true_and, show ((g.length : Int) = (l.2.2.2.2.length : Int)) ↔ g.length = l.2.2.2.2.length by omega, show ((q.length : Int) = (g.length : Int)) ↔ g.length = q.length by omega]
  by_cases c0 : g.length < q.length
  · have c4 : ¬ q <:+ g := fun e => by have := e.length_le; omega
    cases okS q <;> cases okS g <;> by_cases c3 : l.2.2.2.2 <+: g <;> simp [c0, c3, c4, br, cut, show (g.length : Int) < (q.length : Int) by omega]
  · rw [w64_id (by omega) (by omega), chk_true (by omega), show ((g.length : Int)).toNat = g.length by omega, List.take_length, show ((g.length : Int) - (q.length : Int)).toNat = g.length - q.length by omega, equalI_spec e2 hn]
    have c4' : decide (q = g.drop (g.length - q.length)) = decide (q <:+ g) := decide_eq_decide.2 (suffix_drop (by omega)).symm
    rw [c4']
    simp only [Option.bind_some]
    have c9 : decide ((g.length : Int) < (q.length : Int)) = false := decide_eq_false (by omega)
    have c10 : decide (q.length = g.length) = decide (g.length = q.length) := decide_eq_decide.2 ⟨Eq.symm, Eq.symm⟩
    simp only [c9, c10]
    generalize okS q = b1
    generalize okS g = b2
    generalize decide (l.2.2.2.2 <+: g) = b3
    generalize decide (q <:+ g) = b4
    generalize decide (l.1 = -1) = b5
    generalize decide (l.2.2.1 = -1) = b6
    generalize decide (g.length = l.2.2.2.2.length) = b7
    generalize decide (g.length = q.length) = b8
    cases b1 <;> cases b2 <;> cases b3 <;> cases b4 <;> cases b5 <;> cases b6 <;> cases b7 <;> cases b8 <;> rfl

theorem sIsState_spec {n : Nat} {nt : Network} {s : State} (h : SmallN nt) (hs : SmallSt s) (hn : 1048576 < n) : sIsState.f n nt s = some (okSt nt s, ()) := by
  have hp := h.progs
  have hl := h.links
  unfold sIsState.f okSt
  refine W_dec ?_
  refine W_cut_of (!(okN nt) || (!(decide (s.1.length = nt.1.length)) || (!(decide (s.2.1.length = nt.2.length)) || (!(decide (s.2.2.1.length = nt.2.length)) || !(decide (0 ≤ s.2.2.2) && decide (s.2.2.2 ≤ 20000))))), ()) ?_ ?_
  · rw [sIsNetwork_spec h hn, sL1In_spec]
    simp only [Option.bind_some, show ((s.1.length : Int) = (nt.1.length : Int)) ↔ s.1.length = nt.1.length by omega, show ((s.2.1.length : Int) = (nt.2.length : Int)) ↔ s.2.1.length = nt.2.length by omega, show ((s.2.2.1.length : Int) = (nt.2.length : Int)) ↔ s.2.2.1.length = nt.2.length by omega]
    cases okN nt <;> cases decide (s.1.length = nt.1.length) <;> cases decide (s.2.1.length = nt.2.length) <;> cases decide (s.2.2.1.length = nt.2.length) <;> rfl
  rw [W_br]
  refine ⟨fun a => ?_, fun a => ?_⟩
  · simp only [W_some, Bool.false_eq_true, false_iff]
    intro o
    have := o.steps
    simp [okN, o.net, o.na, o.nq, o.ns, o.steps] at a
  simp only [Bool.or_eq_false_iff, Bool.not_eq_false', Bool.and_eq_true, decide_eq_true_eq, okN] at a
  obtain ⟨a1, a2, a3, a4, a5⟩ := a
  refine W_chkloop (bad := some (false, ())) s.1.length (fun i => okA (nt.1.getD i zProgram) (s.1.getD i zActor)) (fun ih i hi => ?_) (fun ih => br_no (Int.lt_irrefl _)) (by omega) (fun hok => ?_) (fun i hi hb => ?_)
  · have h1 : (i : Int) < (s.1.length : Int) := by omega
    simp only [h1, decide_true, br_true, Int.toNat_natCast]
    rw [chk_true (by simp), chk_true (by simp; omega), sL2Actor_spec (by rw [getD_lt hi]; exact hs.actor _ (List.getElem_mem hi)) hn, w64_succ (by omega), Option.bind_some, br_nif]
  rotate_left
  · simp only [W_some, Bool.false_eq_true, false_iff]
    intro o; have := o.act i (by omega); rw [hb] at this; simp at this
  refine W_chkloop (bad := some (false, ())) nt.2.length (fun i => decide (LinkSt (nt.2.getD i zLink) (s.2.1.getD i []) (s.2.2.1.getD i []))) (fun ih i hi => ?_) (fun ih => br_no (Int.lt_irrefl _)) (by omega) (fun hlk => ?_) (fun i hi hb => ?_)
  · have h1 : (i : Int) < (nt.2.length : Int) := by omega
    have e1 : ((nt.2.getD i zLink).2.2.2.2).length ≤ 1048576 := by rw [getD_lt hi]; exact (h.link _ (List.getElem_mem hi)).tokens
    have e2 : (s.2.1.getD i []).length ≤ 1048576 := by rw [getD_lt (by omega)]; exact hs.queue _ (List.getElem_mem (by omega))
    have e3 : (s.2.2.1.getD i []).length ≤ 1048576 := by rw [getD_lt (by omega)]; exact hs.sent _ (List.getElem_mem (by omega))
    simp only [h1, decide_true, br_true, Int.toNat_natCast]
    rw [chk_true (by simp), chk_true (by simp; omega), chk_true (by simp; omega), w64_succ (by omega)]
    exact linkS_step e1 e2 e3 hn
  · simp only [W_some, true_iff]
    exact ⟨a1, a2, a3, a4, a5, fun i hi => hok i (by omega), fun i hi => by simpa using hlk i hi⟩
  · simp only [W_some, Bool.false_eq_true, false_iff]
    intro o; have := o.lnk i hi; exact of_decide_eq_false hb this

theorem iIsState_spec {n : Nat} {nt : Network} {s : State} (h : SmallN nt) (hs : SmallSt s) (hn : 1048576 < n) : iIsState.f n nt s = some (okSt nt s, ()) := by
  have hp := h.progs
  have hl := h.links
  unfold iIsState.f okSt
  refine W_dec ?_
  refine W_cut_of (!(okN nt) || (!(decide (s.1.length = nt.1.length)) || (!(decide (s.2.1.length = nt.2.length)) || (!(decide (s.2.2.1.length = nt.2.length)) || (decide (s.2.2.2 < 0) || decide (20000 < s.2.2.2))))), ()) ?_ ?_
  · rw [iIsNetwork_spec h hn]
    simp only [Option.bind_some, show ((s.1.length : Int) = (nt.1.length : Int)) ↔ s.1.length = nt.1.length by omega, show ((s.2.1.length : Int) = (nt.2.length : Int)) ↔ s.2.1.length = nt.2.length by omega, show ((s.2.2.1.length : Int) = (nt.2.length : Int)) ↔ s.2.2.1.length = nt.2.length by omega]
    cases okN nt <;> cases decide (s.1.length = nt.1.length) <;> cases decide (s.2.1.length = nt.2.length) <;> cases decide (s.2.2.1.length = nt.2.length) <;> cases decide (s.2.2.2 < 0) <;> rfl
  rw [W_br]
  refine ⟨fun a => ?_, fun a => ?_⟩
  · simp only [W_some, Bool.false_eq_true, false_iff]
    intro o
    have := o.steps
    simp [okN, o.net, o.na, o.nq, o.ns] at a
    omega
  simp only [Bool.or_eq_false_iff, Bool.not_eq_false', Bool.and_eq_true, decide_eq_true_eq, decide_eq_false_iff_not, okN] at a
  obtain ⟨a1, a2, a3, a4, a5⟩ := a
  refine W_chkloop (bad := some (false, ())) nt.1.length (fun i => okA (nt.1.getD i zProgram) (s.1.getD i zActor)) (fun ih i hi => ?_) (fun ih => br_no (Int.lt_irrefl _)) (by omega) (fun hok => ?_) (fun i hi hb => ?_)
  · have h1 : (i : Int) < (nt.1.length : Int) := by omega
    simp only [h1, decide_true, br_true, Int.toNat_natCast]
    rw [chk_true (by simp), chk_true (by simp; omega), isActor_spec (by rw [getD_lt (by omega)]; exact hs.actor _ (List.getElem_mem (by omega))) hn, w64_succ (by omega), Option.bind_some, br_nif]
  rotate_left
  · simp only [W_some, Bool.false_eq_true, false_iff]
    intro o; have := o.act i (by omega); rw [hb] at this; simp at this
  refine W_chkloop (bad := some (false, ())) nt.2.length (fun i => decide (LinkSt (nt.2.getD i zLink) (s.2.1.getD i []) (s.2.2.1.getD i []))) (fun ih i hi => ?_) (fun ih => br_no (Int.lt_irrefl _)) (by omega) (fun hlk => ?_) (fun i hi hb => ?_)
  · have h1 : (i : Int) < (nt.2.length : Int) := by omega
    have e1 : ((nt.2.getD i zLink).2.2.2.2).length ≤ 1048576 := by rw [getD_lt hi]; exact (h.link _ (List.getElem_mem hi)).tokens
    have e2 : (s.2.1.getD i []).length ≤ 1048576 := by rw [getD_lt (by omega)]; exact hs.queue _ (List.getElem_mem (by omega))
    have e3 : (s.2.2.1.getD i []).length ≤ 1048576 := by rw [getD_lt (by omega)]; exact hs.sent _ (List.getElem_mem (by omega))
    have e4 : okS (nt.2.getD i zLink).2.2.2.2 = true := by rw [getD_lt hi]; exact a1.toks i hi
    simp only [h1, decide_true, br_true, Int.toNat_natCast]
    rw [chk_true (by simp), chk_true (by simp; omega), chk_true (by simp; omega), w64_succ (by omega)]
    exact linkI_step e1 e2 e3 e4 hn
  · simp only [W_some, true_iff]
    exact ⟨a1, a2, a3, a4, by omega, fun i hi => hok i (by omega), fun i hi => by simpa using hlk i hi⟩
  · simp only [W_some, Bool.false_eq_true, false_iff]
    intro o; have := o.lnk i hi; exact of_decide_eq_false hb this

end Go.AmT

namespace Go.AmT
open Go Go.Am Go.Proofs
set_option linter.unusedVariables false
set_option maxRecDepth 100000
end Go.AmT

namespace Go.AmT
open Go Go.Am
set_option linter.unusedVariables false
set_option linter.unusedSimpArgs false

theorem iter_line {γ ρ : Type} {F : (γ → Option ρ) → γ → Option ρ} (st : Nat → γ) (len : Nat) {R : Option ρ} (h1 : ∀ ih i, i < len → F ih (st i) = ih (st (i + 1))) (h2 : ∀ ih, F ih (st len) = R) {n : Nat} (hn : len < n) : iter n F (st 0) = R := by
  have : ∀ k i, i + k = len → ∀ n, k < n → iter n F (st i) = R := by
    intro k
    induction k with
    | zero => intro i e n hn; obtain ⟨m, rfl⟩ : ∃ m, n = m + 1 := ⟨n - 1, by omega⟩; rw [show i = len by omega]; exact h2 _
    | succ k ih => intro i e n hn; obtain ⟨m, rfl⟩ : ∃ m, n = m + 1 := ⟨n - 1, by omega⟩; exact (h1 _ i (by omega)).trans (ih (i + 1) (by omega) m (by omega))
  exact this len 0 (by omega) n hn

/-- a loop that pushes one more for each of a row -/
theorem push_loop {α β γ ρ : Type} (l : List α) (g : α → β) (st : Int → List β → γ) {F : (γ → Option ρ) → γ → Option ρ} {R : List β → Option ρ}
    (h1 : ∀ ih i (hi : i < l.length) (s : List β), s.length = i → F ih (st i s) = ih (st ((i + 1 : Nat) : Int) (s ++ [g l[i]])))
    (h2 : ∀ ih s, F ih (st l.length s) = R s) {n : Nat} (hn : l.length < n) : iter n F (st 0 []) = R (l.map g) := by
  have := iter_line (F := F) (fun i => st (i : Int) ((l.take i).map g)) l.length (R := R (l.map g)) (fun ih i hi => by
    show F ih (st (i : Int) ((l.take i).map g)) = _
    rw [h1 ih i hi _ (by simp; omega), List.take_succ_eq_append_getElem hi, List.map_append]; rfl) (fun ih => by
    show F ih (st (l.length : Int) _) = _
    rw [h2]; simp) hn
  simpa using this

theorem bind_unit {ρ β : Type} {x : β} {f : β → Option ρ} : (some x).bind f = f x := rfl
theorem maxB_eq : (maxB : Int) = 140737488355328 := rfl
theorem small_chk {m : Nat} {ρ : Type} {x : Option ρ} (h : m ≤ 1000000000) : chk (m ≤ maxB) x = x := chk_true (by simp only [maxB]; omega)

theorem getD_set_same {α : Type} {l : List α} {i : Nat} (h : i < l.length) (x z : α) : (l.set i x).getD i z = x := by simp [h]

theorem push_loopE {α β γ ρ : Type} (l : List α) (g : α → β) (st : Int → List β → γ) {F : (γ → Option ρ) → γ → Option ρ} {R : Option ρ}
    (h1 : ∀ ih i (hi : i < l.length) (s : List β), s.length = i → F ih (st i s) = ih (st ((i + 1 : Nat) : Int) (s ++ [g l[i]])))
    (h2 : ∀ ih, F ih (st l.length (l.map g)) = R) {n : Nat} (hn : l.length < n) : iter n F (st 0 []) = R := by
  have := iter_line (F := F) (fun i => st (i : Int) ((l.take i).map g)) l.length (R := R) (fun ih i hi => by
    show F ih (st (i : Int) ((l.take i).map g)) = _
    rw [h1 ih i hi _ (by simp; omega), List.take_succ_eq_append_getElem hi, List.map_append]; rfl) (fun ih => by
    show F ih (st (l.length : Int) _) = _
    rw [List.take_length]; exact h2 ih) hn
  simpa using this

variable {α : Type} {f : α → Int → α × Int}
end Go.AmT

namespace Go.AmT
open Go Go.Am
set_option linter.unusedVariables false
set_option linter.unusedSimpArgs false

end Go.AmT

namespace Go.AmT
open Go Go.Am
set_option linter.unusedVariables false
set_option linter.unusedSimpArgs false

end Go.AmT

namespace Go.AmT
open Go Go.Am Go.Proofs
set_option linter.unusedVariables false
set_option maxRecDepth 100000
abbrev tRun : Ty := (.pair tNetwork (.pair tState (.pair (.sl IS) (.pair (.sl IS) (.osl I)))))
abbrev Run : Type := Network × (State × (List (List Int) × (List (List Int) × Option (List Int))))
def tys4 : List (Nat × TInfo) := [(3, ⟨false, 1, 8, [.int .i64 0], .int .i64, 0, some I, [], false⟩),
  (22, ⟨false, 1, 24, [.nil], .slice, 62, some (.sl tProgram), [], false⟩),
  (23, ⟨false, 1, 24, [.nil], .slice, 80, some (.sl tLink), [], false⟩),
  (25, ⟨true, 2, 48, [.nil, .nil], .struct, 0, some tNetwork, [(0, 22), (1, 23)], false⟩),
  (36, ⟨false, 1, 24, [.nil], .slice, 103, some (.sl tActor), [], false⟩),
  (37, ⟨false, 1, 24, [.nil], .slice, 49, some (.sl IS), [], false⟩),
  (39, ⟨true, 4, 80, [.nil, .nil, .nil, .int .i64 0], .struct, 0, some tState, [(0, 36), (1, 37), (2, 37), (3, 3)], false⟩),
  (49, ⟨false, 1, 24, [.nil], .slice, 3, some IS, [], false⟩),
  (60, ⟨false, 1, 24, [.nil], .slice, 72, some (.sl tInstr), [], false⟩),
  (62, ⟨true, 3, 40, [.int .i64 0, .int .i64 0, .nil], .struct, 0, some tProgram, [(0, 3), (1, 3), (2, 60)], false⟩),
  (72, ⟨true, 4, 32, [.int .i64 0, .int .i64 0, .int .i64 0, .int .i64 0], .struct, 0, some tInstr, [(0, 3), (1, 3), (2, 3), (3, 3)], false⟩),
  (80, ⟨true, 5, 56, [.int .i64 0, .int .i64 0, .int .i64 0, .int .i64 0, .nil], .struct, 0, some tLink, [(0, 3), (1, 3), (2, 3), (3, 3), (4, 49)], false⟩),
  (103, ⟨true, 2, 32, [.int .i64 0, .nil], .struct, 0, some tActor, [(0, 3), (1, 49)], false⟩),
  (120, ⟨true, 9, 200, [.nil, .nil, .nil, .nil, .nil, .int .i64 0, .nil, .nil, .nil], .struct, 0, some tRun, [(0, 25), (2, 39), (6, 37), (7, 37), (8, 49)], false⟩)]
theorem tys4_ok : (tys4.all fun p => tokB Tryz.prog p.1 p.2) = true := by kernel_rfl

noncomputable def want.f (n : Nat) (a0 : Program) (a1 : Actor) : Option (Int × (Int × Unit)) := br (decide (a1.1 = (a0.2.2.length : Int))) (some (0, (0, ()))) (chk (0 ≤ a1.1 ∧ a1.1 < (a0.2.2.length : Int)) (let v1 := (a0.2.2.getD a1.1.toNat zInstr); br (decide (v1.1 = 11)) (some (0, (0, ()))) (br (decide (v1.1 = 1)) (some (2, (v1.2.2.1, ()))) (br (decide (v1.1 = 2)) (some (3, (v1.2.2.1, ()))) (some (1, (0, ())))))))
def sL2Want.las : List (Nat × LA) := []
noncomputable def sL2Want.f (n : Nat) (a0 : Program) (a1 : Actor) : Option (Int × (Int × Unit)) := br (decide (a1.1 = (a0.2.2.length : Int))) (some (0, (0, ()))) (chk (0 ≤ a1.1 ∧ a1.1 < (a0.2.2.length : Int)) (let v1 := (a0.2.2.getD a1.1.toNat zInstr); br (decide (v1.1 = 11)) (some (0, (0, ()))) (br (decide (v1.1 = 1)) (some (2, (v1.2.2.1, ()))) (br (decide (v1.1 = 2)) (some (3, (v1.2.2.1, ()))) (some (1, (0, ())))))))
noncomputable def sL2Want.mng (n : Nat) : Mng := ⟨[.val tProgram, .val tActor], [.val I, .val I], fun x => sL2Want.f n x.1 x.2.1⟩
noncomputable def sL2Want.cfg (n : Nat) : Cfg := ⟨tys4, [], [], []⟩
theorem sL2Want.eq : ∀ (n : Nat) (a0 : Program) (a1 : Actor), runF (sL2Want.cfg n) n Tryz.f143 (annOf Tryz.f143 sL2Want.las) [.val tProgram, .val tActor] [.val I, .val I] (a0, (a1, ())) = sL2Want.f n a0 a1 := by
  intros
  kernel_rfl
theorem sL2Want.gof : GoF Tryz.prog 143 := ⟨_, Tryz.func143, by kernel_rfl, by kernel_rfl⟩
theorem sL2Want.sound (n : Nat) : Sound Tryz.prog 143 (sL2Want.mng n) := runF_sound (fn := Tryz.f143) (m := sL2Want.mng n) (c := sL2Want.cfg n) (regOK mixed (opOK (.of (c := sL2Want.cfg n) trivial) (.of (c := sL2Want.cfg n) trivial)) (tysOK tys4_ok)) (tysOK tys4_ok) Tryz.func143 (fun x => (sL2Want.eq n x.1 x.2.1).symm)

def sL5Link.las : List (Nat × LA) := []
noncomputable def sL5Link.f (n : Nat) (a0 : Network) (a1 : State) (a2 : Int) : Option (Int × Unit) := chk (0 ≤ a2 ∧ a2 < (a0.1.length : Int)) (let v1 := (a0.1.getD a2.toNat zProgram); chk (0 ≤ a2 ∧ a2 < (a1.1.length : Int)) (let v2 := (a1.1.getD a2.toNat zActor); (sL2Want.f n v1 v2).bind fun r3 => br (decide (r3.1 = 2)) ((sL3To.f n a0 a2 r3.2.1).bind fun r4 => some (r4.1, ())) (br (decide (r3.1 = 3)) ((sL3From.f n a0 a2 r3.2.1).bind fun r5 => some (r5.1, ())) (some ((-1), ())))))
noncomputable def sL5Link.mng (n : Nat) : Mng := ⟨[.val tNetwork, .val tState, .val I], [.val I], fun x => sL5Link.f n x.1 x.2.1 x.2.2.1⟩
noncomputable def sL5Link.cfg (n : Nat) : Cfg := ⟨tys4, [(143, sL2Want.mng n), (105, sL3To.mng n), (106, sL3From.mng n)], [], []⟩
theorem sL5Link.eq : ∀ (n : Nat) (a0 : Network) (a1 : State) (a2 : Int), runF (sL5Link.cfg n) n Tryz.f144 (annOf Tryz.f144 sL5Link.las) [.val tNetwork, .val tState, .val I] [.val I] (a0, (a1, (a2, ()))) = sL5Link.f n a0 a1 a2 := by
  intros
  kernel_rfl
theorem sL5Link.gof : GoF Tryz.prog 144 := ⟨_, Tryz.func144, by kernel_rfl, by kernel_rfl⟩
theorem sL5Link.sound (n : Nat) : Sound Tryz.prog 144 (sL5Link.mng n) := runF_sound (fn := Tryz.f144) (m := sL5Link.mng n) (c := sL5Link.cfg n) (regOK mixed (opOK (.of (c := sL5Link.cfg n) ⟨⟨sL2Want.sound n, sL2Want.gof⟩, ⟨⟨sL3To.sound n, sL3To.gof⟩, ⟨⟨sL3From.sound n, sL3From.gof⟩, trivial⟩⟩⟩) (.of (c := sL5Link.cfg n) trivial)) (tysOK tys4_ok)) (tysOK tys4_ok) Tryz.func144 (fun x => (sL5Link.eq n x.1 x.2.1 x.2.2.1).symm)

def sL5Can.las : List (Nat × LA) := [(2, ⟨[(30, .bool)], [], [2, 3, 4, 7], []⟩)]
noncomputable def sL5Can.f (n : Nat) (a0 : Network) (a1 : State) (a2 : Int) : Option (Bool × Unit) := chk (0 ≤ a2 ∧ a2 < (a0.1.length : Int)) (let v1 := (a0.1.getD a2.toNat zProgram); chk (0 ≤ a2 ∧ a2 < (a1.1.length : Int)) (let v2 := (a1.1.getD a2.toNat zActor); (sL2Want.f n v1 v2).bind fun r3 => cut (α := (Bool × Unit)) (br (decide (r3.1 = 0)) (some (.inr (true, ()))) (some (.inr ((decide (a1.2.2.2 = 20000)), ())))) fun y4 => br y4.1 (some (false, ())) ((sL5Link.f n a0 a1 a2).bind fun r5 => br (decide (r3.1 = 2)) (chk (0 ≤ r5.1 ∧ r5.1 < (a1.2.1.length : Int)) (let v7 := (a1.2.1.getD r5.1.toNat []); some ((decide (0 < (v7.length : Int))), ()))) (br (decide (r3.1 = 1)) (some (true, ())) (chk (0 ≤ r5.1 ∧ r5.1 < (a1.2.2.1.length : Int)) (let v8 := (a1.2.2.1.getD r5.1.toNat []); some ((decide ((v8.length : Int) < 400)), ())))))))
noncomputable def sL5Can.mng (n : Nat) : Mng := ⟨[.val tNetwork, .val tState, .val I], [.val .bool], fun x => sL5Can.f n x.1 x.2.1 x.2.2.1⟩
noncomputable def sL5Can.cfg (n : Nat) : Cfg := ⟨tys4, [(143, sL2Want.mng n), (144, sL5Link.mng n)], [], []⟩
theorem sL5Can.eq : ∀ (n : Nat) (a0 : Network) (a1 : State) (a2 : Int), runF (sL5Can.cfg n) n Tryz.f86 (annOf Tryz.f86 sL5Can.las) [.val tNetwork, .val tState, .val I] [.val .bool] (a0, (a1, (a2, ()))) = sL5Can.f n a0 a1 a2 := by
  intros
  kernel_rfl
theorem sL5Can.gof : GoF Tryz.prog 86 := ⟨_, Tryz.func86, by kernel_rfl, by kernel_rfl⟩
theorem sL5Can.sound (n : Nat) : Sound Tryz.prog 86 (sL5Can.mng n) := runF_sound (fn := Tryz.f86) (m := sL5Can.mng n) (c := sL5Can.cfg n) (regOK mixed (opOK (.of (c := sL5Can.cfg n) ⟨⟨sL2Want.sound n, sL2Want.gof⟩, ⟨⟨sL5Link.sound n, sL5Link.gof⟩, trivial⟩⟩) (.of (c := sL5Can.cfg n) trivial)) (tysOK tys4_ok)) (tysOK tys4_ok) Tryz.func86 (fun x => (sL5Can.eq n x.1 x.2.1 x.2.2.1).symm)
end Go.AmT

namespace Go.AmT
open Go Go.Am
set_option linter.unusedVariables false
set_option linter.unusedSimpArgs false

/-! ### what a process wants -/
def wantP (p : Program) (a : Actor) : Int × Int :=
  if a.1 = (p.2.2.length : Int) then (0, 0) else if (p.2.2.getD a.1.toNat zInstr).1 = 11 then (0, 0) else if (p.2.2.getD a.1.toNat zInstr).1 = 1 then (2, (p.2.2.getD a.1.toNat zInstr).2.2.1)
  else if (p.2.2.getD a.1.toNat zInstr).1 = 2 then (3, (p.2.2.getD a.1.toNat zInstr).2.2.1) else (1, 0)
theorem okA_pc {p : Program} {a : Actor} (h : okA p a = true) : 0 ≤ a.1 ∧ a.1 ≤ (p.2.2.length : Int) := by
  unfold okA at h
  simp only [Bool.and_eq_true, decide_eq_true_eq] at h
  exact ⟨h.1, h.2.1⟩
theorem brd {α : Type} {c : Prop} [Decidable c] {x y : Option α} : br (decide c) x y = if c then x else y := by by_cases h : c <;> simp [h, br]
theorem want_spec {n : Nat} {p : Program} {a : Actor} (h : okA p a = true) : want.f n p a = some ((wantP p a).1, ((wantP p a).2, ())) := by
  have hp := okA_pc h
  unfold want.f wantP
  simp only [brd]
  split
  · rfl
  · rw [chk_true (by omega)]
    split
    · rfl
    · split
      · rfl
      · split <;> rfl
theorem sL2Want_spec {n : Nat} {p : Program} {a : Actor} (h : okA p a = true) : sL2Want.f n p a = some ((wantP p a).1, ((wantP p a).2, ())) := want_spec (n := n) h
theorem wantP_cases (p : Program) (a : Actor) : (wantP p a).1 = 0 ∨ (wantP p a).1 = 1 ∨ (wantP p a).1 = 2 ∨ (wantP p a).1 = 3 := by
  unfold wantP
  repeat' (first | (simp; done) | split)
theorem wantP_port {p : Program} {a : Actor} (hp : okP p = true) (h : okA p a = true) : 0 ≤ (wantP p a).2 ∧ ((wantP p a).1 = 2 → (wantP p a).2 < p.1) ∧ ((wantP p a).1 = 3 → (wantP p a).2 < p.2.1) := by
  have hpc := okA_pc h
  unfold okP at hp
  simp only [Bool.and_eq_true, List.all_eq_true] at hp
  have hI := hp.2
  unfold wantP
  split
  · simp
  · rename_i hne
    have hlt : a.1.toNat < p.2.2.length := by omega
    have hx := hI _ (List.getElem_mem hlt)
    rw [getD_lt hlt]
    split
    · simp
    · split
      · rename_i h1
        unfold okI at hx
        rw [if_pos h1] at hx
        simp only [Bool.and_eq_true, decide_eq_true_eq] at hx
        exact ⟨hx.2.1.1, fun _ => hx.2.1.2, fun h => by simp at h⟩
      · rename_i h1
        split
        · rename_i h2
          unfold okI at hx
          rw [if_neg h1, if_pos h2] at hx
          simp only [Bool.and_eq_true, decide_eq_true_eq] at hx
          exact ⟨hx.2.1.1, fun h => by simp at h, fun _ => hx.2.1.2⟩
        · simp

/-! ### one link for each port -/
theorem count_uniq {α : Type} {f : α → Bool} : ∀ {ls : List α} {i j : Nat} (hi : i < ls.length) (hj : j < ls.length), ls.countP f ≤ 1 → f ls[i] = true → f ls[j] = true → i = j
  | [], i, j, hi, _, _, _, _ => by simp at hi
  | x :: ls, i, j, hi, hj, hc, h1, h2 => by
    have z : ∀ (k : Nat) (hk : k < ls.length), f x = true → f ls[k] = true → False := by
      intro k hk hx hl
      rw [List.countP_cons_of_pos hx] at hc
      have : ls.countP f = 0 := by omega
      rw [List.countP_eq_zero] at this
      exact this _ (List.getElem_mem hk) hl
    cases i with
    | zero =>
      cases j with
      | zero => rfl
      | succ j => exact (z j (by simpa using hj) (by simpa using h1) (by simpa using h2)).elim
    | succ i =>
      cases j with
      | zero => exact (z i (by simpa using hi) (by simpa using h2) (by simpa using h1)).elim
      | succ j =>
        have hc' : ls.countP f ≤ 1 := Nat.le_trans (List.countP_le_countP_cons) hc
        rw [count_uniq (ls := ls) (i := i) (j := j) (by simpa using hi) (by simpa using hj) hc' (by simpa using h1) (by simpa using h2)]
  where
  List.countP_le_countP_cons {α : Type} {f : α → Bool} {x : α} {ls : List α} : ls.countP f ≤ (x :: ls).countP f := by
    rw [List.countP_cons]; omega
theorem onlyIx_at {α : Type} {f : α → Bool} {ls : List α} {j : Nat} (hj : j < ls.length) (hc : ls.countP f = 1) (hf : f ls[j] = true) : onlyIx f ls = (j : Int) := by
  unfold onlyIx
  rw [if_neg (by omega), if_pos hc]
  have h1 : ls.findIdx f < ls.length := List.findIdx_lt_length_of_exists ⟨_, List.getElem_mem hj, hf⟩
  have h2 : f ls[ls.findIdx f] = true := List.findIdx_getElem (w := h1)
  rw [count_uniq h1 hj (by omega) h2 hf]
theorem onlyIx_ex {α : Type} {f : α → Bool} {ls : List α} (hc : ls.countP f = 1) : ∃ j, ∃ hj : j < ls.length, f ls[j] = true ∧ onlyIx f ls = (j : Int) := by
  have h0 : 0 < ls.countP f := by omega
  obtain ⟨x, hx, hf⟩ := List.countP_pos_iff.1 h0
  obtain ⟨j, hj, rfl⟩ := List.mem_iff_getElem.1 hx
  exact ⟨j, hj, hf, onlyIx_at hj hc hf⟩

/-- a table of links: for each port the link that is there -/
structure Tab (nt : Network) (pl ql : Link → Int) (wd : Program → Int) (t : List (List Int)) (i : Nat) : Prop where
  len : t.length = nt.1.length
  row : ∀ (k : Nat) (hk : k < nt.1.length), (t.getD k []).length = (wd nt.1[k]).toNat
  at' : ∀ (k b j : Nat) (hk : k < nt.1.length) (hj : j < nt.2.length), j < i → (b : Int) < wd nt.1[k] → pl nt.2[j] = (k : Int) → ql nt.2[j] = (b : Int) → (t.getD k []).getD b 0 = (j : Int)
theorem getD_set_ne {α : Type} {l : List α} {i j : Nat} (h : i ≠ j) (x z : α) : (l.set i x).getD j z = l.getD j z := by simp [List.getElem?_set_ne h]
def toP (l : Link) : Int := l.2.2.1
def toQ (l : Link) : Int := l.2.2.2.1
def frP (l : Link) : Int := l.1
def frQ (l : Link) : Int := l.2.1
/-- a network at work: its state, and its tables -/
structure IsRun (nt : Network) (s : State) (r : Run) : Prop where
  net : r.1 = nt
  st : r.2.1 = s
  to : Tab nt toP toQ (fun p => p.1) r.2.2.1 nt.2.length
  fr : Tab nt frP frQ (fun p => p.2.1) r.2.2.2.1 nt.2.length

/-! ### how it is made -/
/-! ### what it wants, and whether it can -/
def prog (nt : Network) (k : Nat) : Program := nt.1.getD k zProgram
def actor (s : State) (k : Nat) : Actor := s.1.getD k zActor
def wantOf (nt : Network) (s : State) (k : Nat) : Int × Int := wantP (prog nt k) (actor s k)
def linkOf (nt : Network) (s : State) (k : Nat) : Int :=
  if (wantOf nt s k).1 = 2 then onlyIx (isTo (k : Int) (wantOf nt s k).2) nt.2 else if (wantOf nt s k).1 = 3 then onlyIx (isFrom (k : Int) (wantOf nt s k).2) nt.2 else -1
def canP (nt : Network) (s : State) (k : Nat) : Bool :=
  if (wantOf nt s k).1 = 0 ∨ 20000 ≤ s.2.2.2 then false
  else if (wantOf nt s k).1 = 2 then decide (0 < ((s.2.1.getD (linkOf nt s k).toNat []).length : Int))
  else if (wantOf nt s k).1 = 3 then decide (((s.2.2.1.getD (linkOf nt s k).toNat []).length : Int) < 400) else true

theorem port_nat {nt : Network} {s : State} (o : OkSt nt s) {k : Nat} (hk : k < nt.1.length) : ∃ b : Nat, (wantOf nt s k).2 = (b : Int) ∧ ((wantOf nt s k).1 = 2 → (b : Int) < nt.1[k].1) ∧ ((wantOf nt s k).1 = 3 → (b : Int) < nt.1[k].2.1) := by
  have ha := o.act k hk
  have hp := o.net.prog k hk
  rw [getD_lt hk] at ha
  have h := wantP_port hp ha
  have e : wantOf nt s k = wantP nt.1[k] (s.1.getD k zActor) := by unfold wantOf prog actor; rw [getD_lt hk]
  rw [e]
  refine ⟨(wantP nt.1[k] (s.1.getD k zActor)).2.toNat, by omega, fun h2 => ?_, fun h3 => ?_⟩
  · have := h.2.1 h2; omega
  · have := h.2.2 h3; omega
theorem linkOf_to {nt : Network} {s : State} (o : OkSt nt s) {k : Nat} (hk : k < nt.1.length) (h : (wantOf nt s k).1 = 2) : ∃ j, ∃ hj : j < nt.2.length, linkOf nt s k = (j : Int) ∧ nt.2[j].2.2.1 = (k : Int) ∧ nt.2[j].2.2.2.1 = (wantOf nt s k).2 := by
  obtain ⟨b, e, h2, -⟩ := port_nat o hk
  obtain ⟨j, hj, hf, e2⟩ := onlyIx_ex (o.net.ins k hk b (h2 h))
  refine ⟨j, hj, ?_, ?_⟩
  · unfold linkOf; rw [if_pos h, e]; exact e2
  · unfold isTo at hf
    simp only [Bool.and_eq_true, decide_eq_true_eq] at hf
    rw [e]; exact hf
theorem linkOf_from {nt : Network} {s : State} (o : OkSt nt s) {k : Nat} (hk : k < nt.1.length) (h : (wantOf nt s k).1 = 3) : ∃ j, ∃ hj : j < nt.2.length, linkOf nt s k = (j : Int) ∧ nt.2[j].1 = (k : Int) ∧ nt.2[j].2.1 = (wantOf nt s k).2 := by
  obtain ⟨b, e, -, h2⟩ := port_nat o hk
  obtain ⟨j, hj, hf, e2⟩ := onlyIx_ex (o.net.outs k hk b (h2 h))
  refine ⟨j, hj, ?_, ?_⟩
  · unfold linkOf; rw [if_neg (by omega), if_pos h, e]; exact e2
  · unfold isFrom at hf
    simp only [Bool.and_eq_true, decide_eq_true_eq] at hf
    rw [e]; exact hf
theorem sL5Link_spec {n : Nat} {nt : Network} {s : State} (o : OkSt nt s) {k : Nat} (hk : k < nt.1.length) (hn : 1048576 < n) : sL5Link.f n nt s (k : Int) = some (linkOf nt s k, ()) := by
  have ha := o.act k hk
  have hl := o.net.links
  have hks : k < s.1.length := by rw [o.na]; exact hk
  have hw : sL2Want.f n (nt.1.getD k zProgram) (s.1.getD k zActor) = some ((wantOf nt s k).1, ((wantOf nt s k).2, ())) := sL2Want_spec ha
  unfold sL5Link.f
  simp only [Int.toNat_natCast]
  rw [chk_true (by omega), chk_true (by omega), hw]
  simp only [Option.bind_some, brd]
  rw [sL3To_spec (by omega) hn, sL3From_spec (by omega) hn]
  unfold linkOf
  by_cases c2 : (wantOf nt s k).1 = 2
  · rw [if_pos c2, if_pos c2]; rfl
  · rw [if_neg c2, if_neg c2]
    by_cases c3 : (wantOf nt s k).1 = 3
    · rw [if_pos c3, if_pos c3]; rfl
    · rw [if_neg c3, if_neg c3]
theorem wantOf_cases (nt : Network) (s : State) (k : Nat) : (wantOf nt s k).1 = 0 ∨ (wantOf nt s k).1 = 1 ∨ (wantOf nt s k).1 = 2 ∨ (wantOf nt s k).1 = 3 := wantP_cases _ _
theorem sL5Can_spec {n : Nat} {nt : Network} {s : State} (o : OkSt nt s) {k : Nat} (hk : k < nt.1.length) (hn : 1048576 < n) : sL5Can.f n nt s (k : Int) = some (canP nt s k, ()) := by
  have ha := o.act k hk
  have hks : k < s.1.length := by rw [o.na]; exact hk
  have hw : sL2Want.f n (nt.1.getD k zProgram) (s.1.getD k zActor) = some ((wantOf nt s k).1, ((wantOf nt s k).2, ())) := sL2Want_spec ha
  have hq := o.nq
  have hs := o.ns
  have h20 := o.steps
  unfold sL5Can.f
  simp only [Int.toNat_natCast]
  rw [chk_true (by omega), chk_true (by omega), hw, sL5Link_spec o hk hn]
  simp only [Option.bind_some, brd]
  unfold canP
  by_cases c0 : (wantOf nt s k).1 = 0
  · simp [c0, br, cut]
  · by_cases c1 : s.2.2.2 = 20000
    · simp [c0, c1, br, cut]
    · have c1' : ¬ 20000 ≤ s.2.2.2 := by omega
      simp only [c0, c1, c1', if_false, decide_false, cut_inr, br_false, false_or]
      by_cases c2 : (wantOf nt s k).1 = 2
      · obtain ⟨j, hj, e, -⟩ := linkOf_to o hk c2
        rw [if_pos c2, if_pos c2, e, chk_true (by omega)]
      · rw [if_neg c2, if_neg c2]
        by_cases c3 : (wantOf nt s k).1 = 3
        · obtain ⟨j, hj, e, -⟩ := linkOf_from o hk c3
          rw [if_neg (by omega), if_pos c3, e, chk_true (by omega)]
        · have c4 : (wantOf nt s k).1 = 1 := by have := wantOf_cases nt s k; omega
          rw [if_pos c4, if_neg c3]
def newA : Actor := (0, [0, 0, 0, 0])
def start (nt : Network) : State := (nt.1.map fun _ => newA, nt.2.map (fun l => l.2.2.2.2), nt.2.map (fun l => l.2.2.2.2), 0)
theorem start_ok {nt : Network} (o : OkN nt) : OkSt nt (start nt) := by
  refine ⟨o, by simp [start], by simp [start], by simp [start], by simp [start], fun i hi => ?_, fun i hi => ?_⟩
  · show okA _ ((nt.1.map fun _ => newA).getD i zActor) = true
    have : (nt.1.map fun _ => newA).getD i zActor = newA := by simp [hi]
    rw [this]
    unfold okA newA
    simp [okS, tok]
  · have e : (nt.2.map (fun l => l.2.2.2.2)).getD i [] = nt.2[i].2.2.2.2 := by simp [hi]
    show LinkSt _ ((nt.2.map (fun l => l.2.2.2.2)).getD i []) ((nt.2.map (fun l => l.2.2.2.2)).getD i [])
    rw [e, getD_lt hi]
    exact ⟨o.toks i hi, o.toks i hi, List.prefix_rfl, List.suffix_rfl, fun _ => rfl, fun _ => rfl⟩
end Go.AmT

namespace Go.AmT
open Go Go.Am Go.Proofs
set_option linter.unusedVariables false
set_option maxRecDepth 100000
end Go.AmT

namespace Go.AmT
open Go Go.Am
set_option linter.unusedVariables false
set_option linter.unusedSimpArgs false

end Go.AmT

namespace Go.AmT
open Go Go.Am Go.Proofs
set_option linter.unusedVariables false
set_option maxRecDepth 100000
def tys6 : List (Nat × TInfo) := [(3, ⟨false, 1, 8, [.int .i64 0], .int .i64, 0, some I, [], false⟩),
  (22, ⟨false, 1, 24, [.nil], .slice, 62, some (.sl tProgram), [], false⟩),
  (25, ⟨true, 2, 48, [.nil, .nil], .struct, 0, some tNetwork, [(0, 22), (1, 23)], false⟩),
  (36, ⟨false, 1, 24, [.nil], .slice, 103, some (.sl tActor), [], false⟩),
  (37, ⟨false, 1, 24, [.nil], .slice, 49, some (.sl IS), [], false⟩),
  (39, ⟨true, 4, 80, [.nil, .nil, .nil, .int .i64 0], .struct, 0, some tState, [(0, 36), (1, 37), (2, 37), (3, 3)], false⟩),
  (49, ⟨false, 1, 24, [.nil], .slice, 3, some IS, [], false⟩),
  (60, ⟨false, 1, 24, [.nil], .slice, 72, some (.sl tInstr), [], false⟩),
  (62, ⟨true, 3, 40, [.int .i64 0, .int .i64 0, .nil], .struct, 0, some tProgram, [(0, 3), (1, 3), (2, 60)], false⟩),
  (72, ⟨true, 4, 32, [.int .i64 0, .int .i64 0, .int .i64 0, .int .i64 0], .struct, 0, some tInstr, [(0, 3), (1, 3), (2, 3), (3, 3)], false⟩),
  (103, ⟨true, 2, 32, [.int .i64 0, .nil], .struct, 0, some tActor, [(0, 3), (1, 49)], false⟩),
  (120, ⟨true, 9, 200, [.nil, .nil, .nil, .nil, .nil, .int .i64 0, .nil, .nil, .nil], .struct, 0, some tRun, [(0, 25), (2, 39), (6, 37), (7, 37), (8, 49)], false⟩)]
theorem tys6_ok : (tys6.all fun p => tokB Tryz.prog p.1 p.2) = true := by kernel_rfl

def sL1Copy.las : List (Nat × LA) := []
noncomputable def sL1Copy.f (n : Nat) (a0 : List Int) : Option ((List Int) × Unit) := chk ((([] : List Int).length + a0.length) * 8 ≤ maxB) (some ((([] : List Int) ++ a0), ()))
noncomputable def sL1Copy.mng (n : Nat) : Mng := ⟨[.val IS], [.val IS], fun x => sL1Copy.f n x.1⟩
noncomputable def sL1Copy.cfg (n : Nat) : Cfg := ⟨tys6, [], [], []⟩
theorem sL1Copy.eq : ∀ (n : Nat) (a0 : List Int), runF (sL1Copy.cfg n) n Tryz.f145 (annOf Tryz.f145 sL1Copy.las) [.val IS] [.val IS] (a0, ()) = sL1Copy.f n a0 := by
  intros
  kernel_rfl
theorem sL1Copy.gof : GoF Tryz.prog 145 := ⟨_, Tryz.func145, by kernel_rfl, by kernel_rfl⟩
theorem sL1Copy.sound (n : Nat) : Sound Tryz.prog 145 (sL1Copy.mng n) := runF_sound (fn := Tryz.f145) (m := sL1Copy.mng n) (c := sL1Copy.cfg n) (regOK mixed (opOK (.of (c := sL1Copy.cfg n) trivial) (.of (c := sL1Copy.cfg n) trivial)) (tysOK tys6_ok)) (tysOK tys6_ok) Tryz.func145 (fun x => (sL1Copy.eq n x.1).symm)

def sWrapToken.las : List (Nat × LA) := [(3, ⟨[(3, .int .i64)], [], [], []⟩)]
noncomputable def sWrapToken.f (n : Nat) (a0 : Int) : Option (Int × Unit) := cut (α := (Int × Unit)) (br (decide (999999 < (a0.tmod 1999999))) (some (.inr ((w64 ((a0.tmod 1999999) - 1999999)), ()))) (some (.inr ((a0.tmod 1999999), ())))) fun y1 => br (decide (y1.1 < (-999999))) (some ((w64 (y1.1 + 1999999)), ())) (some (y1.1, ()))
noncomputable def sWrapToken.mng (n : Nat) : Mng := ⟨[.val I], [.val I], fun x => sWrapToken.f n x.1⟩
noncomputable def sWrapToken.cfg (n : Nat) : Cfg := ⟨tys6, [], [], []⟩
theorem sWrapToken.eq : ∀ (n : Nat) (a0 : Int), runF (sWrapToken.cfg n) n Tryz.f202 (annOf Tryz.f202 sWrapToken.las) [.val I] [.val I] (a0, ()) = sWrapToken.f n a0 := by
  intros
  kernel_rfl
theorem sWrapToken.gof : GoF Tryz.prog 202 := ⟨_, Tryz.func202, by kernel_rfl, by kernel_rfl⟩
theorem sWrapToken.sound (n : Nat) : Sound Tryz.prog 202 (sWrapToken.mng n) := runF_sound (fn := Tryz.f202) (m := sWrapToken.mng n) (c := sWrapToken.cfg n) (regOK mixed (opOK (.of (c := sWrapToken.cfg n) trivial) (.of (c := sWrapToken.cfg n) trivial)) (tysOK tys6_ok)) (tysOK tys6_ok) Tryz.func202 (fun x => (sWrapToken.eq n x.1).symm)

def sL2Rest.las : List (Nat × LA) := []
noncomputable def sL2Rest.f (n : Nat) (a0 : Int) (a1 : Int) : Option (Int × Unit) := br (decide ((max a1 (w64 (0 - a1))) = 0)) (some (0, ())) (if (max a1 (w64 (0 - a1))) = 0 then none else br (decide ((a0.tmod (max a1 (w64 (0 - a1)))) < 0)) (some ((w64 ((a0.tmod (max a1 (w64 (0 - a1)))) + (max a1 (w64 (0 - a1))))), ())) (some ((a0.tmod (max a1 (w64 (0 - a1)))), ())))
noncomputable def sL2Rest.mng (n : Nat) : Mng := ⟨[.val I, .val I], [.val I], fun x => sL2Rest.f n x.1 x.2.1⟩
noncomputable def sL2Rest.cfg (n : Nat) : Cfg := ⟨tys6, [], [], []⟩
theorem sL2Rest.eq : ∀ (n : Nat) (a0 : Int) (a1 : Int), runF (sL2Rest.cfg n) n Tryz.f203 (annOf Tryz.f203 sL2Rest.las) [.val I, .val I] [.val I] (a0, (a1, ())) = sL2Rest.f n a0 a1 := by
  intros
  kernel_rfl
theorem sL2Rest.gof : GoF Tryz.prog 203 := ⟨_, Tryz.func203, by kernel_rfl, by kernel_rfl⟩
theorem sL2Rest.sound (n : Nat) : Sound Tryz.prog 203 (sL2Rest.mng n) := runF_sound (fn := Tryz.f203) (m := sL2Rest.mng n) (c := sL2Rest.cfg n) (regOK mixed (opOK (.of (c := sL2Rest.cfg n) trivial) (.of (c := sL2Rest.cfg n) trivial)) (tysOK tys6_ok)) (tysOK tys6_ok) Tryz.func203 (fun x => (sL2Rest.eq n x.1 x.2.1).symm)

def sL2Value.las : List (Nat × LA) := []
noncomputable def sL2Value.f (n : Nat) (a0 : Instr) (a1 : List Int) (a2 : Int) : Option (Int × Unit) := br (decide (a0.1 = 1)) (some (a2, ())) (br (decide (a0.1 = 3)) (some (a0.2.2.1, ())) (br (decide (a0.1 = 4)) (chk (0 ≤ a0.2.2.1 ∧ a0.2.2.1 < (a1.length : Int)) (let v49 := (a1.getD a0.2.2.1.toNat 0); chk (0 ≤ a0.2.2.2 ∧ a0.2.2.2 < (a1.length : Int)) (let v50 := (a1.getD a0.2.2.2.toNat 0); (sWrapToken.f n (w64 (v49 + v50))).bind fun r51 => some (r51.1, ())))) (br (decide (a0.1 = 5)) (chk (0 ≤ a0.2.2.1 ∧ a0.2.2.1 < (a1.length : Int)) (let v61 := (a1.getD a0.2.2.1.toNat 0); chk (0 ≤ a0.2.2.2 ∧ a0.2.2.2 < (a1.length : Int)) (let v62 := (a1.getD a0.2.2.2.toNat 0); (sWrapToken.f n (w64 (v61 - v62))).bind fun r63 => some (r63.1, ())))) (br (decide (a0.1 = 6)) (chk (0 ≤ a0.2.2.1 ∧ a0.2.2.1 < (a1.length : Int)) (let v70 := (a1.getD a0.2.2.1.toNat 0); chk (0 ≤ a0.2.2.2 ∧ a0.2.2.2 < (a1.length : Int)) (let v71 := (a1.getD a0.2.2.2.toNat 0); (sWrapToken.f n (w64 (v70 * v71))).bind fun r72 => some (r72.1, ())))) (br (decide (a0.1 = 7)) (chk (0 ≤ a0.2.2.1 ∧ a0.2.2.1 < (a1.length : Int)) (let v76 := (a1.getD a0.2.2.1.toNat 0); chk (0 ≤ a0.2.2.2 ∧ a0.2.2.2 < (a1.length : Int)) (let v77 := (a1.getD a0.2.2.2.toNat 0); (sL2Rest.f n v76 v77).bind fun r78 => some (r78.1, ())))) (chk (0 ≤ a0.2.1 ∧ a0.2.1 < (a1.length : Int)) (some ((a1.getD a0.2.1.toNat 0), ()))))))))
noncomputable def sL2Value.mng (n : Nat) : Mng := ⟨[.val tInstr, .val IS, .val I], [.val I], fun x => sL2Value.f n x.1 x.2.1 x.2.2.1⟩
noncomputable def sL2Value.cfg (n : Nat) : Cfg := ⟨tys6, [(202, sWrapToken.mng n), (203, sL2Rest.mng n)], [], []⟩
theorem sL2Value.eq : ∀ (n : Nat) (a0 : Instr) (a1 : List Int) (a2 : Int), runF (sL2Value.cfg n) n Tryz.f179 (annOf Tryz.f179 sL2Value.las) [.val tInstr, .val IS, .val I] [.val I] (a0, (a1, (a2, ()))) = sL2Value.f n a0 a1 a2 := by
  intros
  kernel_rfl
theorem sL2Value.gof : GoF Tryz.prog 179 := ⟨_, Tryz.func179, by kernel_rfl, by kernel_rfl⟩
theorem sL2Value.sound (n : Nat) : Sound Tryz.prog 179 (sL2Value.mng n) := runF_sound (fn := Tryz.f179) (m := sL2Value.mng n) (c := sL2Value.cfg n) (regOK mixed (opOK (.of (c := sL2Value.cfg n) ⟨⟨sWrapToken.sound n, sWrapToken.gof⟩, ⟨⟨sL2Rest.sound n, sL2Rest.gof⟩, trivial⟩⟩) (.of (c := sL2Value.cfg n) trivial)) (tysOK tys6_ok)) (tysOK tys6_ok) Tryz.func179 (fun x => (sL2Value.eq n x.1 x.2.1 x.2.2.1).symm)

def sL2Step.las : List (Nat × LA) := [(5, ⟨[(10, .int .i64)], [], [2, 4, 6, 8, 9], []⟩), (7, ⟨[(63, .bool)], [], [2, 4, 6, 8, 9, 10], []⟩), (8, ⟨[(9, .vptr 1000 0)], [(1000, .cells [] [.int .i64, .own 1001 I]), (1001, .row true I)], [2, 4, 6, 8, 10], []⟩)]
noncomputable def sL2Step.f (n : Nat) (a0 : Program) (a1 : Actor) (a2 : Int) : Option (Actor × (Int × Unit)) := chk (0 ≤ a1.1 ∧ a1.1 < (a0.2.2.length : Int)) (let v1 := (a0.2.2.getD a1.1.toNat zInstr); (sL1Copy.f n a1.2).bind fun r2 => cut (α := (Int × Unit)) (br (decide (v1.1 = 2)) (chk (0 ≤ v1.2.1 ∧ v1.2.1 < (a1.2.length : Int)) (let v5 := (a1.2.getD v1.2.1.toNat 0); some (.inr (v5, ())))) (some (.inr (0, ())))) fun y4 => cut (α := (Bool × Unit)) (br (decide (v1.1 = 8)) (some (.inr (true, ()))) (br (decide (v1.1 = 9)) (chk (0 ≤ v1.2.1 ∧ v1.2.1 < (a1.2.length : Int)) (let v10 := (a1.2.getD v1.2.1.toNat 0); br (decide (v10 = 0)) (some (.inr (true, ()))) (br (decide (v1.1 = 10)) (chk (0 ≤ v1.2.1 ∧ v1.2.1 < (a1.2.length : Int)) (let v11 := (a1.2.getD v1.2.1.toNat 0); some (.inr ((decide (v11 < 0)), ())))) (some (.inr (false, ())))))) (br (decide (v1.1 = 10)) (chk (0 ≤ v1.2.1 ∧ v1.2.1 < (a1.2.length : Int)) (let v12 := (a1.2.getD v1.2.1.toNat 0); some (.inr ((decide (v12 < 0)), ())))) (some (.inr (false, ())))))) fun y9 => cut (α := (Int × (List Int) × Unit)) (br y9.1 (some (.inr (v1.2.2.1, (r2.1, ())))) (some (.inr ((w64 (a1.1 + 1)), (r2.1, ()))))) fun y13 => (sL2Value.f n v1 a1.2 a2).bind fun r14 => chk (0 ≤ v1.2.1 ∧ v1.2.1 < (y13.2.1.length : Int)) (let v15 := (y13.2.1.set v1.2.1.toNat r14.1); some ((y13.1, v15), (y4.1, ()))))
noncomputable def sL2Step.mng (n : Nat) : Mng := ⟨[.val tProgram, .val tActor, .val I], [.val tActor, .val I], fun x => sL2Step.f n x.1 x.2.1 x.2.2.1⟩
noncomputable def sL2Step.cfg (n : Nat) : Cfg := ⟨tys6, [(145, sL1Copy.mng n), (179, sL2Value.mng n)], [], []⟩
theorem sL2Step.eq : ∀ (n : Nat) (a0 : Program) (a1 : Actor) (a2 : Int), runF (sL2Step.cfg n) n Tryz.f146 (annOf Tryz.f146 sL2Step.las) [.val tProgram, .val tActor, .val I] [.val tActor, .val I] (a0, (a1, (a2, ()))) = sL2Step.f n a0 a1 a2 := by
  intros
  kernel_rfl
theorem sL2Step.gof : GoF Tryz.prog 146 := ⟨_, Tryz.func146, by kernel_rfl, by kernel_rfl⟩
theorem sL2Step.sound (n : Nat) : Sound Tryz.prog 146 (sL2Step.mng n) := runF_sound (fn := Tryz.f146) (m := sL2Step.mng n) (c := sL2Step.cfg n) (regOK mixed (opOK (.of (c := sL2Step.cfg n) ⟨⟨sL1Copy.sound n, sL1Copy.gof⟩, ⟨⟨sL2Value.sound n, sL2Value.gof⟩, trivial⟩⟩) (.of (c := sL2Step.cfg n) trivial)) (tysOK tys6_ok)) (tysOK tys6_ok) Tryz.func146 (fun x => (sL2Step.eq n x.1 x.2.1 x.2.2.1).symm)

def sL5Step.las : List (Nat × LA) := [(5, ⟨[(4, .vptr 1000 0), (10, .int .i64)], [(1000, .cells [] [.own 0 tActor, .own 1 IS, .own 2 IS, .int .i64]), (0, .row true tActor), (1, .row true IS), (2, .row true IS)], [2, 3, 6, 7, 9], []⟩), (11, ⟨[(4, .vptr 1000 0)], [(1000, .cells [] [.own 0 tActor, .own 1 IS, .own 2 IS, .int .i64]), (0, .row true tActor), (1, .row true IS), (2, .row true IS)], [6], []⟩)]
def sL5Step.la : LA := ⟨[(0, .agg [.sh tProgram, .sh tLink]), (1, .agg [.own 0 tActor, .own 1 IS, .own 2 IS, .int .i64]), (2, .int .i64)], [(0, .row true tActor), (1, .row true IS), (2, .row true IS)], [], []⟩
def sL5Step.lb : LA := ⟨[(0, .agg [.own 0 tActor, .own 1 IS, .own 2 IS, .int .i64])], [(0, .row true tActor), (1, .row true IS), (2, .row true IS)], [], []⟩
noncomputable def sL5Step.f (n : Nat) (a0 : List Program) (a1 : List Link) (a2 : Int) (a3 : Int) (a4 : List Actor) (a5 : List (List Int)) (a6 : List (List Int)) : Option (Int × (List Actor) × (List (List Int)) × (List (List Int)) × Unit) := chk (0 ≤ a3 ∧ a3 < (a0.length : Int)) (let v1 := (a0.getD a3.toNat zProgram); chk (0 ≤ a3 ∧ a3 < (a4.length : Int)) ((sL2Want.f n v1 (a4.getD a3.toNat zActor)).bind fun r2 => (sL5Link.f n (a0, a1) (a4, (a5, (a6, a2))) a3).bind fun r3 => cut (α := (Int × (Int × (List Actor) × (List (List Int)) × (List (List Int)) × Unit))) (br (decide (r2.1 = 2)) (chk (0 ≤ r3.1 ∧ r3.1 < (a5.length : Int)) (chk ((0 : Int) ≤ 0 ∧ (0 : Int) < ((a5.getD r3.1.toNat []).length : Int)) (chk (0 ≤ r3.1 ∧ r3.1 < (a5.length : Int)) (chk ((0 : Int) ≤ 1 ∧ (1 : Int) ≤ ((a5.getD r3.1.toNat []).length : Int) ∧ ((a5.getD r3.1.toNat []).length : Int) ≤ ((a5.getD r3.1.toNat []).length : Int)) ((sL1Copy.f n (((a5.getD r3.1.toNat []).drop 1).take (((a5.getD r3.1.toNat []).length : Int).toNat - 1))).bind fun r6 => chk (0 ≤ r3.1 ∧ r3.1 < (a5.length : Int)) (some (.inr (((a5.getD r3.1.toNat []).getD 0 0), (a2, (a4, ((a5.set r3.1.toNat r6.1), (a6, ())))))))))))) (some (.inr (0, (a2, (a4, (a5, (a6, ())))))))) fun y5 => chk (0 ≤ a3 ∧ a3 < (a0.length : Int)) (let v7 := (a0.getD a3.toNat zProgram); chk (0 ≤ a3 ∧ a3 < (y5.2.2.1.length : Int)) ((sL2Step.f n v7 (y5.2.2.1.getD a3.toNat zActor) y5.1).bind fun r8 => chk (0 ≤ a3 ∧ a3 < (y5.2.2.1.length : Int)) (let v9 := (y5.2.2.1.set a3.toNat r8.1); cut (α := (Int × (List Actor) × (List (List Int)) × (List (List Int)) × Unit)) (br (decide (r2.1 = 3)) (chk (0 ≤ r3.1 ∧ r3.1 < (y5.2.2.2.1.length : Int)) (chk (((y5.2.2.2.1.getD r3.1.toNat []).length + ([r8.2.1] : List Int).length) * 8 ≤ maxB) (chk (0 ≤ r3.1 ∧ r3.1 < (y5.2.2.2.1.length : Int)) (chk (r3.1.toNat = r3.1.toNat) (let v13 := (y5.2.2.2.1.set r3.1.toNat ((y5.2.2.2.1.getD r3.1.toNat []) ++ [r8.2.1])); chk (0 ≤ r3.1 ∧ r3.1 < (y5.2.2.2.2.1.length : Int)) (chk (((y5.2.2.2.2.1.getD r3.1.toNat []).length + ([r8.2.1] : List Int).length) * 8 ≤ maxB) (chk (0 ≤ r3.1 ∧ r3.1 < (y5.2.2.2.2.1.length : Int)) (chk (r3.1.toNat = r3.1.toNat) (let v14 := (y5.2.2.2.2.1.set r3.1.toNat ((y5.2.2.2.2.1.getD r3.1.toNat []) ++ [r8.2.1])); some (.inr (y5.2.1, (v9, (v13, (v14, ())))))))))))))) (some (.inr (y5.2.1, (v9, (y5.2.2.2.1, (y5.2.2.2.2.1, ()))))))) fun y12 => some ((w64 (y12.1 + 1)), (y12.2.1, (y12.2.2.1, (y12.2.2.2.1, ())))))))))
noncomputable def sL5Step.mng (n : Nat) : LMng := ⟨sL5Step.la, sL5Step.lb, fun x => sL5Step.f n x.1 x.2.1 x.2.2.1 x.2.2.2.1 x.2.2.2.2.1 x.2.2.2.2.2.1 x.2.2.2.2.2.2.1⟩
noncomputable def sL5Step.cfg (n : Nat) : Cfg := ⟨tys6, [(143, sL2Want.mng n), (144, sL5Link.mng n), (145, sL1Copy.mng n), (146, sL2Step.mng n)], [], []⟩
theorem sL5Step.eq : ∀ (n : Nat) (a0 : List Program) (a1 : List Link) (a2 : Int) (a3 : Int) (a4 : List Actor) (a5 : List (List Int)) (a6 : List (List Int)) (mp : Mp), LMng.run (sL5Step.cfg n) n Tryz.f87 (annOf Tryz.f87 sL5Step.las) sL5Step.la sL5Step.lb (a0, (a1, (a2, (a3, (a4, (a5, (a6, mp))))))) = sL5Step.f n a0 a1 a2 a3 a4 a5 a6 := by
  intros
  kernel_rfl
theorem sL5Step.gof : GoF Tryz.prog 87 := ⟨_, Tryz.func87, by kernel_rfl, by kernel_rfl⟩
theorem sL5Step.sound (n : Nat) : LSound Tryz.prog 87 (sL5Step.mng n) := runL_sound (fn := Tryz.f87) (M := sL5Step.mng n) (c := sL5Step.cfg n) (regOK mixed (opOK (.of (c := sL5Step.cfg n) ⟨⟨sL2Want.sound n, sL2Want.gof⟩, ⟨⟨sL5Link.sound n, sL5Link.gof⟩, ⟨⟨sL1Copy.sound n, sL1Copy.gof⟩, ⟨⟨sL2Step.sound n, sL2Step.gof⟩, trivial⟩⟩⟩⟩) (.of (c := sL5Step.cfg n) trivial)) (tysOK tys6_ok)) (tysOK tys6_ok) Tryz.func87 (fun x => (sL5Step.eq n x.1 x.2.1 x.2.2.1 x.2.2.2.1 x.2.2.2.2.1 x.2.2.2.2.2.1 x.2.2.2.2.2.2.1 x.2.2.2.2.2.2.2).symm)

end Go.AmT
