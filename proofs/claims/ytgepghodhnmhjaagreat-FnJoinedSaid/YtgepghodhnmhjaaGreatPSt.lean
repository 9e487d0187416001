/- States, in plain Lean: both programs tell the same states valid. -/
import Derived.Test.YtgepghodhnmhjaaGreatLSt
namespace Go.AmT
open Go Go.Am
set_option linter.unusedVariables false
set_option linter.unusedSimpArgs false

/-! ### sizes, copies, equality -/
theorem Left.mono {left left' : Int} {o : Option (Int × Unit)} {P : Prop} (h : Left left o P) (hl : left ≤ left') : Left left' o P := by
  obtain ⟨r, e, r1, r2⟩ := h
  exact ⟨r, e, by omega, r2⟩
theorem Left.done {left r : Int} {P : Prop} (h : r ≤ left) (hp : P) : Left left (some (r, ())) P := ⟨r, rfl, h, fun _ => hp⟩

/-! ### prefixes -/
theorem eq_of_getD {a b : List Int} (hl : a.length = b.length) (h : ∀ i, i < a.length → a.getD i 0 = b.getD i 0) : a = b := by
  refine List.ext_getElem hl (fun i h1 h2 => ?_)
  have := h i h1
  rwa [getD_lt h1, getD_lt h2] at this

theorem equalI_spec {n : Nat} {a b : List Int} (hl : a.length ≤ 1048576) (hn : 1048576 < n) : equalI.f n a b = some (decide (a = b), ()) := by
  unfold equalI.f
  by_cases h : a.length = b.length
  · have h' : (a.length : Int) = (b.length : Int) := by omega
    rw [show (!decide ((a.length : Int) = (b.length : Int))) = false by simp [h'], br_false]
    refine W_dec (W_chkloop (bad := some (false, ())) a.length (fun i => decide (a.getD i 0 = b.getD i 0)) (fun ih i hi => ?_) (fun ih => br_no (Int.lt_irrefl _)) (by omega) (fun hok => ?_) (fun i hi hb => ?_))
    · have h1 : (i : Int) < (a.length : Int) := by omega
      simp only [h1, decide_true, br_true, Int.toNat_natCast]
      rw [chk_true (by simp), chk_true (by simp; omega), w64_succ (by omega), br_nif]
    · simp only [W_some, true_iff]
      exact eq_of_getD h (fun i hi => by simpa using hok i hi)
    · simp only [W_some, Bool.false_eq_true, false_iff]
      intro e; subst e; simp at hb
  · have h' : ¬ (a.length : Int) = (b.length : Int) := by omega
    have hne : a ≠ b := fun e => h (by rw [e])
    simp [h', hne, br]

theorem prefix_getD {a b : List Int} : a <+: b ↔ a.length ≤ b.length ∧ ∀ i, i < a.length → b.getD i 0 = a.getD i 0 := by
  constructor
  · rintro ⟨c, rfl⟩
    refine ⟨by simp, fun i hi => ?_⟩
    rw [getD_lt hi, getD_lt (by simp; omega), List.getElem_append_left hi]
  · rintro ⟨hl, h⟩
    rw [List.prefix_iff_eq_take]
    refine eq_of_getD (by simp; omega) (fun i hi => ?_)
    rw [← h i hi, getD_lt (by omega), getD_lt (by simp; omega), List.getElem_take]

theorem sL1Begins_spec {n : Nat} {a b : List Int} (hl : a.length ≤ 1048576) (hn : 1048576 < n) : sL1Begins.f n a b = some (decide (a <+: b), ()) := by
  unfold sL1Begins.f
  by_cases h : b.length < a.length
  · have hne : ¬ a <+: b := fun e => by have := (prefix_getD.1 e).1; omega
    simp [hne, br, show (b.length : Int) < (a.length : Int) by omega]
  · rw [br_no (by omega)]
    refine W_dec (W_chkloop (bad := some (false, ())) a.length (fun i => decide (b.getD i 0 = a.getD i 0)) (fun ih i hi => ?_) (fun ih => br_no (Int.lt_irrefl _)) (by omega) (fun hok => ?_) (fun i hi hb => ?_))
    · have h1 : (i : Int) < (a.length : Int) := by omega
      simp only [h1, decide_true, br_true, Int.toNat_natCast]
      rw [chk_true (by simp), chk_true (by simp; omega), w64_succ (by omega), br_nif]
    · simp only [W_some, true_iff]
      exact prefix_getD.2 ⟨by omega, fun i hi => by simpa using hok i hi⟩
    · simp only [W_some, Bool.false_eq_true, false_iff]
      intro e
      have := (prefix_getD.1 e).2 i hi
      rw [this] at hb; simp at hb

/-! ### valid states -/
def okA (p : Program) (a : Actor) : Bool := decide (0 ≤ a.1) && (decide (a.1 ≤ (p.2.2.length : Int)) && (decide (a.2.length = 4) && okS a.2))
structure LinkSt (l : Link) (q h : List Int) : Prop where
  qs : okS q = true
  hs : okS h = true
  pre : l.2.2.2.2 <+: h
  suf : q <:+ h
  inp : l.1 = -1 → h.length = l.2.2.2.2.length
  out : l.2.2.1 = -1 → h.length = q.length
noncomputable instance (l : Link) (q h : List Int) : Decidable (LinkSt l q h) := Classical.propDecidable _
structure OkSt (nt : Network) (s : State) : Prop where
  net : OkN nt
  na : s.1.length = nt.1.length
  nq : s.2.1.length = nt.2.length
  ns : s.2.2.1.length = nt.2.length
  steps : 0 ≤ s.2.2.2 ∧ s.2.2.2 ≤ 20000
  act : ∀ i, i < nt.1.length → okA (nt.1.getD i zProgram) (s.1.getD i zActor) = true
  lnk : ∀ i, i < nt.2.length → LinkSt (nt.2.getD i zLink) (s.2.1.getD i []) (s.2.2.1.getD i [])
noncomputable instance (nt : Network) (s : State) : Decidable (OkSt nt s) := Classical.propDecidable _
end Go.AmT
