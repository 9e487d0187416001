/- Whether a network is jammed, in plain Lean: both programs tell the same. -/
import Derived.Test.YtmbapapploiimaaLJam
namespace Go.AmT
open Go Go.Am
set_option linter.unusedVariables false
set_option linter.unusedSimpArgs false

theorem any_loop {α : Type} {Q : α → Prop} {F : (Int × Unit → Option α) → Int × Unit → Option α} (len : Nat) (p : Nat → Bool) {yes : Nat → Option α} {no : Option α}
    (h1 : ∀ ih (i : Nat), i < len → F ih ((i : Int), ()) = if p i = true then yes i else ih (((i + 1 : Nat) : Int), ())) (h2 : ∀ ih, F ih ((len : Int), ()) = no) {n : Nat} (hn : len < n)
    (hy : ∀ i, i < len → p i = true → W (yes i) Q) (hno : (∀ i, i < len → p i = false) → W no Q) : W (iter n F (0, ())) Q := by
  refine W_up (fun i (_ : Unit) => ((i : Int), ())) len (fun i _ => ∀ j, j < i → p j = false) (s0 := ()) rfl (fun j hj => by omega) hn (fun ih s hI => ?_) (fun ih i s hi hI hS => ?_)
  · rw [h2]; exact hno hI
  · rw [h1 ih i hi]
    cases hp : p i
    · refine hS () (fun j hj => ?_)
      rcases Nat.lt_or_ge j i with h | h
      · exact hI j h
      · rwa [show j = i by omega]
    · exact hy i hi hp

def anyMay (nt : Network) (s : State) (caps : List Int) : Bool := (List.range nt.1.length).any (mayP nt s caps)
def anyCan (nt : Network) (s : State) : Bool := (List.range nt.1.length).any (canP nt s)
theorem any_of {p : Nat → Bool} {len i : Nat} (hi : i < len) (h : p i = true) : (List.range len).any p = true := List.any_eq_true.2 ⟨i, List.mem_range.2 hi, h⟩
theorem any_no {p : Nat → Bool} {len : Nat} (h : ∀ i, i < len → p i = false) : (List.range len).any p = false := by
  rw [List.any_eq_false]; intro i hi; rw [h i (List.mem_range.1 hi)]; simp
theorem br_ite {α : Type} {b : Bool} {x y : Option α} : br b x y = if b = true then x else y := by cases b <;> rfl

theorem sL6Some_spec {n : Nat} {nt : Network} {s : State} {caps : List Int} (o : OkSt nt s) (hc : caps.length = nt.2.length) (hn : 1048576 < n) : sL6Some.f n nt s caps = some (anyMay nt s caps, ()) := by
  have hp := o.net.progs
  unfold sL6Some.f
  refine W_eq.1 (any_loop nt.1.length (mayP nt s caps) (yes := fun _ => some (true, ())) (fun ih i hi => ?_) (fun ih => br_no (Int.lt_irrefl _)) (by omega) (fun i hi h => ?_) (fun h => ?_))
  · rw [br_yes (by omega), sL6Can_spec o hc hi hn, w64_succ (by omega), Option.bind_some, br_ite]
  · rw [W_some, anyMay, any_of hi h]
  · rw [W_some, anyMay, any_no h]
theorem sL5First_spec {n : Nat} {nt : Network} {s : State} (o : OkSt nt s) (hn : 1048576 < n) : W (sL5First.f n nt s) (fun r => decide (0 ≤ r.1) = anyCan nt s) := by
  have hp := o.net.progs
  unfold sL5First.f
  refine any_loop nt.1.length (canP nt s) (yes := fun i => some ((i : Int), ())) (fun ih i hi => ?_) (fun ih => br_no (Int.lt_irrefl _)) (by omega) (fun i hi h => ?_) (fun h => ?_)
  · rw [br_yes (by omega), sL5Can_spec o hi hn, w64_succ (by omega), Option.bind_some, br_ite]
  · rw [W_some, anyCan, any_of hi h]; simp
  · rw [W_some, anyCan, any_no h]; simp
theorem stuck_spec {n : Nat} {nt : Network} {s : State} {caps : List Int} {r : Run} (R : IsRun nt s r) (o : OkSt nt s) (hc : caps.length = nt.2.length) (e : r.2.2.2.2 = some caps) (hn : 1048576 < n) : stuck.f n r = some (!anyMay nt s caps, ()) := by
  have hp := o.net.progs
  unfold stuck.f
  rw [R.net]
  refine W_eq.1 (any_loop nt.1.length (mayP nt s caps) (yes := fun _ => some (false, ())) (fun ih i hi => ?_) (fun ih => br_no (Int.lt_irrefl _)) (by omega) (fun i hi h => ?_) (fun h => ?_))
  · rw [br_yes (by omega), may_spec R o hc e hi, w64_succ (by omega), Option.bind_some, br_ite]
  · rw [W_some, anyMay, any_of hi h]; rfl
  · rw [W_some, anyMay, any_no h]; rfl
theorem quiet_spec {n : Nat} {nt : Network} {s : State} {r : Run} (R : IsRun nt s r) (o : OkSt nt s) (hn : 1048576 < n) : quiet.f n r = some (!anyCan nt s, ()) := by
  have hp := o.net.progs
  unfold quiet.f
  rw [R.net]
  refine W_eq.1 (any_loop nt.1.length (canP nt s) (yes := fun _ => some (false, ())) (fun ih i hi => ?_) (fun ih => br_no (Int.lt_irrefl _)) (by omega) (fun i hi h => ?_) (fun h => ?_))
  · rw [br_yes (by omega), can_spec R o hi, w64_succ (by omega), Option.bind_some, br_ite]
  · rw [W_some, anyCan, any_of hi h]; rfl
  · rw [W_some, anyCan, any_no h]; rfl

noncomputable def jamB (nt : Network) (s : State) (caps : List Int) : Bool := okSt nt s && (okC nt.2 caps && (!anyMay nt s caps && anyCan nt s))
theorem sIsJammed_spec {n : Nat} {nt : Network} {s : State} {caps : List Int} (h : SmallN nt) (hs : SmallSt s) (hc : caps.length ≤ 1048576) (hn : 1048576 < n) : sIsJammed.f n nt s caps = some (jamB nt s caps, ()) := by
  unfold sIsJammed.f jamB
  rw [sL6Valid_spec h hs hc hn]
  cases e1 : okSt nt s
  · rfl
  · cases e2 : okC nt.2 caps
    · rfl
    · simp only [Option.bind_some, Bool.true_and, br_true]
      rw [sL6Some_spec (okSt_of e1) (okC_len e2) hn]
      simp only [Option.bind_some]
      cases anyMay nt s caps
      · simp only [Bool.not_false, br_true, Bool.true_and]
        refine W_eq.1 (W_bind.2 (W_and (sL5First_spec (okSt_of e1) hn) (fun r hr => ?_)))
        rw [W_some, hr]
      · rfl
theorem iJam_spec {n : Nat} {nt : Network} {s : State} {caps : List Int} (h : SmallN nt) (hs : SmallSt s) (hc : caps.length ≤ 1048576) (hn : 1048576 < n) : iJam.f n nt s caps = some (jamB nt s caps, ()) := by
  unfold iJam.f jamB
  rw [iBounded_spec h hs hc hn]
  cases e1 : okSt nt s
  · rfl
  · cases e2 : okC nt.2 caps
    · rfl
    · simp only [Option.bind_some, Bool.true_and, Bool.not_true, br_false]
      refine W_eq.1 (W_bind.2 (W_and (boundedRun_spec (okSt_of e1) hs hc hn) (fun r ⟨R, e⟩ => W_eq.2 ?_)))
      rw [stuck_spec R (okSt_of e1) (okC_len e2) e hn, quiet_spec R (okSt_of e1) hn]
      cases anyMay nt s caps <;> cases anyCan nt s <;> rfl
theorem law_true (nt : Network) (s : State) (caps : List Int) (h : InR tNetwork nt) (hst : InR tState s) : ∃ n, law.f n nt s caps = some (true, ()) := by
  refine ⟨1048577, ?_⟩
  have hn : 1048576 < 1048577 := by omega
  unfold law.f
  by_cases hc : caps.length ≤ 1048576
  · have hc' : ¬ (1048576 < (caps.length : Int)) := by omega
    rw [br_no hc']
    obtain ⟨r, e, r1, r2⟩ := szNetwork_spec (n := 1048577) (left := 1048576) (by omega) h (by omega) (by omega)
    simp only [e, Option.bind_some]
    by_cases hr : r < 0
    · simp [hr, br]
    · rw [br_no hr]
      have hS := r2 (by omega)
      obtain ⟨q, e, q1, q2⟩ := szState_spec (n := 1048577) (left := r) (by omega) hst (by omega) (by omega)
      simp only [e, Option.bind_some]
      by_cases hq : q < 0
      · simp [hq, br]
      · rw [br_no hq]
        have hT := q2 (by omega)
        simp only [toNetwork_spec hS hn, toState_spec hT hn, toIntS_spec hc hn, sIsJammed_spec hS hT hc hn, iJam_spec hS hT hc hn, eqNetwork_refl hS hn, eqState_refl hT hn, eqIntS_refl hc hn, Option.bind_some, decide_true, Bool.not_true, br_false]
  · rw [br_yes (by omega)]
end Go.AmT
