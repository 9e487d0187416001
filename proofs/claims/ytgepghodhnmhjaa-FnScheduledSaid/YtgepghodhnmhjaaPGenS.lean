/- States and capacities that are drawn, in plain Lean: they are valid. -/
import Derived.Test.YtgepghodhnmhjaaLGenS
import Derived.Test.YtgepghodhnmhjaaPGenN
import Derived.Test.YtgepghodhnmhjaaPStart
namespace Go.AmT
open Go Go.Am
set_option linter.unusedVariables false
set_option linter.unusedSimpArgs false

theorem fresh_W {n : Nat} {code : List Int} {salt : Int} (hb : code.length ≤ 1048576) (hn : 1048576 < n) : W (fresh.f n code salt) (fun r => r.1.length ≤ 1048576) := by
  unfold fresh.f
  refine W_iter (fun x => 0 ≤ x.1 ∧ x.1 ≤ 600 ∧ (x.2.1.length : Int) = x.1 + 1) (fun x => (600 - x.1).toNat) (fun ih x hx hS => ?_) ⟨Int.le_refl _, by show (0 : Int) ≤ 600; omega, by rfl⟩ (by show (600 - (0 : Int)).toNat < n; omega)
  obtain ⟨i, l, ⟨⟩⟩ := x
  simp only at hx
  by_cases h1 : i < (code.length : Int)
  · by_cases h2 : i < 600
    · simp only [br_yes h1, cut_inr, decide_eq_true h2, br_true]
      rw [chk_true (by omega), small_chk (by simp only [List.length_singleton]; omega), w64_id (n := i + 1) (by omega) (by omega)]
      exact hS _ (by simp only [List.length_append, List.length_singleton]; omega) (by simp only; omega)
    · simp only [br_yes h1, cut_inr, decide_eq_false h2, br_false]
      rw [W_some]; simp only; omega
  · simp only [br_no h1, cut_inr, br_false]
    rw [W_some]; simp only; omega
def Rch (nt : Network) (s : State) : Prop := ∀ J : State → Prop, J (start nt) → (∀ s k, J s → k < nt.1.length → canP nt s k = true → J (stepP nt s k)) → J s
theorem Rch.start (nt : Network) : Rch nt (start nt) := fun J h _ => h
theorem Rch.step {nt : Network} {s : State} {k : Nat} (R : Rch nt s) (hk : k < nt.1.length) (hc : canP nt s k = true) : Rch nt (stepP nt s k) := fun J h1 h2 => h2 s k (R J h1 h2) hk hc
theorem Rch.ok {nt : Network} {s : State} (o : OkN nt) (R : Rch nt s) : OkSt nt s := R (OkSt nt) (start_ok o) (fun s k h hk hc => stepP_ok h hk hc)
theorem makeState_W {n : Nat} {code : List Int} {nt : Network} {most : Int} (hb : code.length ≤ 1048576) (h : SmallN nt) (o : OkN nt) (hn : 1048576 < n) : W (makeState.f n code nt most) (fun r => Rch nt r.1 ∧ r.1.2.2.2 ≤ 400 ∧ (0 < most → r.1.2.2.2 < most)) := by
  have hp := o.progs
  unfold makeState.f
  rw [W_bind]
  refine W_and (curNew_W hb hn) (fun r1 c1 => ?_)
  rw [sStartState_spec h o hn, Option.bind_some, W_bind]
  refine W_and (below_W hb c1) (fun r3 ⟨⟨a0, a1, _⟩, c3⟩ => ?_)
  have a1 := a1 (by omega)
  refine W_iter (fun x => 0 ≤ x.1 ∧ x.1 ≤ r3.1 ∧ CurR code (x.2.1, (x.2.2.1, (x.2.2.2.1, ()))) ∧ Rch nt (x.2.2.2.2.2.1, (x.2.2.2.2.2.2.1, (x.2.2.2.2.2.2.2.1, x.2.2.2.2.1))) ∧ x.2.2.2.2.1 + x.1 ≤ r3.1) (fun x => x.1.toNat) (fun ih x hx hS => ?_) ⟨a0, Int.le_refl _, c3, Rch.start nt, by show (0 : Int) + r3.1 ≤ r3.1; omega⟩ (by show r3.1.toNat < n; omega)
  obtain ⟨k, cb, ci, ch, t, A, Q, H, ⟨⟩⟩ := x
  obtain ⟨k0, kr, k1, k2, k3⟩ := hx
  simp only at k0 kr k1 k2 k3
  by_cases hk : 0 < k
  · simp only [br_yes hk]
    rw [W_bind]
    refine W_and (below_W (c := (cb, (ci, (ch, ())))) hb k1) (fun r24 ⟨⟨b0, b1, _⟩, c24⟩ => ?_)
    have b1 := b1 (by omega)
    have oS := k2.ok o
    unfold sL3Has.f
    rw [br_yes b0]
    simp only [Option.bind_some]
    obtain ⟨p, hp'⟩ : ∃ p : Nat, r24.1 = (p : Int) := ⟨r24.1.toNat, by omega⟩
    rw [hp']
    rw [w64_id (n := k - 1) (by omega) (by omega)]
    have hno : W (ih (k - 1, (r24.2.1, (r24.2.2.1, (r24.2.2.2.1, (t, (A, (Q, (H, ()))))))))) (fun r => Rch nt r.1 ∧ r.1.2.2.2 ≤ 400 ∧ (0 < most → r.1.2.2.2 < most)) := hS _ ⟨by simp only; omega, by simp only; omega, c24, k2, by simp only; omega⟩ (by simp only; omega)
    by_cases hlt : (p : Int) < (nt.1.length : Int)
    · have hpl : p < nt.1.length := by omega
      have hcan : sL5Can.f n nt (A, (Q, (H, t))) (p : Int) = some (canP nt (A, (Q, (H, t))) p, ()) := sL5Can_spec oS hpl hn
      rw [decide_eq_true hlt, br_true, hcan]
      simp only [Option.bind_some, cut_inr]
      cases hc : canP nt (A, (Q, (H, t))) p
      · rw [br_false]; exact hno
      · rw [br_true]
        have hst := sL5Step_spec (n := n) oS (small_of_ok oS) hpl hc hn
        simp only at hst
        rw [hst]
        simp only [Option.bind_some]
        have R' := k2.step hpl hc
        refine hS _ ⟨by simp only; omega, by simp only; omega, c24, R', ?_⟩ (by simp only; omega)
        show t + 1 + (k - 1) ≤ r3.1
        omega
    · rw [decide_eq_false hlt, br_false, cut_inr, br_false]; exact hno
  · simp only [br_no hk]
    rw [W_some]
    exact ⟨k2, by simp only; omega, fun hm => by simp only; omega⟩
/-- capacities that were drawn -/
def CapSm (nt : Network) (caps : List Int) : Prop := caps.length = nt.2.length ∧ ∀ j, j < nt.2.length → ((nt.2.getD j zLink).2.2.2.2.length : Int) ≤ caps.getD j 0 ∧ caps.getD j 0 ≤ ((nt.2.getD j zLink).2.2.2.2.length : Int) + 3
theorem CapSm.ok {m : Nat} {nt : Network} {caps : List Int} (hN : NetSm m nt) (h : CapSm nt caps) : okC nt.2 caps = true := by
  unfold okC
  simp only [Bool.and_eq_true, decide_eq_true_eq, List.all_eq_true, List.mem_range]
  refine ⟨h.1, fun j hj => ?_⟩
  rw [h.1] at hj
  have h2 := h.2 j hj
  have e1 : nt.2.getD j zLink = nt.2[j] := getD_lt hj _
  have := (hN.toks _ (List.getElem_mem hj)).1
  rw [e1] at h2 ⊢
  omega
end Go.AmT
