/- States and capacities that are drawn, in plain Lean: they are valid. -/
import Derived.Test.YtfcehikkpoeebaaGreatLGenS
import Derived.Test.YtfcehikkpoeebaaGreatPGenN
import Derived.Test.YtfcehikkpoeebaaGreatPStart
namespace Go.AmT
open Go Go.Am
set_option linter.unusedVariables false
set_option linter.unusedSimpArgs false

theorem fresh_W {n : Nat} {code : List Int} {salt : Int} (hb : code.length ≤ 1048576) (hn : 1048576 < n) : W (fresh.f n code salt) (fun r => r.1.length ≤ 1048576) := by
  unfold fresh.f
  refine W_iter (fun x => 0 ≤ x.1 ∧ x.1 ≤ 600 ∧ (x.2.1.length : Int) = x.1 + 1) (fun x => (600 - x.1).toNat) (fun ih x hx hS => ?_) ⟨Int.le_refl _, by show (0 : Int) ≤ 600; omega, by rfl⟩ (by show (600 - (0 : Int)).toNat < n; omega)
  obtain ⟨i, l, ⟨⟩⟩ := x
  simp only at hx
  by_cases h1 : i < (code.length : Int)
  · by_cases h2 : i < 600
    · simp only [br_yes h1, cut_inr, decide_eq_true h2, br_true]
      rw [chk_true (by omega), small_chk (by simp only [List.length_singleton]; omega), w64_id (n := i + 1) (by omega) (by omega)]
      exact hS _ (by simp only [List.length_append, List.length_singleton]; omega) (by simp only; omega)
    · simp only [br_yes h1, cut_inr, decide_eq_false h2, br_false]
      rw [W_some]; simp only; omega
  · simp only [br_no h1, cut_inr, br_false]
    rw [W_some]; simp only; omega
/-- a state that is reached from the start -/
theorem inR_u8 {x : Int} (h : InR U8 x) : 0 ≤ x ∧ x ≤ 255 := by
  have h : (Lit.int .u8 x).wf = true := h
  simp only [Lit.wf, Bool.and_eq_true, decide_eq_true_eq] at h
  have e1 : IntKind.u8.min = 0 := by decide
  have e2 : IntKind.u8.max = 255 := by decide
  omega
theorem lawAt_W {n : Nat} {code : List Int} {i : Int} (hb : code.length ≤ 1048576) (hc : InR (.sl U8) code) (hi : 0 ≤ i ∧ i ≤ 1000) : W (lawAt.f n code i) (fun r => 0 ≤ r.1 ∧ r.1 ≤ 255) := by
  have hc2 : ∀ x ∈ code, InR U8 x := hc.2
  unfold lawAt.f
  rw [W_brd]
  refine ⟨fun h => ?_, fun h => ?_⟩
  · rw [chk_true (by omega), W_some, getD_lt (by omega)]
    have := inR_u8 (hc2 _ (List.getElem_mem (show i.toNat < code.length by omega)))
    show 0 ≤ w64 _ ∧ w64 _ ≤ 255
    rw [w64_id (by omega) (by omega)]
    exact this
  · rw [W_some]
    show 0 ≤ Int.tmod _ 256 ∧ Int.tmod _ 256 ≤ 255
    rw [w64_id (n := i * 37) (by omega) (by omega), w64_id (n := (code.length : Int) * 11) (by omega) (by omega), w64_id (by omega) (by omega)]
    have h1 := Int.tmod_nonneg (a := i * 37 + (code.length : Int) * 11) 256 (by omega)
    have h2 := Int.tmod_lt_of_pos (i * 37 + (code.length : Int) * 11) (b := 256) (by omega)
    omega
def Rch (nt : Network) (s : State) : Prop := ∀ J : State → Prop, J (start nt) → (∀ s k, J s → k < nt.1.length → canP nt s k = true → J (stepP nt s k)) → J s
theorem Rch.start (nt : Network) : Rch nt (start nt) := fun J h _ => h
theorem Rch.step {nt : Network} {s : State} {k : Nat} (R : Rch nt s) (hk : k < nt.1.length) (hc : canP nt s k = true) : Rch nt (stepP nt s k) := fun J h1 h2 => h2 s k (R J h1 h2) hk hc
theorem Rch.ok {nt : Network} {s : State} (o : OkN nt) (R : Rch nt s) : OkSt nt s := R (OkSt nt) (start_ok o) (fun s k h hk hc => stepP_ok h hk hc)
/-- capacities that were drawn -/
def CapSm (nt : Network) (caps : List Int) : Prop := caps.length = nt.2.length ∧ ∀ j, j < nt.2.length → ((nt.2.getD j zLink).2.2.2.2.length : Int) ≤ caps.getD j 0 ∧ caps.getD j 0 ≤ ((nt.2.getD j zLink).2.2.2.2.length : Int) + 3
theorem CapSm.ok {m : Nat} {nt : Network} {caps : List Int} (hN : NetSm m nt) (h : CapSm nt caps) : okC nt.2 caps = true := by
  unfold okC
  simp only [Bool.and_eq_true, decide_eq_true_eq, List.all_eq_true, List.mem_range]
  refine ⟨h.1, fun j hj => ?_⟩
  rw [h.1] at hj
  have h2 := h.2 j hj
  have e1 : nt.2.getD j zLink = nt.2[j] := getD_lt hj _
  have := (hN.toks _ (List.getElem_mem hj)).1
  rw [e1] at h2 ⊢
  omega
end Go.AmT
