/- States and capacities that are drawn, in plain Lean: they are valid. -/
import Derived.Test.YtgepghodhnmhjaaLGenS
import Derived.Test.YtgepghodhnmhjaaPGenN
import Derived.Test.YtgepghodhnmhjaaPStart
namespace Go.AmT
open Go Go.Am
set_option linter.unusedVariables false
set_option linter.unusedSimpArgs false

theorem fresh_W {n : Nat} {code : List Int} {salt : Int} (hb : code.length ≤ 1048576) (hn : 1048576 < n) : W (fresh.f n code salt) (fun r => r.1.length ≤ 1048576) := by
  unfold fresh.f
  refine W_iter (fun x => 0 ≤ x.1 ∧ x.1 ≤ 600 ∧ (x.2.1.length : Int) = x.1 + 1) (fun x => (600 - x.1).toNat) (fun ih x hx hS => ?_) ⟨Int.le_refl _, by show (0 : Int) ≤ 600; omega, by rfl⟩ (by show (600 - (0 : Int)).toNat < n; omega)
  obtain ⟨i, l, ⟨⟩⟩ := x
  simp only at hx
  by_cases h1 : i < (code.length : Int)
  · by_cases h2 : i < 600
    · simp only [br_yes h1, cut_inr, decide_eq_true h2, br_true]
      rw [chk_true (by omega), small_chk (by simp only [List.length_singleton]; omega), w64_id (n := i + 1) (by omega) (by omega)]
      exact hS _ (by simp only [List.length_append, List.length_singleton]; omega) (by simp only; omega)
    · simp only [br_yes h1, cut_inr, decide_eq_false h2, br_false]
      rw [W_some]; simp only; omega
  · simp only [br_no h1, cut_inr, br_false]
    rw [W_some]; simp only; omega
def Rch (nt : Network) (s : State) : Prop := ∀ J : State → Prop, J (start nt) → (∀ s k, J s → k < nt.1.length → canP nt s k = true → J (stepP nt s k)) → J s
theorem Rch.start (nt : Network) : Rch nt (start nt) := fun J h _ => h
theorem Rch.step {nt : Network} {s : State} {k : Nat} (R : Rch nt s) (hk : k < nt.1.length) (hc : canP nt s k = true) : Rch nt (stepP nt s k) := fun J h1 h2 => h2 s k (R J h1 h2) hk hc
theorem Rch.ok {nt : Network} {s : State} (o : OkN nt) (R : Rch nt s) : OkSt nt s := R (OkSt nt) (start_ok o) (fun s k h hk hc => stepP_ok h hk hc)
/-- capacities that were drawn -/
def CapSm (nt : Network) (caps : List Int) : Prop := caps.length = nt.2.length ∧ ∀ j, j < nt.2.length → ((nt.2.getD j zLink).2.2.2.2.length : Int) ≤ caps.getD j 0 ∧ caps.getD j 0 ≤ ((nt.2.getD j zLink).2.2.2.2.length : Int) + 3
theorem makeCaps_W {n : Nat} {code : List Int} {nt : Network} (hb : code.length ≤ 1048576) (h : SmallN nt) (o : OkN nt) (hn : 1048576 < n) : W (makeCaps.f n code nt) (fun r => CapSm nt r.1) := by
  have hl := o.links
  unfold makeCaps.f
  rw [W_bind]
  refine W_and (curNew_W hb hn) (fun r1 c1 => ?_)
  refine W_up (fun i (x : (List Int × (Int × (Int × Unit))) × List Int) => ((i : Int), (x.1.1, (x.1.2.1, (x.1.2.2.1, (x.2, ())))))) nt.2.length
    (fun i x => CurR code x.1 ∧ x.2.length = i ∧ ∀ j, j < i → ((nt.2.getD j zLink).2.2.2.2.length : Int) ≤ x.2.getD j 0 ∧ x.2.getD j 0 ≤ ((nt.2.getD j zLink).2.2.2.2.length : Int) + 3) (s0 := (r1, [])) rfl ⟨c1, rfl, fun j hj => by omega⟩ (by omega) (fun ih x hI => ?_) (fun ih i x hi hI hS => ?_)
  · simp only [br_no (Int.lt_irrefl _)]
    rw [W_some]; exact hI.2
  · obtain ⟨c2, l2, f2⟩ := hI
    have hs := (h.link _ (List.getElem_mem hi)).tokens
    have e1 : nt.2.getD i zLink = nt.2[i] := getD_lt hi _
    simp only [br_yes (show (i : Int) < (nt.2.length : Int) by omega), Int.toNat_natCast, e1]
    rw [chk_true (by omega), W_bind]
    refine W_and (below_W hb c2) (fun r13 ⟨⟨b0, b1, _⟩, c3⟩ => ?_)
    have b1 := b1 (by omega)
    rw [small_chk (by simp only [List.length_singleton]; omega), w64_succ (by omega), w64_id (by omega) (by omega)]
    refine hS (r13.2, _) ⟨c3, by simp [l2], fun j hj => ?_⟩
    rcases Nat.lt_or_ge j i with hji | hji
    · have : (x.2 ++ [(nt.2[i].2.2.2.2.length : Int) + r13.1]).getD j 0 = x.2.getD j 0 := by
        rw [List.getD_eq_getElem?_getD, List.getD_eq_getElem?_getD, List.getElem?_append_left (by omega)]
      show _ ≤ (x.2 ++ [_]).getD j 0 ∧ (x.2 ++ [_]).getD j 0 ≤ _
      rw [this]; exact f2 j hji
    · have hji : j = i := by omega
      subst hji
      have : (x.2 ++ [(nt.2[j].2.2.2.2.length : Int) + r13.1]).getD j 0 = (nt.2[j].2.2.2.2.length : Int) + r13.1 := by
        rw [List.getD_eq_getElem?_getD, List.getElem?_append_right (by omega), l2, Nat.sub_self]; rfl
      show _ ≤ (x.2 ++ [_]).getD j 0 ∧ (x.2 ++ [_]).getD j 0 ≤ _
      rw [this, e1]
      omega
theorem CapSm.ok {m : Nat} {nt : Network} {caps : List Int} (hN : NetSm m nt) (h : CapSm nt caps) : okC nt.2 caps = true := by
  unfold okC
  simp only [Bool.and_eq_true, decide_eq_true_eq, List.all_eq_true, List.mem_range]
  refine ⟨h.1, fun j hj => ?_⟩
  rw [h.1] at hj
  have h2 := h.2 j hj
  have e1 : nt.2.getD j zLink = nt.2[j] := getD_lt hj _
  have := (hN.toks _ (List.getElem_mem hj)).1
  rw [e1] at h2 ⊢
  omega
end Go.AmT
