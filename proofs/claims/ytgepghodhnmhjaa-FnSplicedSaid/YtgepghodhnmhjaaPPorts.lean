/- How many links a network has, in plain Lean: at most one for each port. -/
import Derived.Test.YtgepghodhnmhjaaPKahn
import Derived.Test.YtgepghodhnmhjaaPGenN
namespace Go.AmT
open Go Go.Am
set_option linter.unusedVariables false
set_option linter.unusedSimpArgs false

def portsN (nt : Network) : Nat → List (Bool × Nat × Nat)
  | 0 => []
  | K + 1 => portsN nt K ++ ((List.range (prog nt K).1.toNat).map (fun b => (true, K, b)) ++ (List.range (prog nt K).2.1.toNat).map (fun b => (false, K, b)))
theorem portsN_len {nt : Network} (h : ∀ k, 0 ≤ (prog nt k).1 ∧ 0 ≤ (prog nt k).2.1 ∧ (prog nt k).1 + (prog nt k).2.1 ≤ 4) : ∀ K, (portsN nt K).length ≤ 4 * K
  | 0 => Nat.le_refl _
  | K + 1 => by
    have ih := portsN_len h K
    have := h K
    show (portsN nt K ++ _).length ≤ _
    simp only [List.length_append, List.length_map, List.length_range]
    omega
theorem portsN_in {nt : Network} {k b : Nat} (hb : (b : Int) < (prog nt k).1) : ∀ K, k < K → (true, k, b) ∈ portsN nt K
  | 0, h => absurd h (Nat.not_lt_zero _)
  | K + 1, h => by
    show _ ∈ portsN nt K ++ _
    rcases Nat.lt_or_eq_of_le (Nat.le_of_lt_succ h) with h1 | rfl
    · exact List.mem_append_left _ (portsN_in hb K h1)
    · exact List.mem_append_right _ (List.mem_append_left _ (List.mem_map.2 ⟨b, List.mem_range.2 (by omega), rfl⟩))
theorem portsN_out {nt : Network} {k b : Nat} (hb : (b : Int) < (prog nt k).2.1) : ∀ K, k < K → (false, k, b) ∈ portsN nt K
  | 0, h => absurd h (Nat.not_lt_zero _)
  | K + 1, h => by
    show _ ∈ portsN nt K ++ _
    rcases Nat.lt_or_eq_of_le (Nat.le_of_lt_succ h) with h1 | rfl
    · exact List.mem_append_left _ (portsN_out hb K h1)
    · exact List.mem_append_right _ (List.mem_append_right _ (List.mem_map.2 ⟨b, List.mem_range.2 (by omega), rfl⟩))
def portOf (nt : Network) (j : Nat) : Bool × Nat × Nat := if 0 ≤ (lnk nt j).1 then (false, (lnk nt j).1.toNat, (lnk nt j).2.1.toNat) else (true, (lnk nt j).2.2.1.toNat, (lnk nt j).2.2.2.1.toNat)
theorem link_ends {nt : Network} (o : OkN nt) {j : Nat} (hj : j < nt.2.length) : (0 ≤ (lnk nt j).1 ∧ OutOk nt (lnk nt j)) ∨ (¬ 0 ≤ (lnk nt j).1 ∧ InOk nt (lnk nt j)) := by
  have E := o.ends j hj
  have e : lnk nt j = nt.2[j] := getD_lt hj _
  rw [← e] at E
  rcases E.out with h | h
  · refine .inr ⟨by omega, ?_⟩
    rcases E.inn with h2 | h2
    · exact absurd ⟨h.1, h2.1⟩ E.one
    · exact h2
  · exact .inl ⟨h.1, h⟩
theorem port_of {nt : Network} (o : OkN nt) {j : Nat} (hj : j < nt.2.length) : (∃ k b : Nat, k < nt.1.length ∧ (b : Int) < (prog nt k).2.1 ∧ portOf nt j = (false, k, b) ∧ lfr nt k b = j) ∨ (∃ k b : Nat, k < nt.1.length ∧ (b : Int) < (prog nt k).1 ∧ portOf nt j = (true, k, b) ∧ lto nt k b = j) := by
  unfold portOf
  rcases link_ends o hj with ⟨h, h1, h2, h3, h4⟩ | ⟨h, h1, h2, h3, h4⟩
  · rw [if_pos h]
    have h4 : (lnk nt j).2.1 < (prog nt (lnk nt j).1.toNat).2.1 := h4
    exact .inl ⟨_, _, by omega, by omega, rfl, lfr_uniq o hj (by omega) (by omega) (by omega) (by omega)⟩
  · rw [if_neg h]
    have h4 : (lnk nt j).2.2.2.1 < (prog nt (lnk nt j).2.2.1.toNat).1 := h4
    exact .inr ⟨_, _, by omega, by omega, rfl, lto_uniq o hj (by omega) (by omega) (by omega) (by omega)⟩
/-- no more links than ports -/
theorem links_le {nt : Network} (o : OkN nt) (h : ∀ p ∈ nt.1, p.1 + p.2.1 ≤ 4) : nt.2.length ≤ 4 * nt.1.length := by
  have hp : ∀ k, 0 ≤ (prog nt k).1 ∧ 0 ≤ (prog nt k).2.1 ∧ (prog nt k).1 + (prog nt k).2.1 ≤ 4 := fun k => by
    unfold prog
    by_cases hk : k < nt.1.length
    · rw [getD_lt hk]
      have := okP_n (o.prog k hk)
      have := h _ (List.getElem_mem hk)
      omega
    · rw [List.getD_eq_getElem?_getD, List.getElem?_eq_none (by omega)]; decide
  have hnd : ((List.range nt.2.length).map (portOf nt)).Nodup := by
    refine List.pairwise_map.2 (List.Pairwise.imp_of_mem (fun {i j} hi hj hlt e => ?_) List.pairwise_lt_range)
    have hi := List.mem_range.1 hi
    have hj := List.mem_range.1 hj
    rcases port_of o hi with ⟨k, b, hk, hb, e1, e2⟩ | ⟨k, b, hk, hb, e1, e2⟩ <;> rcases port_of o hj with ⟨k', b', hk', hb', e3, e4⟩ | ⟨k', b', hk', hb', e3, e4⟩
    · rw [e1, e3] at e
      simp only [Prod.mk.injEq, true_and] at e
      obtain ⟨rfl, rfl⟩ := e
      omega
    · rw [e1, e3] at e; simp at e
    · rw [e1, e3] at e; simp at e
    · rw [e1, e3] at e
      simp only [Prod.mk.injEq, true_and] at e
      obtain ⟨rfl, rfl⟩ := e
      omega
  have := len_le_of_sub (m := portsN nt nt.1.length) hnd (fun x hx => by
    obtain ⟨j, hj, rfl⟩ := List.mem_map.1 hx
    rcases port_of o (List.mem_range.1 hj) with ⟨k, b, hk, hb, e1, e2⟩ | ⟨k, b, hk, hb, e1, e2⟩
    · rw [e1]; exact portsN_out hb _ hk
    · rw [e1]; exact portsN_in hb _ hk)
  have h2 := portsN_len hp nt.1.length
  simp only [List.length_map, List.length_range] at this
  omega
end Go.AmT
