/- Without a cycle, the least streams are found in as many rounds as there are processes and one more. -/
import Derived.Test.YtfcehikkpoeebaaGreatPReach
import Derived.Test.YtfcehikkpoeebaaGreatPLeast
namespace Go.AmT
open Go Go.Am
set_option linter.unusedVariables false
set_option linter.unusedSimpArgs false

/-- the histories, round by round -/
def hs (nt : Network) : Nat → List (List Int)
  | 0 => tokL nt
  | i + 1 => (List.range nt.2.length).map (newS nt (atL (hs nt i)))
theorem hs_len (nt : Network) (i : Nat) : (hs nt i).length = nt.2.length := by
  cases i with
  | zero => simp [hs, tokL]
  | succ i => simp [hs]
theorem hs_succ {nt : Network} {i j : Nat} (hj : j < nt.2.length) : atL (hs nt (i + 1)) j = newS nt (atL (hs nt i)) j := by
  show atL ((List.range nt.2.length).map (newS nt (atL (hs nt i)))) j = _
  exact atL_map hj
theorem ends_at {nt : Network} (o : OkN nt) {j : Nat} (hj : j < nt.2.length) : EndOk nt (lnk nt j) := by
  unfold lnk; rw [getD_lt hj]; exact o.ends j hj
/-- what is not settled comes from a chain of processes -/
theorem chain_of {nt : Network} (o : OkN nt) : ∀ (i j : Nat), j < nt.2.length → atL (hs nt (i + 1)) j ≠ atL (hs nt i) j →
    ∃ f : Nat → Int, f i = (lnk nt j).1 ∧ (∀ t, t ≤ i → 0 ≤ f t ∧ f t < (nt.1.length : Int)) ∧ ∀ t, t < i → Edge nt (f t) (f (t + 1))
  | 0, j, hj, h => by
    rw [hs_succ hj] at h
    have e0 : atL (hs nt 0) j = toks nt j := atL_tokL j
    rw [e0] at h
    rcases (ends_at o hj).out with ⟨h1, h2⟩ | ⟨h1, h2, h3, h4⟩
    · exact absurd (by unfold newS; rw [if_neg (by omega), List.append_nil]) h
    · exact ⟨fun _ => (lnk nt j).1, rfl, fun t _ => ⟨h1, h2⟩, fun t ht => absurd ht (Nat.not_lt_zero _)⟩
  | i + 1, j, hj, h => by
    rw [hs_succ hj, hs_succ hj] at h
    rcases (ends_at o hj).out with ⟨h1, h2⟩ | ⟨h1, h2, h3, h4⟩
    · exact absurd (by unfold newS; rw [if_neg (by omega), if_neg (by omega)]) h
    · have hk : (lnk nt j).1.toNat < nt.1.length := by omega
      have hi : inF nt (atL (hs nt (i + 1))) (lnk nt j).1.toNat ≠ inF nt (atL (hs nt i)) (lnk nt j).1.toNat := by
        intro e
        refine h ?_
        unfold newS runK
        rw [e]
      obtain ⟨b, hb⟩ : ∃ b, inF nt (atL (hs nt (i + 1))) (lnk nt j).1.toNat b ≠ inF nt (atL (hs nt i)) (lnk nt j).1.toNat b := by
        refine Classical.byContradiction fun hn => hi (funext fun b => Classical.byContradiction fun hb => hn ⟨b, hb⟩)
      unfold inF at hb
      split at hb
      · rename_i hlt
        obtain ⟨g1, g2, g3⟩ := lto_spec o hk hlt
        obtain ⟨f, e1, e2, e3⟩ := chain_of o i _ g1 hb
        refine ⟨fun t => if t ≤ i then f t else (lnk nt j).1, by simp only; rw [if_neg (by omega)], fun t ht => ?_, fun t ht => ?_⟩
        · simp only
          split
          · exact e2 t (by omega)
          · exact ⟨h1, h2⟩
        · simp only
          rw [if_pos (show t ≤ i by omega)]
          by_cases c : t < i
          · rw [if_pos (by omega)]; exact e3 t c
          · rw [if_neg (by omega), show t = i by omega, e1]
            refine ⟨nt.2[lto nt (lnk nt j).1.toNat b], List.getElem_mem g1, ?_, ?_, h1⟩
            · have : lnk nt (lto nt (lnk nt j).1.toNat b) = nt.2[lto nt (lnk nt j).1.toNat b] := getD_lt g1 _
              rw [this]
            · have e5 : lnk nt (lto nt (lnk nt j).1.toNat b) = nt.2[lto nt (lnk nt j).1.toNat b] := getD_lt g1 _
              rw [← e5, g2]; omega
      · exact absurd rfl hb
theorem rc_chain {nt : Network} {f : Nat → Int} {N : Nat} (h : ∀ t, t < N → Edge nt (f t) (f (t + 1))) {s : Nat} : ∀ (d : Nat), s + d + 1 ≤ N → Rc nt (f s) (f (s + d + 1))
  | 0, hd => Rc.one (h s (by omega))
  | d + 1, hd => Rc.tail (rc_chain h d (by omega)) (h (s + d + 1) (by omega))
theorem twice_of {N : Nat} {f : Nat → Int} (h : ∀ t, t ≤ N → 0 ≤ f t ∧ f t < (N : Int)) : ∃ s d, s + d + 1 ≤ N ∧ f s = f (s + d + 1) := by
  refine Classical.byContradiction fun hn => ?_
  have hd : ((List.range (N + 1)).map f).Nodup := by
    rw [List.nodup_iff_pairwise_ne, List.pairwise_iff_getElem]
    intro i j hi hj hij e
    simp only [List.getElem_map, List.getElem_range] at e
    simp at hi hj
    refine hn ⟨i, j - i - 1, by omega, ?_⟩
    rw [show i + (j - i - 1) + 1 = j by omega]; exact e
  have := nodup_rng (N := N) hd (fun x hx => by
    obtain ⟨t, ht, rfl⟩ := List.mem_map.1 hx
    exact h t (by have := List.mem_range.1 ht; omega))
  simp at this
  omega
open Classical in
theorem settled {nt : Network} (o : OkN nt) (hc : cyc nt = false) : hs nt (nt.1.length + 1) = hs nt nt.1.length := by
  refine eq_of_atL (by rw [hs_len, hs_len]) (fun j hj => ?_)
  rw [hs_len] at hj
  refine Classical.byContradiction fun hn => ?_
  obtain ⟨f, e1, e2, e3⟩ := chain_of o nt.1.length j hj hn
  obtain ⟨s, d, h1, h2⟩ := twice_of e2
  have r := rc_chain e3 d h1
  rw [← h2] at r
  have b := e2 s (by omega)
  unfold cyc at hc
  refine absurd (of_decide_eq_false hc) (fun hh => hh ⟨(f s).toNat, by omega, ?_⟩)
  rw [show (((f s).toNat : Nat) : Int) = f s by omega]; exact r
theorem rounds_le {nt : Network} (o : OkN nt) (hc : cyc nt = false) : ∀ (m i : Nat) (r r' : Int) (g : List (List Int)), i ≤ nt.1.length → leastF nt m r (hs nt i) = some (g, r') → r' ≤ r + ((nt.1.length - i : Nat) : Int)
  | 0, i, r, r', g, hi, e => by cases e
  | m + 1, i, r, r', g, hi, e => by
    unfold leastF at e
    cases e1 : rndP nt (hs nt i) with
    | none => rw [e1] at e; cases e
    | some g1 =>
      rw [e1] at e
      obtain ⟨_, rfl⟩ := rndP_some e1
      have e2 : (List.range nt.2.length).map (newS nt (atL (hs nt i))) = hs nt (i + 1) := rfl
      rw [e2] at e
      simp only at e
      split at e
      · cases e; omega
      · rename_i hne
        have hlt : i < nt.1.length := by
          rcases Nat.lt_or_ge i nt.1.length with h | h
          · exact h
          · exact absurd (by rw [show i = nt.1.length by omega]; exact settled o hc) hne
        have := rounds_le o hc m (i + 1) (r + 1) r' g (by omega) e
        omega
end Go.AmT
