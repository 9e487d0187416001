/- A process put into a link of a valid network makes a valid network, in plain Lean. -/
import Derived.Test.YtgepghodhnmhjaaPSplice
import Derived.Test.YtgepghodhnmhjaaPKahn
namespace Go.AmT
open Go Go.Am
set_option linter.unusedVariables false
set_option linter.unusedSimpArgs false

def splA (nt : Network) (k : Nat) : Link := ((nt.2.getD k zLink).1, (nt.2.getD k zLink).2.1, (nt.1.length : Int), 0, (nt.2.getD k zLink).2.2.2.2)
def splB (nt : Network) (k : Nat) : Link := ((nt.1.length : Int), 0, (nt.2.getD k zLink).2.2.1, (nt.2.getD k zLink).2.2.2.1, [])
theorem splice_eq (nt : Network) (k : Nat) : splice nt k = (nt.1 ++ [through], nt.2.set k (splA nt k) ++ [splB nt k]) := rfl
theorem spl_count {nt : Network} {k : Nat} (hk : k < nt.2.length) (p : Link → Bool) : (splice nt k).2.countP p + (if p nt.2[k] = true then 1 else 0) = nt.2.countP p + (if p (splA nt k) = true then 1 else 0) + (if p (splB nt k) = true then 1 else 0) := by
  rw [splice_eq]
  show (nt.2.set k (splA nt k) ++ [splB nt k]).countP p + _ = _
  have hpos : p nt.2[k] = true → 0 < nt.2.countP p := fun h => List.countP_pos_iff.2 ⟨_, List.getElem_mem hk, h⟩
  rw [List.countP_append, List.countP_set hk, List.countP_singleton]
  by_cases h : p nt.2[k] = true
  · have := hpos h
    rw [if_pos h]; omega
  · rw [if_neg h]; omega
theorem spl_prog {nt : Network} {k i : Nat} (hi : i < nt.1.length) : (splice nt k).1.getD i zProgram = nt.1.getD i zProgram := by
  rw [splice_eq]
  show (nt.1 ++ [through]).getD i zProgram = _
  rw [getD_lt (by simp; omega), getD_lt hi, List.getElem_append_left hi]
theorem spl_last {nt : Network} {k : Nat} : (splice nt k).1.getD nt.1.length zProgram = through := by
  rw [splice_eq]
  show (nt.1 ++ [through]).getD nt.1.length zProgram = _
  rw [getD_lt (by simp)]; simp
theorem spl_out {nt : Network} {k : Nat} {l : Link} (h : OutOk nt l) : OutOk (splice nt k) l := by
  obtain ⟨h1, h2, h3, h4⟩ := h
  refine ⟨h1, by rw [splice_eq]; simp; omega, h3, ?_⟩
  rw [spl_prog (by omega)]; exact h4
theorem spl_in {nt : Network} {k : Nat} {l : Link} (h : InOk nt l) : InOk (splice nt k) l := by
  obtain ⟨h1, h2, h3, h4⟩ := h
  refine ⟨h1, by rw [splice_eq]; simp; omega, h3, ?_⟩
  rw [spl_prog (by omega)]; exact h4
theorem spl_end {nt : Network} {k : Nat} {l : Link} (h : EndOk nt l) : EndOk (splice nt k) l :=
  ⟨h.out.imp id spl_out, h.inn.imp id spl_in, h.one⟩
theorem splice_ok {nt : Network} {k : Nat} (o : OkN nt) (hk : k < nt.2.length) (hp : nt.1.length ≤ 11) (hl : nt.2.length ≤ 29) : OkN (splice nt k) := by
  have eK : nt.2.getD k zLink = nt.2[k] := getD_lt hk _
  have E := o.ends k hk
  have hlt : (splice nt k).1.length = nt.1.length + 1 := by rw [splice_eq]; simp
  have hA : EndOk (splice nt k) (splA nt k) := by
    refine ⟨?_, .inr ⟨by show (0 : Int) ≤ (nt.1.length : Int); omega, by show (nt.1.length : Int) < ((splice nt k).1.length : Int); omega, by show (0 : Int) ≤ 0; omega, ?_⟩, fun h => ?_⟩
    · unfold splA; rw [eK]; exact E.out.imp id spl_out
    · show (0 : Int) < ((splice nt k).1.getD (nt.1.length : Int).toNat zProgram).1
      rw [Int.toNat_natCast, spl_last]; decide
    · have : (nt.1.length : Int) = -1 := h.2
      omega
  have hB : EndOk (splice nt k) (splB nt k) := by
    refine ⟨.inr ⟨by show (0 : Int) ≤ (nt.1.length : Int); omega, by show (nt.1.length : Int) < ((splice nt k).1.length : Int); omega, by show (0 : Int) ≤ 0; omega, ?_⟩, ?_, fun h => ?_⟩
    · show (0 : Int) < ((splice nt k).1.getD (nt.1.length : Int).toNat zProgram).2.1
      rw [Int.toNat_natCast, spl_last]; decide
    · unfold splB; rw [eK]; exact E.inn.imp id spl_in
    · have : (nt.1.length : Int) = -1 := h.1
      omega
  have hmem : ∀ l ∈ (splice nt k).2, l ∈ nt.2 ∨ l = splA nt k ∨ l = splB nt k := fun l h => by
    rw [splice_eq] at h
    rcases List.mem_append.1 h with h | h
    · rcases List.mem_or_eq_of_mem_set h with h | h
      · exact .inl h
      · exact .inr (.inl h)
    · exact .inr (.inr (List.mem_singleton.1 h))
  have hto : ∀ l ∈ nt.2, ∀ b : Int, isTo (nt.1.length : Int) b l = false := fun l h b => by
    obtain ⟨j, hj, rfl⟩ := List.mem_iff_getElem.1 h
    have : nt.2[j].2.2.1 ≠ (nt.1.length : Int) := by rcases (o.ends j hj).inn with h | h; omega; have := h.2.1; omega
    unfold isTo; rw [decide_eq_false this]; rfl
  have hfr : ∀ l ∈ nt.2, ∀ b : Int, isFrom (nt.1.length : Int) b l = false := fun l h b => by
    obtain ⟨j, hj, rfl⟩ := List.mem_iff_getElem.1 h
    have : nt.2[j].1 ≠ (nt.1.length : Int) := by rcases (o.ends j hj).out with h | h; omega; have := h.2.1; omega
    unfold isFrom; rw [decide_eq_false this]; rfl
  refine ⟨by omega, by rw [splice_eq]; simp; omega, fun i hi => ?_, fun i hi => ?_, fun i hi => ?_, fun i hi b hb => ?_, fun i hi b hb => ?_⟩
  · by_cases h : i < nt.1.length
    · have e := spl_prog (k := k) h
      rw [getD_lt hi, getD_lt h] at e
      rw [e]; exact o.prog i h
    · have e := spl_last (nt := nt) (k := k)
      have : i = nt.1.length := by omega
      subst this
      rw [getD_lt hi] at e
      rw [e]; decide
  · rcases hmem _ (List.getElem_mem hi) with h | h | h
    · obtain ⟨j, hj, e⟩ := List.mem_iff_getElem.1 h
      rw [← e]; exact spl_end (o.ends j hj)
    · rw [h]; exact hA
    · rw [h]; exact hB
  · rcases hmem _ (List.getElem_mem hi) with h | h | h
    · obtain ⟨j, hj, e⟩ := List.mem_iff_getElem.1 h
      rw [← e]; exact o.toks j hj
    · rw [h]; unfold splA; rw [eK]; exact o.toks k hk
    · rw [h]; rfl
  · have hc := spl_count hk (isTo (i : Int) (b : Int))
    have hBk : isTo (i : Int) (b : Int) (splB nt k) = isTo (i : Int) (b : Int) nt.2[k] := by unfold splB isTo; rw [eK]
    by_cases h : i < nt.1.length
    · have e := spl_prog (k := k) h
      rw [getD_lt hi, getD_lt h] at e
      rw [e] at hb
      have h1 := o.ins i h b hb
      have hAk : isTo (i : Int) (b : Int) (splA nt k) = false := by
        unfold splA isTo; rw [decide_eq_false (show ¬ (nt.1.length : Int) = (i : Int) by omega)]; rfl
      rw [hBk, hAk] at hc
      simp only [Bool.false_eq_true, if_false] at hc
      omega
    · have : i = nt.1.length := by omega
      subst this
      have e := spl_last (nt := nt) (k := k)
      rw [getD_lt hi] at e
      rw [e] at hb
      have hb0 : b = 0 := by have : (b : Int) < 1 := hb; omega
      subst hb0
      have h0 : nt.2.countP (isTo (nt.1.length : Int) ((0 : Nat) : Int)) = 0 := List.countP_eq_zero.2 (fun l hl => by rw [hto l hl]; simp)
      have hAk : isTo (nt.1.length : Int) ((0 : Nat) : Int) (splA nt k) = true := by unfold splA isTo; simp
      rw [hBk, hAk, hto _ (List.getElem_mem hk)] at hc
      simp only [Bool.false_eq_true, if_false, if_true] at hc
      omega
  · have hc := spl_count hk (isFrom (i : Int) (b : Int))
    have hAk : isFrom (i : Int) (b : Int) (splA nt k) = isFrom (i : Int) (b : Int) nt.2[k] := by unfold splA isFrom; rw [eK]
    by_cases h : i < nt.1.length
    · have e := spl_prog (k := k) h
      rw [getD_lt hi, getD_lt h] at e
      rw [e] at hb
      have h1 := o.outs i h b hb
      have hBk : isFrom (i : Int) (b : Int) (splB nt k) = false := by
        unfold splB isFrom; rw [decide_eq_false (show ¬ (nt.1.length : Int) = (i : Int) by omega)]; rfl
      rw [hAk, hBk] at hc
      simp only [Bool.false_eq_true, if_false] at hc
      omega
    · have : i = nt.1.length := by omega
      subst this
      have e := spl_last (nt := nt) (k := k)
      rw [getD_lt hi] at e
      rw [e] at hb
      have hb0 : b = 0 := by have : (b : Int) < 1 := hb; omega
      subst hb0
      have h0 : nt.2.countP (isFrom (nt.1.length : Int) ((0 : Nat) : Int)) = 0 := List.countP_eq_zero.2 (fun l hl => by rw [hfr l hl]; simp)
      have hBk : isFrom (nt.1.length : Int) ((0 : Nat) : Int) (splB nt k) = true := by unfold splB isFrom; simp
      rw [hAk, hBk, hfr _ (List.getElem_mem hk)] at hc
      simp only [Bool.false_eq_true, if_false, if_true] at hc
      omega
end Go.AmT
