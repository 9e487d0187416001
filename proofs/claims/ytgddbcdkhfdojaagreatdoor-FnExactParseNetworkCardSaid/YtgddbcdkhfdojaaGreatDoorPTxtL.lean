/- The lines of a text, in plain Lean. -/
import Derived.Test.YtgddbcdkhfdojaaGreatDoorLTxtL
import Derived.Test.YtgddbcdkhfdojaaGreatDoorPTxtR
namespace Go.AmT
open Go Go.Am
set_option linter.unusedVariables false
set_option linter.unusedSimpArgs false

theorem suf_end (t : List UInt8) : Lib.hasSuffix (t ++ [10]) [10] = true := by
  unfold Lib.hasSuffix
  rw [List.isSuffixOf_iff_suffix]
  exact List.suffix_append t [10]
theorem iLines_txt {n : Nat} {t : List UInt8} (hl : (t ++ [10]).length ≤ 1048576) : iLines.f n (t ++ [10]) = some (splitR 10 t, (true, ())) := by
  have hl' : t.length ≤ 1048575 := by simp at hl; omega
  unfold iLines.f
  rw [br_no (by simp)]
  have e1 : hasSufC.f n (t ++ [10]) [10] = some (true, ()) := by
    unfold hasSufC.f hasSufF
    rw [if_pos (by omega), suf_end]
    rfl
  have e2 : trimSufC.f n (t ++ [10]) [10] = some (t, ()) := by
    unfold trimSufC.f trimSufF Lib.trimSuffix
    rw [if_pos (by omega), suf_end]
    simp
    rfl
  rw [e1, bind_unit]
  simp only [Bool.not_true, br_false]
  rw [e2, bind_unit, splitC_spec (by show t.length ≤ _; omega), bind_unit]
theorem iLines_any {n : Nat} {t : List UInt8} (hl : t.length ≤ 1048576) : W (iLines.f n t) (fun r => r.1.length ≤ 1048576 ∧ ∀ p ∈ r.1, p.length ≤ 1048575) := by
  by_cases h0 : t = []
  · unfold iLines.f
    rw [br_yes h0]
    exact W_some.2 ⟨by simp, fun p h => by simp at h⟩
  · by_cases hs : Lib.hasSuffix t [10] = true
    · obtain ⟨u, rfl⟩ : ∃ u, t = u ++ [10] := by
        unfold Lib.hasSuffix at hs
        rw [List.isSuffixOf_iff_suffix] at hs
        obtain ⟨u, e⟩ := hs
        exact ⟨u, e.symm⟩
      rw [iLines_txt hl]
      refine W_some.2 ⟨?_, fun p hp => ?_⟩
      · have := splitR_len 10 u
        simp at hl
        show (splitR 10 u).length ≤ _
        omega
      · have := splitR_sum 10 u p hp
        have := List.length_pos_iff.2 (splitR_ne 10 u)
        simp at hl
        omega
    · unfold iLines.f
      rw [br_no h0]
      have e1 : hasSufC.f n t [10] = some (false, ()) := by
        unfold hasSufC.f hasSufF
        rw [if_pos (by omega), show Lib.hasSuffix t [10] = false by simpa using hs]
        rfl
      rw [e1, bind_unit]
      simp only [Bool.not_false, br_true]
      exact W_some.2 ⟨by simp, fun p h => by simp at h⟩
theorem iLines_lines {n : Nat} {l : List (List UInt8)} (h : ∀ a ∈ l, (10 : UInt8) ∉ a) (hl : ((l.map (· ++ [10])).flatten).length ≤ 1048576) : iLines.f n ((l.map (· ++ [10])).flatten) = some (l, (true, ())) := by
  by_cases hne : l = []
  · subst hne
    unfold iLines.f
    rw [br_yes (by rfl)]
  · have hs := splitR_lines l h
    have := List.dropLast_concat_getLast hne
    have e : (l.map (· ++ [10])).flatten = ((l.dropLast).map (· ++ [10])).flatten ++ l.getLast hne ++ [10] := by
      conv => lhs; rw [← this]
      simp
    rw [e] at hl hs ⊢
    rw [splitR_end] at hs
    rw [iLines_txt hl, List.append_cancel_right hs]
end Go.AmT
