/- The links of a network with a process put into one of them, in plain Lean. -/
import Derived.Test.YtgepghodhnmhjaaPThru
namespace Go.AmT
open Go Go.Am
set_option linter.unusedVariables false
set_option linter.unusedSimpArgs false

section
variable {nt : Network} {k : Nat}
theorem lnkm_ne (hk : k < nt.2.length) {j : Nat} (hj : j < nt.2.length) (h : j ≠ k) : lnk (splice nt k) j = lnk nt j := by
  rw [splice_eq]
  show (nt.2.set k (splA nt k) ++ [splB nt k]).getD j zLink = nt.2.getD j zLink
  rw [getD_lt (by simp; omega), getD_lt hj, List.getElem_append_left (by simpa using hj), List.getElem_set_ne (fun e => h e.symm)]
theorem lnkm_k (hk : k < nt.2.length) : lnk (splice nt k) k = splA nt k := by
  rw [splice_eq]
  show (nt.2.set k (splA nt k) ++ [splB nt k]).getD k zLink = _
  rw [getD_lt (by simp; omega), List.getElem_append_left (by simpa using hk), List.getElem_set_self]
theorem lnkm_L : lnk (splice nt k) nt.2.length = splB nt k := by
  rw [splice_eq]
  show (nt.2.set k (splA nt k) ++ [splB nt k]).getD nt.2.length zLink = _
  rw [getD_lt (by simp), List.getElem_append_right (by simp)]; simp
theorem splL_len : (splice nt k).2.length = nt.2.length + 1 := by rw [splice_eq]; simp
theorem splP_len : (splice nt k).1.length = nt.1.length + 1 := by rw [splice_eq]; simp
theorem lfr_spl (o : OkN nt) (om : OkN (splice nt k)) (hk : k < nt.2.length) {i b : Nat} (hi : i < nt.1.length) (hb : (b : Int) < (prog nt i).2.1) : lfr (splice nt k) i b = lfr nt i b := by
  obtain ⟨h1, h2, h3⟩ := lfr_spec o hi hb
  have hp : prog (splice nt k) i = prog nt i := spl_prog hi
  refine lfr_uniq om (by rw [splL_len]; omega) (by rw [splP_len]; omega) (by rw [hp]; exact hb) ?_ ?_
  · by_cases h : lfr nt i b = k
    · rw [h, lnkm_k hk]; rw [h] at h2; exact h2
    · rw [lnkm_ne hk h1 h]; exact h2
  · by_cases h : lfr nt i b = k
    · rw [h, lnkm_k hk]; rw [h] at h3; exact h3
    · rw [lnkm_ne hk h1 h]; exact h3
theorem lto_spl (o : OkN nt) (om : OkN (splice nt k)) (hk : k < nt.2.length) {i b : Nat} (hi : i < nt.1.length) (hb : (b : Int) < (prog nt i).1) : lto (splice nt k) i b = if lto nt i b = k then nt.2.length else lto nt i b := by
  obtain ⟨h1, h2, h3⟩ := lto_spec o hi hb
  have hp : prog (splice nt k) i = prog nt i := spl_prog hi
  by_cases h : lto nt i b = k
  · rw [if_pos h]
    rw [h] at h2 h3
    exact lto_uniq om (by rw [splL_len]; omega) (by rw [splP_len]; omega) (by rw [hp]; exact hb) (by rw [lnkm_L]; exact h2) (by rw [lnkm_L]; exact h3)
  · rw [if_neg h]
    exact lto_uniq om (by rw [splL_len]; omega) (by rw [splP_len]; omega) (by rw [hp]; exact hb) (by rw [lnkm_ne hk h1 h]; exact h2) (by rw [lnkm_ne hk h1 h]; exact h3)
theorem lto_last (om : OkN (splice nt k)) (hk : k < nt.2.length) : lto (splice nt k) nt.1.length 0 = k := by
  have hp : prog (splice nt k) nt.1.length = through := spl_last
  exact lto_uniq om (by rw [splL_len]; omega) (by rw [splP_len]; omega) (by rw [hp]; decide) (by rw [lnkm_k hk]; rfl) (by rw [lnkm_k hk]; rfl)
theorem lfr_last (om : OkN (splice nt k)) (hk : k < nt.2.length) : lfr (splice nt k) nt.1.length 0 = nt.2.length := by
  have hp : prog (splice nt k) nt.1.length = through := spl_last
  exact lfr_uniq om (by rw [splL_len]; omega) (by rw [splP_len]; omega) (by rw [hp]; decide) (by rw [lnkm_L]; rfl) (by rw [lnkm_L]; rfl)
theorem toks_spl (hk : k < nt.2.length) {j : Nat} (hj : j < nt.2.length) : toks (splice nt k) j = toks nt j := by
  unfold toks
  by_cases h : j = k
  · subst h; rw [lnkm_k hk]; rfl
  · rw [lnkm_ne hk hj h]
theorem toks_new : toks (splice nt k) nt.2.length = [] := by unfold toks; rw [lnkm_L]; rfl
/-- streams of the old network, with those of the link once more -/
def ext (nt : Network) (k : Nat) (F : Nat → List Int) : Nat → List Int := fun j => if j = nt.2.length then F k else F j
theorem inF_ext (o : OkN nt) (om : OkN (splice nt k)) (hk : k < nt.2.length) {F : Nat → List Int} {i : Nat} (hi : i < nt.1.length) : inF (splice nt k) (ext nt k F) i = inF nt F i := by
  have hp : prog (splice nt k) i = prog nt i := spl_prog hi
  funext b
  unfold inF
  rw [hp]
  by_cases hb : (b : Int) < (prog nt i).1
  · rw [if_pos hb, if_pos hb, lto_spl o om hk hi hb]
    unfold ext
    by_cases h : lto nt i b = k
    · rw [if_pos h, if_pos rfl, h]
    · have := (lto_spec o hi hb).1
      rw [if_neg h, if_neg (by omega)]
  · rw [if_neg hb, if_neg hb]
end
end Go.AmT
