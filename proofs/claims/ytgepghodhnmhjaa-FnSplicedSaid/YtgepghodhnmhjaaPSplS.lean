/- The least streams of a network with a process put into a link, in plain Lean. -/
import Derived.Test.YtgepghodhnmhjaaPSplL
namespace Go.AmT
open Go Go.Am
set_option linter.unusedVariables false
set_option linter.unusedSimpArgs false

section
variable {nt : Network} {k : Nat}
theorem fix_ext (o : OkN nt) (om : OkN (splice nt k)) (hk : k < nt.2.length) {F : Nat → List Int} (hF : Fix nt (fun _ => c0) F) : Fix (splice nt k) (fun _ => c0) (ext nt k F) := by
  refine ⟨fun j hj h => ?_, fun i hi => ?_⟩
  · rw [splL_len] at hj
    by_cases hjl : j < nt.2.length
    · have h2 : (lnk nt j).1 = -1 := by
        by_cases e : j = k
        · subst e; rw [lnkm_k hk] at h; exact h
        · rw [lnkm_ne hk hjl e] at h; exact h
      rw [toks_spl hk hjl]
      unfold ext
      rw [if_neg (by omega)]
      exact hF.inp j hjl h2
    · have e : j = nt.2.length := by omega
      subst e
      rw [lnkm_L] at h
      have h : (nt.1.length : Int) = -1 := h
      omega
  · rw [splP_len] at hi
    by_cases hil : i < nt.1.length
    · have hp : prog (splice nt k) i = prog nt i := spl_prog hil
      obtain ⟨M, d, hd, ho⟩ := hF.run i hil
      refine ⟨M, d, by rw [hp, inF_ext o om hk hil]; exact hd, fun b hb => ?_⟩
      rw [hp] at hb
      have hl := (lfr_spec o hil hb).1
      rw [lfr_spl o om hk hil hb, toks_spl hk hl]
      unfold ext
      rw [if_neg (by omega)]
      exact ho b hb
    · have e : i = nt.1.length := by omega
      subst e
      have hp : prog (splice nt k) nt.1.length = through := spl_last
      obtain ⟨M, d, hd, h0⟩ := th_full (inF (splice nt k) (ext nt k F) nt.1.length)
      refine ⟨M, d, by rw [hp]; exact hd, fun b hb => ?_⟩
      rw [hp] at hb
      have hb0 : b = 0 := by have : (b : Int) < 1 := hb; omega
      subst hb0
      rw [lfr_last om hk, toks_new, h0]
      unfold inF
      rw [hp, if_pos (by decide), lto_last om hk]
      unfold ext
      rw [if_pos rfl, if_neg (by omega)]; rfl
theorem fix_same (om : OkN (splice nt k)) (hk : k < nt.2.length) {G : Nat → List Int} (hG : Fix (splice nt k) (fun _ => c0) G) : G nt.2.length = G k := by
  have hp : prog (splice nt k) nt.1.length = through := spl_last
  obtain ⟨M, d, hd, ho⟩ := hG.run nt.1.length (by rw [splP_len]; omega)
  rw [hp] at hd ho
  obtain ⟨M', d', hd', h0⟩ := th_full (inF (splice nt k) G nt.1.length)
  have e := (full_uniq hd hd').2
  have h1 := ho 0 (by decide)
  rw [lfr_last om hk, toks_new, e, h0] at h1
  rw [h1]
  unfold inF
  rw [hp, if_pos (by decide), lto_last om hk]; rfl
theorem fix_back (o : OkN nt) (om : OkN (splice nt k)) (hk : k < nt.2.length) {G : Nat → List Int} (hG : Fix (splice nt k) (fun _ => c0) G) : Fix nt (fun _ => c0) G := by
  have hs := fix_same om hk hG
  refine ⟨fun j hj h => ?_, fun i hi => ?_⟩
  · rw [← toks_spl hk hj]
    refine hG.inp j (by rw [splL_len]; omega) ?_
    by_cases e : j = k
    · subst e; rw [lnkm_k hk]; exact h
    · rw [lnkm_ne hk hj e]; exact h
  · have hp : prog (splice nt k) i = prog nt i := spl_prog hi
    obtain ⟨M, d, hd, ho⟩ := hG.run i (by rw [splP_len]; omega)
    have hin : inF (splice nt k) G i = inF nt G i := by
      funext b
      unfold inF
      rw [hp]
      by_cases hb : (b : Int) < (prog nt i).1
      · rw [if_pos hb, if_pos hb, lto_spl o om hk hi hb]
        by_cases h : lto nt i b = k
        · rw [if_pos h, hs, h]
        · rw [if_neg h]
      · rw [if_neg hb, if_neg hb]
    rw [hp, hin] at hd
    refine ⟨M, d, hd, fun b hb => ?_⟩
    have hl := (lfr_spec o hi hb).1
    have := ho b (by rw [hp]; exact hb)
    rw [lfr_spl o om hk hi hb, toks_spl hk hl] at this
    exact this
/-- they are the same, with those of the link once more -/
theorem spl_least (o : OkN nt) (om : OkN (splice nt k)) (hk : k < nt.2.length) {g h : List (List Int)} {r r' : Int} (e : leastP nt = some (g, r)) (e' : leastP (splice nt k) = some (h, r')) : (∀ j, j < nt.2.length → atL h j = atL g j) ∧ atL h nt.2.length = atL g k := by
  have hh := least_fix om e'
  have h1 : Sub (atL g) (atL h) := least_le o e (fix_back o om hk hh)
  have h2 : Sub (atL h) (ext nt k (atL g)) := least_le om e' (fix_ext o om hk (least_fix o e))
  have key : ∀ j, j < nt.2.length → atL h j = atL g j := fun j hj => by
    have a := h1 j
    have b := h2 j
    unfold ext at b
    rw [if_neg (by omega)] at b
    exact b.eq_of_length (Nat.le_antisymm b.length_le a.length_le)
  exact ⟨key, by rw [fix_same om hk hh, key k hk]⟩
end
end Go.AmT
