/- A process put into a link, in plain Lean: both programs make the same network of it. -/
import Derived.Test.YtgepghodhnmhjaaLSplice
import Derived.Test.YtgepghodhnmhjaaPCopy
namespace Go.AmT
open Go Go.Am
set_option linter.unusedVariables false
set_option linter.unusedSimpArgs false

def through : Program := (1, 1, [(1, 0, 0, 0), (2, 0, 0, 0), (8, 0, 0, 0)])
def sThrough : List UInt8 := [116, 104, 114, 111, 117, 103, 104]
theorem iSample_through {n : Nat} : iSampleProgram.f n sThrough = some (through, ()) := by rfl

/-- a network with a process put into its link k -/
def splice (nt : Network) (k : Nat) : Network :=
  (nt.1 ++ [through], nt.2.set k ((nt.2.getD k zLink).1, (nt.2.getD k zLink).2.1, (nt.1.length : Int), 0, (nt.2.getD k zLink).2.2.2.2) ++ [((nt.1.length : Int), 0, (nt.2.getD k zLink).2.2.1, (nt.2.getD k zLink).2.2.2.1, [])])
noncomputable def spl (nt : Network) (k : Int) : Network × Bool × Unit :=
  if (okN nt && decide (0 ≤ k ∧ k < (nt.2.length : Int))) = true then (if okN (splice nt k.toNat) = true then (splice nt k.toNat, (true, ())) else (([], []), (false, ()))) else (([], []), (false, ()))
theorem splice_small {nt : Network} {k : Nat} (h : SmallN nt) (o : okN nt = true) (hk : k < nt.2.length) : SmallN (splice nt k) := by
  have o' : OkN nt := of_decide_eq_true o
  have h1 := o'.progs
  have h2 := o'.links
  have ht := (h.link _ (List.getElem_mem hk)).tokens
  refine ⟨by simp [splice]; omega, fun p hp => ?_, by simp [splice]; omega, fun l hl => ?_⟩
  · simp only [splice, List.mem_append, List.mem_singleton] at hp
    rcases hp with hp | rfl
    · exact h.prog p hp
    · exact ⟨by decide⟩
  · simp only [splice, List.mem_append, List.mem_singleton] at hl
    rcases hl with hl | rfl
    · rcases List.mem_or_eq_of_mem_set hl with hl | rfl
      · exact h.link l hl
      · exact ⟨by simpa [hk] using ht⟩
    · exact ⟨by simp⟩
theorem iSpliceThrough_spec {n : Nat} {nt : Network} {k : Int} (h : SmallN nt) (hn : 1048576 < n) : iSpliceThrough.f n nt k = some (spl nt k) := by
  have hp := h.progs
  have hl := h.links
  unfold iSpliceThrough.f spl
  rw [iIsNetwork_spec h hn]
  simp only [Option.bind_some]
  have e : cut (α := (Bool × Unit)) (ρ := Network × (Bool × Unit)) (br (!okN nt) (some (.inr (true, ()))) (br (decide (k < 0)) (some (.inr (true, ()))) (some (.inr ((decide ((nt.2.length : Int) ≤ k)), ()))))) = fun f => f (!(okN nt && decide (0 ≤ k ∧ k < (nt.2.length : Int))), ()) := by
    funext f
    by_cases a : k < 0 <;> by_cases b : (nt.2.length : Int) ≤ k <;> cases okN nt <;> simp [a, b, br, cut] <;> (congr 2; simp; omega)
  rw [e]
  simp only
  cases hb : (okN nt && decide (0 ≤ k ∧ k < (nt.2.length : Int)))
  · rfl
  · simp only [Bool.not_true, br_false, if_true]
    simp only [Bool.and_eq_true, decide_eq_true_eq] at hb
    obtain ⟨o, k0, k1⟩ := hb
    obtain ⟨j, rfl⟩ : ∃ j : Nat, k = (j : Int) := ⟨k.toNat, by omega⟩
    have hj : j < nt.2.length := by omega
    rw [show iSampleProgram.f n [116, 104, 114, 111, 117, 103, 104] = some (through, ()) from iSample_through, iCopyNetwork_spec h hn]
    simp only [Option.bind_some, Int.toNat_natCast, k0, k1, and_self, chk_T]
    rw [small_chk (by simp; omega), small_chk (by simp; omega)]
    simp only [getD_set_same hj, List.set_set]
    have hS := splice_small h o hj
    have := iChecked_spec hS hn
    unfold splice at this ⊢
    rw [this]
    simp only [Option.bind_some]
end Go.AmT
