/- Networks that are marked, in plain Lean: no condition but that they are small. -/
import Derived.Test.YtgepghodhnmhjaaLMark
import Derived.Test.YtgepghodhnmhjaaPMark0
namespace Go.AmT
open Go Go.Am
set_option linter.unusedVariables false
set_option linter.unusedSimpArgs false

theorem w64_add {k : Int} {c : Nat} (h0 : 0 ≤ k) (h1 : k ≤ 1152921504606846976) (hc : c ≤ 1000) : w64 (k + (c : Int)) = k + (c : Int) := w64_id (by omega) (by omega)
theorem w64_k {k : Int} (h0 : 0 ≤ k) (h1 : k ≤ 1152921504606847000) : w64 (k + 1) = k + 1 := w64_id (by omega) (by omega)

def mInt (_ : Int) (k : Int) : Int × Int := (k, k + 1)
def mInstr (_ : Instr) (k : Int) : Instr × Int := ((k, k + 1, k + 2, k + 3), k + 4)
def mProgram (p : Program) (k : Int) : Program × Int := ((k, k + 1, (mkL mInstr p.2.2 (k + 2)).1), (mkL mInstr p.2.2 (k + 2)).2)
def mLink (l : Link) (k : Int) : Link × Int := ((k, k + 1, k + 2, k + 3, (mkL mInt l.2.2.2.2 (k + 4)).1), (mkL mInt l.2.2.2.2 (k + 4)).2)
def mNetwork (nt : Network) (k : Int) : Network × Int := (((mkL mProgram nt.1 k).1, (mkL mLink nt.2 (mkL mProgram nt.1 k).2).1), (mkL mLink nt.2 (mkL mProgram nt.1 k).2).2)

theorem mInt_le {l : List Int} {k : Int} (hl : l.length ≤ 1048576) (i : Nat) : k ≤ mkK mInt l k i ∧ mkK mInt l k i ≤ k + 1048576 := by
  have := mkK_le (f := mInt) (l := l) (k := k) (B := 1) (by omega) (fun x _ k => by simp [mInt]; omega) i
  omega
theorem mInstr_le {l : List Instr} {k : Int} (hl : l.length ≤ 1048576) (i : Nat) : k ≤ mkK mInstr l k i ∧ mkK mInstr l k i ≤ k + 4194304 := by
  have := mkK_le (f := mInstr) (l := l) (k := k) (B := 4) (by omega) (fun x _ k => by simp [mInstr]; omega) i
  omega
theorem mProgram_le {l : List Program} {k : Int} (hl : l.length ≤ 1048576) (hp : ∀ p ∈ l, SmallP p) (i : Nat) : k ≤ mkK mProgram l k i ∧ mkK mProgram l k i ≤ k + 4398048608256 := by
  have := mkK_le (f := mProgram) (l := l) (k := k) (B := 4194306) (by omega) (fun x hx k => by
    have := mInstr_le (k := k + 2) (hp x hx).code x.2.2.length
    rw [mkK_end] at this
    simp only [mProgram]; omega) i
  omega
theorem mLink_le {l : List Link} {k : Int} (hl : l.length ≤ 1048576) (hp : ∀ p ∈ l, SmallL p) (i : Nat) : k ≤ mkK mLink l k i ∧ mkK mLink l k i ≤ k + 1099515822080 := by
  have := mkK_le (f := mLink) (l := l) (k := k) (B := 1048580) (by omega) (fun x hx k => by
    have := mInt_le (k := k + 4) (hp x hx).tokens x.2.2.2.2.length
    rw [mkK_end] at this
    simp only [mLink]; omega) i
  omega

theorem mNetwork_le {nt : Network} {k : Int} (h : SmallN nt) : k ≤ (mkL mProgram nt.1 k).2 ∧ (mkL mProgram nt.1 k).2 ≤ k + 4398048608256 ∧ k ≤ (mNetwork nt k).2 ∧ (mNetwork nt k).2 ≤ k + 5497564430336 := by
  have a := mProgram_le (k := k) h.progs h.prog nt.1.length
  have b := mLink_le (k := (mkL mProgram nt.1 k).2) h.links h.link nt.2.length
  rw [mkK_end] at a b
  unfold mNetwork
  simp only
  omega
end Go.AmT
