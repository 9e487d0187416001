/-
  No cell of these rows narrows 'for every input' (looked for: loops, veiled, ifaces, maps, wideKeys, modest, calm, conditions, laid).
  DERIVED. THE GIVEN ROWS OF THIS SEAT. 5 by the template 'for every input the law returns true; each argument reads behind the call as it read before'; 0 by the template 'total and deterministic' (their statements: YtcipidfgblbeiaaTotals.lean).
  GIVEN WITH THE SEED: the statements are not yours to turn. If you find one false, say at which input.
  Laid BY PROGRAM, IN A SANDBOX (cutbox-rows.mjs): the forced cells as the released guide's own fill.sh prints them over the translation 73df3795bd32c2d0… (all of the seat's roots in one cut). By AI agents, Wed Nov 11 2026. No macro, syntax, notation, axiom, sorry.
-/
import Derived.Test.YtcipidfgblbeiaaChecked
import GoSem.Claim
import GoSem.ClaimJoined
import GoSem.ClaimMapViews
import Derived.JoinedTies
import Derived.KernelRfl
namespace Go.Proofs.Ytcipidfgblbeiaa
/- THE CELL 'sum', in the pinned program and in every row, IS THE sha256 OF THE DUMP (.gsa) THAT YtcipidfgblbeiaaProg.lean LOADS. Nothing in Lean hashes anything: it is a label: what it is worth is what the hold of that sum in a sandbox is worth. -/
noncomputable def Try.pinned : Pinned := { name := "ytcipidfgblbeiaa", sum := "73df3795bd32c2d05934304f7d388e2f6d797325c5de06c59e2a91b8556bf8b5", checked := Try.checked }
namespace Rows
def none {H : Type} : Left H := { results := [], args := [] }

/-- 'laws.FnExactPeaksOf': WHATEVER THE INPUT: true; the input reads as it did. -/
def fnExactPeaksOfSpec : ChangeSpec := { name := "fnExactPeaksOf", fn := fun _ => fun
  | [d1, d2] => { results := [.lit (.bool true)], args := [d1, d2] }
  | _ => none }
def fnExactPeaksOfRow : OpenClaim := { program := "ytcipidfgblbeiaa", sum := "73df3795bd32c2d05934304f7d388e2f6d797325c5de06c59e2a91b8556bf8b5", func := "loop.example/g03224/laws.FnExactPeaksOf", spec := "fnExactPeaksOf", unfollowed := true, recurses := true, apart := false }
def FnExactPeaksOfSaid : Prop := fnExactPeaksOfRow.holds Try.pinned (OpenSpec.ofChange fnExactPeaksOfSpec)

/-- ITS FALSE NEIGHBOUR: 'it returns false'. Refute it at one input. -/
def fnExactPeaksOfWrong : ChangeSpec := { name := "fnExactPeaksOf", fn := fun _ => fun
  | [d1, d2] => { results := [.lit (.bool false)], args := [d1, d2] }
  | _ => none }
def FnExactPeaksOfWrongFalsely : Prop := fnExactPeaksOfRow.holds Try.pinned (OpenSpec.ofChange fnExactPeaksOfWrong)

/-- 'laws.FnExactLeastUniform': WHATEVER THE INPUT: true; the input reads as it did. -/
def fnExactLeastUniformSpec : ChangeSpec := { name := "fnExactLeastUniform", fn := fun _ => fun
  | [d1, d2, d3] => { results := [.lit (.bool true)], args := [d1, d2, d3] }
  | _ => none }
def fnExactLeastUniformRow : OpenClaim := { program := "ytcipidfgblbeiaa", sum := "73df3795bd32c2d05934304f7d388e2f6d797325c5de06c59e2a91b8556bf8b5", func := "loop.example/g03224/laws.FnExactLeastUniform", spec := "fnExactLeastUniform", unfollowed := true, recurses := true, apart := false }
def FnExactLeastUniformSaid : Prop := fnExactLeastUniformRow.holds Try.pinned (OpenSpec.ofChange fnExactLeastUniformSpec)

/-- ITS FALSE NEIGHBOUR: 'it returns false'. Refute it at one input. -/
def fnExactLeastUniformWrong : ChangeSpec := { name := "fnExactLeastUniform", fn := fun _ => fun
  | [d1, d2, d3] => { results := [.lit (.bool false)], args := [d1, d2, d3] }
  | _ => none }
def FnExactLeastUniformWrongFalsely : Prop := fnExactLeastUniformRow.holds Try.pinned (OpenSpec.ofChange fnExactLeastUniformWrong)

/-- 'laws.FnCan': WHATEVER THE INPUT: true; the input reads as it did. -/
def fnCanSpec : ChangeSpec := { name := "fnCan", fn := fun _ => fun
  | [d] => { results := [.lit (.bool true)], args := [d] }
  | _ => none }
def fnCanRow : OpenClaim := { program := "ytcipidfgblbeiaa", sum := "73df3795bd32c2d05934304f7d388e2f6d797325c5de06c59e2a91b8556bf8b5", func := "loop.example/g03224/laws.FnCan", spec := "fnCan", unfollowed := true, recurses := true, apart := false }
def FnCanSaid : Prop := fnCanRow.holds Try.pinned (OpenSpec.ofChange fnCanSpec)

/-- ITS FALSE NEIGHBOUR: 'it returns false'. Refute it at one input. -/
def fnCanWrong : ChangeSpec := { name := "fnCan", fn := fun _ => fun
  | [d] => { results := [.lit (.bool false)], args := [d] }
  | _ => none }
def FnCanWrongFalsely : Prop := fnCanRow.holds Try.pinned (OpenSpec.ofChange fnCanWrong)

/-- 'laws.FnPeaks': WHATEVER THE INPUT: true; the input reads as it did. -/
def fnPeaksSpec : ChangeSpec := { name := "fnPeaks", fn := fun _ => fun
  | [d] => { results := [.lit (.bool true)], args := [d] }
  | _ => none }
def fnPeaksRow : OpenClaim := { program := "ytcipidfgblbeiaa", sum := "73df3795bd32c2d05934304f7d388e2f6d797325c5de06c59e2a91b8556bf8b5", func := "loop.example/g03224/laws.FnPeaks", spec := "fnPeaks", unfollowed := true, recurses := true, apart := false }
def FnPeaksSaid : Prop := fnPeaksRow.holds Try.pinned (OpenSpec.ofChange fnPeaksSpec)

/-- ITS FALSE NEIGHBOUR: 'it returns false'. Refute it at one input. -/
def fnPeaksWrong : ChangeSpec := { name := "fnPeaks", fn := fun _ => fun
  | [d] => { results := [.lit (.bool false)], args := [d] }
  | _ => none }
def FnPeaksWrongFalsely : Prop := fnPeaksRow.holds Try.pinned (OpenSpec.ofChange fnPeaksWrong)

/-- 'laws.FnDiamond': WHATEVER THE INPUT: true; the input reads as it did. -/
def fnDiamondSpec : ChangeSpec := { name := "fnDiamond", fn := fun _ => fun
  | [d] => { results := [.lit (.bool true)], args := [d] }
  | _ => none }
def fnDiamondRow : OpenClaim := { program := "ytcipidfgblbeiaa", sum := "73df3795bd32c2d05934304f7d388e2f6d797325c5de06c59e2a91b8556bf8b5", func := "loop.example/g03224/laws.FnDiamond", spec := "fnDiamond", unfollowed := true, recurses := true, apart := false }
def FnDiamondSaid : Prop := fnDiamondRow.holds Try.pinned (OpenSpec.ofChange fnDiamondSpec)

/-- ITS FALSE NEIGHBOUR: 'it returns false'. Refute it at one input. -/
def fnDiamondWrong : ChangeSpec := { name := "fnDiamond", fn := fun _ => fun
  | [d] => { results := [.lit (.bool false)], args := [d] }
  | _ => none }
def FnDiamondWrongFalsely : Prop := fnDiamondRow.holds Try.pinned (OpenSpec.ofChange fnDiamondWrong)

/- THE SECOND FORM. 'bulk': how many values and letters a reading holds, each counted each time it is reached (what is shared counts as often as it is met; a slice's spare places count too). A statement '..UptoSaid' is the law's where the arguments, and the package variables that the reading takes, are together of bulk at most 1048576: NARROWER than '..Said'. Prove '..Said' where nothing that the law and all that it calls make is longer than what came in: it says more and counts as full. Else prove '..UptoSaid'. A law counts once. -/
mutual
def uptoBulk {H : Type} : DataW H → Nat
  | .lit (.string bytes) => bytes.length + 1
  | .lit _ => 1
  | .nil => 1
  | .ptr d => uptoBulk d + 1
  | .slice elems spare => uptoBulkAll elems + uptoBulkAll spare + 1
  | .agg parts => uptoBulkAll parts + 1
  | .iface _ d => uptoBulk d + 1
  | .map entries => uptoBulkEntries entries + 1
  | .held _ => 1
def uptoBulkAll {H : Type} : List (DataW H) → Nat
  | [] => 0
  | d :: r => uptoBulk d + uptoBulkAll r
def uptoBulkEntries {H : Type} : List (Lit × DataW H) → Nat
  | [] => 0
  | x :: r => uptoBulkEntry x + uptoBulkEntries r
def uptoBulkEntry {H : Type} : Lit × DataW H → Nat
  | (.string bytes, d) => bytes.length + uptoBulk d + 1
  | (_, d) => uptoBulk d + 1
 end
def uptoSmall : (H : Type) → List (DataW H) → Bool := fun _ ds => decide (uptoBulkAll ds ≤ 1048576)
def OpenSpec.upto (s : _root_.Go.ChangeSpec) : _root_.Go.OpenSpec := { _root_.Go.OpenSpec.ofChange s with cond := some uptoSmall }

/-- 'laws.FnExactPeaksOf', WHERE WHAT IT READS IS OF BULK AT MOST 1048576: true; the input reads as it did. -/
def fnExactPeaksOfUptoRow : OpenClaim := { program := "ytcipidfgblbeiaa", sum := "73df3795bd32c2d05934304f7d388e2f6d797325c5de06c59e2a91b8556bf8b5", func := "loop.example/g03224/laws.FnExactPeaksOf", spec := "fnExactPeaksOf", unfollowed := true, recurses := true, apart := false, narrowed := true }
def FnExactPeaksOfUptoSaid : Prop := fnExactPeaksOfUptoRow.holds Try.pinned (OpenSpec.upto fnExactPeaksOfSpec)

/-- 'laws.FnExactLeastUniform', WHERE WHAT IT READS IS OF BULK AT MOST 1048576: true; the input reads as it did. -/
def fnExactLeastUniformUptoRow : OpenClaim := { program := "ytcipidfgblbeiaa", sum := "73df3795bd32c2d05934304f7d388e2f6d797325c5de06c59e2a91b8556bf8b5", func := "loop.example/g03224/laws.FnExactLeastUniform", spec := "fnExactLeastUniform", unfollowed := true, recurses := true, apart := false, narrowed := true }
def FnExactLeastUniformUptoSaid : Prop := fnExactLeastUniformUptoRow.holds Try.pinned (OpenSpec.upto fnExactLeastUniformSpec)

/-- 'laws.FnCan', WHERE WHAT IT READS IS OF BULK AT MOST 1048576: true; the input reads as it did. -/
def fnCanUptoRow : OpenClaim := { program := "ytcipidfgblbeiaa", sum := "73df3795bd32c2d05934304f7d388e2f6d797325c5de06c59e2a91b8556bf8b5", func := "loop.example/g03224/laws.FnCan", spec := "fnCan", unfollowed := true, recurses := true, apart := false, narrowed := true }
def FnCanUptoSaid : Prop := fnCanUptoRow.holds Try.pinned (OpenSpec.upto fnCanSpec)

/-- 'laws.FnPeaks', WHERE WHAT IT READS IS OF BULK AT MOST 1048576: true; the input reads as it did. -/
def fnPeaksUptoRow : OpenClaim := { program := "ytcipidfgblbeiaa", sum := "73df3795bd32c2d05934304f7d388e2f6d797325c5de06c59e2a91b8556bf8b5", func := "loop.example/g03224/laws.FnPeaks", spec := "fnPeaks", unfollowed := true, recurses := true, apart := false, narrowed := true }
def FnPeaksUptoSaid : Prop := fnPeaksUptoRow.holds Try.pinned (OpenSpec.upto fnPeaksSpec)

/-- 'laws.FnDiamond', WHERE WHAT IT READS IS OF BULK AT MOST 1048576: true; the input reads as it did. -/
def fnDiamondUptoRow : OpenClaim := { program := "ytcipidfgblbeiaa", sum := "73df3795bd32c2d05934304f7d388e2f6d797325c5de06c59e2a91b8556bf8b5", func := "loop.example/g03224/laws.FnDiamond", spec := "fnDiamond", unfollowed := true, recurses := true, apart := false, narrowed := true }
def FnDiamondUptoSaid : Prop := fnDiamondUptoRow.holds Try.pinned (OpenSpec.upto fnDiamondSpec)

end Rows
end Go.Proofs.Ytcipidfgblbeiaa
