/-
  No cell of these rows narrows 'for every input' (looked for: loops, veiled, ifaces, maps, wideKeys, modest, calm, conditions, laid).
  DERIVED. THE GIVEN ROWS OF THIS SEAT. 11 by the template 'for every input the law returns true; each argument reads behind the call as it read before'; 0 by the template 'total and deterministic' (their statements: YtmbapapploiimaaTotals.lean).
  GIVEN WITH THE SEED: the statements are not yours to turn. If you find one false, say at which input.
  Laid BY PROGRAM, IN A SANDBOX (cutbox-rows.mjs): the forced cells as the released guide's own fill.sh prints them over the translation 7ed234a0b13729d1… (all of the seat's roots in one cut). By AI agents, Wed Nov 11 2026. No macro, syntax, notation, axiom, sorry.
-/
import Derived.Test.YtmbapapploiimaaChecked
import GoSem.Claim
import GoSem.ClaimJoined
import GoSem.ClaimMapViews
import Derived.JoinedTies
import Derived.KernelRfl
namespace Go.Proofs.Ytmbapapploiimaa
/- THE CELL 'sum', in the pinned program and in every row, IS THE sha256 OF THE DUMP (.gsa) THAT YtmbapapploiimaaProg.lean LOADS. Nothing in Lean hashes anything: it is a label: what it is worth is what the hold of that sum in a sandbox is worth. -/
noncomputable def Try.pinned : Pinned := { name := "ytmbapapploiimaa", sum := "7ed234a0b13729d1b03febbb467b05c5add6413e5bf3f357e3b00f3803b9f2d6", checked := Try.checked }
namespace Rows
def none {H : Type} : Left H := { results := [], args := [] }

/-- 'laws.FnExactAreCapacities': WHATEVER THE INPUT: true; the input reads as it did. -/
def fnExactAreCapacitiesSpec : ChangeSpec := { name := "fnExactAreCapacities", fn := fun _ => fun
  | [d1, d2] => { results := [.lit (.bool true)], args := [d1, d2] }
  | _ => none }
def fnExactAreCapacitiesRow : OpenClaim := { program := "ytmbapapploiimaa", sum := "7ed234a0b13729d1b03febbb467b05c5add6413e5bf3f357e3b00f3803b9f2d6", func := "loop.example/g03224/laws.FnExactAreCapacities", spec := "fnExactAreCapacities", unfollowed := true, recurses := true, apart := false }
def FnExactAreCapacitiesSaid : Prop := fnExactAreCapacitiesRow.holds Try.pinned (OpenSpec.ofChange fnExactAreCapacitiesSpec)

/-- ITS FALSE NEIGHBOUR: 'it returns false'. Refute it at one input. -/
def fnExactAreCapacitiesWrong : ChangeSpec := { name := "fnExactAreCapacities", fn := fun _ => fun
  | [d1, d2] => { results := [.lit (.bool false)], args := [d1, d2] }
  | _ => none }
def FnExactAreCapacitiesWrongFalsely : Prop := fnExactAreCapacitiesRow.holds Try.pinned (OpenSpec.ofChange fnExactAreCapacitiesWrong)

/-- 'laws.FnExactUniformCapacities': WHATEVER THE INPUT: true; the input reads as it did. -/
def fnExactUniformCapacitiesSpec : ChangeSpec := { name := "fnExactUniformCapacities", fn := fun _ => fun
  | [d1, d2] => { results := [.lit (.bool true)], args := [d1, d2] }
  | _ => none }
def fnExactUniformCapacitiesRow : OpenClaim := { program := "ytmbapapploiimaa", sum := "7ed234a0b13729d1b03febbb467b05c5add6413e5bf3f357e3b00f3803b9f2d6", func := "loop.example/g03224/laws.FnExactUniformCapacities", spec := "fnExactUniformCapacities", unfollowed := true, recurses := true, apart := false }
def FnExactUniformCapacitiesSaid : Prop := fnExactUniformCapacitiesRow.holds Try.pinned (OpenSpec.ofChange fnExactUniformCapacitiesSpec)

/-- ITS FALSE NEIGHBOUR: 'it returns false'. Refute it at one input. -/
def fnExactUniformCapacitiesWrong : ChangeSpec := { name := "fnExactUniformCapacities", fn := fun _ => fun
  | [d1, d2] => { results := [.lit (.bool false)], args := [d1, d2] }
  | _ => none }
def FnExactUniformCapacitiesWrongFalsely : Prop := fnExactUniformCapacitiesRow.holds Try.pinned (OpenSpec.ofChange fnExactUniformCapacitiesWrong)

/-- 'laws.FnExactIsTemplate': WHATEVER THE INPUT: true; the input reads as it did. -/
def fnExactIsTemplateSpec : ChangeSpec := { name := "fnExactIsTemplate", fn := fun _ => fun
  | [d1, d2, d3] => { results := [.lit (.bool true)], args := [d1, d2, d3] }
  | _ => none }
def fnExactIsTemplateRow : OpenClaim := { program := "ytmbapapploiimaa", sum := "7ed234a0b13729d1b03febbb467b05c5add6413e5bf3f357e3b00f3803b9f2d6", func := "loop.example/g03224/laws.FnExactIsTemplate", spec := "fnExactIsTemplate", unfollowed := true, recurses := true, apart := false }
def FnExactIsTemplateSaid : Prop := fnExactIsTemplateRow.holds Try.pinned (OpenSpec.ofChange fnExactIsTemplateSpec)

/-- ITS FALSE NEIGHBOUR: 'it returns false'. Refute it at one input. -/
def fnExactIsTemplateWrong : ChangeSpec := { name := "fnExactIsTemplate", fn := fun _ => fun
  | [d1, d2, d3] => { results := [.lit (.bool false)], args := [d1, d2, d3] }
  | _ => none }
def FnExactIsTemplateWrongFalsely : Prop := fnExactIsTemplateRow.holds Try.pinned (OpenSpec.ofChange fnExactIsTemplateWrong)

/-- 'laws.FnExactDropProcess': WHATEVER THE INPUT: true; the input reads as it did. -/
def fnExactDropProcessSpec : ChangeSpec := { name := "fnExactDropProcess", fn := fun _ => fun
  | [d1, d2] => { results := [.lit (.bool true)], args := [d1, d2] }
  | _ => none }
def fnExactDropProcessRow : OpenClaim := { program := "ytmbapapploiimaa", sum := "7ed234a0b13729d1b03febbb467b05c5add6413e5bf3f357e3b00f3803b9f2d6", func := "loop.example/g03224/laws.FnExactDropProcess", spec := "fnExactDropProcess", unfollowed := true, recurses := true, apart := false }
def FnExactDropProcessSaid : Prop := fnExactDropProcessRow.holds Try.pinned (OpenSpec.ofChange fnExactDropProcessSpec)

/-- ITS FALSE NEIGHBOUR: 'it returns false'. Refute it at one input. -/
def fnExactDropProcessWrong : ChangeSpec := { name := "fnExactDropProcess", fn := fun _ => fun
  | [d1, d2] => { results := [.lit (.bool false)], args := [d1, d2] }
  | _ => none }
def FnExactDropProcessWrongFalsely : Prop := fnExactDropProcessRow.holds Try.pinned (OpenSpec.ofChange fnExactDropProcessWrong)

/-- 'laws.FnExactIsDesk': WHATEVER THE INPUT: true; the input reads as it did. -/
def fnExactIsDeskSpec : ChangeSpec := { name := "fnExactIsDesk", fn := fun _ => fun
  | [d] => { results := [.lit (.bool true)], args := [d] }
  | _ => none }
def fnExactIsDeskRow : OpenClaim := { program := "ytmbapapploiimaa", sum := "7ed234a0b13729d1b03febbb467b05c5add6413e5bf3f357e3b00f3803b9f2d6", func := "loop.example/g03224/laws.FnExactIsDesk", spec := "fnExactIsDesk", unfollowed := true, recurses := true, apart := false }
def FnExactIsDeskSaid : Prop := fnExactIsDeskRow.holds Try.pinned (OpenSpec.ofChange fnExactIsDeskSpec)

/-- ITS FALSE NEIGHBOUR: 'it returns false'. Refute it at one input. -/
def fnExactIsDeskWrong : ChangeSpec := { name := "fnExactIsDesk", fn := fun _ => fun
  | [d] => { results := [.lit (.bool false)], args := [d] }
  | _ => none }
def FnExactIsDeskWrongFalsely : Prop := fnExactIsDeskRow.holds Try.pinned (OpenSpec.ofChange fnExactIsDeskWrong)

/-- 'laws.FnExactSpliceThrough': WHATEVER THE INPUT: true; the input reads as it did. -/
def fnExactSpliceThroughSpec : ChangeSpec := { name := "fnExactSpliceThrough", fn := fun _ => fun
  | [d1, d2] => { results := [.lit (.bool true)], args := [d1, d2] }
  | _ => none }
def fnExactSpliceThroughRow : OpenClaim := { program := "ytmbapapploiimaa", sum := "7ed234a0b13729d1b03febbb467b05c5add6413e5bf3f357e3b00f3803b9f2d6", func := "loop.example/g03224/laws.FnExactSpliceThrough", spec := "fnExactSpliceThrough", unfollowed := true, recurses := true, apart := false }
def FnExactSpliceThroughSaid : Prop := fnExactSpliceThroughRow.holds Try.pinned (OpenSpec.ofChange fnExactSpliceThroughSpec)

/-- ITS FALSE NEIGHBOUR: 'it returns false'. Refute it at one input. -/
def fnExactSpliceThroughWrong : ChangeSpec := { name := "fnExactSpliceThrough", fn := fun _ => fun
  | [d1, d2] => { results := [.lit (.bool false)], args := [d1, d2] }
  | _ => none }
def FnExactSpliceThroughWrongFalsely : Prop := fnExactSpliceThroughRow.holds Try.pinned (OpenSpec.ofChange fnExactSpliceThroughWrong)

/-- 'laws.FnExactNetworkOf': WHATEVER THE INPUT: true; the input reads as it did. -/
def fnExactNetworkOfSpec : ChangeSpec := { name := "fnExactNetworkOf", fn := fun _ => fun
  | [d] => { results := [.lit (.bool true)], args := [d] }
  | _ => none }
def fnExactNetworkOfRow : OpenClaim := { program := "ytmbapapploiimaa", sum := "7ed234a0b13729d1b03febbb467b05c5add6413e5bf3f357e3b00f3803b9f2d6", func := "loop.example/g03224/laws.FnExactNetworkOf", spec := "fnExactNetworkOf", unfollowed := true, recurses := true, apart := false }
def FnExactNetworkOfSaid : Prop := fnExactNetworkOfRow.holds Try.pinned (OpenSpec.ofChange fnExactNetworkOfSpec)

/-- ITS FALSE NEIGHBOUR: 'it returns false'. Refute it at one input. -/
def fnExactNetworkOfWrong : ChangeSpec := { name := "fnExactNetworkOf", fn := fun _ => fun
  | [d] => { results := [.lit (.bool false)], args := [d] }
  | _ => none }
def FnExactNetworkOfWrongFalsely : Prop := fnExactNetworkOfRow.holds Try.pinned (OpenSpec.ofChange fnExactNetworkOfWrong)

/-- 'laws.FnExactExpandNetwork': WHATEVER THE INPUT: true; the input reads as it did. -/
def fnExactExpandNetworkSpec : ChangeSpec := { name := "fnExactExpandNetwork", fn := fun _ => fun
  | [d1, d2, d3] => { results := [.lit (.bool true)], args := [d1, d2, d3] }
  | _ => none }
def fnExactExpandNetworkRow : OpenClaim := { program := "ytmbapapploiimaa", sum := "7ed234a0b13729d1b03febbb467b05c5add6413e5bf3f357e3b00f3803b9f2d6", func := "loop.example/g03224/laws.FnExactExpandNetwork", spec := "fnExactExpandNetwork", unfollowed := true, recurses := true, apart := false }
def FnExactExpandNetworkSaid : Prop := fnExactExpandNetworkRow.holds Try.pinned (OpenSpec.ofChange fnExactExpandNetworkSpec)

/-- ITS FALSE NEIGHBOUR: 'it returns false'. Refute it at one input. -/
def fnExactExpandNetworkWrong : ChangeSpec := { name := "fnExactExpandNetwork", fn := fun _ => fun
  | [d1, d2, d3] => { results := [.lit (.bool false)], args := [d1, d2, d3] }
  | _ => none }
def FnExactExpandNetworkWrongFalsely : Prop := fnExactExpandNetworkRow.holds Try.pinned (OpenSpec.ofChange fnExactExpandNetworkWrong)

/-- 'laws.FnExactCanStepBounded': WHATEVER THE INPUT: true; the input reads as it did. -/
def fnExactCanStepBoundedSpec : ChangeSpec := { name := "fnExactCanStepBounded", fn := fun _ => fun
  | [d1, d2, d3, d4] => { results := [.lit (.bool true)], args := [d1, d2, d3, d4] }
  | _ => none }
def fnExactCanStepBoundedRow : OpenClaim := { program := "ytmbapapploiimaa", sum := "7ed234a0b13729d1b03febbb467b05c5add6413e5bf3f357e3b00f3803b9f2d6", func := "loop.example/g03224/laws.FnExactCanStepBounded", spec := "fnExactCanStepBounded", unfollowed := true, recurses := true, apart := false }
def FnExactCanStepBoundedSaid : Prop := fnExactCanStepBoundedRow.holds Try.pinned (OpenSpec.ofChange fnExactCanStepBoundedSpec)

/-- ITS FALSE NEIGHBOUR: 'it returns false'. Refute it at one input. -/
def fnExactCanStepBoundedWrong : ChangeSpec := { name := "fnExactCanStepBounded", fn := fun _ => fun
  | [d1, d2, d3, d4] => { results := [.lit (.bool false)], args := [d1, d2, d3, d4] }
  | _ => none }
def FnExactCanStepBoundedWrongFalsely : Prop := fnExactCanStepBoundedRow.holds Try.pinned (OpenSpec.ofChange fnExactCanStepBoundedWrong)

/-- 'laws.FnExactIsJammed': WHATEVER THE INPUT: true; the input reads as it did. -/
def fnExactIsJammedSpec : ChangeSpec := { name := "fnExactIsJammed", fn := fun _ => fun
  | [d1, d2, d3] => { results := [.lit (.bool true)], args := [d1, d2, d3] }
  | _ => none }
def fnExactIsJammedRow : OpenClaim := { program := "ytmbapapploiimaa", sum := "7ed234a0b13729d1b03febbb467b05c5add6413e5bf3f357e3b00f3803b9f2d6", func := "loop.example/g03224/laws.FnExactIsJammed", spec := "fnExactIsJammed", unfollowed := true, recurses := true, apart := false }
def FnExactIsJammedSaid : Prop := fnExactIsJammedRow.holds Try.pinned (OpenSpec.ofChange fnExactIsJammedSpec)

/-- ITS FALSE NEIGHBOUR: 'it returns false'. Refute it at one input. -/
def fnExactIsJammedWrong : ChangeSpec := { name := "fnExactIsJammed", fn := fun _ => fun
  | [d1, d2, d3] => { results := [.lit (.bool false)], args := [d1, d2, d3] }
  | _ => none }
def FnExactIsJammedWrongFalsely : Prop := fnExactIsJammedRow.holds Try.pinned (OpenSpec.ofChange fnExactIsJammedWrong)

/-- 'laws.FnExactPeaksOf': WHATEVER THE INPUT: true; the input reads as it did. -/
def fnExactPeaksOfSpec : ChangeSpec := { name := "fnExactPeaksOf", fn := fun _ => fun
  | [d1, d2] => { results := [.lit (.bool true)], args := [d1, d2] }
  | _ => none }
def fnExactPeaksOfRow : OpenClaim := { program := "ytmbapapploiimaa", sum := "7ed234a0b13729d1b03febbb467b05c5add6413e5bf3f357e3b00f3803b9f2d6", func := "loop.example/g03224/laws.FnExactPeaksOf", spec := "fnExactPeaksOf", unfollowed := true, recurses := true, apart := false }
def FnExactPeaksOfSaid : Prop := fnExactPeaksOfRow.holds Try.pinned (OpenSpec.ofChange fnExactPeaksOfSpec)

/-- ITS FALSE NEIGHBOUR: 'it returns false'. Refute it at one input. -/
def fnExactPeaksOfWrong : ChangeSpec := { name := "fnExactPeaksOf", fn := fun _ => fun
  | [d1, d2] => { results := [.lit (.bool false)], args := [d1, d2] }
  | _ => none }
def FnExactPeaksOfWrongFalsely : Prop := fnExactPeaksOfRow.holds Try.pinned (OpenSpec.ofChange fnExactPeaksOfWrong)

/- THE SECOND FORM. 'bulk': how many values and letters a reading holds, each counted each time it is reached (what is shared counts as often as it is met; a slice's spare places count too). A statement '..UptoSaid' is the law's where the arguments, and the package variables that the reading takes, are together of bulk at most 1048576: NARROWER than '..Said'. Prove '..Said' where nothing that the law and all that it calls make is longer than what came in: it says more and counts as full. Else prove '..UptoSaid'. A law counts once. -/
mutual
def uptoBulk {H : Type} : DataW H → Nat
  | .lit (.string bytes) => bytes.length + 1
  | .lit _ => 1
  | .nil => 1
  | .ptr d => uptoBulk d + 1
  | .slice elems spare => uptoBulkAll elems + uptoBulkAll spare + 1
  | .agg parts => uptoBulkAll parts + 1
  | .iface _ d => uptoBulk d + 1
  | .map entries => uptoBulkEntries entries + 1
  | .held _ => 1
def uptoBulkAll {H : Type} : List (DataW H) → Nat
  | [] => 0
  | d :: r => uptoBulk d + uptoBulkAll r
def uptoBulkEntries {H : Type} : List (Lit × DataW H) → Nat
  | [] => 0
  | x :: r => uptoBulkEntry x + uptoBulkEntries r
def uptoBulkEntry {H : Type} : Lit × DataW H → Nat
  | (.string bytes, d) => bytes.length + uptoBulk d + 1
  | (_, d) => uptoBulk d + 1
 end
def uptoSmall : (H : Type) → List (DataW H) → Bool := fun _ ds => decide (uptoBulkAll ds ≤ 1048576)
def OpenSpec.upto (s : _root_.Go.ChangeSpec) : _root_.Go.OpenSpec := { _root_.Go.OpenSpec.ofChange s with cond := some uptoSmall }

/-- 'laws.FnExactAreCapacities', WHERE WHAT IT READS IS OF BULK AT MOST 1048576: true; the input reads as it did. -/
def fnExactAreCapacitiesUptoRow : OpenClaim := { program := "ytmbapapploiimaa", sum := "7ed234a0b13729d1b03febbb467b05c5add6413e5bf3f357e3b00f3803b9f2d6", func := "loop.example/g03224/laws.FnExactAreCapacities", spec := "fnExactAreCapacities", unfollowed := true, recurses := true, apart := false, narrowed := true }
def FnExactAreCapacitiesUptoSaid : Prop := fnExactAreCapacitiesUptoRow.holds Try.pinned (OpenSpec.upto fnExactAreCapacitiesSpec)

/-- 'laws.FnExactUniformCapacities', WHERE WHAT IT READS IS OF BULK AT MOST 1048576: true; the input reads as it did. -/
def fnExactUniformCapacitiesUptoRow : OpenClaim := { program := "ytmbapapploiimaa", sum := "7ed234a0b13729d1b03febbb467b05c5add6413e5bf3f357e3b00f3803b9f2d6", func := "loop.example/g03224/laws.FnExactUniformCapacities", spec := "fnExactUniformCapacities", unfollowed := true, recurses := true, apart := false, narrowed := true }
def FnExactUniformCapacitiesUptoSaid : Prop := fnExactUniformCapacitiesUptoRow.holds Try.pinned (OpenSpec.upto fnExactUniformCapacitiesSpec)

/-- 'laws.FnExactIsTemplate', WHERE WHAT IT READS IS OF BULK AT MOST 1048576: true; the input reads as it did. -/
def fnExactIsTemplateUptoRow : OpenClaim := { program := "ytmbapapploiimaa", sum := "7ed234a0b13729d1b03febbb467b05c5add6413e5bf3f357e3b00f3803b9f2d6", func := "loop.example/g03224/laws.FnExactIsTemplate", spec := "fnExactIsTemplate", unfollowed := true, recurses := true, apart := false, narrowed := true }
def FnExactIsTemplateUptoSaid : Prop := fnExactIsTemplateUptoRow.holds Try.pinned (OpenSpec.upto fnExactIsTemplateSpec)

/-- 'laws.FnExactDropProcess', WHERE WHAT IT READS IS OF BULK AT MOST 1048576: true; the input reads as it did. -/
def fnExactDropProcessUptoRow : OpenClaim := { program := "ytmbapapploiimaa", sum := "7ed234a0b13729d1b03febbb467b05c5add6413e5bf3f357e3b00f3803b9f2d6", func := "loop.example/g03224/laws.FnExactDropProcess", spec := "fnExactDropProcess", unfollowed := true, recurses := true, apart := false, narrowed := true }
def FnExactDropProcessUptoSaid : Prop := fnExactDropProcessUptoRow.holds Try.pinned (OpenSpec.upto fnExactDropProcessSpec)

/-- 'laws.FnExactIsDesk', WHERE WHAT IT READS IS OF BULK AT MOST 1048576: true; the input reads as it did. -/
def fnExactIsDeskUptoRow : OpenClaim := { program := "ytmbapapploiimaa", sum := "7ed234a0b13729d1b03febbb467b05c5add6413e5bf3f357e3b00f3803b9f2d6", func := "loop.example/g03224/laws.FnExactIsDesk", spec := "fnExactIsDesk", unfollowed := true, recurses := true, apart := false, narrowed := true }
def FnExactIsDeskUptoSaid : Prop := fnExactIsDeskUptoRow.holds Try.pinned (OpenSpec.upto fnExactIsDeskSpec)

/-- 'laws.FnExactSpliceThrough', WHERE WHAT IT READS IS OF BULK AT MOST 1048576: true; the input reads as it did. -/
def fnExactSpliceThroughUptoRow : OpenClaim := { program := "ytmbapapploiimaa", sum := "7ed234a0b13729d1b03febbb467b05c5add6413e5bf3f357e3b00f3803b9f2d6", func := "loop.example/g03224/laws.FnExactSpliceThrough", spec := "fnExactSpliceThrough", unfollowed := true, recurses := true, apart := false, narrowed := true }
def FnExactSpliceThroughUptoSaid : Prop := fnExactSpliceThroughUptoRow.holds Try.pinned (OpenSpec.upto fnExactSpliceThroughSpec)

/-- 'laws.FnExactNetworkOf', WHERE WHAT IT READS IS OF BULK AT MOST 1048576: true; the input reads as it did. -/
def fnExactNetworkOfUptoRow : OpenClaim := { program := "ytmbapapploiimaa", sum := "7ed234a0b13729d1b03febbb467b05c5add6413e5bf3f357e3b00f3803b9f2d6", func := "loop.example/g03224/laws.FnExactNetworkOf", spec := "fnExactNetworkOf", unfollowed := true, recurses := true, apart := false, narrowed := true }
def FnExactNetworkOfUptoSaid : Prop := fnExactNetworkOfUptoRow.holds Try.pinned (OpenSpec.upto fnExactNetworkOfSpec)

/-- 'laws.FnExactExpandNetwork', WHERE WHAT IT READS IS OF BULK AT MOST 1048576: true; the input reads as it did. -/
def fnExactExpandNetworkUptoRow : OpenClaim := { program := "ytmbapapploiimaa", sum := "7ed234a0b13729d1b03febbb467b05c5add6413e5bf3f357e3b00f3803b9f2d6", func := "loop.example/g03224/laws.FnExactExpandNetwork", spec := "fnExactExpandNetwork", unfollowed := true, recurses := true, apart := false, narrowed := true }
def FnExactExpandNetworkUptoSaid : Prop := fnExactExpandNetworkUptoRow.holds Try.pinned (OpenSpec.upto fnExactExpandNetworkSpec)

/-- 'laws.FnExactCanStepBounded', WHERE WHAT IT READS IS OF BULK AT MOST 1048576: true; the input reads as it did. -/
def fnExactCanStepBoundedUptoRow : OpenClaim := { program := "ytmbapapploiimaa", sum := "7ed234a0b13729d1b03febbb467b05c5add6413e5bf3f357e3b00f3803b9f2d6", func := "loop.example/g03224/laws.FnExactCanStepBounded", spec := "fnExactCanStepBounded", unfollowed := true, recurses := true, apart := false, narrowed := true }
def FnExactCanStepBoundedUptoSaid : Prop := fnExactCanStepBoundedUptoRow.holds Try.pinned (OpenSpec.upto fnExactCanStepBoundedSpec)

/-- 'laws.FnExactIsJammed', WHERE WHAT IT READS IS OF BULK AT MOST 1048576: true; the input reads as it did. -/
def fnExactIsJammedUptoRow : OpenClaim := { program := "ytmbapapploiimaa", sum := "7ed234a0b13729d1b03febbb467b05c5add6413e5bf3f357e3b00f3803b9f2d6", func := "loop.example/g03224/laws.FnExactIsJammed", spec := "fnExactIsJammed", unfollowed := true, recurses := true, apart := false, narrowed := true }
def FnExactIsJammedUptoSaid : Prop := fnExactIsJammedUptoRow.holds Try.pinned (OpenSpec.upto fnExactIsJammedSpec)

/-- 'laws.FnExactPeaksOf', WHERE WHAT IT READS IS OF BULK AT MOST 1048576: true; the input reads as it did. -/
def fnExactPeaksOfUptoRow : OpenClaim := { program := "ytmbapapploiimaa", sum := "7ed234a0b13729d1b03febbb467b05c5add6413e5bf3f357e3b00f3803b9f2d6", func := "loop.example/g03224/laws.FnExactPeaksOf", spec := "fnExactPeaksOf", unfollowed := true, recurses := true, apart := false, narrowed := true }
def FnExactPeaksOfUptoSaid : Prop := fnExactPeaksOfUptoRow.holds Try.pinned (OpenSpec.upto fnExactPeaksOfSpec)

end Rows
end Go.Proofs.Ytmbapapploiimaa
