/-
  No cell of these rows narrows 'for every input' (looked for: loops, veiled, ifaces, maps, wideKeys, modest, calm, conditions, laid).
  DERIVED. THE GIVEN ROWS OF THIS SEAT. 11 by the template 'for every input the law returns true; each argument reads behind the call as it read before'; 0 by the template 'total and deterministic' (their statements: YtgepghodhnmhjaaTotals.lean).
  GIVEN WITH THE SEED: the statements are not yours to turn. If you find one false, say at which input.
  Laid BY PROGRAM, IN A SANDBOX (cutbox-rows.mjs): the forced cells as the released guide's own fill.sh prints them over the translation f6f0376a3d3ed05a… (all of the seat's roots in one cut). By AI agents, Wed Nov 11 2026. No macro, syntax, notation, axiom, sorry.
-/
import Derived.Test.YtgepghodhnmhjaaChecked
import GoSem.Claim
import GoSem.ClaimJoined
import GoSem.ClaimMapViews
import Derived.JoinedTies
import Derived.KernelRfl
namespace Go.Proofs.Ytgepghodhnmhjaa
/- THE CELL 'sum', in the pinned program and in every row, IS THE sha256 OF THE DUMP (.gsa) THAT YtgepghodhnmhjaaProg.lean LOADS. Nothing in Lean hashes anything: it is a label: what it is worth is what the hold of that sum in a sandbox is worth. -/
noncomputable def Try.pinned : Pinned := { name := "ytgepghodhnmhjaa", sum := "f6f0376a3d3ed05afc3335e5bce936b5dc9fec3f7c5d28598ae6a4ef87e07f21", checked := Try.checked }
namespace Rows
def none {H : Type} : Left H := { results := [], args := [] }

/-- 'laws.FnUniform': WHATEVER THE INPUT: true; the input reads as it did. -/
def fnUniformSpec : ChangeSpec := { name := "fnUniform", fn := fun _ => fun
  | [d] => { results := [.lit (.bool true)], args := [d] }
  | _ => none }
def fnUniformRow : OpenClaim := { program := "ytgepghodhnmhjaa", sum := "f6f0376a3d3ed05afc3335e5bce936b5dc9fec3f7c5d28598ae6a4ef87e07f21", func := "loop.example/g03224/laws.FnUniform", spec := "fnUniform", unfollowed := true, recurses := true, apart := false }
def FnUniformSaid : Prop := fnUniformRow.holds Try.pinned (OpenSpec.ofChange fnUniformSpec)

/-- ITS FALSE NEIGHBOUR: 'it returns false'. Refute it at one input. -/
def fnUniformWrong : ChangeSpec := { name := "fnUniform", fn := fun _ => fun
  | [d] => { results := [.lit (.bool false)], args := [d] }
  | _ => none }
def FnUniformWrongFalsely : Prop := fnUniformRow.holds Try.pinned (OpenSpec.ofChange fnUniformWrong)

/-- 'laws.FnOneEnd': WHATEVER THE INPUT: true; the input reads as it did. -/
def fnOneEndSpec : ChangeSpec := { name := "fnOneEnd", fn := fun _ => fun
  | [d] => { results := [.lit (.bool true)], args := [d] }
  | _ => none }
def fnOneEndRow : OpenClaim := { program := "ytgepghodhnmhjaa", sum := "f6f0376a3d3ed05afc3335e5bce936b5dc9fec3f7c5d28598ae6a4ef87e07f21", func := "loop.example/g03224/laws.FnOneEnd", spec := "fnOneEnd", unfollowed := true, recurses := true, apart := false }
def FnOneEndSaid : Prop := fnOneEndRow.holds Try.pinned (OpenSpec.ofChange fnOneEndSpec)

/-- ITS FALSE NEIGHBOUR: 'it returns false'. Refute it at one input. -/
def fnOneEndWrong : ChangeSpec := { name := "fnOneEnd", fn := fun _ => fun
  | [d] => { results := [.lit (.bool false)], args := [d] }
  | _ => none }
def FnOneEndWrongFalsely : Prop := fnOneEndRow.holds Try.pinned (OpenSpec.ofChange fnOneEndWrong)

/-- 'laws.FnScheduled': WHATEVER THE INPUT: true; the input reads as it did. -/
def fnScheduledSpec : ChangeSpec := { name := "fnScheduled", fn := fun _ => fun
  | [d] => { results := [.lit (.bool true)], args := [d] }
  | _ => none }
def fnScheduledRow : OpenClaim := { program := "ytgepghodhnmhjaa", sum := "f6f0376a3d3ed05afc3335e5bce936b5dc9fec3f7c5d28598ae6a4ef87e07f21", func := "loop.example/g03224/laws.FnScheduled", spec := "fnScheduled", unfollowed := true, recurses := true, apart := false }
def FnScheduledSaid : Prop := fnScheduledRow.holds Try.pinned (OpenSpec.ofChange fnScheduledSpec)

/-- ITS FALSE NEIGHBOUR: 'it returns false'. Refute it at one input. -/
def fnScheduledWrong : ChangeSpec := { name := "fnScheduled", fn := fun _ => fun
  | [d] => { results := [.lit (.bool false)], args := [d] }
  | _ => none }
def FnScheduledWrongFalsely : Prop := fnScheduledRow.holds Try.pinned (OpenSpec.ofChange fnScheduledWrong)

/-- 'laws.FnBounded': WHATEVER THE INPUT: true; the input reads as it did. -/
def fnBoundedSpec : ChangeSpec := { name := "fnBounded", fn := fun _ => fun
  | [d] => { results := [.lit (.bool true)], args := [d] }
  | _ => none }
def fnBoundedRow : OpenClaim := { program := "ytgepghodhnmhjaa", sum := "f6f0376a3d3ed05afc3335e5bce936b5dc9fec3f7c5d28598ae6a4ef87e07f21", func := "loop.example/g03224/laws.FnBounded", spec := "fnBounded", unfollowed := true, recurses := true, apart := false }
def FnBoundedSaid : Prop := fnBoundedRow.holds Try.pinned (OpenSpec.ofChange fnBoundedSpec)

/-- ITS FALSE NEIGHBOUR: 'it returns false'. Refute it at one input. -/
def fnBoundedWrong : ChangeSpec := { name := "fnBounded", fn := fun _ => fun
  | [d] => { results := [.lit (.bool false)], args := [d] }
  | _ => none }
def FnBoundedWrongFalsely : Prop := fnBoundedRow.holds Try.pinned (OpenSpec.ofChange fnBoundedWrong)

/-- 'laws.FnDemand': WHATEVER THE INPUT: true; the input reads as it did. -/
def fnDemandSpec : ChangeSpec := { name := "fnDemand", fn := fun _ => fun
  | [d] => { results := [.lit (.bool true)], args := [d] }
  | _ => none }
def fnDemandRow : OpenClaim := { program := "ytgepghodhnmhjaa", sum := "f6f0376a3d3ed05afc3335e5bce936b5dc9fec3f7c5d28598ae6a4ef87e07f21", func := "loop.example/g03224/laws.FnDemand", spec := "fnDemand", unfollowed := true, recurses := true, apart := false }
def FnDemandSaid : Prop := fnDemandRow.holds Try.pinned (OpenSpec.ofChange fnDemandSpec)

/-- ITS FALSE NEIGHBOUR: 'it returns false'. Refute it at one input. -/
def fnDemandWrong : ChangeSpec := { name := "fnDemand", fn := fun _ => fun
  | [d] => { results := [.lit (.bool false)], args := [d] }
  | _ => none }
def FnDemandWrongFalsely : Prop := fnDemandRow.holds Try.pinned (OpenSpec.ofChange fnDemandWrong)

/-- 'laws.FnParks': WHATEVER THE INPUT: true; the input reads as it did. -/
def fnParksSpec : ChangeSpec := { name := "fnParks", fn := fun _ => fun
  | [d] => { results := [.lit (.bool true)], args := [d] }
  | _ => none }
def fnParksRow : OpenClaim := { program := "ytgepghodhnmhjaa", sum := "f6f0376a3d3ed05afc3335e5bce936b5dc9fec3f7c5d28598ae6a4ef87e07f21", func := "loop.example/g03224/laws.FnParks", spec := "fnParks", unfollowed := true, recurses := true, apart := false }
def FnParksSaid : Prop := fnParksRow.holds Try.pinned (OpenSpec.ofChange fnParksSpec)

/-- ITS FALSE NEIGHBOUR: 'it returns false'. Refute it at one input. -/
def fnParksWrong : ChangeSpec := { name := "fnParks", fn := fun _ => fun
  | [d] => { results := [.lit (.bool false)], args := [d] }
  | _ => none }
def FnParksWrongFalsely : Prop := fnParksRow.holds Try.pinned (OpenSpec.ofChange fnParksWrong)

/-- 'laws.FnSpliced': WHATEVER THE INPUT: true; the input reads as it did. -/
def fnSplicedSpec : ChangeSpec := { name := "fnSpliced", fn := fun _ => fun
  | [d] => { results := [.lit (.bool true)], args := [d] }
  | _ => none }
def fnSplicedRow : OpenClaim := { program := "ytgepghodhnmhjaa", sum := "f6f0376a3d3ed05afc3335e5bce936b5dc9fec3f7c5d28598ae6a4ef87e07f21", func := "loop.example/g03224/laws.FnSpliced", spec := "fnSpliced", unfollowed := true, recurses := true, apart := false }
def FnSplicedSaid : Prop := fnSplicedRow.holds Try.pinned (OpenSpec.ofChange fnSplicedSpec)

/-- ITS FALSE NEIGHBOUR: 'it returns false'. Refute it at one input. -/
def fnSplicedWrong : ChangeSpec := { name := "fnSpliced", fn := fun _ => fun
  | [d] => { results := [.lit (.bool false)], args := [d] }
  | _ => none }
def FnSplicedWrongFalsely : Prop := fnSplicedRow.holds Try.pinned (OpenSpec.ofChange fnSplicedWrong)

/-- 'laws.FnDropped': WHATEVER THE INPUT: true; the input reads as it did. -/
def fnDroppedSpec : ChangeSpec := { name := "fnDropped", fn := fun _ => fun
  | [d] => { results := [.lit (.bool true)], args := [d] }
  | _ => none }
def fnDroppedRow : OpenClaim := { program := "ytgepghodhnmhjaa", sum := "f6f0376a3d3ed05afc3335e5bce936b5dc9fec3f7c5d28598ae6a4ef87e07f21", func := "loop.example/g03224/laws.FnDropped", spec := "fnDropped", unfollowed := true, recurses := true, apart := false }
def FnDroppedSaid : Prop := fnDroppedRow.holds Try.pinned (OpenSpec.ofChange fnDroppedSpec)

/-- ITS FALSE NEIGHBOUR: 'it returns false'. Refute it at one input. -/
def fnDroppedWrong : ChangeSpec := { name := "fnDropped", fn := fun _ => fun
  | [d] => { results := [.lit (.bool false)], args := [d] }
  | _ => none }
def FnDroppedWrongFalsely : Prop := fnDroppedRow.holds Try.pinned (OpenSpec.ofChange fnDroppedWrong)

/-- 'laws.FnFed': WHATEVER THE INPUT: true; the input reads as it did. -/
def fnFedSpec : ChangeSpec := { name := "fnFed", fn := fun _ => fun
  | [d] => { results := [.lit (.bool true)], args := [d] }
  | _ => none }
def fnFedRow : OpenClaim := { program := "ytgepghodhnmhjaa", sum := "f6f0376a3d3ed05afc3335e5bce936b5dc9fec3f7c5d28598ae6a4ef87e07f21", func := "loop.example/g03224/laws.FnFed", spec := "fnFed", unfollowed := true, recurses := true, apart := false }
def FnFedSaid : Prop := fnFedRow.holds Try.pinned (OpenSpec.ofChange fnFedSpec)

/-- ITS FALSE NEIGHBOUR: 'it returns false'. Refute it at one input. -/
def fnFedWrong : ChangeSpec := { name := "fnFed", fn := fun _ => fun
  | [d] => { results := [.lit (.bool false)], args := [d] }
  | _ => none }
def FnFedWrongFalsely : Prop := fnFedRow.holds Try.pinned (OpenSpec.ofChange fnFedWrong)

/-- 'laws.FnSelf': WHATEVER THE INPUT: true; the input reads as it did. -/
def fnSelfSpec : ChangeSpec := { name := "fnSelf", fn := fun _ => fun
  | [d] => { results := [.lit (.bool true)], args := [d] }
  | _ => none }
def fnSelfRow : OpenClaim := { program := "ytgepghodhnmhjaa", sum := "f6f0376a3d3ed05afc3335e5bce936b5dc9fec3f7c5d28598ae6a4ef87e07f21", func := "loop.example/g03224/laws.FnSelf", spec := "fnSelf", unfollowed := true, recurses := true, apart := false }
def FnSelfSaid : Prop := fnSelfRow.holds Try.pinned (OpenSpec.ofChange fnSelfSpec)

/-- ITS FALSE NEIGHBOUR: 'it returns false'. Refute it at one input. -/
def fnSelfWrong : ChangeSpec := { name := "fnSelf", fn := fun _ => fun
  | [d] => { results := [.lit (.bool false)], args := [d] }
  | _ => none }
def FnSelfWrongFalsely : Prop := fnSelfRow.holds Try.pinned (OpenSpec.ofChange fnSelfWrong)

/-- 'laws.FnCounted': WHATEVER THE INPUT: true; the input reads as it did. -/
def fnCountedSpec : ChangeSpec := { name := "fnCounted", fn := fun _ => fun
  | [d] => { results := [.lit (.bool true)], args := [d] }
  | _ => none }
def fnCountedRow : OpenClaim := { program := "ytgepghodhnmhjaa", sum := "f6f0376a3d3ed05afc3335e5bce936b5dc9fec3f7c5d28598ae6a4ef87e07f21", func := "loop.example/g03224/laws.FnCounted", spec := "fnCounted", unfollowed := true, recurses := true, apart := false }
def FnCountedSaid : Prop := fnCountedRow.holds Try.pinned (OpenSpec.ofChange fnCountedSpec)

/-- ITS FALSE NEIGHBOUR: 'it returns false'. Refute it at one input. -/
def fnCountedWrong : ChangeSpec := { name := "fnCounted", fn := fun _ => fun
  | [d] => { results := [.lit (.bool false)], args := [d] }
  | _ => none }
def FnCountedWrongFalsely : Prop := fnCountedRow.holds Try.pinned (OpenSpec.ofChange fnCountedWrong)

/- THE SECOND FORM. 'bulk': how many values and letters a reading holds, each counted each time it is reached (what is shared counts as often as it is met; a slice's spare places count too). A statement '..UptoSaid' is the law's where the arguments, and the package variables that the reading takes, are together of bulk at most 1048576: NARROWER than '..Said'. Prove '..Said' where nothing that the law and all that it calls make is longer than what came in: it says more and counts as full. Else prove '..UptoSaid'. A law counts once. -/
mutual
def uptoBulk {H : Type} : DataW H → Nat
  | .lit (.string bytes) => bytes.length + 1
  | .lit _ => 1
  | .nil => 1
  | .ptr d => uptoBulk d + 1
  | .slice elems spare => uptoBulkAll elems + uptoBulkAll spare + 1
  | .agg parts => uptoBulkAll parts + 1
  | .iface _ d => uptoBulk d + 1
  | .map entries => uptoBulkEntries entries + 1
  | .held _ => 1
def uptoBulkAll {H : Type} : List (DataW H) → Nat
  | [] => 0
  | d :: r => uptoBulk d + uptoBulkAll r
def uptoBulkEntries {H : Type} : List (Lit × DataW H) → Nat
  | [] => 0
  | x :: r => uptoBulkEntry x + uptoBulkEntries r
def uptoBulkEntry {H : Type} : Lit × DataW H → Nat
  | (.string bytes, d) => bytes.length + uptoBulk d + 1
  | (_, d) => uptoBulk d + 1
 end
def uptoSmall : (H : Type) → List (DataW H) → Bool := fun _ ds => decide (uptoBulkAll ds ≤ 1048576)
def OpenSpec.upto (s : _root_.Go.ChangeSpec) : _root_.Go.OpenSpec := { _root_.Go.OpenSpec.ofChange s with cond := some uptoSmall }

/-- 'laws.FnUniform', WHERE WHAT IT READS IS OF BULK AT MOST 1048576: true; the input reads as it did. -/
def fnUniformUptoRow : OpenClaim := { program := "ytgepghodhnmhjaa", sum := "f6f0376a3d3ed05afc3335e5bce936b5dc9fec3f7c5d28598ae6a4ef87e07f21", func := "loop.example/g03224/laws.FnUniform", spec := "fnUniform", unfollowed := true, recurses := true, apart := false, narrowed := true }
def FnUniformUptoSaid : Prop := fnUniformUptoRow.holds Try.pinned (OpenSpec.upto fnUniformSpec)

/-- 'laws.FnOneEnd', WHERE WHAT IT READS IS OF BULK AT MOST 1048576: true; the input reads as it did. -/
def fnOneEndUptoRow : OpenClaim := { program := "ytgepghodhnmhjaa", sum := "f6f0376a3d3ed05afc3335e5bce936b5dc9fec3f7c5d28598ae6a4ef87e07f21", func := "loop.example/g03224/laws.FnOneEnd", spec := "fnOneEnd", unfollowed := true, recurses := true, apart := false, narrowed := true }
def FnOneEndUptoSaid : Prop := fnOneEndUptoRow.holds Try.pinned (OpenSpec.upto fnOneEndSpec)

/-- 'laws.FnScheduled', WHERE WHAT IT READS IS OF BULK AT MOST 1048576: true; the input reads as it did. -/
def fnScheduledUptoRow : OpenClaim := { program := "ytgepghodhnmhjaa", sum := "f6f0376a3d3ed05afc3335e5bce936b5dc9fec3f7c5d28598ae6a4ef87e07f21", func := "loop.example/g03224/laws.FnScheduled", spec := "fnScheduled", unfollowed := true, recurses := true, apart := false, narrowed := true }
def FnScheduledUptoSaid : Prop := fnScheduledUptoRow.holds Try.pinned (OpenSpec.upto fnScheduledSpec)

/-- 'laws.FnBounded', WHERE WHAT IT READS IS OF BULK AT MOST 1048576: true; the input reads as it did. -/
def fnBoundedUptoRow : OpenClaim := { program := "ytgepghodhnmhjaa", sum := "f6f0376a3d3ed05afc3335e5bce936b5dc9fec3f7c5d28598ae6a4ef87e07f21", func := "loop.example/g03224/laws.FnBounded", spec := "fnBounded", unfollowed := true, recurses := true, apart := false, narrowed := true }
def FnBoundedUptoSaid : Prop := fnBoundedUptoRow.holds Try.pinned (OpenSpec.upto fnBoundedSpec)

/-- 'laws.FnDemand', WHERE WHAT IT READS IS OF BULK AT MOST 1048576: true; the input reads as it did. -/
def fnDemandUptoRow : OpenClaim := { program := "ytgepghodhnmhjaa", sum := "f6f0376a3d3ed05afc3335e5bce936b5dc9fec3f7c5d28598ae6a4ef87e07f21", func := "loop.example/g03224/laws.FnDemand", spec := "fnDemand", unfollowed := true, recurses := true, apart := false, narrowed := true }
def FnDemandUptoSaid : Prop := fnDemandUptoRow.holds Try.pinned (OpenSpec.upto fnDemandSpec)

/-- 'laws.FnParks', WHERE WHAT IT READS IS OF BULK AT MOST 1048576: true; the input reads as it did. -/
def fnParksUptoRow : OpenClaim := { program := "ytgepghodhnmhjaa", sum := "f6f0376a3d3ed05afc3335e5bce936b5dc9fec3f7c5d28598ae6a4ef87e07f21", func := "loop.example/g03224/laws.FnParks", spec := "fnParks", unfollowed := true, recurses := true, apart := false, narrowed := true }
def FnParksUptoSaid : Prop := fnParksUptoRow.holds Try.pinned (OpenSpec.upto fnParksSpec)

/-- 'laws.FnSpliced', WHERE WHAT IT READS IS OF BULK AT MOST 1048576: true; the input reads as it did. -/
def fnSplicedUptoRow : OpenClaim := { program := "ytgepghodhnmhjaa", sum := "f6f0376a3d3ed05afc3335e5bce936b5dc9fec3f7c5d28598ae6a4ef87e07f21", func := "loop.example/g03224/laws.FnSpliced", spec := "fnSpliced", unfollowed := true, recurses := true, apart := false, narrowed := true }
def FnSplicedUptoSaid : Prop := fnSplicedUptoRow.holds Try.pinned (OpenSpec.upto fnSplicedSpec)

/-- 'laws.FnDropped', WHERE WHAT IT READS IS OF BULK AT MOST 1048576: true; the input reads as it did. -/
def fnDroppedUptoRow : OpenClaim := { program := "ytgepghodhnmhjaa", sum := "f6f0376a3d3ed05afc3335e5bce936b5dc9fec3f7c5d28598ae6a4ef87e07f21", func := "loop.example/g03224/laws.FnDropped", spec := "fnDropped", unfollowed := true, recurses := true, apart := false, narrowed := true }
def FnDroppedUptoSaid : Prop := fnDroppedUptoRow.holds Try.pinned (OpenSpec.upto fnDroppedSpec)

/-- 'laws.FnFed', WHERE WHAT IT READS IS OF BULK AT MOST 1048576: true; the input reads as it did. -/
def fnFedUptoRow : OpenClaim := { program := "ytgepghodhnmhjaa", sum := "f6f0376a3d3ed05afc3335e5bce936b5dc9fec3f7c5d28598ae6a4ef87e07f21", func := "loop.example/g03224/laws.FnFed", spec := "fnFed", unfollowed := true, recurses := true, apart := false, narrowed := true }
def FnFedUptoSaid : Prop := fnFedUptoRow.holds Try.pinned (OpenSpec.upto fnFedSpec)

/-- 'laws.FnSelf', WHERE WHAT IT READS IS OF BULK AT MOST 1048576: true; the input reads as it did. -/
def fnSelfUptoRow : OpenClaim := { program := "ytgepghodhnmhjaa", sum := "f6f0376a3d3ed05afc3335e5bce936b5dc9fec3f7c5d28598ae6a4ef87e07f21", func := "loop.example/g03224/laws.FnSelf", spec := "fnSelf", unfollowed := true, recurses := true, apart := false, narrowed := true }
def FnSelfUptoSaid : Prop := fnSelfUptoRow.holds Try.pinned (OpenSpec.upto fnSelfSpec)

/-- 'laws.FnCounted', WHERE WHAT IT READS IS OF BULK AT MOST 1048576: true; the input reads as it did. -/
def fnCountedUptoRow : OpenClaim := { program := "ytgepghodhnmhjaa", sum := "f6f0376a3d3ed05afc3335e5bce936b5dc9fec3f7c5d28598ae6a4ef87e07f21", func := "loop.example/g03224/laws.FnCounted", spec := "fnCounted", unfollowed := true, recurses := true, apart := false, narrowed := true }
def FnCountedUptoSaid : Prop := fnCountedUptoRow.holds Try.pinned (OpenSpec.upto fnCountedSpec)

end Rows
end Go.Proofs.Ytgepghodhnmhjaa
