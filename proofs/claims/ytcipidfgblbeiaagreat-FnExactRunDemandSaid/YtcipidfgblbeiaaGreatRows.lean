/-
  No cell of these rows narrows 'for every input' (looked for: loops, veiled, ifaces, maps, wideKeys, modest, calm, conditions, laid).
  DERIVED. THE GIVEN ROWS OF THIS SEAT. 7 by the template 'for every input the law returns true; each argument reads behind the call as it read before'; 0 by the template 'total and deterministic' (their statements: YtcipidfgblbeiaaGreatTotals.lean).
  GIVEN WITH THE SEED: the statements are not yours to turn. If you find one false, say at which input.
  Laid BY PROGRAM, IN A SANDBOX (cutbox-rows.mjs): the forced cells as the released guide's own fill.sh prints them over the translation 1fb135af04ec8ec3… (all of the seat's roots in one cut). By AI agents, Wed Nov 11 2026. No macro, syntax, notation, axiom, sorry.
-/
import Derived.Test.YtcipidfgblbeiaaGreatChecked
import GoSem.Claim
import GoSem.ClaimJoined
import GoSem.ClaimMapViews
import Derived.JoinedTies
import Derived.KernelRfl
namespace Go.Proofs.YtcipidfgblbeiaaGreat
/- THE CELL 'sum', in the pinned program and in every row, IS THE sha256 OF THE DUMP (.gsa) THAT YtcipidfgblbeiaaGreatProg.lean LOADS. Nothing in Lean hashes anything: it is a label: what it is worth is what the hold of that sum in a sandbox is worth. -/
noncomputable def Tryz.pinned : Pinned := { name := "ytcipidfgblbeiaagreat", sum := "1fb135af04ec8ec3718645271eb19bd7aaa1eece40f1e6e30d9b744ae6cf4274", checked := Tryz.checked }
namespace Rows
def none {H : Type} : Left H := { results := [], args := [] }

/-- 'laws.FnExactRaiseCapacity': WHATEVER THE INPUT: true; the input reads as it did. -/
def fnExactRaiseCapacitySpec : ChangeSpec := { name := "fnExactRaiseCapacity", fn := fun _ => fun
  | [d1, d2, d3] => { results := [.lit (.bool true)], args := [d1, d2, d3] }
  | _ => none }
def fnExactRaiseCapacityRow : OpenClaim := { program := "ytcipidfgblbeiaagreat", sum := "1fb135af04ec8ec3718645271eb19bd7aaa1eece40f1e6e30d9b744ae6cf4274", func := "loop.example/g03224/laws.FnExactRaiseCapacity", spec := "fnExactRaiseCapacity", unfollowed := true, recurses := true, apart := false }
def FnExactRaiseCapacitySaid : Prop := fnExactRaiseCapacityRow.holds Tryz.pinned (OpenSpec.ofChange fnExactRaiseCapacitySpec)

/-- ITS FALSE NEIGHBOUR: 'it returns false'. Refute it at one input. -/
def fnExactRaiseCapacityWrong : ChangeSpec := { name := "fnExactRaiseCapacity", fn := fun _ => fun
  | [d1, d2, d3] => { results := [.lit (.bool false)], args := [d1, d2, d3] }
  | _ => none }
def FnExactRaiseCapacityWrongFalsely : Prop := fnExactRaiseCapacityRow.holds Tryz.pinned (OpenSpec.ofChange fnExactRaiseCapacityWrong)

/-- 'laws.FnExactRunSchedule': WHATEVER THE INPUT: true; the input reads as it did. -/
def fnExactRunScheduleSpec : ChangeSpec := { name := "fnExactRunSchedule", fn := fun _ => fun
  | [d1, d2, d3] => { results := [.lit (.bool true)], args := [d1, d2, d3] }
  | _ => none }
def fnExactRunScheduleRow : OpenClaim := { program := "ytcipidfgblbeiaagreat", sum := "1fb135af04ec8ec3718645271eb19bd7aaa1eece40f1e6e30d9b744ae6cf4274", func := "loop.example/g03224/laws.FnExactRunSchedule", spec := "fnExactRunSchedule", unfollowed := true, recurses := true, apart := false }
def FnExactRunScheduleSaid : Prop := fnExactRunScheduleRow.holds Tryz.pinned (OpenSpec.ofChange fnExactRunScheduleSpec)

/-- ITS FALSE NEIGHBOUR: 'it returns false'. Refute it at one input. -/
def fnExactRunScheduleWrong : ChangeSpec := { name := "fnExactRunSchedule", fn := fun _ => fun
  | [d1, d2, d3] => { results := [.lit (.bool false)], args := [d1, d2, d3] }
  | _ => none }
def FnExactRunScheduleWrongFalsely : Prop := fnExactRunScheduleRow.holds Tryz.pinned (OpenSpec.ofChange fnExactRunScheduleWrong)

/-- 'laws.FnExactRunEager': WHATEVER THE INPUT: true; the input reads as it did. -/
def fnExactRunEagerSpec : ChangeSpec := { name := "fnExactRunEager", fn := fun _ => fun
  | [d1, d2, d3] => { results := [.lit (.bool true)], args := [d1, d2, d3] }
  | _ => none }
def fnExactRunEagerRow : OpenClaim := { program := "ytcipidfgblbeiaagreat", sum := "1fb135af04ec8ec3718645271eb19bd7aaa1eece40f1e6e30d9b744ae6cf4274", func := "loop.example/g03224/laws.FnExactRunEager", spec := "fnExactRunEager", unfollowed := true, recurses := true, apart := false }
def FnExactRunEagerSaid : Prop := fnExactRunEagerRow.holds Tryz.pinned (OpenSpec.ofChange fnExactRunEagerSpec)

/-- ITS FALSE NEIGHBOUR: 'it returns false'. Refute it at one input. -/
def fnExactRunEagerWrong : ChangeSpec := { name := "fnExactRunEager", fn := fun _ => fun
  | [d1, d2, d3] => { results := [.lit (.bool false)], args := [d1, d2, d3] }
  | _ => none }
def FnExactRunEagerWrongFalsely : Prop := fnExactRunEagerRow.holds Tryz.pinned (OpenSpec.ofChange fnExactRunEagerWrong)

/-- 'laws.FnExactRunTurns': WHATEVER THE INPUT: true; the input reads as it did. -/
def fnExactRunTurnsSpec : ChangeSpec := { name := "fnExactRunTurns", fn := fun _ => fun
  | [d1, d2, d3] => { results := [.lit (.bool true)], args := [d1, d2, d3] }
  | _ => none }
def fnExactRunTurnsRow : OpenClaim := { program := "ytcipidfgblbeiaagreat", sum := "1fb135af04ec8ec3718645271eb19bd7aaa1eece40f1e6e30d9b744ae6cf4274", func := "loop.example/g03224/laws.FnExactRunTurns", spec := "fnExactRunTurns", unfollowed := true, recurses := true, apart := false }
def FnExactRunTurnsSaid : Prop := fnExactRunTurnsRow.holds Tryz.pinned (OpenSpec.ofChange fnExactRunTurnsSpec)

/-- ITS FALSE NEIGHBOUR: 'it returns false'. Refute it at one input. -/
def fnExactRunTurnsWrong : ChangeSpec := { name := "fnExactRunTurns", fn := fun _ => fun
  | [d1, d2, d3] => { results := [.lit (.bool false)], args := [d1, d2, d3] }
  | _ => none }
def FnExactRunTurnsWrongFalsely : Prop := fnExactRunTurnsRow.holds Tryz.pinned (OpenSpec.ofChange fnExactRunTurnsWrong)

/-- 'laws.FnExactRunDemand': WHATEVER THE INPUT: true; the input reads as it did. -/
def fnExactRunDemandSpec : ChangeSpec := { name := "fnExactRunDemand", fn := fun _ => fun
  | [d1, d2, d3, d4, d5] => { results := [.lit (.bool true)], args := [d1, d2, d3, d4, d5] }
  | _ => none }
def fnExactRunDemandRow : OpenClaim := { program := "ytcipidfgblbeiaagreat", sum := "1fb135af04ec8ec3718645271eb19bd7aaa1eece40f1e6e30d9b744ae6cf4274", func := "loop.example/g03224/laws.FnExactRunDemand", spec := "fnExactRunDemand", unfollowed := true, recurses := true, apart := false }
def FnExactRunDemandSaid : Prop := fnExactRunDemandRow.holds Tryz.pinned (OpenSpec.ofChange fnExactRunDemandSpec)

/-- ITS FALSE NEIGHBOUR: 'it returns false'. Refute it at one input. -/
def fnExactRunDemandWrong : ChangeSpec := { name := "fnExactRunDemand", fn := fun _ => fun
  | [d1, d2, d3, d4, d5] => { results := [.lit (.bool false)], args := [d1, d2, d3, d4, d5] }
  | _ => none }
def FnExactRunDemandWrongFalsely : Prop := fnExactRunDemandRow.holds Tryz.pinned (OpenSpec.ofChange fnExactRunDemandWrong)

/-- 'laws.FnExactRunParks': WHATEVER THE INPUT: true; the input reads as it did. -/
def fnExactRunParksSpec : ChangeSpec := { name := "fnExactRunParks", fn := fun _ => fun
  | [d1, d2, d3, d4] => { results := [.lit (.bool true)], args := [d1, d2, d3, d4] }
  | _ => none }
def fnExactRunParksRow : OpenClaim := { program := "ytcipidfgblbeiaagreat", sum := "1fb135af04ec8ec3718645271eb19bd7aaa1eece40f1e6e30d9b744ae6cf4274", func := "loop.example/g03224/laws.FnExactRunParks", spec := "fnExactRunParks", unfollowed := true, recurses := true, apart := false }
def FnExactRunParksSaid : Prop := fnExactRunParksRow.holds Tryz.pinned (OpenSpec.ofChange fnExactRunParksSpec)

/-- ITS FALSE NEIGHBOUR: 'it returns false'. Refute it at one input. -/
def fnExactRunParksWrong : ChangeSpec := { name := "fnExactRunParks", fn := fun _ => fun
  | [d1, d2, d3, d4] => { results := [.lit (.bool false)], args := [d1, d2, d3, d4] }
  | _ => none }
def FnExactRunParksWrongFalsely : Prop := fnExactRunParksRow.holds Tryz.pinned (OpenSpec.ofChange fnExactRunParksWrong)

/-- 'laws.FnExactExpandState': WHATEVER THE INPUT: true; the input reads as it did. -/
def fnExactExpandStateSpec : ChangeSpec := { name := "fnExactExpandState", fn := fun _ => fun
  | [d1, d2, d3, d4] => { results := [.lit (.bool true)], args := [d1, d2, d3, d4] }
  | _ => none }
def fnExactExpandStateRow : OpenClaim := { program := "ytcipidfgblbeiaagreat", sum := "1fb135af04ec8ec3718645271eb19bd7aaa1eece40f1e6e30d9b744ae6cf4274", func := "loop.example/g03224/laws.FnExactExpandState", spec := "fnExactExpandState", unfollowed := true, recurses := true, apart := false }
def FnExactExpandStateSaid : Prop := fnExactExpandStateRow.holds Tryz.pinned (OpenSpec.ofChange fnExactExpandStateSpec)

/-- ITS FALSE NEIGHBOUR: 'it returns false'. Refute it at one input. -/
def fnExactExpandStateWrong : ChangeSpec := { name := "fnExactExpandState", fn := fun _ => fun
  | [d1, d2, d3, d4] => { results := [.lit (.bool false)], args := [d1, d2, d3, d4] }
  | _ => none }
def FnExactExpandStateWrongFalsely : Prop := fnExactExpandStateRow.holds Tryz.pinned (OpenSpec.ofChange fnExactExpandStateWrong)

/- THE SECOND FORM. 'bulk': how many values and letters a reading holds, each counted each time it is reached (what is shared counts as often as it is met; a slice's spare places count too). A statement '..UptoSaid' is the law's where the arguments, and the package variables that the reading takes, are together of bulk at most 1048576: NARROWER than '..Said'. Prove '..Said' where nothing that the law and all that it calls make is longer than what came in: it says more and counts as full. Else prove '..UptoSaid'. A law counts once. -/
mutual
def uptoBulk {H : Type} : DataW H → Nat
  | .lit (.string bytes) => bytes.length + 1
  | .lit _ => 1
  | .nil => 1
  | .ptr d => uptoBulk d + 1
  | .slice elems spare => uptoBulkAll elems + uptoBulkAll spare + 1
  | .agg parts => uptoBulkAll parts + 1
  | .iface _ d => uptoBulk d + 1
  | .map entries => uptoBulkEntries entries + 1
  | .held _ => 1
def uptoBulkAll {H : Type} : List (DataW H) → Nat
  | [] => 0
  | d :: r => uptoBulk d + uptoBulkAll r
def uptoBulkEntries {H : Type} : List (Lit × DataW H) → Nat
  | [] => 0
  | x :: r => uptoBulkEntry x + uptoBulkEntries r
def uptoBulkEntry {H : Type} : Lit × DataW H → Nat
  | (.string bytes, d) => bytes.length + uptoBulk d + 1
  | (_, d) => uptoBulk d + 1
 end
def uptoSmall : (H : Type) → List (DataW H) → Bool := fun _ ds => decide (uptoBulkAll ds ≤ 1048576)
def OpenSpec.upto (s : _root_.Go.ChangeSpec) : _root_.Go.OpenSpec := { _root_.Go.OpenSpec.ofChange s with cond := some uptoSmall }

/-- 'laws.FnExactRaiseCapacity', WHERE WHAT IT READS IS OF BULK AT MOST 1048576: true; the input reads as it did. -/
def fnExactRaiseCapacityUptoRow : OpenClaim := { program := "ytcipidfgblbeiaagreat", sum := "1fb135af04ec8ec3718645271eb19bd7aaa1eece40f1e6e30d9b744ae6cf4274", func := "loop.example/g03224/laws.FnExactRaiseCapacity", spec := "fnExactRaiseCapacity", unfollowed := true, recurses := true, apart := false, narrowed := true }
def FnExactRaiseCapacityUptoSaid : Prop := fnExactRaiseCapacityUptoRow.holds Tryz.pinned (OpenSpec.upto fnExactRaiseCapacitySpec)

/-- 'laws.FnExactRunSchedule', WHERE WHAT IT READS IS OF BULK AT MOST 1048576: true; the input reads as it did. -/
def fnExactRunScheduleUptoRow : OpenClaim := { program := "ytcipidfgblbeiaagreat", sum := "1fb135af04ec8ec3718645271eb19bd7aaa1eece40f1e6e30d9b744ae6cf4274", func := "loop.example/g03224/laws.FnExactRunSchedule", spec := "fnExactRunSchedule", unfollowed := true, recurses := true, apart := false, narrowed := true }
def FnExactRunScheduleUptoSaid : Prop := fnExactRunScheduleUptoRow.holds Tryz.pinned (OpenSpec.upto fnExactRunScheduleSpec)

/-- 'laws.FnExactRunEager', WHERE WHAT IT READS IS OF BULK AT MOST 1048576: true; the input reads as it did. -/
def fnExactRunEagerUptoRow : OpenClaim := { program := "ytcipidfgblbeiaagreat", sum := "1fb135af04ec8ec3718645271eb19bd7aaa1eece40f1e6e30d9b744ae6cf4274", func := "loop.example/g03224/laws.FnExactRunEager", spec := "fnExactRunEager", unfollowed := true, recurses := true, apart := false, narrowed := true }
def FnExactRunEagerUptoSaid : Prop := fnExactRunEagerUptoRow.holds Tryz.pinned (OpenSpec.upto fnExactRunEagerSpec)

/-- 'laws.FnExactRunTurns', WHERE WHAT IT READS IS OF BULK AT MOST 1048576: true; the input reads as it did. -/
def fnExactRunTurnsUptoRow : OpenClaim := { program := "ytcipidfgblbeiaagreat", sum := "1fb135af04ec8ec3718645271eb19bd7aaa1eece40f1e6e30d9b744ae6cf4274", func := "loop.example/g03224/laws.FnExactRunTurns", spec := "fnExactRunTurns", unfollowed := true, recurses := true, apart := false, narrowed := true }
def FnExactRunTurnsUptoSaid : Prop := fnExactRunTurnsUptoRow.holds Tryz.pinned (OpenSpec.upto fnExactRunTurnsSpec)

/-- 'laws.FnExactRunDemand', WHERE WHAT IT READS IS OF BULK AT MOST 1048576: true; the input reads as it did. -/
def fnExactRunDemandUptoRow : OpenClaim := { program := "ytcipidfgblbeiaagreat", sum := "1fb135af04ec8ec3718645271eb19bd7aaa1eece40f1e6e30d9b744ae6cf4274", func := "loop.example/g03224/laws.FnExactRunDemand", spec := "fnExactRunDemand", unfollowed := true, recurses := true, apart := false, narrowed := true }
def FnExactRunDemandUptoSaid : Prop := fnExactRunDemandUptoRow.holds Tryz.pinned (OpenSpec.upto fnExactRunDemandSpec)

/-- 'laws.FnExactRunParks', WHERE WHAT IT READS IS OF BULK AT MOST 1048576: true; the input reads as it did. -/
def fnExactRunParksUptoRow : OpenClaim := { program := "ytcipidfgblbeiaagreat", sum := "1fb135af04ec8ec3718645271eb19bd7aaa1eece40f1e6e30d9b744ae6cf4274", func := "loop.example/g03224/laws.FnExactRunParks", spec := "fnExactRunParks", unfollowed := true, recurses := true, apart := false, narrowed := true }
def FnExactRunParksUptoSaid : Prop := fnExactRunParksUptoRow.holds Tryz.pinned (OpenSpec.upto fnExactRunParksSpec)

/-- 'laws.FnExactExpandState', WHERE WHAT IT READS IS OF BULK AT MOST 1048576: true; the input reads as it did. -/
def fnExactExpandStateUptoRow : OpenClaim := { program := "ytcipidfgblbeiaagreat", sum := "1fb135af04ec8ec3718645271eb19bd7aaa1eece40f1e6e30d9b744ae6cf4274", func := "loop.example/g03224/laws.FnExactExpandState", spec := "fnExactExpandState", unfollowed := true, recurses := true, apart := false, narrowed := true }
def FnExactExpandStateUptoSaid : Prop := fnExactExpandStateUptoRow.holds Tryz.pinned (OpenSpec.upto fnExactExpandStateSpec)

end Rows
end Go.Proofs.YtcipidfgblbeiaaGreat
