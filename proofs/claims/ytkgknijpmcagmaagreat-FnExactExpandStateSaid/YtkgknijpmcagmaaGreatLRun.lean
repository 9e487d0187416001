/- Functions that the law FnExactExpandState reaches, each as a plain Lean function, and that each does what that says. No condition. -/
import Derived.Test.YtkgknijpmcagmaaGreatPSt
import Derived.Test.YtkgknijpmcagmaaGreatPMark0
import Derived.Test.YtkgknijpmcagmaaGreatPCopy
namespace Go.AmT
open Go Go.Am Go.Proofs
set_option linter.unusedVariables false
set_option maxRecDepth 100000
abbrev tRun : Ty := (.pair tNetwork (.pair tState (.pair (.sl IS) (.pair (.sl IS) (.osl I)))))
def tys7 : List (Nat × TInfo) := [(3, ⟨false, 1, 8, [.int .i64 0], .int .i64, 0, some I, [], false⟩),
  (27, ⟨false, 1, 24, [.nil], .slice, 75, some (.sl IS), [], false⟩),
  (32, ⟨false, 1, 24, [.nil], .slice, 77, some (.sl tActor), [], false⟩),
  (34, ⟨true, 4, 80, [.nil, .nil, .nil, .int .i64 0], .struct, 0, some tState, [(0, 32), (1, 27), (2, 27), (3, 3)], false⟩),
  (37, ⟨false, 1, 24, [.nil], .slice, 53, some (.sl tProgram), [], false⟩),
  (38, ⟨false, 1, 24, [.nil], .slice, 81, some (.sl tLink), [], false⟩),
  (40, ⟨true, 2, 48, [.nil, .nil], .struct, 0, some tNetwork, [(0, 37), (1, 38)], false⟩),
  (51, ⟨false, 1, 24, [.nil], .slice, 103, some (.sl tInstr), [], false⟩),
  (53, ⟨true, 3, 40, [.int .i64 0, .int .i64 0, .nil], .struct, 0, some tProgram, [(0, 3), (1, 3), (2, 51)], false⟩),
  (75, ⟨false, 1, 24, [.nil], .slice, 3, some IS, [], false⟩),
  (77, ⟨true, 2, 32, [.int .i64 0, .nil], .struct, 0, some tActor, [(0, 3), (1, 75)], false⟩),
  (81, ⟨true, 5, 56, [.int .i64 0, .int .i64 0, .int .i64 0, .int .i64 0, .nil], .struct, 0, some tLink, [(0, 3), (1, 3), (2, 3), (3, 3), (4, 75)], false⟩),
  (103, ⟨true, 4, 32, [.int .i64 0, .int .i64 0, .int .i64 0, .int .i64 0], .struct, 0, some tInstr, [(0, 3), (1, 3), (2, 3), (3, 3)], false⟩),
  (130, ⟨true, 9, 200, [.nil, .nil, .nil, .nil, .nil, .int .i64 0, .nil, .nil, .nil], .struct, 0, some tRun, [(0, 40), (2, 34), (6, 27), (7, 27), (8, 75)], false⟩)]
theorem tys7_ok : (tys7.all fun p => tokB Tryz.prog p.1 p.2) = true := by kernel_rfl

def copyStreams.las : List (Nat × LA) := [(4, ⟨[(3, .own 1000 IS), (9, .int .i64)], [(1000, .row true IS)], [7, 8], []⟩)]
noncomputable def copyStreams.f (n : Nat) (a0 : List (List Int)) : Option ((List (List Int)) × Unit) := iter (α := (Int × (List (List Int)) × Unit)) n (fun ih7 x6 => br (decide (x6.1 < (a0.length : Int))) (chk (0 ≤ x6.1 ∧ x6.1 < (a0.length : Int)) ((cloneI.f n (a0.getD x6.1.toNat [])).bind fun r8 => chk ((x6.2.1.length + ([r8.1] : List (List Int)).length) * 24 ≤ maxB) (ih7 ((w64 (x6.1 + 1)), ((x6.2.1 ++ [r8.1]), ()))))) (some (x6.2.1, ()))) (0, ([], ()))
noncomputable def copyStreams.mng (n : Nat) : Mng := ⟨[.val (.sl IS)], [.val (.sl IS)], fun x => copyStreams.f n x.1⟩
noncomputable def copyStreams.cfg (n : Nat) : Cfg := ⟨tys7, [(49, cloneI.mng n)], [], []⟩
theorem copyStreams.eq : ∀ (n : Nat) (a0 : List (List Int)), runF (copyStreams.cfg n) n Tryz.f115 (annOf Tryz.f115 copyStreams.las) [.val (.sl IS)] [.val (.sl IS)] (a0, ()) = copyStreams.f n a0 := by
  intros
  kernel_rfl
theorem copyStreams.gof : GoF Tryz.prog 115 := ⟨_, Tryz.func115, by kernel_rfl, by kernel_rfl⟩
theorem copyStreams.sound (n : Nat) : Sound Tryz.prog 115 (copyStreams.mng n) := runF_sound (fn := Tryz.f115) (m := copyStreams.mng n) (c := copyStreams.cfg n) (regOK mixed (opOK (.of (c := copyStreams.cfg n) ⟨⟨cloneI.sound n, cloneI.gof⟩, trivial⟩) (.of (c := copyStreams.cfg n) trivial)) (tysOK tys7_ok)) (tysOK tys7_ok) Tryz.func115 (fun x => (copyStreams.eq n x.1).symm)

def copyState.las : List (Nat × LA) := [(4, ⟨[(3, .vptr 1000 0), (18, .int .i64)], [(1000, .cells [] [.own 1001 tActor, .own 1002 IS, .own 1003 IS, .int .i64]), (1001, .row true tActor), (1002, .row true IS), (1003, .row true IS)], [2, 16, 17], []⟩)]
noncomputable def copyState.f (n : Nat) (a0 : State) : Option (State × Unit) := (copyStreams.f n a0.2.1).bind fun r1 => (copyStreams.f n a0.2.2.1).bind fun r2 => iter (α := (Int × (Int × (List Actor) × (List (List Int)) × (List (List Int)) × Unit))) n (fun ih23 x22 => br (decide (x22.1 < (a0.1.length : Int))) (chk (0 ≤ x22.1 ∧ x22.1 < (a0.1.length : Int)) (let v24 := (a0.1.getD x22.1.toNat zActor); (cloneI.f n v24.2).bind fun r25 => chk ((x22.2.2.1.length + ([(v24.1, r25.1)] : List Actor).length) * 32 ≤ maxB) (ih23 ((w64 (x22.1 + 1)), (x22.2.1, ((x22.2.2.1 ++ [(v24.1, r25.1)]), (x22.2.2.2.1, (x22.2.2.2.2.1, ())))))))) (some ((x22.2.2.1, (x22.2.2.2.1, (x22.2.2.2.2.1, x22.2.1))), ()))) (0, (a0.2.2.2, ([], (r1.1, (r2.1, ())))))
noncomputable def copyState.mng (n : Nat) : Mng := ⟨[.val tState], [.val tState], fun x => copyState.f n x.1⟩
noncomputable def copyState.cfg (n : Nat) : Cfg := ⟨tys7, [(115, copyStreams.mng n), (49, cloneI.mng n)], [], []⟩
theorem copyState.eq : ∀ (n : Nat) (a0 : State), runF (copyState.cfg n) n Tryz.f46 (annOf Tryz.f46 copyState.las) [.val tState] [.val tState] (a0, ()) = copyState.f n a0 := by
  intros
  kernel_rfl
theorem copyState.gof : GoF Tryz.prog 46 := ⟨_, Tryz.func46, by kernel_rfl, by kernel_rfl⟩
theorem copyState.sound (n : Nat) : Sound Tryz.prog 46 (copyState.mng n) := runF_sound (fn := Tryz.f46) (m := copyState.mng n) (c := copyState.cfg n) (regOK mixed (opOK (.of (c := copyState.cfg n) ⟨⟨copyStreams.sound n, copyStreams.gof⟩, ⟨⟨cloneI.sound n, cloneI.gof⟩, trivial⟩⟩) (.of (c := copyState.cfg n) trivial)) (tysOK tys7_ok)) (tysOK tys7_ok) Tryz.func46 (fun x => (copyState.eq n x.1).symm)

end Go.AmT
