/- Functions that the law FnParks reaches, each as a plain Lean function, and that each does what that says. No condition. -/
import Derived.Test.YtgepghodhnmhjaaPTurnS
namespace Go.AmT
open Go Go.Am Go.Proofs
set_option linter.unusedVariables false
set_option maxRecDepth 100000
def tys10 : List (Nat × TInfo) := [(3, ⟨false, 1, 8, [.int .i64 0], .int .i64, 0, some I, [], false⟩),
  (23, ⟨false, 1, 24, [.nil], .slice, 71, some (.sl tProgram), [], false⟩),
  (26, ⟨true, 2, 48, [.nil, .nil], .struct, 0, some tNetwork, [(0, 23), (1, 24)], false⟩),
  (30, ⟨false, 1, 24, [.nil], .slice, 89, some (.sl tActor), [], false⟩),
  (31, ⟨false, 1, 24, [.nil], .slice, 37, some (.sl IS), [], false⟩),
  (33, ⟨true, 4, 80, [.nil, .nil, .nil, .int .i64 0], .struct, 0, some tState, [(0, 30), (1, 31), (2, 31), (3, 3)], false⟩),
  (37, ⟨false, 1, 24, [.nil], .slice, 3, some IS, [], false⟩),
  (89, ⟨true, 2, 32, [.int .i64 0, .nil], .struct, 0, some tActor, [(0, 3), (1, 37)], false⟩)]
theorem tys10_ok : (tys10.all fun p => tokB Try.prog p.1 p.2) = true := by kernel_rfl

def sL5Copy.las : List (Nat × LA) := [(4, ⟨[(3, .vptr 1000 0), (16, .int .i64)], [(1000, .cells [] [.own 1001 tActor, .con (.nil), .con (.nil), .int .i64]), (1001, .row true tActor)], [1, 2, 14, 15], []⟩), (13, ⟨[(3, .vptr 1000 0), (35, .int .i64)], [(1000, .cells [] [.own 1001 tActor, .own 1002 IS, .con (.nil), .int .i64]), (1001, .row true tActor), (1002, .row true IS)], [1, 2, 33, 34], []⟩), (22, ⟨[(3, .vptr 1000 0), (50, .int .i64)], [(1000, .cells [] [.own 1001 tActor, .own 1002 IS, .own 1003 IS, .int .i64]), (1001, .row true tActor), (1002, .row true IS), (1003, .row true IS)], [2, 48, 49], []⟩)]
noncomputable def sL5Copy.f (n : Nat) (a0 : State) : Option (State × Unit) := iter (α := (Int × (Int × (List Actor) × Unit))) n (fun ih29 x28 => br (decide (x28.1 < (a0.1.length : Int))) (chk (0 ≤ x28.1 ∧ x28.1 < (a0.1.length : Int)) (let v30 := (a0.1.getD x28.1.toNat zActor); (sL1Copy.f n v30.2).bind fun r31 => chk ((x28.2.2.1.length + ([(v30.1, r31.1)] : List Actor).length) * 32 ≤ maxB) (ih29 ((w64 (x28.1 + 1)), (x28.2.1, ((x28.2.2.1 ++ [(v30.1, r31.1)]), ())))))) (iter (α := (Int × (Int × (List Actor) × (List (List Int)) × Unit))) n (fun ih60 x59 => br (decide (x59.1 < (a0.2.1.length : Int))) (chk (0 ≤ x59.1 ∧ x59.1 < (a0.2.1.length : Int)) (let v61 := (a0.2.1.getD x59.1.toNat []); (sL1Copy.f n v61).bind fun r62 => chk ((x59.2.2.2.1.length + ([r62.1] : List (List Int)).length) * 24 ≤ maxB) (ih60 ((w64 (x59.1 + 1)), (x59.2.1, (x59.2.2.1, ((x59.2.2.2.1 ++ [r62.1]), ()))))))) (iter (α := (Int × (Int × (List Actor) × (List (List Int)) × (List (List Int)) × Unit))) n (fun ih81 x80 => br (decide (x80.1 < (a0.2.2.1.length : Int))) (chk (0 ≤ x80.1 ∧ x80.1 < (a0.2.2.1.length : Int)) (let v82 := (a0.2.2.1.getD x80.1.toNat []); (sL1Copy.f n v82).bind fun r83 => chk ((x80.2.2.2.2.1.length + ([r83.1] : List (List Int)).length) * 24 ≤ maxB) (ih81 ((w64 (x80.1 + 1)), (x80.2.1, (x80.2.2.1, (x80.2.2.2.1, ((x80.2.2.2.2.1 ++ [r83.1]), ())))))))) (some ((x80.2.2.1, (x80.2.2.2.1, (x80.2.2.2.2.1, x80.2.1))), ()))) (0, (x59.2.1, (x59.2.2.1, (x59.2.2.2.1, ([], ()))))))) (0, (x28.2.1, (x28.2.2.1, ([], ())))))) (0, (a0.2.2.2, ([], ())))
noncomputable def sL5Copy.mng (n : Nat) : Mng := ⟨[.val tState], [.val tState], fun x => sL5Copy.f n x.1⟩
noncomputable def sL5Copy.cfg (n : Nat) : Cfg := ⟨tys10, [(130, sL1Copy.mng n)], [], []⟩
theorem sL5Copy.eq : ∀ (n : Nat) (a0 : State), runF (sL5Copy.cfg n) n Try.f77 (annOf Try.f77 sL5Copy.las) [.val tState] [.val tState] (a0, ()) = sL5Copy.f n a0 := by
  intros
  kernel_rfl
theorem sL5Copy.gof : GoF Try.prog 77 := ⟨_, Try.func77, by kernel_rfl, by kernel_rfl⟩
theorem sL5Copy.sound (n : Nat) : Sound Try.prog 77 (sL5Copy.mng n) := runF_sound (fn := Try.f77) (m := sL5Copy.mng n) (c := sL5Copy.cfg n) (regOK mixed (opOK (.of (c := sL5Copy.cfg n) ⟨⟨sL1Copy.sound n, sL1Copy.gof⟩, trivial⟩) (.of (c := sL5Copy.cfg n) trivial)) (tysOK tys10_ok)) (tysOK tys10_ok) Try.func77 (fun x => (sL5Copy.eq n x.1).symm)

end Go.AmT
