/- Functions that the law FnScheduled reaches, each as a plain Lean function, and that each does what that says. No condition. -/
import Derived.Test.YtgepghodhnmhjaaPGen
namespace Go.AmT
open Go Go.Am Go.Proofs
set_option linter.unusedVariables false
set_option maxRecDepth 100000
def tys13 : List (Nat × TInfo) := [(3, ⟨false, 1, 8, [.int .i64 0], .int .i64, 0, some I, [], false⟩),
  (5, ⟨false, 1, 1, [.int .u8 0], .int .u8, 0, some U8, [], false⟩),
  (22, ⟨false, 1, 24, [.nil], .slice, 5, some (.sl U8), [], false⟩),
  (23, ⟨false, 1, 24, [.nil], .slice, 71, some (.sl tProgram), [], false⟩),
  (24, ⟨false, 1, 24, [.nil], .slice, 53, some (.sl tLink), [], false⟩),
  (26, ⟨true, 2, 48, [.nil, .nil], .struct, 0, some tNetwork, [(0, 23), (1, 24)], false⟩),
  (33, ⟨true, 4, 80, [.nil, .nil, .nil, .int .i64 0], .struct, 0, some tState, [(0, 30), (1, 31), (2, 31), (3, 3)], false⟩),
  (37, ⟨false, 1, 24, [.nil], .slice, 3, some IS, [], false⟩),
  (53, ⟨true, 5, 56, [.int .i64 0, .int .i64 0, .int .i64 0, .int .i64 0, .nil], .struct, 0, some tLink, [(0, 3), (1, 3), (2, 3), (3, 3), (4, 37)], false⟩)]
theorem tys13_ok : (tys13.all fun p => tokB Try.prog p.1 p.2) = true := by kernel_rfl

def makeState.las : List (Nat × LA) := [(5, ⟨[(7, .vptr 1000 0), (8, .vptr 1001 0), (9, .int .i64)], [(1000, .cells [true, false, false] [.sh U8, .int .i64, .int .i64]), (1001, .cells [] [.own 1002 tActor, .own 1003 IS, .own 1004 IS, .int .i64]), (1002, .row true tActor), (1003, .row true IS), (1004, .row true IS)], [4, 6], []⟩), (10, ⟨[(38, .bool)], [], [4, 6, 7, 8, 9, 10], []⟩)]
noncomputable def makeState.f (n : Nat) (a0 : List Int) (a1 : Network) (a2 : Int) : Option (State × Unit) := (curNew.f n a0).bind fun r1 => (sStartState.f n a1).bind fun r2 => (l01Below.f n (max 1 (min a2 400)) r1.1 r1.2.1 r1.2.2.1).bind fun r3 => iter (α := (Int × (List Int) × (Int × (Int × (Int × (List Actor) × (List (List Int)) × (List (List Int)) × Unit))))) n (fun ih23 x22 => br (decide (0 < x22.1)) ((l01Below.f n (max 1 (a1.1.length : Int)) x22.2.1 x22.2.2.1 x22.2.2.2.1).bind fun r24 => cut (α := (Bool × Unit)) ((sL3Has.f n a1 r24.1).bind fun r28 => br r28.1 ((sL5Can.f n a1 (x22.2.2.2.2.2.1, (x22.2.2.2.2.2.2.1, (x22.2.2.2.2.2.2.2.1, x22.2.2.2.2.1))) r24.1).bind fun r29 => some (.inr (r29.1, ()))) (some (.inr (false, ())))) fun y27 => br y27.1 ((sL5Step.f n a1.1 a1.2 x22.2.2.2.2.1 r24.1 x22.2.2.2.2.2.1 x22.2.2.2.2.2.2.1 x22.2.2.2.2.2.2.2.1).bind fun r30 => ih23 ((w64 (x22.1 - 1)), (r24.2.1, (r24.2.2.1, (r24.2.2.2.1, (r30.1, (r30.2.1, (r30.2.2.1, (r30.2.2.2.1, ()))))))))) (ih23 ((w64 (x22.1 - 1)), (r24.2.1, (r24.2.2.1, (r24.2.2.2.1, (x22.2.2.2.2.1, (x22.2.2.2.2.2.1, (x22.2.2.2.2.2.2.1, (x22.2.2.2.2.2.2.2.1, ())))))))))) (some ((x22.2.2.2.2.2.1, (x22.2.2.2.2.2.2.1, (x22.2.2.2.2.2.2.2.1, x22.2.2.2.2.1))), ()))) (r3.1, (r3.2.1, (r3.2.2.1, (r3.2.2.2.1, (r2.1.2.2.2, (r2.1.1, (r2.1.2.1, (r2.1.2.2.1, ()))))))))
noncomputable def makeState.mng (n : Nat) : Mng := ⟨[.val (.sl U8), .val tNetwork, .val I], [.val tState], fun x => makeState.f n x.1 x.2.1 x.2.2.1⟩
noncomputable def makeState.cfg (n : Nat) : Cfg := ⟨tys13, [(18, sStartState.mng n), (74, sL3Has.mng n), (75, sL5Can.mng n)], [(76, sL5Step.mng n), (54, curNew.mng n), (73, l01Below.mng n)], []⟩
theorem makeState.eq : ∀ (n : Nat) (a0 : List Int) (a1 : Network) (a2 : Int), runF (makeState.cfg n) n Try.f22 (annOf Try.f22 makeState.las) [.val (.sl U8), .val tNetwork, .val I] [.val tState] (a0, (a1, (a2, ()))) = makeState.f n a0 a1 a2 := by
  intros
  kernel_rfl
theorem makeState.gof : GoF Try.prog 22 := ⟨_, Try.func22, by kernel_rfl, by kernel_rfl⟩
theorem makeState.sound (n : Nat) : Sound Try.prog 22 (makeState.mng n) := runF_sound (fn := Try.f22) (m := makeState.mng n) (c := makeState.cfg n) (regOK mixed (opOK (.of (c := makeState.cfg n) ⟨⟨sStartState.sound n, sStartState.gof⟩, ⟨⟨sL3Has.sound n, sL3Has.gof⟩, ⟨⟨sL5Can.sound n, sL5Can.gof⟩, trivial⟩⟩⟩) (.of (c := makeState.cfg n) ⟨⟨sL5Step.sound n, sL5Step.gof⟩, ⟨⟨curNew.sound n, curNew.gof⟩, ⟨⟨l01Below.sound n, l01Below.gof⟩, trivial⟩⟩⟩)) (tysOK tys13_ok)) (tysOK tys13_ok) Try.func22 (fun x => (makeState.eq n x.1 x.2.1 x.2.2.1).symm)

def makeSchedule.las : List (Nat × LA) := [(5, ⟨[(7, .vptr 1000 0), (8, .own 1001 I), (9, .int .i64)], [(1000, .cells [true, false, false] [.sh U8, .int .i64, .int .i64]), (1001, .row true I)], [4], []⟩)]
noncomputable def makeSchedule.f (n : Nat) (a0 : List Int) (a1 : Network) (a2 : Int) : Option ((List Int) × Unit) := (curNew.f n a0).bind fun r1 => (l01Below.f n (max 1 (min a2 600)) r1.1 r1.2.1 r1.2.2.1).bind fun r2 => iter (α := (Int × (List Int) × (Int × (Int × (List Int) × Unit)))) n (fun ih12 x11 => br (decide (0 < x11.1)) ((l01Below.f n (w64 ((a1.1.length : Int) + 1)) x11.2.1 x11.2.2.1 x11.2.2.2.1).bind fun r13 => chk ((x11.2.2.2.2.1.length + ([r13.1] : List Int).length) * 8 ≤ maxB) (ih12 ((w64 (x11.1 - 1)), (r13.2.1, (r13.2.2.1, (r13.2.2.2.1, ((x11.2.2.2.2.1 ++ [r13.1]), ()))))))) (some (x11.2.2.2.2.1, ()))) (r2.1, (r2.2.1, (r2.2.2.1, (r2.2.2.2.1, ([], ())))))
noncomputable def makeSchedule.mng (n : Nat) : Mng := ⟨[.val (.sl U8), .val tNetwork, .val I], [.sh IS], fun x => makeSchedule.f n x.1 x.2.1 x.2.2.1⟩
noncomputable def makeSchedule.cfg (n : Nat) : Cfg := ⟨tys13, [], [(54, curNew.mng n), (73, l01Below.mng n)], []⟩
theorem makeSchedule.eq : ∀ (n : Nat) (a0 : List Int) (a1 : Network) (a2 : Int), runF (makeSchedule.cfg n) n Try.f26 (annOf Try.f26 makeSchedule.las) [.val (.sl U8), .val tNetwork, .val I] [.sh IS] (a0, (a1, (a2, ()))) = makeSchedule.f n a0 a1 a2 := by
  intros
  kernel_rfl
theorem makeSchedule.gof : GoF Try.prog 26 := ⟨_, Try.func26, by kernel_rfl, by kernel_rfl⟩
theorem makeSchedule.sound (n : Nat) : Sound Try.prog 26 (makeSchedule.mng n) := runF_sound (fn := Try.f26) (m := makeSchedule.mng n) (c := makeSchedule.cfg n) (regOK mixed (opOK (.of (c := makeSchedule.cfg n) trivial) (.of (c := makeSchedule.cfg n) ⟨⟨curNew.sound n, curNew.gof⟩, ⟨⟨l01Below.sound n, l01Below.gof⟩, trivial⟩⟩)) (tysOK tys13_ok)) (tysOK tys13_ok) Try.func26 (fun x => (makeSchedule.eq n x.1 x.2.1 x.2.2.1).symm)

def fresh.las : List (Nat × LA) := [(4, ⟨[(5, .own 1000 U8), (6, .int .i64)], [(1000, .row true U8)], [0, 1], []⟩), (5, ⟨[(17, .bool)], [], [0, 1, 5, 6], []⟩)]
noncomputable def fresh.f (n : Nat) (a0 : List Int) (a1 : Int) : Option ((List Int) × Unit) := iter (α := (Int × (List Int) × Unit)) n (fun ih7 x6 => cut (α := (Bool × Unit)) (br (decide (x6.1 < (a0.length : Int))) (some (.inr ((decide (x6.1 < 600)), ()))) (some (.inr (false, ())))) fun y8 => br y8.1 (chk (0 ≤ x6.1 ∧ x6.1 < (a0.length : Int)) (chk ((x6.2.1.length + ([(IntKind.wrap .u8 ((w64 ((w64 ((w64 ((a0.getD x6.1.toNat 0))) * 3)) + (w64 (a1 * (w64 ((x6.1.tmod 7) + 1))))))))] : List Int).length) * 1 ≤ maxB) (ih7 ((w64 (x6.1 + 1)), ((x6.2.1 ++ [(IntKind.wrap .u8 ((w64 ((w64 ((w64 ((a0.getD x6.1.toNat 0))) * 3)) + (w64 (a1 * (w64 ((x6.1.tmod 7) + 1))))))))]), ()))))) (some (x6.2.1, ()))) (0, ([(IntKind.wrap .u8 (a1))], ()))
noncomputable def fresh.mng (n : Nat) : Mng := ⟨[.val (.sl U8), .val I], [.sh (.sl U8)], fun x => fresh.f n x.1 x.2.1⟩
noncomputable def fresh.cfg (n : Nat) : Cfg := ⟨tys13, [], [], []⟩
theorem fresh.eq : ∀ (n : Nat) (a0 : List Int) (a1 : Int), runF (fresh.cfg n) n Try.f23 (annOf Try.f23 fresh.las) [.val (.sl U8), .val I] [.sh (.sl U8)] (a0, (a1, ())) = fresh.f n a0 a1 := by
  intros
  kernel_rfl
theorem fresh.gof : GoF Try.prog 23 := ⟨_, Try.func23, by kernel_rfl, by kernel_rfl⟩
theorem fresh.sound (n : Nat) : Sound Try.prog 23 (fresh.mng n) := runF_sound (fn := Try.f23) (m := fresh.mng n) (c := fresh.cfg n) (regOK mixed (opOK (.of (c := fresh.cfg n) trivial) (.of (c := fresh.cfg n) trivial)) (tysOK tys13_ok)) (tysOK tys13_ok) Try.func23 (fun x => (fresh.eq n x.1 x.2.1).symm)

end Go.AmT
