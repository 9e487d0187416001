/- The functions that the law FnExactExpandSchedule reaches, each as a plain Lean function, and that each does what that says. No condition. -/
import Derived.Test.YtgibfifokpnnjaaAmD
import Derived.Test.YtgibfifokpnnjaaProg
namespace Go.AmT
open Go Go.Am Go.Proofs
set_option linter.unusedVariables false
set_option maxRecDepth 100000
abbrev I : Ty := .int .i64
abbrev U8 : Ty := .int .u8
abbrev IS : Ty := .sl I
abbrev tLoop : Ty := (.pair I I)
abbrev Loop : Type := Int × Int
def zLoop : Loop := (0, 0)
def tys : List (Nat × TInfo) := [(3, ⟨false, 1, 8, [.int .i64 0], .int .i64, 0, some I, [], false⟩),
  (4, ⟨false, 1, 1, [.bool false], .bool, 0, some .bool, [], false⟩),
  (22, ⟨false, 1, 24, [.nil], .slice, 3, some IS, [], false⟩),
  (23, ⟨false, 1, 24, [.nil], .slice, 53, some (.sl tLoop), [], false⟩),
  (42, ⟨false, 1, 24, [.nil], .slice, 71, some (.sl tLoop), [], false⟩),
  (53, ⟨true, 2, 16, [.int .i64 0, .int .i64 0], .struct, 0, some tLoop, [(0, 3), (1, 3)], false⟩),
  (71, ⟨true, 2, 16, [.int .i64 0, .int .i64 0], .struct, 0, some tLoop, [(0, 3), (1, 3)], false⟩),
  (92, ⟨false, 1, 8, [.int .u64 0], .int .u64, 0, some (.int .u64), [], false⟩),
  (106, ⟨false, 1, 8, [.int .u64 0], .int .u64, 0, some (.int .u64), [], false⟩)]
theorem tys_ok : (tys.all fun p => tokB Try.prog p.1 p.2) = true := by kernel_rfl
theorem mixed : Try.prog.follows .mixedOrders = true := by kernel_rfl

def szLoopS.las : List (Nat × LA) := []
noncomputable def szLoopS.f (n : Nat) (a0 : List Loop) (a1 : Int) : Option (Int × Unit) := br (decide ((w64 (a1 - (a0.length : Int))) < 0)) (some ((-1), ())) (some ((w64 (a1 - (a0.length : Int))), ()))
noncomputable def szLoopS.mng (n : Nat) : Mng := ⟨[.val (.sl tLoop), .val I], [.val I], fun x => szLoopS.f n x.1 x.2.1⟩
noncomputable def szLoopS.cfg (n : Nat) : Cfg := ⟨tys, []⟩
theorem szLoopS.eq : ∀ (n : Nat) (a0 : List Loop) (a1 : Int), runF (szLoopS.cfg n) n Try.f25 (annOf Try.f25 szLoopS.las) [.val (.sl tLoop), .val I] [.val I] (a0, (a1, ())) = szLoopS.f n a0 a1 := by
  intros
  kernel_rfl
theorem szLoopS.gof : GoF Try.prog 25 := ⟨_, Try.func25, by kernel_rfl, by kernel_rfl⟩
theorem szLoopS.sound (n : Nat) : Sound Try.prog 25 (szLoopS.mng n) := runF_sound (fn := Try.f25) (m := szLoopS.mng n) (c := szLoopS.cfg n) (regOK mixed (opOK (.of (c := szLoopS.cfg n) trivial)) (tysOK tys_ok)) (tysOK tys_ok) Try.func25 (fun x => (szLoopS.eq n x.1 x.2.1).symm)

def toLoop.las : List (Nat × LA) := []
noncomputable def toLoop.f (n : Nat) (a0 : Loop) : Option (Loop × Unit) := some (a0, ())
noncomputable def toLoop.mng (n : Nat) : Mng := ⟨[.val tLoop], [.val tLoop], fun x => toLoop.f n x.1⟩
noncomputable def toLoop.cfg (n : Nat) : Cfg := ⟨tys, []⟩
theorem toLoop.eq : ∀ (n : Nat) (a0 : Loop), runF (toLoop.cfg n) n Try.f49 (annOf Try.f49 toLoop.las) [.val tLoop] [.val tLoop] (a0, ()) = toLoop.f n a0 := by
  intros
  kernel_rfl
theorem toLoop.gof : GoF Try.prog 49 := ⟨_, Try.func49, by kernel_rfl, by kernel_rfl⟩
theorem toLoop.sound (n : Nat) : Sound Try.prog 49 (toLoop.mng n) := runF_sound (fn := Try.f49) (m := toLoop.mng n) (c := toLoop.cfg n) (regOK mixed (opOK (.of (c := toLoop.cfg n) trivial)) (tysOK tys_ok)) (tysOK tys_ok) Try.func49 (fun x => (toLoop.eq n x.1).symm)

def toLoopS.las : List (Nat × LA) := [(1, ⟨[(3, .own 1000 tLoop), (4, .int .i64)], [(1000, .row true tLoop)], [0], []⟩)]
noncomputable def toLoopS.f (n : Nat) (a0 : List Loop) : Option ((List Loop) × Unit) := chk ((a0.length : Int) = (a0.length : Int) ∧ 0 ≤ (a0.length : Int) ∧ (a0.length : Int) * (16 : Int) ≤ (maxB : Int)) (iter (α := (Int × (List Loop) × Unit)) n (fun ih6 x5 => br (decide (x5.1 < (a0.length : Int))) (chk (0 ≤ x5.1 ∧ x5.1 < (a0.length : Int)) (let v7 := (a0.getD x5.1.toNat zLoop); (toLoop.f n v7).bind fun r8 => chk (0 ≤ x5.1 ∧ x5.1 < (x5.2.1.length : Int)) (let v9 := (x5.2.1.set x5.1.toNat r8.1); ih6 ((w64 (x5.1 + 1)), (v9, ()))))) (some (x5.2.1, ()))) (0, ((List.replicate (a0.length : Int).toNat ((0, 0) : Loop)), ())))
noncomputable def toLoopS.mng (n : Nat) : Mng := ⟨[.val (.sl tLoop)], [.val (.sl tLoop)], fun x => toLoopS.f n x.1⟩
noncomputable def toLoopS.cfg (n : Nat) : Cfg := ⟨tys, [(49, toLoop.mng n)]⟩
theorem toLoopS.eq : ∀ (n : Nat) (a0 : List Loop), runF (toLoopS.cfg n) n Try.f27 (annOf Try.f27 toLoopS.las) [.val (.sl tLoop)] [.val (.sl tLoop)] (a0, ()) = toLoopS.f n a0 := by
  intros
  kernel_rfl
theorem toLoopS.gof : GoF Try.prog 27 := ⟨_, Try.func27, by kernel_rfl, by kernel_rfl⟩
theorem toLoopS.sound (n : Nat) : Sound Try.prog 27 (toLoopS.mng n) := runF_sound (fn := Try.f27) (m := toLoopS.mng n) (c := toLoopS.cfg n) (regOK mixed (opOK (.of (c := toLoopS.cfg n) ⟨⟨toLoop.sound n, toLoop.gof⟩, trivial⟩)) (tysOK tys_ok)) (tysOK tys_ok) Try.func27 (fun x => (toLoopS.eq n x.1).symm)

def l1In.las : List (Nat × LA) := []
noncomputable def l1In.f (n : Nat) (a0 : Int) (a1 : Int) (a2 : Int) : Option (Bool × Unit) := br (decide (a1 ≤ a0)) (some ((decide (a0 ≤ a2)), ())) (some (false, ()))
noncomputable def l1In.mng (n : Nat) : Mng := ⟨[.val I, .val I, .val I], [.val .bool], fun x => l1In.f n x.1 x.2.1 x.2.2.1⟩
noncomputable def l1In.cfg (n : Nat) : Cfg := ⟨tys, []⟩
theorem l1In.eq : ∀ (n : Nat) (a0 : Int) (a1 : Int) (a2 : Int), runF (l1In.cfg n) n Try.f44 (annOf Try.f44 l1In.las) [.val I, .val I, .val I] [.val .bool] (a0, (a1, (a2, ()))) = l1In.f n a0 a1 a2 := by
  intros
  kernel_rfl
theorem l1In.gof : GoF Try.prog 44 := ⟨_, Try.func44, by kernel_rfl, by kernel_rfl⟩
theorem l1In.sound (n : Nat) : Sound Try.prog 44 (l1In.mng n) := runF_sound (fn := Try.f44) (m := l1In.mng n) (c := l1In.cfg n) (regOK mixed (opOK (.of (c := l1In.cfg n) trivial)) (tysOK tys_ok)) (tysOK tys_ok) Try.func44 (fun x => (l1In.eq n x.1 x.2.1 x.2.2.1).symm)

def sExpand.las : List (Nat × LA) := [(1, ⟨[(4, .own 1000 I), (11, .int .i64)], [(1000, .row true I)], [9, 10], []⟩), (6, ⟨[(4, .own 1000 I), (7, .int .i64)], [(1000, .row true I)], [6, 9, 10, 11], []⟩)]
noncomputable def sExpand.f (n : Nat) (a0 : List Loop) : Option ((List Int) × (Bool × Unit)) := iter (α := (Int × (List Int) × Unit)) n (fun ih16 x15 => br (decide (x15.1 < (a0.length : Int))) (chk (0 ≤ x15.1 ∧ x15.1 < (a0.length : Int)) (let v17 := (a0.getD x15.1.toNat zLoop); (l1In.f n v17.2 0 (w64 (1600 - (x15.2.1.length : Int)))).bind fun r18 => br (!r18.1) (some ([], (false, ()))) (iter (α := (Int × (List Int) × Unit)) n (fun ih27 x26 => br (decide (x26.1 < v17.2)) (chk ((x26.2.1.length + ([v17.1] : List Int).length) * 8 ≤ maxB) (ih27 ((w64 (x26.1 + 1)), ((x26.2.1 ++ [v17.1]), ())))) (ih16 ((w64 (x15.1 + 1)), (x26.2.1, ())))) (0, (x15.2.1, ()))))) (some (x15.2.1, (true, ())))) (0, ([], ()))
noncomputable def sExpand.mng (n : Nat) : Mng := ⟨[.val (.sl tLoop)], [.val IS, .val .bool], fun x => sExpand.f n x.1⟩
noncomputable def sExpand.cfg (n : Nat) : Cfg := ⟨tys, [(44, l1In.mng n)]⟩
theorem sExpand.eq : ∀ (n : Nat) (a0 : List Loop), runF (sExpand.cfg n) n Try.f26 (annOf Try.f26 sExpand.las) [.val (.sl tLoop)] [.val IS, .val .bool] (a0, ()) = sExpand.f n a0 := by
  intros
  kernel_rfl
theorem sExpand.gof : GoF Try.prog 26 := ⟨_, Try.func26, by kernel_rfl, by kernel_rfl⟩
theorem sExpand.sound (n : Nat) : Sound Try.prog 26 (sExpand.mng n) := runF_sound (fn := Try.f26) (m := sExpand.mng n) (c := sExpand.cfg n) (regOK mixed (opOK (.of (c := sExpand.cfg n) ⟨⟨l1In.sound n, l1In.gof⟩, trivial⟩)) (tysOK tys_ok)) (tysOK tys_ok) Try.func26 (fun x => (sExpand.eq n x.1).symm)

def mul64.las : List (Nat × LA) := []
noncomputable def mul64.f (n : Nat) (a0 : Int) (a1 : Int) : Option (Int × (Int × Unit)) := if 32 < 0 then none else if 32 < 0 then none else if 32 < 0 then none else if 32 < 0 then none else if 32 < 0 then none else some ((IntKind.wrap .u64 ((IntKind.wrap .u64 ((IntKind.wrap .u64 ((a0.fdiv (2 ^ (min 32 IntKind.u64.bits))) * (a1.fdiv (2 ^ (min 32 IntKind.u64.bits))))) + ((IntKind.wrap .u64 ((IntKind.wrap .u64 ((a0.fdiv (2 ^ (min 32 IntKind.u64.bits))) * (bitsF .and .u64 a1 4294967295))) + ((IntKind.wrap .u64 ((bitsF .and .u64 a0 4294967295) * (bitsF .and .u64 a1 4294967295))).fdiv (2 ^ (min 32 IntKind.u64.bits))))).fdiv (2 ^ (min 32 IntKind.u64.bits))))) + ((IntKind.wrap .u64 ((bitsF .and .u64 (IntKind.wrap .u64 ((IntKind.wrap .u64 ((a0.fdiv (2 ^ (min 32 IntKind.u64.bits))) * (bitsF .and .u64 a1 4294967295))) + ((IntKind.wrap .u64 ((bitsF .and .u64 a0 4294967295) * (bitsF .and .u64 a1 4294967295))).fdiv (2 ^ (min 32 IntKind.u64.bits))))) 4294967295) + (IntKind.wrap .u64 ((bitsF .and .u64 a0 4294967295) * (a1.fdiv (2 ^ (min 32 IntKind.u64.bits))))))).fdiv (2 ^ (min 32 IntKind.u64.bits))))), ((IntKind.wrap .u64 (a0 * a1)), ()))
noncomputable def mul64.mng (n : Nat) : Mng := ⟨[.val (.int .u64), .val (.int .u64)], [.val (.int .u64), .val (.int .u64)], fun x => mul64.f n x.1 x.2.1⟩
noncomputable def mul64.cfg (n : Nat) : Cfg := ⟨tys, []⟩
theorem mul64.eq : ∀ (n : Nat) (a0 : Int) (a1 : Int), runF (mul64.cfg n) n Try.f77 (annOf Try.f77 mul64.las) [.val (.int .u64), .val (.int .u64)] [.val (.int .u64), .val (.int .u64)] (a0, (a1, ())) = mul64.f n a0 a1 := by
  intros
  kernel_rfl
theorem mul64.gof : GoF Try.prog 77 := ⟨_, Try.func77, by kernel_rfl, by kernel_rfl⟩
theorem mul64.sound (n : Nat) : Sound Try.prog 77 (mul64.mng n) := runF_sound (fn := Try.f77) (m := mul64.mng n) (c := mul64.cfg n) (regOK mixed (opOK (.of (c := mul64.cfg n) trivial)) (tysOK tys_ok)) (tysOK tys_ok) Try.func77 (fun x => (mul64.eq n x.1 x.2.1).symm)

def mul.las : List (Nat × LA) := []
noncomputable def mul.f (n : Nat) (a0 : Int) (a1 : Int) : Option (Int × (Int × Unit)) := (mul64.f n a0 a1).bind fun r1 => some (r1.1, (r1.2.1, ()))
noncomputable def mul.mng (n : Nat) : Mng := ⟨[.val (.int .u64), .val (.int .u64)], [.val (.int .u64), .val (.int .u64)], fun x => mul.f n x.1 x.2.1⟩
noncomputable def mul.cfg (n : Nat) : Cfg := ⟨tys, [(77, mul64.mng n)]⟩
theorem mul.eq : ∀ (n : Nat) (a0 : Int) (a1 : Int), runF (mul.cfg n) n Try.f68 (annOf Try.f68 mul.las) [.val (.int .u64), .val (.int .u64)] [.val (.int .u64), .val (.int .u64)] (a0, (a1, ())) = mul.f n a0 a1 := by
  intros
  kernel_rfl
theorem mul.gof : GoF Try.prog 68 := ⟨_, Try.func68, by kernel_rfl, by kernel_rfl⟩
theorem mul.sound (n : Nat) : Sound Try.prog 68 (mul.mng n) := runF_sound (fn := Try.f68) (m := mul.mng n) (c := mul.cfg n) (regOK mixed (opOK (.of (c := mul.cfg n) ⟨⟨mul64.sound n, mul64.gof⟩, trivial⟩)) (tysOK tys_ok)) (tysOK tys_ok) Try.func68 (fun x => (mul.eq n x.1 x.2.1).symm)

def repeatI.las : List (Nat × LA) := [(3, ⟨[(7, .own 1000 I), (8, .int .i64)], [(1000, .row true I)], [], []⟩)]
noncomputable def repeatI.f (n : Nat) (a0 : List Int) (a1 : Int) : Option ((List Int) × Unit) := br (decide (a1 < 0)) (none) ((mul.f n (IntKind.wrap .u64 ((a0.length : Int))) (IntKind.wrap .u64 (a1))).bind fun r1 => br (decide (0 < r1.1)) (none) (br (decide (9223372036854775807 < r1.2.1)) (none) (chk ((w64 (r1.2.1)) = (w64 (r1.2.1)) ∧ 0 ≤ (w64 (r1.2.1)) ∧ (w64 (r1.2.1)) * (8 : Int) ≤ (maxB : Int)) (let v2 := ((List.replicate (w64 (r1.2.1)).toNat (0 : Int)).take 0 ++ (a0.take (List.replicate (w64 (r1.2.1)).toNat (0 : Int)).length ++ (List.replicate (w64 (r1.2.1)).toNat (0 : Int)).drop (0 + min a0.length (List.replicate (w64 (r1.2.1)).toNat (0 : Int)).length))); iter (α := (Int × (List Int) × Unit)) n (fun ih8 x7 => br (decide (x7.1 < (x7.2.1.length : Int))) (chk (0 ≤ x7.1 ∧ x7.1 ≤ (x7.2.1.length : Int) ∧ (x7.2.1.length : Int) ≤ (x7.2.1.length : Int)) (chk ((0 : Int) ≤ 0 ∧ (0 : Int) ≤ x7.1 ∧ x7.1 ≤ (x7.2.1.length : Int)) (let v9 := ((x7.2.1.drop 0).take (x7.1.toNat - 0)); let v10 := (x7.2.1.take x7.1.toNat ++ (v9.take ((x7.2.1.length : Int).toNat - x7.1.toNat) ++ x7.2.1.drop (x7.1.toNat + min v9.length ((x7.2.1.length : Int).toNat - x7.1.toNat)))); ih8 ((w64 (x7.1 + ((min v9.length ((x7.2.1.length : Int).toNat - x7.1.toNat) : Nat) : Int))), (v10, ()))))) (some (x7.2.1, ()))) (((min a0.length (List.replicate (w64 (r1.2.1)).toNat (0 : Int)).length : Nat) : Int), (v2, ()))))))
noncomputable def repeatI.mng (n : Nat) : Mng := ⟨[.val IS, .val I], [.val IS], fun x => repeatI.f n x.1 x.2.1⟩
noncomputable def repeatI.cfg (n : Nat) : Cfg := ⟨tys, [(68, mul.mng n)]⟩
theorem repeatI.eq : ∀ (n : Nat) (a0 : List Int) (a1 : Int), runF (repeatI.cfg n) n Try.f50 (annOf Try.f50 repeatI.las) [.val IS, .val I] [.val IS] (a0, (a1, ())) = repeatI.f n a0 a1 := by
  intros
  kernel_rfl
theorem repeatI.gof : GoF Try.prog 50 := ⟨_, Try.func50, by kernel_rfl, by kernel_rfl⟩
theorem repeatI.sound (n : Nat) : Sound Try.prog 50 (repeatI.mng n) := runF_sound (fn := Try.f50) (m := repeatI.mng n) (c := repeatI.cfg n) (regOK mixed (opOK (.of (c := repeatI.cfg n) ⟨⟨mul.sound n, mul.gof⟩, trivial⟩)) (tysOK tys_ok)) (tysOK tys_ok) Try.func50 (fun x => (repeatI.eq n x.1 x.2.1).symm)

def iExpand.las : List (Nat × LA) := [(1, ⟨[(4, .own 1000 I), (10, .int .i64)], [(1000, .row true I)], [8, 9], []⟩)]
noncomputable def iExpand.f (n : Nat) (a0 : List Loop) : Option ((List Int) × (Bool × Unit)) := iter (α := (Int × (List Int) × Unit)) n (fun ih7 x6 => br (decide (x6.1 < (a0.length : Int))) (chk (0 ≤ x6.1 ∧ x6.1 < (a0.length : Int)) (let v8 := (a0.getD x6.1.toNat zLoop); br (decide (v8.2 < 0)) (some ([], (false, ()))) (br (decide ((w64 (1600 - (x6.2.1.length : Int))) < v8.2)) (some ([], (false, ()))) ((repeatI.f n ([v8.1] : List Int) v8.2).bind fun r9 => chk ((x6.2.1.length + r9.1.length) * 8 ≤ maxB) (ih7 ((w64 (x6.1 + 1)), ((x6.2.1 ++ r9.1), ()))))))) (some (x6.2.1, (true, ())))) (0, ([], ()))
noncomputable def iExpand.mng (n : Nat) : Mng := ⟨[.val (.sl tLoop)], [.val IS, .val .bool], fun x => iExpand.f n x.1⟩
noncomputable def iExpand.cfg (n : Nat) : Cfg := ⟨tys, [(50, repeatI.mng n)]⟩
theorem iExpand.eq : ∀ (n : Nat) (a0 : List Loop), runF (iExpand.cfg n) n Try.f28 (annOf Try.f28 iExpand.las) [.val (.sl tLoop)] [.val IS, .val .bool] (a0, ()) = iExpand.f n a0 := by
  intros
  kernel_rfl
theorem iExpand.gof : GoF Try.prog 28 := ⟨_, Try.func28, by kernel_rfl, by kernel_rfl⟩
theorem iExpand.sound (n : Nat) : Sound Try.prog 28 (iExpand.mng n) := runF_sound (fn := Try.f28) (m := iExpand.mng n) (c := iExpand.cfg n) (regOK mixed (opOK (.of (c := iExpand.cfg n) ⟨⟨repeatI.sound n, repeatI.gof⟩, trivial⟩)) (tysOK tys_ok)) (tysOK tys_ok) Try.func28 (fun x => (iExpand.eq n x.1).symm)

def eqIntS.las : List (Nat × LA) := [(2, ⟨[(5, .int .i64)], [], [0, 1], []⟩)]
noncomputable def eqIntS.f (n : Nat) (a0 : List Int) (a1 : List Int) : Option (Bool × Unit) := br (!decide ((a0.length : Int) = (a1.length : Int))) (some (false, ())) (iter (α := (Int × Unit)) n (fun ih5 x4 => br (decide (x4.1 < (a0.length : Int))) (chk (0 ≤ x4.1 ∧ x4.1 < (a0.length : Int)) (chk (0 ≤ x4.1 ∧ x4.1 < (a1.length : Int)) (br (!decide ((a0.getD x4.1.toNat 0) = (a1.getD x4.1.toNat 0))) (some (false, ())) (ih5 ((w64 (x4.1 + 1)), ()))))) (some (true, ()))) (0, ()))
noncomputable def eqIntS.mng (n : Nat) : Mng := ⟨[.val IS, .val IS], [.val .bool], fun x => eqIntS.f n x.1 x.2.1⟩
noncomputable def eqIntS.cfg (n : Nat) : Cfg := ⟨tys, []⟩
theorem eqIntS.eq : ∀ (n : Nat) (a0 : List Int) (a1 : List Int), runF (eqIntS.cfg n) n Try.f16 (annOf Try.f16 eqIntS.las) [.val IS, .val IS] [.val .bool] (a0, (a1, ())) = eqIntS.f n a0 a1 := by
  intros
  kernel_rfl
theorem eqIntS.gof : GoF Try.prog 16 := ⟨_, Try.func16, by kernel_rfl, by kernel_rfl⟩
theorem eqIntS.sound (n : Nat) : Sound Try.prog 16 (eqIntS.mng n) := runF_sound (fn := Try.f16) (m := eqIntS.mng n) (c := eqIntS.cfg n) (regOK mixed (opOK (.of (c := eqIntS.cfg n) trivial)) (tysOK tys_ok)) (tysOK tys_ok) Try.func16 (fun x => (eqIntS.eq n x.1 x.2.1).symm)

def eqLoop.las : List (Nat × LA) := []
noncomputable def eqLoop.f (n : Nat) (a0 : Loop) (a1 : Loop) : Option (Bool × Unit) := br (!decide (a0.1 = a1.1)) (some (false, ())) (br (!decide (a0.2 = a1.2)) (some (false, ())) (some (true, ())))
noncomputable def eqLoop.mng (n : Nat) : Mng := ⟨[.val tLoop, .val tLoop], [.val .bool], fun x => eqLoop.f n x.1 x.2.1⟩
noncomputable def eqLoop.cfg (n : Nat) : Cfg := ⟨tys, []⟩
theorem eqLoop.eq : ∀ (n : Nat) (a0 : Loop) (a1 : Loop), runF (eqLoop.cfg n) n Try.f42 (annOf Try.f42 eqLoop.las) [.val tLoop, .val tLoop] [.val .bool] (a0, (a1, ())) = eqLoop.f n a0 a1 := by
  intros
  kernel_rfl
theorem eqLoop.gof : GoF Try.prog 42 := ⟨_, Try.func42, by kernel_rfl, by kernel_rfl⟩
theorem eqLoop.sound (n : Nat) : Sound Try.prog 42 (eqLoop.mng n) := runF_sound (fn := Try.f42) (m := eqLoop.mng n) (c := eqLoop.cfg n) (regOK mixed (opOK (.of (c := eqLoop.cfg n) trivial)) (tysOK tys_ok)) (tysOK tys_ok) Try.func42 (fun x => (eqLoop.eq n x.1 x.2.1).symm)

def eqLoopS.las : List (Nat × LA) := [(2, ⟨[(5, .int .i64)], [], [0, 1], []⟩)]
noncomputable def eqLoopS.f (n : Nat) (a0 : List Loop) (a1 : List Loop) : Option (Bool × Unit) := br (!decide ((a0.length : Int) = (a1.length : Int))) (some (false, ())) (iter (α := (Int × Unit)) n (fun ih6 x5 => br (decide (x5.1 < (a0.length : Int))) (chk (0 ≤ x5.1 ∧ x5.1 < (a0.length : Int)) (let v7 := (a0.getD x5.1.toNat zLoop); chk (0 ≤ x5.1 ∧ x5.1 < (a1.length : Int)) (let v8 := (a1.getD x5.1.toNat zLoop); (eqLoop.f n v7 v8).bind fun r9 => br (!r9.1) (some (false, ())) (ih6 ((w64 (x5.1 + 1)), ()))))) (some (true, ()))) (0, ()))
noncomputable def eqLoopS.mng (n : Nat) : Mng := ⟨[.val (.sl tLoop), .val (.sl tLoop)], [.val .bool], fun x => eqLoopS.f n x.1 x.2.1⟩
noncomputable def eqLoopS.cfg (n : Nat) : Cfg := ⟨tys, [(42, eqLoop.mng n)]⟩
theorem eqLoopS.eq : ∀ (n : Nat) (a0 : List Loop) (a1 : List Loop), runF (eqLoopS.cfg n) n Try.f15 (annOf Try.f15 eqLoopS.las) [.val (.sl tLoop), .val (.sl tLoop)] [.val .bool] (a0, (a1, ())) = eqLoopS.f n a0 a1 := by
  intros
  kernel_rfl
theorem eqLoopS.gof : GoF Try.prog 15 := ⟨_, Try.func15, by kernel_rfl, by kernel_rfl⟩
theorem eqLoopS.sound (n : Nat) : Sound Try.prog 15 (eqLoopS.mng n) := runF_sound (fn := Try.f15) (m := eqLoopS.mng n) (c := eqLoopS.cfg n) (regOK mixed (opOK (.of (c := eqLoopS.cfg n) ⟨⟨eqLoop.sound n, eqLoop.gof⟩, trivial⟩)) (tysOK tys_ok)) (tysOK tys_ok) Try.func15 (fun x => (eqLoopS.eq n x.1 x.2.1).symm)

def markIntS.las : List (Nat × LA) := [(1, ⟨[(0, .own 0 I), (1, .int .i64), (5, .int .i64)], [(0, .row true I)], [], []⟩)]
noncomputable def markIntS.f (n : Nat) (a0 : List Int) (a1 : Int) : Option (Int × (List Int) × Unit) := iter (α := (Int × (Int × (List Int) × Unit))) n (fun ih5 x4 => br (decide (x4.2.1 < (x4.2.2.1.length : Int))) (chk (0 ≤ x4.2.1 ∧ x4.2.1 < (x4.2.2.1.length : Int)) (let v6 := (x4.2.2.1.set x4.2.1.toNat x4.1); ih5 ((w64 (x4.1 + 1)), ((w64 (x4.2.1 + 1)), (v6, ()))))) (some (x4.1, (x4.2.2.1, ())))) (a1, (0, (a0, ())))
noncomputable def markIntS.mng (n : Nat) : Mng := ⟨[.io IS, .val I], [.val I], fun x => markIntS.f n x.1 x.2.1⟩
noncomputable def markIntS.cfg (n : Nat) : Cfg := ⟨tys, []⟩
theorem markIntS.eq : ∀ (n : Nat) (a0 : List Int) (a1 : Int), runF (markIntS.cfg n) n Try.f17 (annOf Try.f17 markIntS.las) [.io IS, .val I] [.val I] (a0, (a1, ())) = markIntS.f n a0 a1 := by
  intros
  kernel_rfl
theorem markIntS.gof : GoF Try.prog 17 := ⟨_, Try.func17, by kernel_rfl, by kernel_rfl⟩
theorem markIntS.sound (n : Nat) : Sound Try.prog 17 (markIntS.mng n) := runF_sound (fn := Try.f17) (m := markIntS.mng n) (c := markIntS.cfg n) (regOK mixed (opOK (.of (c := markIntS.cfg n) trivial)) (tysOK tys_ok)) (tysOK tys_ok) Try.func17 (fun x => (markIntS.eq n x.1 x.2.1).symm)

def heldIntS.las : List (Nat × LA) := [(1, ⟨[(1, .int .i64), (5, .int .i64)], [], [0], []⟩)]
noncomputable def heldIntS.f (n : Nat) (a0 : List Int) (a1 : Int) : Option (Int × Unit) := iter (α := (Int × (Int × Unit))) n (fun ih5 x4 => br (decide (x4.2.1 < (a0.length : Int))) (chk (0 ≤ x4.2.1 ∧ x4.2.1 < (a0.length : Int)) (br (!decide ((a0.getD x4.2.1.toNat 0) = x4.1)) (some ((-1), ())) (ih5 ((w64 (x4.1 + 1)), ((w64 (x4.2.1 + 1)), ()))))) (some (x4.1, ()))) (a1, (0, ()))
noncomputable def heldIntS.mng (n : Nat) : Mng := ⟨[.val IS, .val I], [.val I], fun x => heldIntS.f n x.1 x.2.1⟩
noncomputable def heldIntS.cfg (n : Nat) : Cfg := ⟨tys, []⟩
theorem heldIntS.eq : ∀ (n : Nat) (a0 : List Int) (a1 : Int), runF (heldIntS.cfg n) n Try.f29 (annOf Try.f29 heldIntS.las) [.val IS, .val I] [.val I] (a0, (a1, ())) = heldIntS.f n a0 a1 := by
  intros
  kernel_rfl
theorem heldIntS.gof : GoF Try.prog 29 := ⟨_, Try.func29, by kernel_rfl, by kernel_rfl⟩
theorem heldIntS.sound (n : Nat) : Sound Try.prog 29 (heldIntS.mng n) := runF_sound (fn := Try.f29) (m := heldIntS.mng n) (c := heldIntS.cfg n) (regOK mixed (opOK (.of (c := heldIntS.cfg n) trivial)) (tysOK tys_ok)) (tysOK tys_ok) Try.func29 (fun x => (heldIntS.eq n x.1 x.2.1).symm)

def markLoopS.las : List (Nat × LA) := [(1, ⟨[(0, .own 0 tLoop), (1, .int .i64), (5, .int .i64)], [(0, .row true tLoop)], [], []⟩)]
noncomputable def markLoopS.f (n : Nat) (a0 : List Loop) (a1 : Int) : Option (Int × (List Loop) × Unit) := iter (α := (Int × (Int × (List Loop) × Unit))) n (fun ih7 x6 => br (decide (x6.2.1 < (x6.2.2.1.length : Int))) (chk (0 ≤ x6.2.1 ∧ x6.2.1 < (x6.2.2.1.length : Int)) (let v8 := (x6.2.2.1.set x6.2.1.toNat (x6.1, (x6.2.2.1.getD x6.2.1.toNat zLoop).2)); chk (0 ≤ x6.2.1 ∧ x6.2.1 < (v8.length : Int)) (let v9 := (v8.set x6.2.1.toNat ((v8.getD x6.2.1.toNat zLoop).1, (w64 (x6.1 + 1)))); ih7 ((w64 ((w64 (x6.1 + 1)) + 1)), ((w64 (x6.2.1 + 1)), (v9, ())))))) (some (x6.1, (x6.2.2.1, ())))) (a1, (0, (a0, ())))
noncomputable def markLoopS.mng (n : Nat) : Mng := ⟨[.io (.sl tLoop), .val I], [.val I], fun x => markLoopS.f n x.1 x.2.1⟩
noncomputable def markLoopS.cfg (n : Nat) : Cfg := ⟨tys, []⟩
theorem markLoopS.eq : ∀ (n : Nat) (a0 : List Loop) (a1 : Int), runF (markLoopS.cfg n) n Try.f18 (annOf Try.f18 markLoopS.las) [.io (.sl tLoop), .val I] [.val I] (a0, (a1, ())) = markLoopS.f n a0 a1 := by
  intros
  kernel_rfl
theorem markLoopS.gof : GoF Try.prog 18 := ⟨_, Try.func18, by kernel_rfl, by kernel_rfl⟩
theorem markLoopS.sound (n : Nat) : Sound Try.prog 18 (markLoopS.mng n) := runF_sound (fn := Try.f18) (m := markLoopS.mng n) (c := markLoopS.cfg n) (regOK mixed (opOK (.of (c := markLoopS.cfg n) trivial)) (tysOK tys_ok)) (tysOK tys_ok) Try.func18 (fun x => (markLoopS.eq n x.1 x.2.1).symm)

def law.las : List (Nat × LA) := []
noncomputable def law.f (n : Nat) (a0 : List Loop) : Option (Bool × Unit) := (szLoopS.f n a0 1048576).bind fun r1 => br (decide (r1.1 < 0)) (some (true, ())) ((toLoopS.f n a0).bind fun r2 => (sExpand.f n r2.1).bind fun r3 => (toLoopS.f n a0).bind fun r4 => (iExpand.f n r4.1).bind fun r5 => (eqIntS.f n r5.1 r3.1).bind fun r6 => br (!r6.1) (some (false, ())) (br (!decide (r5.2.1 = r3.2.1)) (some (false, ())) ((toLoopS.f n a0).bind fun r7 => (eqLoopS.f n r4.1 r7.1).bind fun r8 => br (!r8.1) (some (false, ())) ((markLoopS.f n r4.1 1).bind fun r9 => br (decide (r9.1 < 0)) (some (false, ())) ((eqIntS.f n r5.1 r3.1).bind fun r10 => br (!r10.1) (some (false, ())) (br (!decide (r5.2.1 = r3.2.1)) (some (false, ())) ((markIntS.f n r5.1 1).bind fun r11 => (heldIntS.f n r11.2.1 1).bind fun r12 => br (decide (r12.1 < 0)) (some (false, ())) (br (!decide (r12.1 = r11.1)) (some (false, ())) ((toLoopS.f n a0).bind fun r13 => (iExpand.f n r13.1).bind fun r14 => (eqIntS.f n r14.1 r3.1).bind fun r15 => br (!r15.1) (some (false, ())) (br (!decide (r14.2.1 = r3.2.1)) (some (false, ())) ((heldIntS.f n r11.2.1 1).bind fun r16 => br (decide (r16.1 < 0)) (some (false, ())) (br (!decide (r16.1 = r11.1)) (some (false, ())) (some (true, ()))))))))))))))
noncomputable def law.mng (n : Nat) : Mng := ⟨[.val (.sl tLoop)], [.val .bool], fun x => law.f n x.1⟩
noncomputable def law.cfg (n : Nat) : Cfg := ⟨tys, [(25, szLoopS.mng n), (27, toLoopS.mng n), (26, sExpand.mng n), (28, iExpand.mng n), (16, eqIntS.mng n), (15, eqLoopS.mng n), (18, markLoopS.mng n), (17, markIntS.mng n), (29, heldIntS.mng n)]⟩
theorem law.eq : ∀ (n : Nat) (a0 : List Loop), runF (law.cfg n) n Try.f5 (annOf Try.f5 law.las) [.val (.sl tLoop)] [.val .bool] (a0, ()) = law.f n a0 := by
  intros
  kernel_rfl
theorem law.gof : GoF Try.prog 5 := ⟨_, Try.func5, by kernel_rfl, by kernel_rfl⟩
theorem law.sound (n : Nat) : Sound Try.prog 5 (law.mng n) := runF_sound (fn := Try.f5) (m := law.mng n) (c := law.cfg n) (regOK mixed (opOK (.of (c := law.cfg n) ⟨⟨szLoopS.sound n, szLoopS.gof⟩, ⟨⟨toLoopS.sound n, toLoopS.gof⟩, ⟨⟨sExpand.sound n, sExpand.gof⟩, ⟨⟨iExpand.sound n, iExpand.gof⟩, ⟨⟨eqIntS.sound n, eqIntS.gof⟩, ⟨⟨eqLoopS.sound n, eqLoopS.gof⟩, ⟨⟨markLoopS.sound n, markLoopS.gof⟩, ⟨⟨markIntS.sound n, markIntS.gof⟩, ⟨⟨heldIntS.sound n, heldIntS.gof⟩, trivial⟩⟩⟩⟩⟩⟩⟩⟩⟩)) (tysOK tys_ok)) (tysOK tys_ok) Try.func5 (fun x => (law.eq n x.1).symm)
end Go.AmT
