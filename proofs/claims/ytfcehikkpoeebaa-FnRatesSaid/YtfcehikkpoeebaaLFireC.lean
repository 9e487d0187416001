/- Functions that the law FnRates reaches, each as a plain Lean function, and that each does what that says. No condition. -/
import Derived.Test.YtfcehikkpoeebaaPNetOf
namespace Go.AmT
open Go Go.Am Go.Proofs
set_option linter.unusedVariables false
set_option maxRecDepth 100000
def tys12 : List (Nat × TInfo) := [(3, ⟨false, 1, 8, [.int .i64 0], .int .i64, 0, some I, [], false⟩),
  (23, ⟨false, 1, 24, [.nil], .slice, 38, some (.sl tEdge), [], false⟩),
  (25, ⟨true, 2, 32, [.int .i64 0, .nil], .struct, 0, some tGraph, [(0, 3), (1, 23)], false⟩),
  (33, ⟨false, 1, 24, [.nil], .slice, 3, some IS, [], false⟩),
  (38, ⟨true, 5, 40, [.int .i64 0, .int .i64 0, .int .i64 0, .int .i64 0, .int .i64 0], .struct, 0, some tEdge, [(0, 3), (1, 3), (2, 3), (3, 3), (4, 3)], false⟩)]
theorem tys12_ok : (tys12.all fun p => tokB Try.prog p.1 p.2) = true := by kernel_rfl

def l1Copy.las : List (Nat × LA) := []
noncomputable def l1Copy.f (n : Nat) (a0 : List Int) : Option ((List Int) × Unit) := chk ((([] : List Int).length + a0.length) * 8 ≤ maxB) (some ((([] : List Int) ++ a0), ()))
noncomputable def l1Copy.mng (n : Nat) : Mng := ⟨[.val IS], [.val IS], fun x => l1Copy.f n x.1⟩
noncomputable def l1Copy.cfg (n : Nat) : Cfg := ⟨tys12, [], [], []⟩
theorem l1Copy.eq : ∀ (n : Nat) (a0 : List Int), runF (l1Copy.cfg n) n Try.f56 (annOf Try.f56 l1Copy.las) [.val IS] [.val IS] (a0, ()) = l1Copy.f n a0 := by
  intros
  kernel_rfl
theorem l1Copy.gof : GoF Try.prog 56 := ⟨_, Try.func56, by kernel_rfl, by kernel_rfl⟩
theorem l1Copy.sound (n : Nat) : Sound Try.prog 56 (l1Copy.mng n) := runF_sound (fn := Try.f56) (m := l1Copy.mng n) (c := l1Copy.cfg n) (regOK mixed (opOK (.of (c := l1Copy.cfg n) trivial) (.of (c := l1Copy.cfg n) trivial)) (tysOK tys12_ok)) (tysOK tys12_ok) Try.func56 (fun x => (l1Copy.eq n x.1).symm)

def l7Fire.las : List (Nat × LA) := [(4, ⟨[(8, .own 1000 I), (18, .int .i64)], [(1000, .row true I)], [2, 3, 16, 17], []⟩), (18, ⟨[(8, .own 1000 I), (48, .int .i64)], [(1000, .row true I)], [2, 46, 47], []⟩)]
noncomputable def l7Fire.f (n : Nat) (a0 : Graph) (a1 : List Int) (a2 : Int) : Option ((List Int) × (Bool × Unit)) := (l1Copy.f n a1).bind fun r1 => iter (α := (Int × (List Int) × Unit)) n (fun ih15 x14 => br (decide (x14.1 < (a0.2.length : Int))) (chk (0 ≤ x14.1 ∧ x14.1 < (a0.2.length : Int)) (let v16 := (a0.2.getD x14.1.toNat zEdge); br (decide (v16.2.1 = a2)) (chk (0 ≤ x14.1 ∧ x14.1 < (x14.2.1.length : Int)) (br (decide ((x14.2.1.getD x14.1.toNat 0) < v16.2.2.2.1)) (some ([], (false, ()))) (chk (0 ≤ x14.1 ∧ x14.1 < (x14.2.1.length : Int)) (chk (0 ≤ x14.1 ∧ x14.1 < (x14.2.1.length : Int)) (let v17 := (x14.2.1.set x14.1.toNat (w64 ((x14.2.1.getD x14.1.toNat 0) - v16.2.2.2.1))); ih15 ((w64 (x14.1 + 1)), (v17, ()))))))) (ih15 ((w64 (x14.1 + 1)), (x14.2.1, ()))))) (iter (α := (Int × (List Int) × Unit)) n (fun ih26 x25 => br (decide (x25.1 < (a0.2.length : Int))) (chk (0 ≤ x25.1 ∧ x25.1 < (a0.2.length : Int)) (let v27 := (a0.2.getD x25.1.toNat zEdge); br (decide (v27.1 = a2)) (chk (0 ≤ x25.1 ∧ x25.1 < (x25.2.1.length : Int)) (chk (0 ≤ x25.1 ∧ x25.1 < (x25.2.1.length : Int)) (let v28 := (x25.2.1.set x25.1.toNat (w64 ((x25.2.1.getD x25.1.toNat 0) + v27.2.2.1))); ih26 ((w64 (x25.1 + 1)), (v28, ()))))) (ih26 ((w64 (x25.1 + 1)), (x25.2.1, ()))))) (some (x25.2.1, (true, ())))) (0, (x14.2.1, ())))) (0, (r1.1, ()))
noncomputable def l7Fire.mng (n : Nat) : Mng := ⟨[.val tGraph, .val IS, .val I], [.val IS, .val .bool], fun x => l7Fire.f n x.1 x.2.1 x.2.2.1⟩
noncomputable def l7Fire.cfg (n : Nat) : Cfg := ⟨tys12, [(56, l1Copy.mng n)], [], []⟩
theorem l7Fire.eq : ∀ (n : Nat) (a0 : Graph) (a1 : List Int) (a2 : Int), runF (l7Fire.cfg n) n Try.f26 (annOf Try.f26 l7Fire.las) [.val tGraph, .val IS, .val I] [.val IS, .val .bool] (a0, (a1, (a2, ()))) = l7Fire.f n a0 a1 a2 := by
  intros
  kernel_rfl
theorem l7Fire.gof : GoF Try.prog 26 := ⟨_, Try.func26, by kernel_rfl, by kernel_rfl⟩
theorem l7Fire.sound (n : Nat) : Sound Try.prog 26 (l7Fire.mng n) := runF_sound (fn := Try.f26) (m := l7Fire.mng n) (c := l7Fire.cfg n) (regOK mixed (opOK (.of (c := l7Fire.cfg n) ⟨⟨l1Copy.sound n, l1Copy.gof⟩, trivial⟩) (.of (c := l7Fire.cfg n) trivial)) (tysOK tys12_ok)) (tysOK tys12_ok) Try.func26 (fun x => (l7Fire.eq n x.1 x.2.1 x.2.2.1).symm)

def fire.las : List (Nat × LA) := [(1, ⟨[(18, .bool)], [], [1, 2, 3], [1]⟩), (6, ⟨[(22, .int .i64)], [], [1, 2, 3, 20, 21], [1]⟩), (17, ⟨[(1, .own 1 I), (44, .int .i64)], [(1, .row true I)], [2, 42, 43], []⟩), (23, ⟨[(1, .own 1 I)], [(1, .row true I)], [2, 9, 10, 42, 43, 44], []⟩)]
noncomputable def fire.f (n : Nat) (a0 : Graph) (a1 : List Int) (a2 : Int) : Option (Bool × (List Int) × Unit) := cut (α := (Bool × Unit)) (br (decide (a2 < 0)) (some (.inr (true, ()))) (some (.inr ((decide (a0.1 ≤ a2)), ())))) fun y1 => br y1.1 (some (false, (a1, ()))) (iter (α := (Int × Unit)) n (fun ih13 x12 => br (decide (x12.1 < (a0.2.length : Int))) (chk (0 ≤ x12.1 ∧ x12.1 < (a0.2.length : Int)) (let v14 := (a0.2.getD x12.1.toNat zEdge); br (decide (v14.2.1 = a2)) (chk (0 ≤ x12.1 ∧ x12.1 < (a1.length : Int)) (br (decide ((a1.getD x12.1.toNat 0) < v14.2.2.2.1)) (some (false, (a1, ()))) (ih13 ((w64 (x12.1 + 1)), ())))) (ih13 ((w64 (x12.1 + 1)), ())))) (iter (α := (Int × (List Int) × Unit)) n (fun ih26 x25 => br (decide (x25.1 < (a0.2.length : Int))) (chk (0 ≤ x25.1 ∧ x25.1 < (a0.2.length : Int)) (let v27 := (a0.2.getD x25.1.toNat zEdge); cut (α := ((List Int) × Unit)) (br (decide (v27.2.1 = a2)) (chk (0 ≤ x25.1 ∧ x25.1 < (x25.2.1.length : Int)) (chk (0 ≤ x25.1 ∧ x25.1 < (x25.2.1.length : Int)) (let v30 := (x25.2.1.set x25.1.toNat (w64 ((x25.2.1.getD x25.1.toNat 0) - v27.2.2.2.1))); some (.inr (v30, ()))))) (some (.inr (x25.2.1, ())))) fun y29 => br (decide (v27.1 = a2)) (chk (0 ≤ x25.1 ∧ x25.1 < (y29.1.length : Int)) (chk (0 ≤ x25.1 ∧ x25.1 < (y29.1.length : Int)) (let v31 := (y29.1.set x25.1.toNat (w64 ((y29.1.getD x25.1.toNat 0) + v27.2.2.1))); ih26 ((w64 (x25.1 + 1)), (v31, ()))))) (ih26 ((w64 (x25.1 + 1)), (y29.1, ()))))) (some (true, (x25.2.1, ())))) (0, (a1, ())))) (0, ()))
noncomputable def fire.mng (n : Nat) : Mng := ⟨[.val tGraph, .io IS, .val I], [.val .bool], fun x => fire.f n x.1 x.2.1 x.2.2.1⟩
noncomputable def fire.cfg (n : Nat) : Cfg := ⟨tys12, [], [], []⟩
theorem fire.eq : ∀ (n : Nat) (a0 : Graph) (a1 : List Int) (a2 : Int), runF (fire.cfg n) n Try.f36 (annOf Try.f36 fire.las) [.val tGraph, .io IS, .val I] [.val .bool] (a0, (a1, (a2, ()))) = fire.f n a0 a1 a2 := by
  intros
  kernel_rfl
theorem fire.gof : GoF Try.prog 36 := ⟨_, Try.func36, by kernel_rfl, by kernel_rfl⟩
theorem fire.sound (n : Nat) : Sound Try.prog 36 (fire.mng n) := runF_sound (fn := Try.f36) (m := fire.mng n) (c := fire.cfg n) (regOK mixed (opOK (.of (c := fire.cfg n) trivial) (.of (c := fire.cfg n) trivial)) (tysOK tys12_ok)) (tysOK tys12_ok) Try.func36 (fun x => (fire.eq n x.1 x.2.1 x.2.2.1).symm)
end Go.AmT
