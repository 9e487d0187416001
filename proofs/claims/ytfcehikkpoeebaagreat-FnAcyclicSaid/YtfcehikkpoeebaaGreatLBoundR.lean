/- Functions that the law FnAcyclic reaches, each as a plain Lean function, and that each does what that says. No condition. -/
import Derived.Test.YtfcehikkpoeebaaGreatPStk
namespace Go.AmT
open Go Go.Am Go.Proofs
set_option linter.unusedVariables false
set_option maxRecDepth 100000
def tys12 : List (Nat × TInfo) := [(3, ⟨false, 1, 8, [.int .i64 0], .int .i64, 0, some I, [], false⟩),
  (26, ⟨true, 2, 48, [.nil, .nil], .struct, 0, some tNetwork, [(0, 23), (1, 24)], false⟩),
  (29, ⟨false, 1, 24, [.nil], .slice, 40, some (.sl IS), [], false⟩),
  (43, ⟨false, 1, 24, [.nil], .slice, 76, some (.sl tActor), [], false⟩),
  (45, ⟨true, 4, 80, [.nil, .nil, .nil, .int .i64 0], .struct, 0, some tState, [(0, 43), (1, 29), (2, 29), (3, 3)], false⟩),
  (73, ⟨true, 9, 200, [.nil, .nil, .nil, .nil, .nil, .int .i64 0, .nil, .nil, .nil], .struct, 0, some tRun, [(0, 26), (2, 45), (6, 29), (7, 29), (8, 40)], false⟩)]
theorem tys12_ok : (tys12.all fun p => tokB Tryz.prog p.1 p.2) = true := by kernel_rfl

def iBound.las : List (Nat × LA) := []
noncomputable def iBound.f (n : Nat) (a0 : Run) : Option (Int × Unit) := (quiet.f n a0).bind fun r1 => br r1.1 (some (1, ())) ((stuck.f n a0).bind fun r2 => br r2.1 (some (2, ())) (some (3, ())))
noncomputable def iBound.mng (n : Nat) : Mng := ⟨[.psh tRun], [.val I], fun x => iBound.f n x.1⟩
noncomputable def iBound.cfg (n : Nat) : Cfg := ⟨tys12, [(67, quiet.mng n), (68, stuck.mng n)], [], []⟩
theorem iBound.eq : ∀ (n : Nat) (a0 : Run), runF (iBound.cfg n) n Tryz.f36 (annOf Tryz.f36 iBound.las) [.psh tRun] [.val I] (a0, ()) = iBound.f n a0 := by
  intros
  kernel_rfl
theorem iBound.gof : GoF Tryz.prog 36 := ⟨_, Tryz.func36, by kernel_rfl, by kernel_rfl⟩
theorem iBound.sound (n : Nat) : Sound Tryz.prog 36 (iBound.mng n) := runF_sound (fn := Tryz.f36) (m := iBound.mng n) (c := iBound.cfg n) (regOK mixed (opOK (.of (c := iBound.cfg n) ⟨⟨quiet.sound n, quiet.gof⟩, ⟨⟨stuck.sound n, stuck.gof⟩, trivial⟩⟩) (.of (c := iBound.cfg n) trivial)) (tysOK tys12_ok)) (tysOK tys12_ok) Tryz.func36 (fun x => (iBound.eq n x.1).symm)

def iRunBounded.las : List (Nat × LA) := []
noncomputable def iRunBounded.f (n : Nat) (a0 : Network) (a1 : State) (a2 : List Int) (a3 : Int) : Option (State × (Int × Unit)) := (iBounded.f n a0 a1 a2).bind fun r1 => br (!r1.1) (some (([], ([], ([], 0))), (0, ()))) ((boundedRun.f n a0.1 a0.2 a1.1 a1.2.1 a1.2.2.1 a1.2.2.2 a2).bind fun r2 => (turns.f n a3 r2.1 r2.2.1 r2.2.2.1 r2.2.2.2.1 r2.2.2.2.2.1 r2.2.2.2.2.2.1 r2.2.2.2.2.2.2.1 r2.2.2.2.2.2.2.2.1 r2.2.2.2.2.2.2.2.2.1).bind fun r3 => (iBound.f n ((r3.1, r3.2.1), ((r3.2.2.2.2.1, (r3.2.2.2.2.2.1, (r3.2.2.2.2.2.2.1, r3.2.2.1))), (r3.2.2.2.2.2.2.2.1, (r3.2.2.2.2.2.2.2.2.1, r3.2.2.2.1))))).bind fun r4 => some ((r3.2.2.2.2.1, (r3.2.2.2.2.2.1, (r3.2.2.2.2.2.2.1, r3.2.2.1))), (r4.1, ())))
noncomputable def iRunBounded.mng (n : Nat) : Mng := ⟨[.val tNetwork, .val tState, .val IS, .val I], [.val tState, .val I], fun x => iRunBounded.f n x.1 x.2.1 x.2.2.1 x.2.2.2.1⟩
noncomputable def iRunBounded.cfg (n : Nat) : Cfg := ⟨tys12, [(32, iBounded.mng n), (36, iBound.mng n)], [(33, boundedRun.mng n), (34, turns.mng n)], []⟩
theorem iRunBounded.eq : ∀ (n : Nat) (a0 : Network) (a1 : State) (a2 : List Int) (a3 : Int), runF (iRunBounded.cfg n) n Tryz.f13 (annOf Tryz.f13 iRunBounded.las) [.val tNetwork, .val tState, .val IS, .val I] [.val tState, .val I] (a0, (a1, (a2, (a3, ())))) = iRunBounded.f n a0 a1 a2 a3 := by
  intros
  kernel_rfl
theorem iRunBounded.gof : GoF Tryz.prog 13 := ⟨_, Tryz.func13, by kernel_rfl, by kernel_rfl⟩
theorem iRunBounded.sound (n : Nat) : Sound Tryz.prog 13 (iRunBounded.mng n) := runF_sound (fn := Tryz.f13) (m := iRunBounded.mng n) (c := iRunBounded.cfg n) (regOK mixed (opOK (.of (c := iRunBounded.cfg n) ⟨⟨iBounded.sound n, iBounded.gof⟩, ⟨⟨iBound.sound n, iBound.gof⟩, trivial⟩⟩) (.of (c := iRunBounded.cfg n) ⟨⟨boundedRun.sound n, boundedRun.gof⟩, ⟨⟨turns.sound n, turns.gof⟩, trivial⟩⟩)) (tysOK tys12_ok)) (tysOK tys12_ok) Tryz.func13 (fun x => (iRunBounded.eq n x.1 x.2.1 x.2.2.1 x.2.2.2.1).symm)
end Go.AmT
