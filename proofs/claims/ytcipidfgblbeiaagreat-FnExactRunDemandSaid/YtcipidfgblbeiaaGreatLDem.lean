/- Functions that the law FnExactRunDemand reaches, each as a plain Lean function, and that each does what that says. No condition. -/
import Derived.Test.YtcipidfgblbeiaaGreatPDem0
namespace Go.AmT
open Go Go.Am Go.Proofs
set_option linter.unusedVariables false
set_option maxRecDepth 100000
def tys11 : List (Nat × TInfo) := [(3, ⟨false, 1, 8, [.int .i64 0], .int .i64, 0, some I, [], false⟩),
  (4, ⟨false, 1, 1, [.bool false], .bool, 0, some .bool, [], false⟩),
  (25, ⟨true, 2, 48, [.nil, .nil], .struct, 0, some tNetwork, [(0, 22), (1, 23)], false⟩),
  (29, ⟨true, 4, 80, [.nil, .nil, .nil, .int .i64 0], .struct, 0, some tState, [(0, 26), (1, 27), (2, 27), (3, 3)], false⟩),
  (38, ⟨true, 2, 48, [.nil, .nil], .struct, 0, some tNetwork, [(0, 35), (1, 36)], false⟩),
  (42, ⟨true, 4, 80, [.nil, .nil, .nil, .int .i64 0], .struct, 0, some tState, [(0, 40), (1, 27), (2, 27), (3, 3)], false⟩)]
theorem tys11_ok : (tys11.all fun p => tokB Tryz.prog p.1 p.2) = true := by kernel_rfl

def law.las : List (Nat × LA) := [(14, ⟨[(65, .bool)], [], [2, 3, 4, 5, 6, 12, 13, 14, 15, 16, 17], []⟩), (26, ⟨[(94, .bool)], [], [2, 3, 4, 5, 6, 12, 13, 16], []⟩), (40, ⟨[(125, .bool)], [], [16, 19], []⟩)]
noncomputable def law.f (n : Nat) (a0 : Network) (a1 : State) (a2 : Int) (a3 : Int) (a4 : Int) : Option (Bool × Unit) := (szNetwork.f n a0 1048576).bind fun r1 => br (decide (r1.1 < 0)) (some (true, ())) ((szState.f n a1 r1.1).bind fun r2 => br (decide (r2.1 < 0)) (some (true, ())) ((toNetwork.f n a0).bind fun r3 => (toState.f n a1).bind fun r4 => (sRunDemand.f n r3.1 r4.1 a2 a3 a4).bind fun r5 => (toNetwork.f n a0).bind fun r6 => (toState.f n a1).bind fun r7 => (iRunDemand.f n r6.1 r7.1 a2 a3 a4).bind fun r8 => cut (α := (Bool × Unit)) ((eqState.f n r8.1 r5.1).bind fun r11 => br (!r11.1) (some (.inr (true, ()))) (some (.inr ((!decide (r8.2.1 = r5.2.1)), ())))) fun y10 => br y10.1 (some (false, ())) ((toNetwork.f n a0).bind fun r12 => (eqNetwork.f n r6.1 r12.1).bind fun r13 => br (!r13.1) (some (false, ())) ((toState.f n a1).bind fun r14 => (eqState.f n r7.1 r14.1).bind fun r15 => br (!r15.1) (some (false, ())) ((markNetwork.f n r6.1 1).bind fun r16 => (markState.f n r7.1 r16.1).bind fun r17 => cut (α := (Bool × Unit)) (br (decide (r17.1 < 0)) (some (.inr (true, ()))) ((eqState.f n r8.1 r5.1).bind fun r20 => br (!r20.1) (some (.inr (true, ()))) (some (.inr ((!decide (r8.2.1 = r5.2.1)), ()))))) fun y19 => br y19.1 (some (false, ())) ((markState.f n r8.1 1).bind fun r21 => (heldState.f n (r21.2.1, (r21.2.2.1, (r21.2.2.2.1, r8.1.2.2.2))) 1).bind fun r22 => br (decide (r22.1 < 0)) (some (false, ())) (br (!decide (r22.1 = r21.1)) (some (false, ())) ((toNetwork.f n a0).bind fun r23 => (toState.f n a1).bind fun r24 => (iRunDemand.f n r23.1 r24.1 a2 a3 a4).bind fun r25 => cut (α := (Bool × Unit)) ((eqState.f n r25.1 r5.1).bind fun r28 => br (!r28.1) (some (.inr (true, ()))) (some (.inr ((!decide (r25.2.1 = r5.2.1)), ())))) fun y27 => br y27.1 (some (false, ())) ((heldState.f n (r21.2.1, (r21.2.2.1, (r21.2.2.2.1, r8.1.2.2.2))) 1).bind fun r29 => br (decide (r29.1 < 0)) (some (false, ())) (br (!decide (r29.1 = r21.1)) (some (false, ())) (some (true, ()))))))))))))
noncomputable def law.mng (n : Nat) : Mng := ⟨[.val tNetwork, .val tState, .val I, .val I, .val I], [.val .bool], fun x => law.f n x.1 x.2.1 x.2.2.1 x.2.2.2.1 x.2.2.2.2.1⟩
noncomputable def law.cfg (n : Nat) : Cfg := ⟨tys11, [(10, szNetwork.mng n), (11, szState.mng n), (13, toNetwork.mng n), (14, toState.mng n), (31, sRunDemand.mng n), (32, iRunDemand.mng n), (19, eqState.mng n), (18, eqNetwork.mng n), (20, markNetwork.mng n), (21, markState.mng n), (26, heldState.mng n)], [], []⟩
theorem law.eq : ∀ (n : Nat) (a0 : Network) (a1 : State) (a2 : Int) (a3 : Int) (a4 : Int), runF (law.cfg n) n Tryz.f7 (annOf Tryz.f7 law.las) [.val tNetwork, .val tState, .val I, .val I, .val I] [.val .bool] (a0, (a1, (a2, (a3, (a4, ()))))) = law.f n a0 a1 a2 a3 a4 := by
  intros
  kernel_rfl
theorem law.gof : GoF Tryz.prog 7 := ⟨_, Tryz.func7, by kernel_rfl, by kernel_rfl⟩
theorem law.sound (n : Nat) : Sound Tryz.prog 7 (law.mng n) := runF_sound (fn := Tryz.f7) (m := law.mng n) (c := law.cfg n) (regOK mixed (opOK (.of (c := law.cfg n) ⟨⟨szNetwork.sound n, szNetwork.gof⟩, ⟨⟨szState.sound n, szState.gof⟩, ⟨⟨toNetwork.sound n, toNetwork.gof⟩, ⟨⟨toState.sound n, toState.gof⟩, ⟨⟨sRunDemand.sound n, sRunDemand.gof⟩, ⟨⟨iRunDemand.sound n, iRunDemand.gof⟩, ⟨⟨eqState.sound n, eqState.gof⟩, ⟨⟨eqNetwork.sound n, eqNetwork.gof⟩, ⟨⟨markNetwork.sound n, markNetwork.gof⟩, ⟨⟨markState.sound n, markState.gof⟩, ⟨⟨heldState.sound n, heldState.gof⟩, trivial⟩⟩⟩⟩⟩⟩⟩⟩⟩⟩⟩) (.of (c := law.cfg n) trivial)) (tysOK tys11_ok)) (tysOK tys11_ok) Tryz.func7 (fun x => (law.eq n x.1 x.2.1 x.2.2.1 x.2.2.2.1 x.2.2.2.2.1).symm)
end Go.AmT
