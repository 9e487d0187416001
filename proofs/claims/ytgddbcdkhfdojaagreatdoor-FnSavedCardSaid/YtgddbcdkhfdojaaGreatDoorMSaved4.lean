/- Functions that the law FnSaved reaches, each as a plain Lean function, and that each does what that says. No condition. -/
import Derived.Test.YtgddbcdkhfdojaaGreatDoorMSaved3
import Derived.Test.YtgddbcdkhfdojaaGreatDoorAmE
namespace Go.AmT
open Go Go.Am Go.Proofs
set_option linter.unusedVariables false
set_option maxRecDepth 100000
def tys7 : List (Nat × TInfo) := [(3, ⟨false, 1, 8, [.int .i64 0], .int .i64, 0, some I, [], false⟩),
  (22, ⟨false, 1, 24, [.nil], .slice, 62, some (.sl tProgram), [], false⟩),
  (23, ⟨false, 1, 24, [.nil], .slice, 80, some (.sl tLink), [], false⟩),
  (25, ⟨true, 2, 48, [.nil, .nil], .struct, 0, some tNetwork, [(0, 22), (1, 23)], false⟩),
  (36, ⟨false, 1, 24, [.nil], .slice, 103, some (.sl tActor), [], false⟩),
  (37, ⟨false, 1, 24, [.nil], .slice, 49, some (.sl IS), [], false⟩),
  (39, ⟨true, 4, 80, [.nil, .nil, .nil, .int .i64 0], .struct, 0, some tState, [(0, 36), (1, 37), (2, 37), (3, 3)], false⟩),
  (49, ⟨false, 1, 24, [.nil], .slice, 3, some IS, [], false⟩),
  (62, ⟨true, 3, 40, [.int .i64 0, .int .i64 0, .nil], .struct, 0, some tProgram, [(0, 3), (1, 3), (2, 60)], false⟩),
  (80, ⟨true, 5, 56, [.int .i64 0, .int .i64 0, .int .i64 0, .int .i64 0, .nil], .struct, 0, some tLink, [(0, 3), (1, 3), (2, 3), (3, 3), (4, 49)], false⟩),
  (103, ⟨true, 2, 32, [.int .i64 0, .nil], .struct, 0, some tActor, [(0, 3), (1, 49)], false⟩)]
theorem tys7_ok : (tys7.all fun p => tokB Tryz.prog p.1 p.2) = true := by kernel_rfl

def iNewActor.las : List (Nat × LA) := []
noncomputable def iNewActor.f (n : Nat) (a0 : Program) : Option (Actor × Unit) := (iIsProgram.f n a0).bind fun r1 => br (!r1.1) (some ((0, []), ())) (chk (4 = 4 ∧ 0 ≤ 4 ∧ 4 * (8 : Int) ≤ (maxB : Int)) (some ((0, (List.replicate 4 (0 : Int))), ())))
noncomputable def iNewActor.mng (n : Nat) : Mng := ⟨[.val tProgram], [.val tActor], fun x => iNewActor.f n x.1⟩
noncomputable def iNewActor.cfg (n : Nat) : Cfg := ⟨tys7, [(90, iIsProgram.mng n)], [], []⟩
theorem iNewActor.eq : ∀ (n : Nat) (a0 : Program), runF (iNewActor.cfg n) n Tryz.f73 (annOf Tryz.f73 iNewActor.las) [.val tProgram] [.val tActor] (a0, ()) = iNewActor.f n a0 := by
  intros
  kernel_rfl
theorem iNewActor.gof : GoF Tryz.prog 73 := ⟨_, Tryz.func73, by kernel_rfl, by kernel_rfl⟩
theorem iNewActor.sound (n : Nat) : Sound Tryz.prog 73 (iNewActor.mng n) := runF_sound (fn := Tryz.f73) (m := iNewActor.mng n) (c := iNewActor.cfg n) (regOK mixed (opOK (.of (c := iNewActor.cfg n) ⟨⟨iIsProgram.sound n, iIsProgram.gof⟩, trivial⟩) (.of (c := iNewActor.cfg n) trivial)) (tysOK tys7_ok)) (tysOK tys7_ok) Tryz.func73 (fun x => (iNewActor.eq n x.1).symm)

def iStartState.las : List (Nat × LA) := [(7, ⟨[(3, .vptr 1000 0), (16, .int .i64)], [(1000, .cells [] [.own 1001 tActor, .con (.nil), .con (.nil), .int .i64]), (1001, .row true tActor)], [1, 2, 14, 15], []⟩), (16, ⟨[(3, .vptr 1000 0), (31, .int .i64)], [(1000, .cells [] [.own 1001 tActor, .own 1002 IS, .own 1003 IS, .int .i64]), (1001, .row true tActor), (1002, .row true IS), (1003, .row true IS)], [2, 29, 30], []⟩)]
noncomputable def iStartState.f (n : Nat) (a0 : Network) : Option (State × Unit) := (iIsNetwork.f n a0).bind fun r1 => br (!r1.1) (some (([], ([], ([], 0))), ())) (iter (α := (Int × (Int × (List Actor) × Unit))) n (fun ih26 x25 => br (decide (x25.1 < (a0.1.length : Int))) (chk (0 ≤ x25.1 ∧ x25.1 < (a0.1.length : Int)) (let v27 := (a0.1.getD x25.1.toNat zProgram); (iNewActor.f n v27).bind fun r28 => chk ((x25.2.2.1.length + ([r28.1] : List Actor).length) * 32 ≤ maxB) (ih26 ((w64 (x25.1 + 1)), (x25.2.1, ((x25.2.2.1 ++ [r28.1]), ())))))) (iter (α := (Int × (Int × (List Actor) × (List (List Int)) × (List (List Int)) × Unit))) n (fun ih50 x49 => br (decide (x49.1 < (a0.2.length : Int))) (chk (0 ≤ x49.1 ∧ x49.1 < (a0.2.length : Int)) (let v51 := (a0.2.getD x49.1.toNat zLink); (cloneI.f n v51.2.2.2.2).bind fun r52 => chk ((x49.2.2.2.1.length + ([r52.1] : List (List Int)).length) * 24 ≤ maxB) ((cloneI.f n v51.2.2.2.2).bind fun r53 => chk ((x49.2.2.2.2.1.length + ([r53.1] : List (List Int)).length) * 24 ≤ maxB) (ih50 ((w64 (x49.1 + 1)), (x49.2.1, (x49.2.2.1, ((x49.2.2.2.1 ++ [r52.1]), ((x49.2.2.2.2.1 ++ [r53.1]), ()))))))))) (some ((x49.2.2.1, (x49.2.2.2.1, (x49.2.2.2.2.1, x49.2.1))), ()))) (0, (x25.2.1, (x25.2.2.1, ([], ([], ()))))))) (0, (0, ([], ()))))
noncomputable def iStartState.mng (n : Nat) : Mng := ⟨[.val tNetwork], [.sh tState], fun x => iStartState.f n x.1⟩
noncomputable def iStartState.cfg (n : Nat) : Cfg := ⟨tys7, [(47, iIsNetwork.mng n), (73, iNewActor.mng n), (74, cloneI.mng n)], [], []⟩
theorem iStartState.eq : ∀ (n : Nat) (a0 : Network), runF (iStartState.cfg n) n Tryz.f20 (annOf Tryz.f20 iStartState.las) [.val tNetwork] [.sh tState] (a0, ()) = iStartState.f n a0 := by
  intros
  kernel_rfl
theorem iStartState.gof : GoF Tryz.prog 20 := ⟨_, Tryz.func20, by kernel_rfl, by kernel_rfl⟩
theorem iStartState.sound (n : Nat) : Sound Tryz.prog 20 (iStartState.mng n) := runF_sound (fn := Tryz.f20) (m := iStartState.mng n) (c := iStartState.cfg n) (regOK mixed (opOK (.of (c := iStartState.cfg n) ⟨⟨iIsNetwork.sound n, iIsNetwork.gof⟩, ⟨⟨iNewActor.sound n, iNewActor.gof⟩, ⟨⟨cloneI.sound n, cloneI.gof⟩, trivial⟩⟩⟩) (.of (c := iStartState.cfg n) trivial)) (tysOK tys7_ok)) (tysOK tys7_ok) Tryz.func20 (fun x => (iStartState.eq n x.1).symm)
end Go.AmT

namespace Go.AmT
open Go Go.Am
set_option linter.unusedVariables false
set_option linter.unusedSimpArgs false

theorem iNewActor_spec {n : Nat} {p : Program} (hp : SmallP p) (h : okP p = true) (hn : 1048576 < n) : iNewActor.f n p = some (newA, ()) := by
  unfold iNewActor.f
  rw [iIsProgram_spec hp hn, h]
  simp only [Option.bind_some, Bool.not_true, br_false]
  rw [chk_true (by have := maxB_eq; refine ⟨by trivial, ?_⟩; omega)]; rfl
theorem iStartState_spec {n : Nat} {nt : Network} (h : SmallN nt) (o : OkN nt) (hn : 1048576 < n) : iStartState.f n nt = some (start nt, ()) := by
  have ho : okN nt = true := by simp [okN, o]
  have hp := h.progs
  have hl := h.links
  unfold iStartState.f start
  rw [iIsNetwork_spec h hn, ho]
  simp only [Option.bind_some, Bool.not_true, br_false]
  refine push_loopE nt.1 (fun _ => newA) (fun i s => (i, (0, (s, ())))) (fun ih i hi s hs => ?_) (fun ih => ?_) (by omega)
  · have c1 : (i : Int) < (nt.1.length : Int) := by omega
    have e1 : nt.1.getD i zProgram = nt.1[i] := getD_lt hi _
    show br (decide ((i : Int) < (nt.1.length : Int))) _ _ = _
    rw [br_yes c1, chk_true ⟨Int.natCast_nonneg i, c1⟩]
    simp only [Int.toNat_natCast, e1]
    rw [iNewActor_spec (h.prog _ (List.getElem_mem hi)) (o.prog i hi) hn, Option.bind_some, small_chk (by simp; omega), w64_succ (by omega)]
  · show br (decide ((nt.1.length : Int) < (nt.1.length : Int))) _ _ = _
    rw [br_no (Int.lt_irrefl _)]
    generalize (nt.1.map fun _ => newA) = A
    have hst : ((0 : Int), ((0 : Int), (A, (([] : List (List Int)), (([] : List (List Int)), ()))))) = (fun (i : Nat) => ((i : Int), ((0 : Int), (A, ((nt.2.take i).map (fun l : Link => l.2.2.2.2), ((nt.2.take i).map (fun l : Link => l.2.2.2.2), ())))))) 0 := by simp
    show iter n _ ((0 : Int), ((0 : Int), (A, (([] : List (List Int)), (([] : List (List Int)), ()))))) = _
    rw [hst]
    refine iter_line (fun i => ((i : Int), ((0 : Int), (A, ((nt.2.take i).map (fun l : Link => l.2.2.2.2), ((nt.2.take i).map (fun l : Link => l.2.2.2.2), ())))))) nt.2.length (fun ih i hi => ?_) (fun ih => ?_) (by omega)
    · have c1 : (i : Int) < (nt.2.length : Int) := by omega
      have e1 : nt.2.getD i zLink = nt.2[i] := getD_lt hi _
      show br (decide ((i : Int) < (nt.2.length : Int))) _ _ = _
      rw [br_yes c1, chk_true ⟨Int.natCast_nonneg i, c1⟩]
      simp only [Int.toNat_natCast, e1]
      rw [cloneI_run (h.link _ (List.getElem_mem hi)).tokens, Option.bind_some, small_chk (by simp; omega)]
      simp only [Option.bind_some]
      rw [small_chk (by simp; omega), w64_succ (by omega), List.take_succ_eq_append_getElem hi, List.map_append]; rfl
    · show br (decide ((nt.2.length : Int) < (nt.2.length : Int))) _ _ = _
      rw [br_no (Int.lt_irrefl _), List.take_length]
end Go.AmT

namespace Go.AmT
open Go Go.Am Go.Proofs
set_option linter.unusedVariables false
set_option maxRecDepth 100000
end Go.AmT

namespace Go.AmT
open Go Go.Am
set_option linter.unusedVariables false
set_option linter.unusedSimpArgs false

end Go.AmT

namespace Go.AmT
open Go Go.Am
set_option linter.unusedVariables false
set_option linter.unusedSimpArgs false

section
variable {σ : Type} (g : σ → Nat → Bool) (st : σ → Nat → σ) (most : Int)
def one (x : Int × σ) (k : Nat) : Int × σ := if x.1 < most ∧ g x.2 k = true then (x.1 + 1, st x.2 k) else x
variable {g st most} {K : Nat} {J : Int × σ → Prop} {μ : Int × σ → Nat}
/-- steps keep what is known, and come nearer to the end -/
def Good (g : σ → Nat → Bool) (st : σ → Nat → σ) (most : Int) (K : Nat) (J : Int × σ → Prop) (μ : Int × σ → Nat) : Prop :=
  ∀ x k, J x → k < K → x.1 < most → g x.2 k = true → J (x.1 + 1, st x.2 k) ∧ μ (x.1 + 1, st x.2 k) < μ x

variable {γ δ ρ : Type}
end
section
variable {σ : Type} {g : σ → Nat → Bool} {st : σ → Nat → σ} {m1 m2 : Int} {K : Nat} {J : Int × σ → Prop} {μ : Int × σ → Nat}
end
/-! ### loops that go on as long as something holds -/
section
variable {α γ ρ : Type} (c : α → Bool) (f : α → α)
variable {c f}
end
end Go.AmT

namespace Go.AmT
open Go Go.Am
theorem okSt_of {nt : Network} {s : State} (h : okSt nt s = true) : OkSt nt s := of_decide_eq_true h
theorem okSt_true {nt : Network} {s : State} (o : OkSt nt s) : okSt nt s = true := decide_eq_true o
def JS (nt : Network) (x : Int × State) : Prop := OkSt nt x.2 ∧ 0 ≤ x.1 ∧ x.1 ≤ x.2.2.2.2
def muS (x : Int × State) : Nat := (20000 - x.2.2.2.2).toNat
theorem JS.le {nt : Network} {x : Int × State} (h : JS nt x) : 0 ≤ x.1 ∧ x.1 ≤ 20000 := by
  have := h.1.steps
  have := h.2
  omega
theorem good_of {nt : Network} {most : Int} {g : State → Nat → Bool} (hg : ∀ s k, g s k = true → canP nt s k = true) : Good g (stepP nt) most nt.1.length (JS nt) muS := by
  rintro ⟨m, s⟩ k ⟨o, h0, h1⟩ hk hm hgk
  have hc := hg _ _ hgk
  obtain ⟨-, h20, -, -⟩ := canP_facts hc
  have hs := o.steps
  have h0 : 0 ≤ m := h0
  have h1 : m ≤ s.2.2.2 := h1
  have h20 : s.2.2.2 < 20000 := h20
  refine ⟨⟨stepP_ok o hk hc, ?_, ?_⟩, ?_⟩
  · show 0 ≤ m + 1
    omega
  · show m + 1 ≤ s.2.2.2 + 1
    omega
  · show (20000 - (s.2.2.2 + 1)).toNat < (20000 - s.2.2.2).toNat
    omega
theorem good_can {nt : Network} {most : Int} : Good (canP nt) (stepP nt) most nt.1.length (JS nt) muS := good_of (fun _ _ h => h)
end Go.AmT

namespace Go.AmT
open Go Go.Am Go.Proofs
set_option linter.unusedVariables false
set_option maxRecDepth 100000
def tys9 : List (Nat × TInfo) := [(3, ⟨false, 1, 8, [.int .i64 0], .int .i64, 0, some I, [], false⟩),
  (25, ⟨true, 2, 48, [.nil, .nil], .struct, 0, some tNetwork, [(0, 22), (1, 23)], false⟩),
  (36, ⟨false, 1, 24, [.nil], .slice, 103, some (.sl tActor), [], false⟩),
  (37, ⟨false, 1, 24, [.nil], .slice, 49, some (.sl IS), [], false⟩),
  (39, ⟨true, 4, 80, [.nil, .nil, .nil, .int .i64 0], .struct, 0, some tState, [(0, 36), (1, 37), (2, 37), (3, 3)], false⟩),
  (49, ⟨false, 1, 24, [.nil], .slice, 3, some IS, [], false⟩),
  (120, ⟨true, 9, 200, [.nil, .nil, .nil, .nil, .nil, .int .i64 0, .nil, .nil, .nil], .struct, 0, some tRun, [(0, 25), (2, 39), (6, 37), (7, 37), (8, 49)], false⟩)]
theorem tys9_ok : (tys9.all fun p => tokB Tryz.prog p.1 p.2) = true := by kernel_rfl

def iRunSchedule.las : List (Nat × LA) := [(7, ⟨[(8, .vptr 1000 0), (9, .int .i64), (22, .int .i64)], [(1000, .cells [] [.sh tProgram, .sh tLink, .own 1001 tActor, .own 1002 IS, .own 1003 IS, .int .i64, .own 1004 IS, .own 1005 IS, .osh I]), (1001, .row true tActor), (1002, .row true IS), (1003, .row true IS), (1004, .row true IS), (1005, .row true IS)], [6, 20, 21], []⟩), (12, ⟨[(33, .bool)], [], [6, 8, 9, 11, 20, 21, 22], []⟩)]
noncomputable def iRunSchedule.f (n : Nat) (a0 : Network) (a1 : State) (a2 : List Int) : Option (State × (Int × Unit)) := (iIsState.f n a0 a1).bind fun r1 => br (!r1.1) (some (([], ([], ([], 0))), (0, ()))) ((newRun.f n a0.1 a0.2 a1.1 a1.2.1 a1.2.2.1 a1.2.2.2 (none : Option (List Int))).bind fun r2 => iter (α := (Int × (Int × (List Program) × (List Link) × (Int × (Option (List Int)) × (List Actor) × (List (List Int)) × (List (List Int)) × (List (List Int)) × (List (List Int)) × Unit)))) n (fun ih33 x32 => br (decide (x32.2.1 < (a2.length : Int))) (chk (0 ≤ x32.2.1 ∧ x32.2.1 < (a2.length : Int)) (let v34 := (a2.getD x32.2.1.toNat 0); cut (α := (Bool × Unit)) ((isProcess.f n ((x32.2.2.1, x32.2.2.2.1), ((x32.2.2.2.2.2.2.1, (x32.2.2.2.2.2.2.2.1, (x32.2.2.2.2.2.2.2.2.1, x32.2.2.2.2.1))), (x32.2.2.2.2.2.2.2.2.2.1, (x32.2.2.2.2.2.2.2.2.2.2.1, x32.2.2.2.2.2.1)))) v34).bind fun r36 => br r36.1 ((can.f n ((x32.2.2.1, x32.2.2.2.1), ((x32.2.2.2.2.2.2.1, (x32.2.2.2.2.2.2.2.1, (x32.2.2.2.2.2.2.2.2.1, x32.2.2.2.2.1))), (x32.2.2.2.2.2.2.2.2.2.1, (x32.2.2.2.2.2.2.2.2.2.2.1, x32.2.2.2.2.2.1)))) v34).bind fun r37 => some (.inr (r37.1, ()))) (some (.inr (false, ())))) fun y35 => br y35.1 ((runStep.f n v34 x32.2.2.1 x32.2.2.2.1 x32.2.2.2.2.1 x32.2.2.2.2.2.1 x32.2.2.2.2.2.2.1 x32.2.2.2.2.2.2.2.1 x32.2.2.2.2.2.2.2.2.1 x32.2.2.2.2.2.2.2.2.2.1 x32.2.2.2.2.2.2.2.2.2.2.1).bind fun r38 => ih33 ((w64 (x32.1 + 1)), ((w64 (x32.2.1 + 1)), (r38.1, (r38.2.1, (r38.2.2.1, (r38.2.2.2.1, (r38.2.2.2.2.1, (r38.2.2.2.2.2.1, (r38.2.2.2.2.2.2.1, (r38.2.2.2.2.2.2.2.1, (r38.2.2.2.2.2.2.2.2.1, ())))))))))))) (ih33 (x32.1, ((w64 (x32.2.1 + 1)), (x32.2.2.1, (x32.2.2.2.1, (x32.2.2.2.2.1, (x32.2.2.2.2.2.1, (x32.2.2.2.2.2.2.1, (x32.2.2.2.2.2.2.2.1, (x32.2.2.2.2.2.2.2.2.1, (x32.2.2.2.2.2.2.2.2.2.1, (x32.2.2.2.2.2.2.2.2.2.2.1, ())))))))))))))) (some ((x32.2.2.2.2.2.2.1, (x32.2.2.2.2.2.2.2.1, (x32.2.2.2.2.2.2.2.2.1, x32.2.2.2.2.1))), (x32.1, ())))) (0, (0, (r2.1, (r2.2.1, (r2.2.2.1, (r2.2.2.2.1, (r2.2.2.2.2.1, (r2.2.2.2.2.2.1, (r2.2.2.2.2.2.2.1, (r2.2.2.2.2.2.2.2.1, (r2.2.2.2.2.2.2.2.2.1, ()))))))))))))
noncomputable def iRunSchedule.mng (n : Nat) : Mng := ⟨[.val tNetwork, .val tState, .val IS], [.val tState, .val I], fun x => iRunSchedule.f n x.1 x.2.1 x.2.2.1⟩
noncomputable def iRunSchedule.cfg (n : Nat) : Cfg := ⟨tys9, [(63, iIsState.mng n), (77, isProcess.mng n), (78, can.mng n)], [(76, newRun.mng n), (79, runStep.mng n)], []⟩
theorem iRunSchedule.eq : ∀ (n : Nat) (a0 : Network) (a1 : State) (a2 : List Int), runF (iRunSchedule.cfg n) n Tryz.f23 (annOf Tryz.f23 iRunSchedule.las) [.val tNetwork, .val tState, .val IS] [.val tState, .val I] (a0, (a1, (a2, ()))) = iRunSchedule.f n a0 a1 a2 := by
  intros
  kernel_rfl
theorem iRunSchedule.gof : GoF Tryz.prog 23 := ⟨_, Tryz.func23, by kernel_rfl, by kernel_rfl⟩
theorem iRunSchedule.sound (n : Nat) : Sound Tryz.prog 23 (iRunSchedule.mng n) := runF_sound (fn := Tryz.f23) (m := iRunSchedule.mng n) (c := iRunSchedule.cfg n) (regOK mixed (opOK (.of (c := iRunSchedule.cfg n) ⟨⟨iIsState.sound n, iIsState.gof⟩, ⟨⟨isProcess.sound n, isProcess.gof⟩, ⟨⟨can.sound n, can.gof⟩, trivial⟩⟩⟩) (.of (c := iRunSchedule.cfg n) ⟨⟨newRun.sound n, newRun.gof⟩, ⟨⟨runStep.sound n, runStep.gof⟩, trivial⟩⟩)) (tysOK tys9_ok)) (tysOK tys9_ok) Tryz.func23 (fun x => (iRunSchedule.eq n x.1 x.2.1 x.2.2.1).symm)
end Go.AmT

namespace Go.AmT
open Go Go.Am
set_option linter.unusedVariables false
set_option linter.unusedSimpArgs false

/-- an element of a schedule: a step, if there is such a process and it can step -/
def schOne (nt : Network) (x : Int × State) (k : Int) : Int × State := if 0 ≤ k ∧ k < (nt.1.length : Int) ∧ canP nt x.2 k.toNat = true then (x.1 + 1, stepP nt x.2 k.toNat) else x
def schP (nt : Network) (s : State) (l : List Int) : Int × State := l.foldl (schOne nt) (0, s)
theorem schOne_good {nt : Network} {x : Int × State} {k : Int} (hx : JS nt x) : JS nt (schOne nt x k) := by
  unfold schOne
  split
  · rename_i h
    have h1 : k.toNat < nt.1.length := by omega
    exact (good_can (most := x.1 + 1) x _ hx h1 (by omega) h.2.2).1
  · exact hx
theorem sch_good {nt : Network} (l : List Int) : ∀ {x : Int × State}, JS nt x → JS nt (l.foldl (schOne nt) x) := by
  induction l with
  | nil => intro x hx; exact hx
  | cons k l ih => intro x hx; exact ih (schOne_good hx)
noncomputable def runSchedule (nt : Network) (s : State) (l : List Int) : State × Int := if okSt nt s = true then ((schP nt s l).2, (schP nt s l).1) else (([], ([], ([], 0))), 0)
theorem sch_loop {γ ρ : Type} {nt : Network} {s : State} (o : OkSt nt s) (l : List Int) (hl : l.length ≤ 1048576) (enc : Int → Int → State → γ) {F : (γ → Option ρ) → γ → Option ρ} {G : Int → State → Option ρ}
    (h1 : ∀ ih i (hi : i < l.length) made s, JS nt (made, s) → F ih (enc made (i : Int) s) = if 0 ≤ l[i] ∧ l[i] < (nt.1.length : Int) ∧ canP nt s l[i].toNat = true then ih (enc (made + 1) ((i + 1 : Nat) : Int) (stepP nt s l[i].toNat)) else ih (enc made ((i + 1 : Nat) : Int) s))
    (h2 : ∀ ih made s, F ih (enc made (l.length : Int) s) = G made s) {n : Nat} (hn : l.length < n) : iter n F (enc 0 0 s) = G (schP nt s l).1 (schP nt s l).2 := by
  have := iter_line (F := F) (fun i => enc ((l.take i).foldl (schOne nt) (0, s)).1 (i : Int) ((l.take i).foldl (schOne nt) (0, s)).2) l.length (R := G (schP nt s l).1 (schP nt s l).2) (fun ih i hi => by
    have hJ : JS nt ((l.take i).foldl (schOne nt) (0, s)) := sch_good _ ⟨o, Int.le_refl _, o.steps.1⟩
    show F ih (enc _ (i : Int) _) = ih (enc _ _ _)
    rw [h1 ih i hi _ _ hJ, List.take_succ_eq_append_getElem hi, List.foldl_append]
    show _ = ih (enc (schOne nt _ l[i]).1 _ (schOne nt _ l[i]).2)
    unfold schOne
    split <;> rfl) (fun ih => by
    show F ih (enc _ (l.length : Int) _) = _
    rw [h2, List.take_length]; rfl) hn
  simpa using this
theorem iRunSchedule_spec {n : Nat} {nt : Network} {s : State} {l : List Int} (h : SmallN nt) (hs : SmallSt s) (hl : l.length ≤ 1048576) (hn : 1048576 < n) : iRunSchedule.f n nt s l = some ((runSchedule nt s l).1, ((runSchedule nt s l).2, ())) := by
  unfold iRunSchedule.f runSchedule
  rw [iIsState_spec h hs hn]
  cases e1 : okSt nt s
  · rfl
  · have o := okSt_of e1
    have hp := o.net.progs
    simp only [Option.bind_some, Bool.not_true, br_false, if_true]
    refine W_eq.1 (W_bind.2 (W_and (newRun_spec (caps := none) o.net hs hn) (fun r ⟨to, fr, e, T, F⟩ => W_eq.2 ?_)))
    subst e
    have R : IsRun nt s (nt, (s, (to, (fr, none)))) := ⟨rfl, rfl, T, F⟩
    simp only
    refine sch_loop o l hl (fun made i s => (made, (i, (nt.1, (nt.2, (s.2.2.2, ((none : Option (List Int)), (s.1, (s.2.1, (s.2.2.1, (to, (fr, ())))))))))))) (G := fun made s => some (s, (made, ()))) (fun ih i hi made s h => ?_) (fun ih made s => br_no (Int.lt_irrefl _)) (by omega)
    have c1 : (i : Int) < (l.length : Int) := by omega
    have c0 : 0 ≤ (i : Int) := by omega
    have e1 : l.getD i 0 = l[i] := getD_lt hi _
    have hle := h.le
    have R' : IsRun nt s (nt, (s, (to, (fr, none)))) := R.step
    simp only [c1, c0, and_self, chk_T, decide_true, br_true, Int.toNat_natCast, e1]
    unfold isProcess.f
    by_cases h0 : 0 ≤ l[i]
    · obtain ⟨k, ek⟩ : ∃ k : Nat, l[i] = (k : Int) := ⟨l[i].toNat, by omega⟩
      rw [ek, br_yes (by omega)]
      by_cases h1 : (k : Int) < (nt.1.length : Int)
      · have hk : k < nt.1.length := by omega
        have hc : can.f n ((nt.1, nt.2), ((s.1, (s.2.1, (s.2.2.1, s.2.2.2))), (to, (fr, (none : Option (List Int)))))) (k : Int) = some (canP nt s k, ()) := can_spec R' h.1 hk
        simp only [Option.bind_some, h1, decide_true, br_true, hc, cut_inr, Int.toNat_natCast, true_and]
        cases hg : canP nt s k
        · rw [br_false, if_neg (by simp), w64_succ (by omega)]
        · rw [br_true, if_pos ⟨by omega, rfl⟩]
          have hs := runStep_spec (n := n) R' h.1 (small_of_ok h.1) hk hg hn
          simp only at hs
          rw [hs]
          simp only [Option.bind_some]
          rw [w64_succ (by omega), w64_id (n := made + 1) (by simp only at hle; omega) (by simp only at hle; omega)]
      · simp only [Option.bind_some, h1, decide_false, br_false, cut_inr]
        rw [if_neg (by simp), w64_succ (by omega)]
    · rw [br_no h0, if_neg (fun hh => h0 hh.1)]
      simp only [Option.bind_some, br_false, cut_inr]
      rw [w64_succ (by omega)]
end Go.AmT
