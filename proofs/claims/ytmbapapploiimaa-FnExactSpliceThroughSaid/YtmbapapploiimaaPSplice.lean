/- A process put into a link, in plain Lean: both programs make the same network of it. -/
import Derived.Test.YtmbapapploiimaaLSplice
import Derived.Test.YtmbapapploiimaaPCopy
namespace Go.AmT
open Go Go.Am
set_option linter.unusedVariables false
set_option linter.unusedSimpArgs false

theorem sL3Copy_spec {n : Nat} {nt : Network} (h : SmallN nt) (hn : 1048576 < n) : sL3Copy.f n nt = some (nt, ()) := by
  have hp := h.progs
  have hl := h.links
  unfold sL3Copy.f
  refine Eq.trans (push_loop nt.1 id (fun i s => (i, (s, ()))) (R := fun ps => some ((ps, nt.2), ())) (fun ih i hi s hs => ?_) (fun ih ps => ?_) (by omega)) (by simp)
  · have c0 : 0 ≤ (i : Int) := by omega
    have c1 : (i : Int) < (nt.1.length : Int) := by omega
    have e1 : nt.1.getD i zProgram = nt.1[i] := getD_lt hi _
    simp only [c1, c0, and_self, chk_T, decide_true, br_true, Int.toNat_natCast, e1, sL3Program_spec (h.prog _ (List.getElem_mem hi)), Option.bind_some]
    rw [small_chk (by simp; omega), w64_succ (by omega)]; rfl
  · simp only [br_no (Int.lt_irrefl _)]
    refine Eq.trans (push_loop nt.2 id (fun i s => (i, (ps, (s, ())))) (R := fun ls => some ((ps, ls), ())) (fun ih i hi s hs => ?_) (fun ih ls => br_no (Int.lt_irrefl _)) (by omega)) (by simp)
    have c0 : 0 ≤ (i : Int) := by omega
    have c1 : (i : Int) < (nt.2.length : Int) := by omega
    have e1 : nt.2.getD i zLink = nt.2[i] := getD_lt hi _
    simp only [c1, c0, and_self, chk_T, decide_true, br_true, Int.toNat_natCast, e1, sL3Link_spec (h.link _ (List.getElem_mem hi)), Option.bind_some]
    rw [small_chk (by simp; omega), w64_succ (by omega)]; rfl

def through : Program := (1, 1, [(1, 0, 0, 0), (2, 0, 0, 0), (8, 0, 0, 0)])
def sThrough : List UInt8 := [116, 104, 114, 111, 117, 103, 104]
theorem sSample_through {n : Nat} (hn : 1048576 < n) : sSampleProgram.f n sThrough = some (through, ()) := by
  obtain ⟨m, rfl⟩ : ∃ m, n = m + 3 := ⟨n - 3, by omega⟩
  rfl
theorem iSample_through {n : Nat} : iSampleProgram.f n sThrough = some (through, ()) := by rfl

/-- a network with a process put into its link k -/
def splice (nt : Network) (k : Nat) : Network :=
  (nt.1 ++ [through], nt.2.set k ((nt.2.getD k zLink).1, (nt.2.getD k zLink).2.1, (nt.1.length : Int), 0, (nt.2.getD k zLink).2.2.2.2) ++ [((nt.1.length : Int), 0, (nt.2.getD k zLink).2.2.1, (nt.2.getD k zLink).2.2.2.1, [])])
noncomputable def spl (nt : Network) (k : Int) : Network × Bool × Unit :=
  if (okN nt && decide (0 ≤ k ∧ k < (nt.2.length : Int))) = true then (if okN (splice nt k.toNat) = true then (splice nt k.toNat, (true, ())) else (([], []), (false, ()))) else (([], []), (false, ()))
theorem splice_small {nt : Network} {k : Nat} (h : SmallN nt) (o : okN nt = true) (hk : k < nt.2.length) : SmallN (splice nt k) := by
  have o' : OkN nt := of_decide_eq_true o
  have h1 := o'.progs
  have h2 := o'.links
  have ht := (h.link _ (List.getElem_mem hk)).tokens
  refine ⟨by simp [splice]; omega, fun p hp => ?_, by simp [splice]; omega, fun l hl => ?_⟩
  · simp only [splice, List.mem_append, List.mem_singleton] at hp
    rcases hp with hp | rfl
    · exact h.prog p hp
    · exact ⟨by decide⟩
  · simp only [splice, List.mem_append, List.mem_singleton] at hl
    rcases hl with hl | rfl
    · rcases List.mem_or_eq_of_mem_set hl with hl | rfl
      · exact h.link l hl
      · exact ⟨by simpa [hk] using ht⟩
    · exact ⟨by simp⟩
theorem sSpliceThrough_spec {n : Nat} {nt : Network} {k : Int} (h : SmallN nt) (hn : 1048576 < n) : sSpliceThrough.f n nt k = some (spl nt k) := by
  have hp := h.progs
  have hl := h.links
  unfold sSpliceThrough.f spl
  rw [sIsNetwork_spec h hn, sL1In_spec, w64_id (by omega) (by omega)]
  simp only [Option.bind_some]
  have e : cut (α := (Bool × Unit)) (ρ := Network × (Bool × Unit)) (br (!okN nt) (some (.inr (true, ()))) (some (.inr ((!(decide (0 ≤ k) && decide (k ≤ (nt.2.length : Int) - 1))), ())))) = fun f => f (!(okN nt && decide (0 ≤ k ∧ k < (nt.2.length : Int))), ()) := by
    funext f
    by_cases a : 0 ≤ k <;> by_cases b : k ≤ (nt.2.length : Int) - 1 <;> cases okN nt <;> simp [a, b, br, cut] <;> (congr 2; simp; omega)
  rw [e]
  simp only
  cases hb : (okN nt && decide (0 ≤ k ∧ k < (nt.2.length : Int)))
  · rfl
  · simp only [Bool.not_true, br_false, if_true]
    simp only [Bool.and_eq_true, decide_eq_true_eq] at hb
    obtain ⟨o, k0, k1⟩ := hb
    obtain ⟨j, rfl⟩ : ∃ j : Nat, k = (j : Int) := ⟨k.toNat, by omega⟩
    have hj : j < nt.2.length := by omega
    have hj2 : ∀ x : Link, j < (nt.2 ++ [x]).length := fun x => by simp; omega
    rw [show sSampleProgram.f n [116, 104, 114, 111, 117, 103, 104] = some (through, ()) from sSample_through hn, sL3Copy_spec h hn]
    simp only [Option.bind_some, Int.toNat_natCast, k0, k1, and_self, chk_T]
    rw [small_chk (by simp; omega), small_chk (by simp; omega), chk_true (by simp; omega), chk_true (by simp; omega)]
    simp only [getD_set_same (hj2 _), List.set_set]
    have e2 : ∀ x : Link, (nt.2 ++ [x]).getD j zLink = nt.2.getD j zLink := fun x => by simp [List.getElem?_append_left hj]
    have e3 : ∀ x y : Link, (nt.2 ++ [x]).set j y = nt.2.set j y ++ [x] := fun x y => List.set_append_left _ _ hj
    simp only [e2, e3]
    have hS := splice_small h o hj
    have := sIsNetwork_spec hS hn
    unfold splice at this ⊢
    rw [this]
    simp only [Option.bind_some]
    cases okN _ <;> rfl
theorem iSpliceThrough_spec {n : Nat} {nt : Network} {k : Int} (h : SmallN nt) (hn : 1048576 < n) : iSpliceThrough.f n nt k = some (spl nt k) := by
  have hp := h.progs
  have hl := h.links
  unfold iSpliceThrough.f spl
  rw [iIsNetwork_spec h hn]
  simp only [Option.bind_some]
  have e : cut (α := (Bool × Unit)) (ρ := Network × (Bool × Unit)) (br (!okN nt) (some (.inr (true, ()))) (br (decide (k < 0)) (some (.inr (true, ()))) (some (.inr ((decide ((nt.2.length : Int) ≤ k)), ()))))) = fun f => f (!(okN nt && decide (0 ≤ k ∧ k < (nt.2.length : Int))), ()) := by
    funext f
    by_cases a : k < 0 <;> by_cases b : (nt.2.length : Int) ≤ k <;> cases okN nt <;> simp [a, b, br, cut] <;> (congr 2; simp; omega)
  rw [e]
  simp only
  cases hb : (okN nt && decide (0 ≤ k ∧ k < (nt.2.length : Int)))
  · rfl
  · simp only [Bool.not_true, br_false, if_true]
    simp only [Bool.and_eq_true, decide_eq_true_eq] at hb
    obtain ⟨o, k0, k1⟩ := hb
    obtain ⟨j, rfl⟩ : ∃ j : Nat, k = (j : Int) := ⟨k.toNat, by omega⟩
    have hj : j < nt.2.length := by omega
    rw [show iSampleProgram.f n [116, 104, 114, 111, 117, 103, 104] = some (through, ()) from iSample_through, iCopyNetwork_spec h hn]
    simp only [Option.bind_some, Int.toNat_natCast, k0, k1, and_self, chk_T]
    rw [small_chk (by simp; omega), small_chk (by simp; omega)]
    simp only [getD_set_same hj, List.set_set]
    have hS := splice_small h o hj
    have := iChecked_spec hS hn
    unfold splice at this ⊢
    rw [this]
    simp only [Option.bind_some]
theorem spl_small {nt : Network} {k : Int} (h : SmallN nt) : SmallN (spl nt k).1 := by
  have z : SmallN ([], []) := ⟨by simp, by simp, by simp, by simp⟩
  unfold spl
  split
  · rename_i hb
    simp only [Bool.and_eq_true, decide_eq_true_eq] at hb
    split
    · exact splice_small h hb.1 (by omega)
    · exact z
  · exact z
theorem law_true (nt : Network) (k : Int) (h : InR tNetwork nt) : ∃ n, law.f n nt k = some (true, ()) := by
  refine ⟨1048577, ?_⟩
  have hn : 1048576 < 1048577 := by omega
  obtain ⟨r, e, r1, r2⟩ := szNetwork_spec (n := 1048577) (left := 1048576) (by omega) h (by omega) (by omega)
  unfold law.f
  simp only [e, Option.bind_some]
  by_cases hr : r < 0
  · simp [hr, br]
  · have hS := r2 (by omega)
    have hG := spl_small (k := k) hS
    have hk := mNetwork_le (k := 1) hS
    have hp := mNetwork_le (k := 1) hG
    have c1 : ¬ (mNetwork nt 1).2 < 0 := by omega
    have c2 : ¬ (mNetwork (spl nt k).1 1).2 < 0 := by omega
    have i1 : (0 : Int) ≤ 1 := by omega
    have i2 : (1 : Int) ≤ 281474976710656 := by omega
    have hh := heldNetwork_spec hG i1 i2 hn
    simp only [hr, decide_false, br_false, toNetwork_spec hS hn, sSpliceThrough_spec hS hn, iSpliceThrough_spec hS hn, eqNetwork_refl hG hn, eqNetwork_refl hS hn, Option.bind_some, decide_true, Bool.not_true, markNetwork_spec hS i1 i2 hn, c1, cut_inr,
      markNetwork_spec hG i1 i2 hn, hh, c2]
end Go.AmT
