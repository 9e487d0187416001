/- Functions that the law FnExactExpandState reaches, each as a plain Lean function, and that each does what that says. No condition. -/
import Derived.Test.YtkgknijpmcagmaaGreatPExSt
import Derived.Test.YtkgknijpmcagmaaGreatAmDel
import Derived.WalkKit
import Derived.Deep.RegionLaw
import Derived.Lib.SliceRun
namespace Go.AmT
open Go Go.Am Go.Proofs Go.RowKit Go.Lib
set_option linter.unusedVariables false
set_option maxRecDepth 100000
theorem del_info : (Tryz.prog.info? 77).map (fun i => (i.zero, i.size, i.bytes)) = some (some (.agg #[.int .i64 0, .slice none 0 0]), 2, 32) := by kernel_rfl
theorem run_clear2 (w : World) (ty : TypeId) (b o cp : Nat)
    (hc : ∀ j, j < 2 → (w.cell? ⟨b, o + j, none⟩).isSome = true) (hf : ∀ j, j < 2 → w.frozen? ⟨b, o + j, none⟩ = false) :
    (Builtin.clear_ #[32] ty #[.slice (some ⟨b, o, none⟩) 1 cp]).run Tryz.prog w = .ok (.tuple #[]) (w.setCells b o [.int .i64 0, .slice none 0 0]) := by
  have hst := run_storeCells_cells (P := Tryz.prog) b o [.int .i64 0, .slice none 0 0] 0 w (by simpa using hc) (by simpa using hf) (by intro v hv; simp at hv; rcases hv with rfl | rfl <;> rfl)
  simp only [Nat.add_zero] at hst
  have hz : (Builtin.zeroCells (Value.agg #[.int .i64 0, .slice none 0 0]).cells 1).toList = [.int .i64 0, .slice none 0 0] := by
    simp [Builtin.zeroCells, Value.cells]
    rfl
  simp [Builtin.clear_, run_underlying Tryz.underlying32, Tryz.zeroValue77, hz, hst]
set_option maxHeartbeats 4000000 in
set_option maxRecDepth 1000000 in
theorem del_calls (b o cap n k : Nat) (c : Nat → Value) (w : World) (hcap : n ≤ cap) (hk : k < n)
    (hH : ∀ i, i < n * 2 → w.cell? ⟨b, o + i, none⟩ = some (c i) ∧ w.frozen? ⟨b, o + i, none⟩ = false ∧ (c i).oneCell' = true) :
    Calls Tryz.prog 47 #[.slice (some ⟨b, o, none⟩) n cap, .int .i64 k, .int .i64 ((k + 1 : Nat) : Int)] w fun e w' => e = .returned (.slice (some ⟨b, o, none⟩) (n - 1) cap) ∧ DelW b o n k c w w' := by
  obtain ⟨i0, hi0, hz0, hz1, hz2⟩ := info_parts del_info
  obtain ⟨news, hnews⟩ : ∃ news, news = delNews c n k := ⟨_, rfl⟩
  have hlen : news.length = (n - (k + 1)) * 2 := by rw [hnews]; exact delNews_len c n k
  obtain ⟨A, hA, hsrc⟩ : ∃ A : Addr, (if cap = k + 1 then some (⟨b, o, none⟩ : Addr) else some ⟨b, o + (k + 1) * 2, none⟩) = some A ∧ Hid (∀ t u, news[t]? = some u → w.drew.cell? (A.add t) = some u) := by
    by_cases h : cap = k + 1
    · refine ⟨⟨b, o, none⟩, by simp [h], fun t u hu => ?_⟩
      have h0 : news.length = 0 := by rw [hlen]; omega
      rw [List.length_eq_zero_iff.1 h0] at hu
      simp at hu
    · refine ⟨⟨b, o + (k + 1) * 2, none⟩, by simp [h], fun t u hu => ?_⟩
      have ht : t < (n - (k + 1)) * 2 := by
        have := (List.getElem?_eq_some_iff.1 hu).1
        rwa [hlen] at this
      rw [hnews, delNews_get c ht] at hu
      rw [Addr.add_lit, show o + (k + 1) * 2 + t = o + ((k + 1) * 2 + t) by omega]
      exact (hH ((k + 1) * 2 + t) (by omega)).1.trans hu
  have s1 : Hid (news.length = (n - (k + 1)) * 2) := hlen
  have s2 : Hid (∀ u ∈ news, u.oneCell' = true) := by
    intro u hu
    rw [hnews, delNews] at hu
    obtain ⟨x, hx, rfl⟩ := List.mem_map.1 hu
    exact (hH ((k + 1) * 2 + x) (by have := List.mem_range.1 hx; omega)).2.2
  have s3 : Hid (∀ t, t < news.length → (w.drew.cell? ⟨b, o + k * 2 + t, none⟩).isSome = true ∧ w.drew.frozen? ⟨b, o + k * 2 + t, none⟩ = false) := by
    intro t ht
    rw [hlen] at ht
    rw [Nat.add_assoc]
    exact ⟨by show (w.cell? _).isSome = true; rw [(hH (k * 2 + t) (by omega)).1]; rfl, (hH (k * 2 + t) (by omega)).2.1⟩
  obtain ⟨W1, hW1⟩ : ∃ W1, W1 = w.drew.setCells b (o + k * 2) news := ⟨_, rfl⟩
  have hsome : ∀ t, t < n * 2 → (W1.cell? ⟨b, o + t, none⟩).isSome = true ∧ W1.frozen? ⟨b, o + t, none⟩ = false := by
    intro t ht
    rw [hW1, hnews]
    refine ⟨?_, by rw [World.frozen?_setCells]; exact (hH t ht).2.1⟩
    have h := del_w1 hk (fun i hi => (hH i hi).1) ht
    rw [show (⟨b, o + t, none⟩ : Addr) = ad b (o + t) from rfl, h]
    rfl
  have hcl : ∀ ty, (Builtin.clear_ #[32] ty #[.slice (some ⟨b, o + (k + (n - (k + 1))) * 2, none⟩) (n - (k + (n - (k + 1)))) (cap - (k + (n - (k + 1))))]).run Tryz.prog W1 = .ok (.tuple #[]) (W1.setCells b (o + (k + (n - (k + 1))) * 2) [.int .i64 0, .slice none 0 0]) := by
    intro ty
    rw [show n - (k + (n - (k + 1))) = 1 by omega]
    exact run_clear2 W1 ty b _ _ (fun j hj => by rw [Nat.add_assoc]; exact (hsome _ (by omega)).1) (fun j hj => by rw [Nat.add_assoc]; exact (hsome _ (by omega)).2)
  have hfin : Hid (DelW b o n k c w (W1.setCells b (o + (k + (n - (k + 1))) * 2) [.int .i64 0, .slice none 0 0])) := by
    rw [hW1, hnews, show k + (n - (k + 1)) = n - 1 by omega]
    exact delW_of hk (fun i hi => (hH i hi).1)
  have hW : Hid (W1 = w.drew.setCells b (o + k * 2) news) := hW1
  have hic : k ≤ cap := by omega
  have hjc : k + 1 ≤ cap := by omega
  have hp0 : (0 : Int) ≤ (k : Int) + 1 := by omega
  have hp1 : (k : Int) + 1 ≤ (n : Int) := by omega
  have hp2 : ((k : Int) + 1).toNat = k + 1 := by omega
  clear hW1 hH hnews hlen hsome
  go_enter Tryz.func47, Tryz.ntmps47
  go_wp2_with fail
  go_region_law (refine step_append_room rfl (.tmp 22) (.tmp 25) 32 rfl 77 i0 2 Tryz.underlying32 hi0 hz1 b o k cap (by simp [Act.eval, Act.put]) A (n - (k + 1)) (cap - (k + 1)) news (by simp [Act.eval, Act.put]) s1.out hsrc.out s2.out (by omega) s3.out ?_; rw [← hW.out])
  go_wp2
  go_ret
  exact ⟨by rw [show n - 1 = k + (n - (k + 1)) by omega]; rfl, hfin.out⟩
noncomputable def delA.f (n : Nat) (a0 a1 : Int) (a2 : List Actor) : Option (List Actor × Unit) := delR a2 a0 a1
def delA.lb : LA := delM.lb
noncomputable def delA.mng (n : Nat) : LMng := ⟨delM.la, delA.lb, fun x => delA.f n x.1 x.2.1 x.2.2.1⟩
theorem delA.gof : GoF Tryz.prog 47 := ⟨_, Tryz.func47, by kernel_rfl, by kernel_rfl⟩
theorem delA.sound (n : Nat) : LSound Tryz.prog 47 (delA.mng n) := del_sound del_calls
end Go.AmT
