/- Networks whose processes are numbered anew, in plain Lean. -/
import Derived.Test.YtfcehikkpoeebaaGreatLReach
import Derived.Test.YtfcehikkpoeebaaGreatPCopy
namespace Go.AmT
open Go Go.Am
set_option linter.unusedVariables false
set_option linter.unusedSimpArgs false

def idxI (a : List Int) (x : Int) : Int := match (List.range a.length).find? (fun i => decide (x = a.getD i 0)) with | some i => (i : Int) | none => -1

theorem indexI_spec {n : Nat} {a : List Int} {x : Int} (hl : a.length ≤ 1048576) (hn : 1048576 < n) : indexI.f n a x = some (idxI a x, ()) := by
  unfold indexI.f
  rw [first_loop a.length (fun i => decide (x = a.getD i 0)) (yes := fun i => some ((i : Int), ())) (no := some (-1, ())) (fun ih i hi => ?_) (fun ih => br_no (Int.lt_irrefl _)) (by omega)]
  · unfold idxI
    cases (List.range a.length).find? (fun i => decide (x = a.getD i 0)) <;> rfl
  · simp only [br_yes (show (i : Int) < (a.length : Int) by omega), Int.toNat_natCast]
    rw [chk_true (by omega), w64_succ (by omega), br_if]

/-- an order of so many -/
structure Ord (order : List Int) (N : Nat) : Prop where
  len : order.length = N
  all : ∀ k : Nat, k < N → (k : Int) ∈ order

theorem Ord.perm {order : List Int} {N : Nat} (h : Ord order N) : ((List.range N).map (fun i : Nat => (i : Int))).Perm order := by
  refine perm_of_sub ?_ (fun x hx => ?_) (by simp [h.len])
  · rw [List.nodup_iff_pairwise_ne, List.pairwise_map]
    refine List.Pairwise.imp ?_ List.nodup_range
    intro a b hab; omega
  · obtain ⟨k, hk, rfl⟩ := List.mem_map.1 hx
    exact h.all k (List.mem_range.1 hk)
theorem Ord.nodup {order : List Int} {N : Nat} (h : Ord order N) : order.Nodup := by
  refine h.perm.nodup ?_
  rw [List.nodup_iff_pairwise_ne, List.pairwise_map]
  refine List.Pairwise.imp ?_ List.nodup_range
  intro a b hab; omega
theorem Ord.rng {order : List Int} {N : Nat} (h : Ord order N) : ∀ x ∈ order, 0 ≤ x ∧ x < (N : Int) := by
  intro x hx
  obtain ⟨k, hk, rfl⟩ := List.mem_map.1 (h.perm.mem_iff.2 hx)
  have := List.mem_range.1 hk
  omega
theorem Ord.get {order : List Int} {N : Nat} (h : Ord order N) {i : Nat} (hi : i < N) : 0 ≤ order.getD i 0 ∧ order.getD i 0 < (N : Int) := by
  have hl := h.len
  rw [getD_lt (by omega)]
  exact h.rng _ (List.getElem_mem _)
theorem containsI_spec {n : Nat} {a : List Int} {x : Int} (hl : a.length ≤ 1048576) (hn : 1048576 < n) : containsI.f n a x = some (decide (0 ≤ idxI a x), ()) := by
  unfold containsI.f
  rw [indexI_spec hl hn]; rfl

end Go.AmT
