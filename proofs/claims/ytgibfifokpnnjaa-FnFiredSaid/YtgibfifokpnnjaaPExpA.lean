/- The law ExpandSchedule, in plain Lean. -/
import Derived.Test.YtgibfifokpnnjaaLFired
import Derived.Test.YtgibfifokpnnjaaPFireA
import Derived.Test.YtgibfifokpnnjaaAmD
namespace Go.AmT
open Go Go.Am
set_option linter.unusedVariables false
set_option linter.unusedSimpArgs false

/-- what a schedule of loops stands for -/
def expP : List Loop → List Int → List Int × (Bool × Unit)
  | [], out => (out, (true, ()))
  | l :: ls, out => if 0 ≤ l.2 ∧ l.2 ≤ 1600 - (out.length : Int) then expP ls (out ++ List.replicate l.2.toNat l.1) else ([], (false, ()))

theorem mask_u64 {t : Int} (h0 : 0 ≤ t) (h1 : t < 4294967296) : bitsF .and .u64 t 4294967295 = t := by
  obtain ⟨m, rfl⟩ := Int.eq_ofNat_of_zero_le h0
  have hm : m < 4294967296 := by omega
  have e : (BitVec.ofInt 64 (m : Int) &&& BitVec.ofInt 64 4294967295).toNat = m := by
    rw [BitVec.toNat_and]
    have e1 : (BitVec.ofInt 64 (m : Int)).toNat = m := by rw [BitVec.toNat_ofInt]; omega
    have e2 : (BitVec.ofInt 64 (4294967295 : Int)).toNat = 2 ^ 32 - 1 := by decide
    rw [e1, e2, Nat.and_two_pow_sub_one_eq_mod, Nat.mod_eq_of_lt hm]
  show IntKind.u64.wrap (((BitVec.ofInt 64 (m : Int) &&& BitVec.ofInt 64 4294967295).toNat : Nat) : Int) = (m : Int)
  rw [e]
  have : IntKind.u64.wrap (m : Int) = (m : Int) % 18446744073709551616 := rfl
  rw [this]; omega

theorem wrap_u64 {t : Int} (h0 : 0 ≤ t) (h1 : t < 18446744073709551616) : IntKind.wrap .u64 t = t := by
  have : IntKind.u64.wrap t = t % 18446744073709551616 := rfl
  rw [this]; omega

theorem mul_spec {n : Nat} {t : Int} (h0 : 0 ≤ t) (h1 : t < 4294967296) : mul.f n 1 t = some (0, (t, ())) := by
  unfold mul.f mul64.f
  have hb : (2 : Int) ^ (min 32 IntKind.u64.bits) = 4294967296 := by decide
  have f1 : Int.fdiv 1 4294967296 = 0 := by decide
  have f0 : Int.fdiv 0 4294967296 = 0 := by decide
  have ft : Int.fdiv t 4294967296 = 0 := by rw [Int.fdiv_eq_ediv_of_nonneg _ (by omega)]; omega
  have z : IntKind.wrap .u64 0 = 0 := by decide
  have m0 : bitsF .and .u64 0 4294967295 = 0 := mask_u64 (by omega) (by omega)
  have m1 : bitsF .and .u64 1 4294967295 = 1 := mask_u64 (by omega) (by omega)
  have c : ¬ ((32 : Nat) < 0) := by omega
  simp only [hb, f1, ft, mask_u64 h0 h1, m1, Int.zero_mul, Int.one_mul, Int.mul_zero, Int.add_zero, Int.zero_add, z, wrap_u64 h0 (by omega), f0, m0, c, if_false, Option.bind_some]

theorem repeatI_spec {n : Nat} {x t : Int} (h0 : 0 ≤ t) (h1 : t ≤ 1600) (hn : 1600 < n) : repeatI.f n [x] t = some (List.replicate t.toNat x, ()) := by
  unfold repeatI.f
  have a1 : ¬ (t < 0) := by omega
  have a2 : ¬ ((0 : Int) < 0) := by omega
  have a3 : ¬ (9223372036854775807 < t) := by omega
  have a4 : w64 t = t := w64_id (by omega) (by omega)
  have a5 : IntKind.wrap .u64 (([x] : List Int).length : Int) = 1 := by simp only [List.length_singleton]; decide
  have hm : (maxB : Int) = 140737488355328 := rfl
  simp only [a1, a5, wrap_u64 h0 (by omega), mul_spec h0 (show t < 4294967296 by omega), Option.bind_some, a2, a3, decide_false, br_false, a4]
  rw [chk_true ⟨trivial, h0, by omega⟩]
  obtain ⟨m, rfl⟩ := Int.eq_ofNat_of_zero_le h0
  simp only [Int.toNat_natCast, List.length_replicate, List.take_zero, List.nil_append, List.length_singleton, Nat.zero_add]
  have hs : ([x] : List Int).take m ++ (List.replicate m (0 : Int)).drop (min 1 m) = List.replicate (min 1 m) x ++ List.replicate (m - min 1 m) 0 := by
    have hx : ([x] : List Int).take m = List.replicate (min 1 m) x := by
      rcases Nat.eq_zero_or_pos m with h | h
      · rw [h]; rfl
      · rw [show min 1 m = 1 by omega, List.take_of_length_le (by simp; omega)]; rfl
    rw [List.drop_replicate, hx]
  rw [hs]
  refine iter_inv (I := fun y => ∃ k : Nat, k ≤ m ∧ (0 < m → 0 < k) ∧ y = ((k : Int), (List.replicate k x ++ List.replicate (m - k) 0, ()))) (μ := fun y => m - y.1.toNat) (Q := fun _ o => o = some (List.replicate m x, ()))
    (fun ih y hy h => ?_) n _ ⟨min 1 m, by omega, by omega, rfl⟩ (by simp; omega)
  obtain ⟨k, hk, hp, rfl⟩ := hy
  have hlen : (List.replicate k x ++ List.replicate (m - k) (0 : Int)).length = m := by simp; omega
  simp only [hlen, Int.toNat_natCast]
  by_cases hkm : k < m
  · have b1 : (k : Int) < (m : Int) := by omega
    simp only [b1, decide_true, br_true]
    rw [chk_true (by omega), chk_true (by omega)]
    have v9 : ((List.replicate k x ++ List.replicate (m - k) (0 : Int)).drop 0).take (k - 0) = List.replicate k x := by simp
    rw [v9]
    have v9l : (List.replicate k x).length = k := by simp
    rw [v9l]
    have z : (List.replicate k x ++ List.replicate (m - k) (0 : Int)).take k ++ ((List.replicate k x).take (m - k) ++ (List.replicate k x ++ List.replicate (m - k) (0 : Int)).drop (k + min k (m - k))) =
        List.replicate (k + min k (m - k)) x ++ List.replicate (m - (k + min k (m - k))) 0 := by
      have z1 : (List.replicate k x ++ List.replicate (m - k) (0 : Int)).drop (k + min k (m - k)) = List.replicate (m - (k + min k (m - k))) 0 := by
        rw [List.drop_append, List.drop_eq_nil_of_le (by simp), List.length_replicate, List.nil_append, List.drop_replicate]
        rw [show m - k - (k + min k (m - k) - k) = m - (k + min k (m - k)) by omega]
      rw [List.take_left' (by simp), List.take_replicate, z1, ← List.append_assoc, List.replicate_append_replicate, Nat.min_comm (m - k) k]
    rw [z]
    have w : w64 ((k : Int) + ((min k (m - k) : Nat) : Int)) = ((k + min k (m - k) : Nat) : Int) := by rw [w64_id (by omega) (by omega)]; omega
    rw [w]
    refine h _ ⟨k + min k (m - k), by omega, by omega, rfl⟩ ?_
    simp only [Int.toNat_natCast]
    have := hp (by omega)
    omega
  · have : k = m := by omega
    subst this
    simp [br]

theorem iExpand_spec {n : Nat} {a : List Loop} (hl : a.length ≤ 1048576) (hn : a.length < n) (hn2 : 1600 < n) : iExpand.f n a = some (expP a []) := by
  unfold iExpand.f
  have := iter_upG (F := fun ih7 x6 => br (decide (x6.1 < (a.length : Int))) (chk (0 ≤ x6.1 ∧ x6.1 < (a.length : Int)) (let v8 := (a.getD x6.1.toNat zLoop); br (decide (v8.2 < 0)) (some ([], (false, ()))) (br (decide ((w64 (1600 - (x6.2.1.length : Int))) < v8.2)) (some ([], (false, ()))) ((repeatI.f n ([v8.1] : List Int) v8.2).bind fun r9 => chk ((x6.2.1.length + r9.1.length) * 8 ≤ maxB) (ih7 ((w64 (x6.1 + 1)), ((x6.2.1 ++ r9.1), ()))))))) (some (x6.2.1, (true, ()))))
    (fun i (s : List Int) => ((i : Int), (s, ()))) a.length (fun i s o => s.length ≤ 1600 → o = some (expP (a.drop i) s))
    (fun ih s hs => by simp [br, expP])
    (fun ih i s hi h hs => by
      have h1 : (i : Int) < (a.length : Int) := by omega
      have hd : a.drop i = a[i] :: a.drop (i + 1) := List.drop_eq_getElem_cons hi
      rw [hd]
      have e1 : w64 (1600 - (s.length : Int)) = 1600 - (s.length : Int) := w64_id (by omega) (by omega)
      simp only [h1, decide_true, br_true, Int.toNat_natCast, getD_lt hi, e1]
      rw [chk_true (by simp), w64_succ (by omega)]
      generalize a[i] = l at *
      unfold expP
      by_cases hk : 0 ≤ l.2
      · by_cases hk2 : l.2 ≤ 1600 - (s.length : Int)
        · have c1 : ¬ (l.2 < 0) := by omega
          have c2 : ¬ (1600 - (s.length : Int) < l.2) := by omega
          rw [if_pos ⟨hk, hk2⟩]
          simp only [c1, c2, decide_false, br_false]
          rw [repeatI_spec hk (by omega) hn2]
          simp only [Option.bind_some]
          rw [chk_true (by have : maxB = 140737488355328 := rfl; simp only [List.length_replicate]; omega)]
          exact h _ (by simp; omega)
        · have c1 : ¬ (l.2 < 0) := by omega
          have c2 : (1600 - (s.length : Int) < l.2) := by omega
          rw [if_neg (by omega)]
          simp [c1, c2, br]
      · have c1 : (l.2 < 0) := by omega
        rw [if_neg (by omega)]
        simp [c1, br])
    n 0 [] (Nat.zero_le _) (by omega) (by simp)
  simpa using this

end Go.AmT
