/- The law ExpandSchedule, in plain Lean. -/
import Derived.Test.YtgibfifokpnnjaaLExp
namespace Go.AmT
open Go Go.Am
set_option linter.unusedVariables false
set_option linter.unusedSimpArgs false

/-- what a schedule of loops stands for -/
def expP : List Loop → List Int → List Int × (Bool × Unit)
  | [], out => (out, (true, ()))
  | l :: ls, out => if 0 ≤ l.2 ∧ l.2 ≤ 1600 - (out.length : Int) then expP ls (out ++ List.replicate l.2.toNat l.1) else ([], (false, ()))

theorem expP_len : ∀ (ls : List Loop) (out : List Int), out.length ≤ 1600 → (expP ls out).1.length ≤ 1600
  | [], out, h => h
  | l :: ls, out, h => by
    unfold expP
    split
    · exact expP_len ls _ (by simp; omega)
    · simp

theorem l1In_spec (n : Nat) (a b c : Int) : l1In.f n a b c = some (decide (b ≤ a) && decide (a ≤ c), ()) := by
  unfold l1In.f
  by_cases h : b ≤ a <;> simp [h, br]

theorem toLoopS_spec {n : Nat} {a : List Loop} (hl : a.length ≤ 1048576) (hn : a.length < n) : toLoopS.f n a = some (a, ()) := by
  unfold toLoopS.f
  rw [chk_true (by refine ⟨rfl, by omega, ?_⟩; have : (maxB : Int) = 140737488355328 := rfl; omega)]
  refine copy_loop a (fun ih i hi ys hy => ?_) (fun ih ys => ?_) hn (by simp)
  · have h1 : (i : Int) < (a.length : Int) := by omega
    have h2 : (i : Int) < (ys.length : Int) := by omega
    simp only [toLoop.f, Option.bind_some, h1, decide_true, br_true]
    rw [chk_true (by simp), chk_true (by simp; omega), w64_succ (by omega), Int.toNat_natCast, getD_lt hi]
  · simp [br]

theorem eqLoop_refl (n : Nat) (e : Loop) : eqLoop.f n e e = some (true, ()) := by
  unfold eqLoop.f
  simp [br]

theorem eqLoopS_refl {n : Nat} {a : List Loop} (hl : a.length ≤ 1048576) (hn : a.length < n) : eqLoopS.f n a a = some (true, ()) := by
  unfold eqLoopS.f
  simp only [decide_true, Bool.not_true, br_false]
  refine (all_loop a (fun _ => true) (fun ih i hi => ?_) (fun ih => ?_) hn).trans (by simp)
  · have h1 : (i : Int) < (a.length : Int) := by omega
    simp only [h1, decide_true, br_true, eqLoop_refl, Option.bind_some, Bool.not_true, br_false, if_true]
    rw [chk_true (by simp), chk_true (by simp), w64_succ (by omega)]
  · simp [br]

theorem eqIntS_refl {n : Nat} {a : List Int} (hl : a.length ≤ 1048576) (hn : a.length < n) : eqIntS.f n a a = some (true, ()) := by
  unfold eqIntS.f
  simp only [decide_true, Bool.not_true, br_false]
  refine (all_loop a (fun _ => true) (fun ih i hi => ?_) (fun ih => ?_) hn).trans (by simp)
  · have h1 : (i : Int) < (a.length : Int) := by omega
    simp only [h1, decide_true, br_true, Bool.not_true, br_false, if_true]
    rw [chk_true (by simp), chk_true (by simp), w64_succ (by omega)]
  · simp [br]

theorem markIntS_spec {n : Nat} {a : List Int} {k : Int} (hk : 0 ≤ k ∧ k ≤ 100000000) (hl : a.length ≤ 1048576) (hn : a.length < n) : markIntS.f n a k = some (k + (a.length : Int), (ramp k a.length, ())) := by
  unfold markIntS.f
  refine mark_loop a k (fun ih i hi ys hy => ?_) (fun ih ys hy => ?_) hn
  · have h1 : (i : Int) < (ys.length : Int) := by omega
    simp only [h1, decide_true, br_true]
    rw [chk_true (by simp), w64_succ (by omega), Int.toNat_natCast, w64_id (by omega) (by omega)]
    congr 2
    omega
  · have h1 : ¬ ((a.length : Int) < (ys.length : Int)) := by omega
    simp [h1, br]

theorem ramp_len (k : Int) (m : Nat) : (ramp k m).length = m := by simp [ramp]

theorem heldIntS_spec {n m : Nat} {k : Int} (hk : 0 ≤ k ∧ k ≤ 100000000) (hl : m ≤ 1048576) (hn : m < n) : heldIntS.f n (ramp k m) k = some (k + (m : Int), ()) := by
  unfold heldIntS.f
  have hlen := ramp_len k m
  have := held_loop (ramp k m) k (n := n) (F := fun ih5 x4 => br (decide (x4.2.1 < ((ramp k m).length : Int))) (chk (0 ≤ x4.2.1 ∧ x4.2.1 < ((ramp k m).length : Int)) (br (!decide (((ramp k m).getD x4.2.1.toNat 0) = x4.1)) (some ((-1), ())) (ih5 ((w64 (x4.1 + 1)), ((w64 (x4.2.1 + 1)), ()))))) (some (x4.1, ()))) (fun ih i hi => by
    have h1 : (i : Int) < ((ramp k m).length : Int) := by omega
    have h2 : (ramp k m).getD i 0 = k + (i : Int) := by
      rw [getD_lt hi]; simp [ramp]
    simp only [h1, decide_true, br_true, Int.toNat_natCast, h2, Bool.not_true, br_false]
    rw [chk_true (by simp), w64_succ (by omega), w64_id (by omega) (by omega)]
    congr 2
    omega) (fun ih => by simp [br]) (by omega)
  rw [hlen] at this
  rw [hlen]
  exact this

theorem markLoopS_spec {n : Nat} {a : List Loop} {k : Int} (hk : 0 ≤ k ∧ k ≤ 1000) (hl : a.length ≤ 1048576) (hn : a.length < n) : ∃ ys, markLoopS.f n a k = some (k + 2 * (a.length : Int), (ys, ())) := by
  unfold markLoopS.f
  have := iter_upG (F := fun ih7 x6 => br (decide (x6.2.1 < (x6.2.2.1.length : Int))) (chk (0 ≤ x6.2.1 ∧ x6.2.1 < (x6.2.2.1.length : Int)) (let v8 := (x6.2.2.1.set x6.2.1.toNat (x6.1, (x6.2.2.1.getD x6.2.1.toNat zLoop).2)); chk (0 ≤ x6.2.1 ∧ x6.2.1 < (v8.length : Int)) (let v9 := (v8.set x6.2.1.toNat ((v8.getD x6.2.1.toNat zLoop).1, (w64 (x6.1 + 1)))); ih7 ((w64 ((w64 (x6.1 + 1)) + 1)), ((w64 (x6.2.1 + 1)), (v9, ())))))) (some (x6.1, (x6.2.2.1, ()))))
    (fun i (s : List Loop) => (k + 2 * (i : Int), ((i : Int), (s, ())))) a.length (fun i s o => s.length = a.length → ∃ ys, o = some (k + 2 * (a.length : Int), (ys, ())))
    (fun ih s hs => by
      have h1 : ¬ ((a.length : Int) < (s.length : Int)) := by omega
      exact ⟨s, by simp [h1, br]⟩)
    (fun ih i s hi h hs => by
      have h1 : (i : Int) < (s.length : Int) := by omega
      have h2 : 0 ≤ (i : Int) ∧ True := ⟨by omega, trivial⟩
      simp only [h1, decide_true, br_true, List.length_set]
      rw [chk_true h2, chk_true h2, w64_succ (by omega)]
      have e1 : w64 (k + 2 * (i : Int) + 1) = k + 2 * (i : Int) + 1 := w64_id (by omega) (by omega)
      have e2 : w64 (k + 2 * (i : Int) + 1 + 1) = k + 2 * ((i + 1 : Nat) : Int) := by rw [w64_id (by omega) (by omega)]; omega
      simp only [e1, e2]
      exact h _ (by simp [hs]))
    n 0 a (Nat.zero_le _) (by omega) rfl
  simpa using this

theorem snoc_replicate {α : Type} (i : Nat) (x : α) : List.replicate i x ++ [x] = List.replicate (i + 1) x := List.replicate_succ'.symm

/-- a loop that appends the same element again and again -/
theorem rep_loop {ρ : Type} (x : Int) (t : Nat) (out : List Int) (K : List Int → Option ρ) {F : (Int × (List Int) × Unit → Option ρ) → Int × (List Int) × Unit → Option ρ}
    (hF : ∀ ih (i : Nat) (hi : i < t) ys, ys.length = out.length + i → F ih ((i : Int), (ys, ())) = ih (((i + 1 : Nat) : Int), (ys ++ [x], ())))
    (hE : ∀ ih ys, F ih ((t : Int), (ys, ())) = K ys) {n : Nat} (hn : t < n) : iter n F (0, (out, ())) = K (out ++ List.replicate t x) := by
  have := iter_upG (F := F) (fun i (s : List Int) => ((i : Int), (s, ()))) t (fun i s o => s = out ++ List.replicate i x → o = K (out ++ List.replicate t x))
    (fun ih s hs => by rw [hE, hs]) (fun ih i s hi h hs => by
      rw [hF ih i hi s (by rw [hs]; simp)]
      exact h (s ++ [x]) (by rw [hs, List.append_assoc, snoc_replicate])) n 0 out (Nat.zero_le _) (by omega) (by simp)
  simpa using this

theorem sExpand_spec {n : Nat} {a : List Loop} (hl : a.length ≤ 1048576) (hn : a.length < n) (hn2 : 1600 < n) : sExpand.f n a = some (expP a []) := by
  unfold sExpand.f
  have := iter_upG (F := fun ih16 x15 => br (decide (x15.1 < (a.length : Int))) (chk (0 ≤ x15.1 ∧ x15.1 < (a.length : Int)) (let v17 := (a.getD x15.1.toNat zLoop); (l1In.f n v17.2 0 (w64 (1600 - (x15.2.1.length : Int)))).bind fun r18 => br (!r18.1) (some ([], (false, ()))) (iter (α := (Int × (List Int) × Unit)) n (fun ih27 x26 => br (decide (x26.1 < v17.2)) (chk ((x26.2.1.length + ([v17.1] : List Int).length) * 8 ≤ maxB) (ih27 ((w64 (x26.1 + 1)), ((x26.2.1 ++ [v17.1]), ())))) (ih16 ((w64 (x15.1 + 1)), (x26.2.1, ())))) (0, (x15.2.1, ()))))) (some (x15.2.1, (true, ()))))
    (fun i (s : List Int) => ((i : Int), (s, ()))) a.length (fun i s o => s.length ≤ 1600 → o = some (expP (a.drop i) s))
    (fun ih s hs => by simp [br, expP])
    (fun ih i s hi h hs => by
      have h1 : (i : Int) < (a.length : Int) := by omega
      have hd : a.drop i = a[i] :: a.drop (i + 1) := List.drop_eq_getElem_cons hi
      rw [hd]
      have e1 : w64 (1600 - (s.length : Int)) = 1600 - (s.length : Int) := w64_id (by omega) (by omega)
      simp only [h1, decide_true, br_true, Int.toNat_natCast, getD_lt hi, l1In_spec, Option.bind_some, e1]
      rw [chk_true (by simp), w64_succ (by omega)]
      generalize a[i] = l at *
      unfold expP
      by_cases hk : 0 ≤ l.2 ∧ l.2 ≤ 1600 - (s.length : Int)
      · rw [if_pos hk]
        simp only [hk.1, hk.2, decide_true, Bool.and_self, Bool.not_true, br_false]
        have h3 : (l.2.toNat : Int) = l.2 := by omega
        have h4 := rep_loop l.1 l.2.toNat s (fun ys => ih (((i + 1 : Nat) : Int), (ys, ()))) (n := n) (F := fun ih27 x26 => br (decide (x26.1 < l.2)) (chk ((x26.2.1.length + ([l.1] : List Int).length) * 8 ≤ maxB) (ih27 ((w64 (x26.1 + 1)), ((x26.2.1 ++ [l.1]), ())))) (ih (((i + 1 : Nat) : Int), (x26.2.1, ()))))
          (fun ih' j hj ys hy => by
            have h5 : (j : Int) < l.2 := by omega
            simp only [h5, decide_true, br_true]
            rw [chk_true (by have : maxB = 140737488355328 := rfl; simp only [List.length_singleton]; omega), w64_succ (by omega)])
          (fun ih' ys => by simp [br, h3]) (by omega)
        rw [h4]
        exact h _ (by simp; omega)
      · rw [if_neg hk]
        have : (decide (0 ≤ l.2) && decide (l.2 ≤ 1600 - (s.length : Int))) = false := by
          rw [← Bool.not_eq_true]; simpa using hk
        simp [this, br])
    n 0 [] (Nat.zero_le _) (by omega) (by simp)
  simpa using this

theorem mask_u64 {t : Int} (h0 : 0 ≤ t) (h1 : t < 4294967296) : bitsF .and .u64 t 4294967295 = t := by
  obtain ⟨m, rfl⟩ := Int.eq_ofNat_of_zero_le h0
  have hm : m < 4294967296 := by omega
  have e : (BitVec.ofInt 64 (m : Int) &&& BitVec.ofInt 64 4294967295).toNat = m := by
    rw [BitVec.toNat_and]
    have e1 : (BitVec.ofInt 64 (m : Int)).toNat = m := by rw [BitVec.toNat_ofInt]; omega
    have e2 : (BitVec.ofInt 64 (4294967295 : Int)).toNat = 2 ^ 32 - 1 := by decide
    rw [e1, e2, Nat.and_two_pow_sub_one_eq_mod, Nat.mod_eq_of_lt hm]
  show IntKind.u64.wrap (((BitVec.ofInt 64 (m : Int) &&& BitVec.ofInt 64 4294967295).toNat : Nat) : Int) = (m : Int)
  rw [e]
  have : IntKind.u64.wrap (m : Int) = (m : Int) % 18446744073709551616 := rfl
  rw [this]; omega

theorem wrap_u64 {t : Int} (h0 : 0 ≤ t) (h1 : t < 18446744073709551616) : IntKind.wrap .u64 t = t := by
  have : IntKind.u64.wrap t = t % 18446744073709551616 := rfl
  rw [this]; omega

theorem mul_spec {n : Nat} {t : Int} (h0 : 0 ≤ t) (h1 : t < 4294967296) : mul.f n 1 t = some (0, (t, ())) := by
  unfold mul.f mul64.f
  have hb : (2 : Int) ^ (min 32 IntKind.u64.bits) = 4294967296 := by decide
  have f1 : Int.fdiv 1 4294967296 = 0 := by decide
  have f0 : Int.fdiv 0 4294967296 = 0 := by decide
  have ft : Int.fdiv t 4294967296 = 0 := by rw [Int.fdiv_eq_ediv_of_nonneg _ (by omega)]; omega
  have z : IntKind.wrap .u64 0 = 0 := by decide
  have m0 : bitsF .and .u64 0 4294967295 = 0 := mask_u64 (by omega) (by omega)
  have m1 : bitsF .and .u64 1 4294967295 = 1 := mask_u64 (by omega) (by omega)
  have c : ¬ ((32 : Nat) < 0) := by omega
  simp only [hb, f1, ft, mask_u64 h0 h1, m1, Int.zero_mul, Int.one_mul, Int.mul_zero, Int.add_zero, Int.zero_add, z, wrap_u64 h0 (by omega), f0, m0, c, if_false, Option.bind_some]

theorem repeatI_spec {n : Nat} {x t : Int} (h0 : 0 ≤ t) (h1 : t ≤ 1600) (hn : 1600 < n) : repeatI.f n [x] t = some (List.replicate t.toNat x, ()) := by
  unfold repeatI.f
  have a1 : ¬ (t < 0) := by omega
  have a2 : ¬ ((0 : Int) < 0) := by omega
  have a3 : ¬ (9223372036854775807 < t) := by omega
  have a4 : w64 t = t := w64_id (by omega) (by omega)
  have a5 : IntKind.wrap .u64 (([x] : List Int).length : Int) = 1 := by simp only [List.length_singleton]; decide
  have hm : (maxB : Int) = 140737488355328 := rfl
  simp only [a1, a5, wrap_u64 h0 (by omega), mul_spec h0 (show t < 4294967296 by omega), Option.bind_some, a2, a3, decide_false, br_false, a4]
  rw [chk_true ⟨trivial, h0, by omega⟩]
  obtain ⟨m, rfl⟩ := Int.eq_ofNat_of_zero_le h0
  simp only [Int.toNat_natCast, List.length_replicate, List.take_zero, List.nil_append, List.length_singleton, Nat.zero_add]
  have hs : ([x] : List Int).take m ++ (List.replicate m (0 : Int)).drop (min 1 m) = List.replicate (min 1 m) x ++ List.replicate (m - min 1 m) 0 := by
    have hx : ([x] : List Int).take m = List.replicate (min 1 m) x := by
      rcases Nat.eq_zero_or_pos m with h | h
      · rw [h]; rfl
      · rw [show min 1 m = 1 by omega, List.take_of_length_le (by simp; omega)]; rfl
    rw [List.drop_replicate, hx]
  rw [hs]
  refine iter_inv (I := fun y => ∃ k : Nat, k ≤ m ∧ (0 < m → 0 < k) ∧ y = ((k : Int), (List.replicate k x ++ List.replicate (m - k) 0, ()))) (μ := fun y => m - y.1.toNat) (Q := fun _ o => o = some (List.replicate m x, ()))
    (fun ih y hy h => ?_) n _ ⟨min 1 m, by omega, by omega, rfl⟩ (by simp; omega)
  obtain ⟨k, hk, hp, rfl⟩ := hy
  have hlen : (List.replicate k x ++ List.replicate (m - k) (0 : Int)).length = m := by simp; omega
  simp only [hlen, Int.toNat_natCast]
  by_cases hkm : k < m
  · have b1 : (k : Int) < (m : Int) := by omega
    simp only [b1, decide_true, br_true]
    rw [chk_true (by omega), chk_true (by omega)]
    have v9 : ((List.replicate k x ++ List.replicate (m - k) (0 : Int)).drop 0).take (k - 0) = List.replicate k x := by simp
    rw [v9]
    have v9l : (List.replicate k x).length = k := by simp
    rw [v9l]
    have z : (List.replicate k x ++ List.replicate (m - k) (0 : Int)).take k ++ ((List.replicate k x).take (m - k) ++ (List.replicate k x ++ List.replicate (m - k) (0 : Int)).drop (k + min k (m - k))) =
        List.replicate (k + min k (m - k)) x ++ List.replicate (m - (k + min k (m - k))) 0 := by
      have z1 : (List.replicate k x ++ List.replicate (m - k) (0 : Int)).drop (k + min k (m - k)) = List.replicate (m - (k + min k (m - k))) 0 := by
        rw [List.drop_append, List.drop_eq_nil_of_le (by simp), List.length_replicate, List.nil_append, List.drop_replicate]
        rw [show m - k - (k + min k (m - k) - k) = m - (k + min k (m - k)) by omega]
      rw [List.take_left' (by simp), List.take_replicate, z1, ← List.append_assoc, List.replicate_append_replicate, Nat.min_comm (m - k) k]
    rw [z]
    have w : w64 ((k : Int) + ((min k (m - k) : Nat) : Int)) = ((k + min k (m - k) : Nat) : Int) := by rw [w64_id (by omega) (by omega)]; omega
    rw [w]
    refine h _ ⟨k + min k (m - k), by omega, by omega, rfl⟩ ?_
    simp only [Int.toNat_natCast]
    have := hp (by omega)
    omega
  · have : k = m := by omega
    subst this
    simp [br]

theorem iExpand_spec {n : Nat} {a : List Loop} (hl : a.length ≤ 1048576) (hn : a.length < n) (hn2 : 1600 < n) : iExpand.f n a = some (expP a []) := by
  unfold iExpand.f
  have := iter_upG (F := fun ih7 x6 => br (decide (x6.1 < (a.length : Int))) (chk (0 ≤ x6.1 ∧ x6.1 < (a.length : Int)) (let v8 := (a.getD x6.1.toNat zLoop); br (decide (v8.2 < 0)) (some ([], (false, ()))) (br (decide ((w64 (1600 - (x6.2.1.length : Int))) < v8.2)) (some ([], (false, ()))) ((repeatI.f n ([v8.1] : List Int) v8.2).bind fun r9 => chk ((x6.2.1.length + r9.1.length) * 8 ≤ maxB) (ih7 ((w64 (x6.1 + 1)), ((x6.2.1 ++ r9.1), ()))))))) (some (x6.2.1, (true, ()))))
    (fun i (s : List Int) => ((i : Int), (s, ()))) a.length (fun i s o => s.length ≤ 1600 → o = some (expP (a.drop i) s))
    (fun ih s hs => by simp [br, expP])
    (fun ih i s hi h hs => by
      have h1 : (i : Int) < (a.length : Int) := by omega
      have hd : a.drop i = a[i] :: a.drop (i + 1) := List.drop_eq_getElem_cons hi
      rw [hd]
      have e1 : w64 (1600 - (s.length : Int)) = 1600 - (s.length : Int) := w64_id (by omega) (by omega)
      simp only [h1, decide_true, br_true, Int.toNat_natCast, getD_lt hi, e1]
      rw [chk_true (by simp), w64_succ (by omega)]
      generalize a[i] = l at *
      unfold expP
      by_cases hk : 0 ≤ l.2
      · by_cases hk2 : l.2 ≤ 1600 - (s.length : Int)
        · have c1 : ¬ (l.2 < 0) := by omega
          have c2 : ¬ (1600 - (s.length : Int) < l.2) := by omega
          rw [if_pos ⟨hk, hk2⟩]
          simp only [c1, c2, decide_false, br_false]
          rw [repeatI_spec hk (by omega) hn2]
          simp only [Option.bind_some]
          rw [chk_true (by have : maxB = 140737488355328 := rfl; simp only [List.length_replicate]; omega)]
          exact h _ (by simp; omega)
        · have c1 : ¬ (l.2 < 0) := by omega
          have c2 : (1600 - (s.length : Int) < l.2) := by omega
          rw [if_neg (by omega)]
          simp [c1, c2, br]
      · have c1 : (l.2 < 0) := by omega
        rw [if_neg (by omega)]
        simp [c1, br])
    n 0 [] (Nat.zero_le _) (by omega) (by simp)
  simpa using this

theorem law_true (a : List Loop) (h : a.length ≤ maxLen) : ∃ n, law.f n a = some (true, ()) := by
  by_cases hl : a.length ≤ 1048576
  · refine ⟨1048577 + 1, ?_⟩
    generalize hN : 1048577 + 1 = n
    have hn : a.length < n := by omega
    have hn2 : 1600 < n := by omega
    have e1 : w64 (1048576 - (a.length : Int)) = 1048576 - (a.length : Int) := w64_id (by omega) (by omega)
    have e2 : ¬ (1048576 - (a.length : Int) < 0) := by omega
    have hq := expP_len a [] (by simp)
    have s1 := sExpand_spec hl hn hn2
    have s2 := iExpand_spec hl hn hn2
    obtain ⟨g, b, u⟩ : ∃ g b, expP a [] = (g, (b, ())) := ⟨_, _, rfl⟩
    rw [u] at s1 s2 hq
    simp only at hq
    obtain ⟨ys, m1⟩ := markLoopS_spec (n := n) (a := a) (k := 1) (by omega) hl hn
    have m2 := markIntS_spec (n := n) (a := g) (k := 1) (by omega) (by omega) (by omega)
    have m3 := heldIntS_spec (n := n) (m := g.length) (k := 1) (by omega) (by omega) (by omega)
    have n1 : ¬ (1 + 2 * (a.length : Int) < 0) := by omega
    have n2 : ¬ (1 + (g.length : Int) < 0) := by omega
    have q1 := eqIntS_refl (n := n) (a := g) (by omega) (by omega)
    unfold law.f szLoopS.f
    simp only [e1, e2, decide_false, br_false, Option.bind_some, toLoopS_spec hl hn, s1, s2, q1, Bool.not_true, decide_true, eqLoopS_refl hl hn, m1, n1, m2, m3, n2]
  · refine ⟨0, ?_⟩
    have hm : maxLen = 9223372036854775807 := by decide
    have e1 : w64 (1048576 - (a.length : Int)) = 1048576 - (a.length : Int) := w64_id (by omega) (by omega)
    have e2 : (1048576 - (a.length : Int) < 0) := by omega
    have e3 : ((-1 : Int) < 0) := by omega
    unfold law.f szLoopS.f
    simp only [e1, e2, e3, decide_true, br_true, Option.bind_some]

end Go.AmT
