/- States as texts, in plain Lean: each has one, and it is not empty. -/
import Derived.Test.YtgepghodhnmhjaaLFmtS
import Derived.Test.YtgepghodhnmhjaaPGenS
namespace Go.AmT
open Go Go.Am
set_option linter.unusedVariables false
set_option linter.unusedSimpArgs false

theorem str_chk {m : Nat} {ρ : Type} {x : Option ρ} (h : m ≤ 1000000000000) : chk (m < maxS) x = x := chk_true (by simp only [maxS]; omega)
theorem digits_W {n d : Nat} {x : Int} {slf : Int → Option (List UInt8 × Unit)} (hn : 1048576 < n) (h0 : 0 ≤ x) (h1 : x ≤ 1000000) : W (l1Number.B n slf x) (fun r => 1 ≤ r.1.length ∧ r.1.length ≤ 200000) := by
  unfold l1Number.B
  rw [br_no (by omega)]
  have hd : x.tdiv 10 = x / 10 := Int.tdiv_eq_ediv_of_nonneg h0
  rw [hd, w64_id (n := x / 10) (by omega) (by omega)]
  refine W_iter (fun y => 0 ≤ y.1 ∧ y.1 ≤ 100000 ∧ 1 ≤ y.2.1.length ∧ (y.2.1.length : Int) + y.1 ≤ 100002) (fun y => y.1.toNat) (fun ih y hy hS => ?_) ⟨by omega, by omega, by simp, by simp; omega⟩ (by show (x / 10).toNat < n; omega)
  obtain ⟨v, out, ⟨⟩⟩ := y
  obtain ⟨a0, a1, a2, a3⟩ := hy
  simp only at a0 a1 a2 a3
  by_cases hv : 0 < v
  · simp only [br_yes hv]
    have hd : v.tdiv 10 = v / 10 := Int.tdiv_eq_ediv_of_nonneg a0
    rw [hd, w64_id (n := v / 10) (by omega) (by omega), str_chk (by simp; omega)]
    refine hS _ ⟨by simp only; omega, by simp only; omega, by simp, by simp; omega⟩ (by simp only; omega)
  · simp only [br_no hv]
    rw [W_some]
    exact ⟨a2, by simp only; omega⟩
theorem number_W {n : Nat} {x : Int} (hn : 1048576 < n) (h0 : -1000000 ≤ x) (h1 : x ≤ 1000000) : W (l1Number.f n x) (fun r => 1 ≤ r.1.length ∧ r.1.length ≤ 200001) := by
  obtain ⟨m, rfl⟩ : ∃ m, n = m + 2 := ⟨n - 2, by omega⟩
  show W (l1Number.B (m + 2) (l1Number.F (m + 2) (m + 1)) x) _
  by_cases hx : 0 ≤ x
  · exact W_and (digits_W (d := 0) hn hx h1) (fun r hr => ⟨hr.1, by omega⟩)
  · unfold l1Number.B
    rw [br_yes (by omega), w64_id (n := 0 - x) (by omega) (by omega), W_bind]
    refine W_and (show W (l1Number.B (m + 2) (l1Number.F (m + 2) m) (0 - x)) (fun r => 1 ≤ r.1.length ∧ r.1.length ≤ 200000) from digits_W (d := 0) hn (by omega) (by omega)) (fun r hr => ?_)
    rw [str_chk (by simp; omega), W_some]
    exact ⟨by simp, by simp; omega⟩
theorem tok_sm {x : Int} (h : tok x = true) : -1000000 ≤ x ∧ x ≤ 1000000 := by have := tok_of h; omega
theorem fmtStream_W {n : Nat} {s : List Int} (hs : okS s = true) (hn : 1048576 < n) : W (fmtStream.f n s) (fun r => r.1.length ≤ 100000000) := by
  have hl := okS_len hs
  unfold fmtStream.f
  rw [sIsStream_spec (by omega) hn, hs, bind_unit, Bool.not_true, br_false, W_brd]
  refine ⟨fun _ => W_some.2 (by simp), fun hne => ?_⟩
  rw [chk_true (by omega), W_bind]
  refine W_and (number_W hn (tok_sm (okS_get hs 0)).1 (tok_sm (okS_get hs 0)).2) (fun r ⟨h1, h2⟩ => ?_)
  rw [chk_true (by omega)]
  have e1 : (s.take (s.length : Int).toNat).drop 1 = s.drop 1 := by rw [Int.toNat_natCast, List.take_length]
  rw [e1]
  have hld : (s.drop 1).length ≤ 400 := by rw [List.length_drop]; omega
  refine W_up (fun i (o : List UInt8) => (o, ((i : Int), ()))) (s.drop 1).length (fun i o => o.length ≤ 200002 * (i + 1)) (s0 := r.1) rfl (by omega) (by omega) (fun ih o hI => ?_) (fun ih i o hi hI hS => ?_)
  · simp only [br_no (Int.lt_irrefl _)]
    rw [W_some]
    show o.length ≤ _
    have := Nat.mul_le_mul_left 200002 (show (s.drop 1).length + 1 ≤ 401 by omega)
    omega
  · have hI : o.length ≤ 200002 * (i + 1) := hI
    have hb := Nat.mul_le_mul_left 200002 (show i + 1 ≤ 401 by omega)
    simp only [br_yes (show (i : Int) < ((s.drop 1).length : Int) by omega), Int.toNat_natCast]
    have ht : tok ((s.drop 1).getD i 0) = true := by
      have : (s.drop 1).getD i 0 = s.getD (1 + i) 0 := by simp [List.getD_eq_getElem?_getD, Nat.add_comm]
      rw [this]; exact okS_get hs _
    rw [chk_true (by omega), str_chk (by simp; omega), W_bind]
    refine W_and (number_W hn (tok_sm ht).1 (tok_sm ht).2) (fun r2 ⟨g1, g2⟩ => ?_)
    rw [str_chk (by simp; omega), w64_succ (by omega)]
    refine hS _ ?_
    show ((o ++ [44]) ++ r2.1).length ≤ 200002 * (i + 1 + 1)
    simp
    omega
theorem fmtState_W {n : Nat} {nt : Network} {s : State} (h : SmallN nt) (o : OkSt nt s) (hn : 1048576 < n) : W (fmtState.f n nt s) (fun r => r.1 ≠ []) := by
  have hli := o.net.links
  have hpr := o.net.progs
  have hna := o.na
  have hnq := o.nq
  have hns := o.ns
  have hst := o.steps
  unfold fmtState.f
  rw [sIsState_spec h (small_of_ok o) hn, okSt_true o, bind_unit, Bool.not_true, br_false, W_bind]
  refine W_and (number_W hn (by omega) (by omega)) (fun r2 ⟨h1, h2⟩ => ?_)
  rw [str_chk (by simp; omega), str_chk (by simp; omega)]
  refine W_up (fun i (t : List UInt8) => (t, ((i : Int), ()))) s.1.length (fun i t => 1 ≤ t.length ∧ t.length ≤ 200100 + 200000000 * i) rfl ⟨by simp, by simp; omega⟩ (by omega) (fun ih t hI => ?_) (fun ih i t hi hI hS => ?_)
  rotate_left
  · have hI : 1 ≤ t.length ∧ t.length ≤ 200100 + 200000000 * i := hI
    have ha := o.act i (by omega)
    obtain ⟨p0, p1⟩ := okA_pc ha
    obtain ⟨q0, q1⟩ := okA_regs ha
    have hc := (okP_n (by rw [getD_lt (show i < nt.1.length by omega)]; exact o.net.prog i (by omega) : okP (nt.1.getD i zProgram) = true)).2.2.2.2
    simp only [br_yes (show (i : Int) < (s.1.length : Int) by omega), Int.toNat_natCast]
    rw [chk_true (by omega), str_chk (by simp; omega), W_bind]
    refine W_and (number_W hn (by omega) (by omega)) (fun r22 ⟨g1, g2⟩ => ?_)
    rw [str_chk (by simp; omega), str_chk (by simp; omega), W_bind]
    refine W_and (fmtStream_W q1 hn) (fun r23 g3 => ?_)
    rw [str_chk (by simp; omega), str_chk (by simp; omega), w64_succ (by omega)]
    refine hS _ ⟨by simp; omega, ?_⟩
    simp
    omega
  · have hI : 1 ≤ t.length ∧ t.length ≤ 200100 + 200000000 * s.1.length := hI
    simp only [br_no (Int.lt_irrefl _)]
    refine W_up (fun i (t : List UInt8) => (t, ((i : Int), ()))) s.2.1.length (fun i t => 1 ≤ t.length ∧ t.length ≤ 3000000000 + 300000000 * i) (s0 := t) rfl ⟨by omega, by omega⟩ (by omega) (fun ih t hI => ?_) (fun ih i t hi hI hS => ?_)
    · simp only [br_no (Int.lt_irrefl _)]
      rw [W_some]
      intro e
      have hI : 1 ≤ t.length := hI.1
      rw [show t = [] from e] at hI
      simp at hI
    · have hI : 1 ≤ t.length ∧ t.length ≤ 3000000000 + 300000000 * i := hI
      have L := o.lnk i (by omega)
      simp only [br_yes (show (i : Int) < (s.2.1.length : Int) by omega), Int.toNat_natCast]
      rw [chk_true (by omega), str_chk (by simp; omega), W_bind]
      refine W_and (fmtStream_W L.qs hn) (fun r37 g1 => ?_)
      rw [str_chk (by simp; omega), str_chk (by simp; omega), chk_true (by omega), W_bind]
      refine W_and (fmtStream_W L.hs hn) (fun r38 g2 => ?_)
      rw [str_chk (by simp; omega), str_chk (by simp; omega), w64_succ (by omega)]
      refine hS _ ⟨by simp; omega, ?_⟩
      simp
      omega
theorem statesB_spec {n : Nat} {nt : Network} {s : State} (h : SmallN nt) (o : OkSt nt s) (hn : 1048576 < n) : statesB.f n nt s s = some (true, ()) := by
  obtain ⟨r, e, hr⟩ := fmtState_W h o hn
  unfold statesB.f
  rw [e, bind_unit, decide_eq_false hr, Bool.not_false, br_true, bind_unit, decide_eq_true rfl]
end Go.AmT
