/- Networks as texts, in plain Lean: each has one. -/
import Derived.Test.YtgepghodhnmhjaaLFmtN
import Derived.Test.YtgepghodhnmhjaaPGenS
namespace Go.AmT
open Go Go.Am
set_option linter.unusedVariables false
set_option linter.unusedSimpArgs false

theorem str_chk {m : Nat} {ρ : Type} {x : Option ρ} (h : m ≤ 1000000000000) : chk (m < maxS) x = x := chk_true (by simp only [maxS]; omega)
theorem digits_W {n d : Nat} {x : Int} {slf : Int → Option (List UInt8 × Unit)} (hn : 1048576 < n) (h0 : 0 ≤ x) (h1 : x ≤ 1000000) : W (l1Number.B n slf x) (fun r => 1 ≤ r.1.length ∧ r.1.length ≤ 200000) := by
  unfold l1Number.B
  rw [br_no (by omega)]
  have hd : x.tdiv 10 = x / 10 := Int.tdiv_eq_ediv_of_nonneg h0
  rw [hd, w64_id (n := x / 10) (by omega) (by omega)]
  refine W_iter (fun y => 0 ≤ y.1 ∧ y.1 ≤ 100000 ∧ 1 ≤ y.2.1.length ∧ (y.2.1.length : Int) + y.1 ≤ 100002) (fun y => y.1.toNat) (fun ih y hy hS => ?_) ⟨by omega, by omega, by simp, by simp; omega⟩ (by show (x / 10).toNat < n; omega)
  obtain ⟨v, out, ⟨⟩⟩ := y
  obtain ⟨a0, a1, a2, a3⟩ := hy
  simp only at a0 a1 a2 a3
  by_cases hv : 0 < v
  · simp only [br_yes hv]
    have hd : v.tdiv 10 = v / 10 := Int.tdiv_eq_ediv_of_nonneg a0
    rw [hd, w64_id (n := v / 10) (by omega) (by omega), str_chk (by simp; omega)]
    refine hS _ ⟨by simp only; omega, by simp only; omega, by simp, by simp; omega⟩ (by simp only; omega)
  · simp only [br_no hv]
    rw [W_some]
    exact ⟨a2, by simp only; omega⟩
theorem number_W {n : Nat} {x : Int} (hn : 1048576 < n) (h0 : -1000000 ≤ x) (h1 : x ≤ 1000000) : W (l1Number.f n x) (fun r => 1 ≤ r.1.length ∧ r.1.length ≤ 200001) := by
  obtain ⟨m, rfl⟩ : ∃ m, n = m + 2 := ⟨n - 2, by omega⟩
  show W (l1Number.B (m + 2) (l1Number.F (m + 2) (m + 1)) x) _
  by_cases hx : 0 ≤ x
  · exact W_and (digits_W (d := 0) hn hx h1) (fun r hr => ⟨hr.1, by omega⟩)
  · unfold l1Number.B
    rw [br_yes (by omega), w64_id (n := 0 - x) (by omega) (by omega), W_bind]
    refine W_and (show W (l1Number.B (m + 2) (l1Number.F (m + 2) m) (0 - x)) (fun r => 1 ≤ r.1.length ∧ r.1.length ≤ 200000) from digits_W (d := 0) hn (by omega) (by omega)) (fun r hr => ?_)
    rw [str_chk (by simp; omega), W_some]
    exact ⟨by simp, by simp; omega⟩
theorem tok_sm {x : Int} (h : tok x = true) : -1000000 ≤ x ∧ x ≤ 1000000 := by have := tok_of h; omega
theorem fmtStream_W {n : Nat} {s : List Int} (hs : okS s = true) (hn : 1048576 < n) : W (fmtStream.f n s) (fun r => r.1.length ≤ 100000000) := by
  have hl := okS_len hs
  unfold fmtStream.f
  rw [sIsStream_spec (by omega) hn, hs, bind_unit, Bool.not_true, br_false, W_brd]
  refine ⟨fun _ => W_some.2 (by simp), fun hne => ?_⟩
  rw [chk_true (by omega), W_bind]
  refine W_and (number_W hn (tok_sm (okS_get hs 0)).1 (tok_sm (okS_get hs 0)).2) (fun r ⟨h1, h2⟩ => ?_)
  rw [chk_true (by omega)]
  have e1 : (s.take (s.length : Int).toNat).drop 1 = s.drop 1 := by rw [Int.toNat_natCast, List.take_length]
  rw [e1]
  have hld : (s.drop 1).length ≤ 400 := by rw [List.length_drop]; omega
  refine W_up (fun i (o : List UInt8) => (o, ((i : Int), ()))) (s.drop 1).length (fun i o => o.length ≤ 200002 * (i + 1)) (s0 := r.1) rfl (by omega) (by omega) (fun ih o hI => ?_) (fun ih i o hi hI hS => ?_)
  · simp only [br_no (Int.lt_irrefl _)]
    rw [W_some]
    show o.length ≤ _
    have := Nat.mul_le_mul_left 200002 (show (s.drop 1).length + 1 ≤ 401 by omega)
    omega
  · have hI : o.length ≤ 200002 * (i + 1) := hI
    have hb := Nat.mul_le_mul_left 200002 (show i + 1 ≤ 401 by omega)
    simp only [br_yes (show (i : Int) < ((s.drop 1).length : Int) by omega), Int.toNat_natCast]
    have ht : tok ((s.drop 1).getD i 0) = true := by
      have : (s.drop 1).getD i 0 = s.getD (1 + i) 0 := by simp [List.getD_eq_getElem?_getD, Nat.add_comm]
      rw [this]; exact okS_get hs _
    rw [chk_true (by omega), str_chk (by simp; omega), W_bind]
    refine W_and (number_W hn (tok_sm ht).1 (tok_sm ht).2) (fun r2 ⟨g1, g2⟩ => ?_)
    rw [str_chk (by simp; omega), w64_succ (by omega)]
    refine hS _ ?_
    show ((o ++ [44]) ++ r2.1).length ≤ 200002 * (i + 1 + 1)
    simp
    omega
theorem okI_small {x : Instr} (h : okI 3 3 24 x = true) : (1 ≤ x.1 ∧ x.1 ≤ 11) ∧ (-1000000 ≤ x.2.1 ∧ x.2.1 ≤ 1000000) ∧ (-1000000 ≤ x.2.2.1 ∧ x.2.2.1 ≤ 1000000) ∧ (-1000000 ≤ x.2.2.2 ∧ x.2.2.2 ≤ 1000000) := by
  have O := opOk_of h
  have h1 := O.op
  have h2 := O.a
  refine ⟨h1, by omega, ?_⟩
  unfold okI at h
  simp only [reg] at h
  split at h
  · simp only [Bool.and_eq_true, decide_eq_true_eq] at h; omega
  · split at h
    · simp only [Bool.and_eq_true, decide_eq_true_eq] at h; omega
    · split at h
      · rename_i c
        have := tok_sm (O.t c)
        simp only [Bool.and_eq_true, decide_eq_true_eq] at h; omega
      · split at h
        · simp only [Bool.and_eq_true, decide_eq_true_eq] at h; omega
        · split at h
          · simp only [Bool.and_eq_true, decide_eq_true_eq] at h; omega
          · split at h
            · simp only [Bool.and_eq_true, decide_eq_true_eq] at h; omega
            · split at h
              · simp only [Bool.and_eq_true, decide_eq_true_eq] at h; omega
              · cases h
theorem uses_W {n : Nat} {op : Int} : W (l9Uses.f n op) (fun r => r.1.length = 3) := by
  unfold l9Uses.f
  refine W_cut.2 (W_and (P := fun s => ∃ z : Bool × Unit, s = Sum.inr z) ?_ (fun s hs => ?_))
  · rw [W_brd]
    refine ⟨fun _ => W_some.2 ⟨_, rfl⟩, fun _ => ?_⟩
    rw [W_brd]
    refine ⟨fun _ => W_some.2 ⟨_, rfl⟩, fun _ => ?_⟩
    rw [W_brd]
    exact ⟨fun _ => W_some.2 ⟨_, rfl⟩, fun _ => W_some.2 ⟨_, rfl⟩⟩
  · obtain ⟨z, rfl⟩ := hs
    simp only
    rw [W_br]
    refine ⟨fun _ => W_some.2 rfl, fun _ => ?_⟩
    rw [W_brd]
    refine ⟨fun _ => W_some.2 rfl, fun _ => ?_⟩
    rw [W_brd]
    exact ⟨fun _ => W_some.2 rfl, fun _ => W_some.2 rfl⟩
theorem words_len {n : Nat} : W (l9Words.f n) (fun r => r.1.length = 12 ∧ ∀ x ∈ r.1, x.length ≤ 10) := by
  unfold l9Words.f
  rw [W_some]
  exact ⟨rfl, by decide⟩
theorem fmtInstr_W {n : Nat} {x : Instr} (hn : 1048576 < n) : W (fmtInstr.f n x) (fun r => r.1.length ≤ 1000000) := by
  unfold fmtInstr.f l9Fits.f
  have hm := maxB_eq
  have hf := sL2Operands_spec n (3, (3, (List.replicate 24 ((0, (0, (0, 0))) : Instr)))) x ⟨by decide, by decide⟩ ⟨by decide, by decide⟩
  rw [chk_true (by refine ⟨rfl, ?_⟩; omega), hf, bind_unit, bind_unit]
  have e24 : (((3, (3, (List.replicate 24 ((0, (0, (0, 0))) : Instr)))) : Program).2.2.length : Int) = 24 := by simp
  rw [e24]
  cases hk : okI 3 3 24 x
  · simp only [Bool.not_false, br_true]
    exact W_some.2 (by simp)
  · simp only [Bool.not_true, br_false]
    obtain ⟨o1, o2, o3, o4⟩ := okI_small hk
    rw [W_bind]
    refine W_and words_len (fun r2 ⟨w1, w2⟩ => ?_)
    rw [chk_true (by omega), W_bind]
    refine W_and uses_W (fun r3 h3 => ?_)
    have hw : (r2.1.getD x.1.toNat []).length ≤ 10 := by
      rw [getD_lt (by omega)]; exact w2 _ (List.getElem_mem _)
    refine W_up (fun i (o : List UInt8) => (o, ((i : Int), ([x.2.1, x.2.2.1, x.2.2.2], ())))) 3 (fun i o => o.length ≤ 10 + 200010 * i) (s0 := r2.1.getD x.1.toNat []) rfl hw (by omega) (fun ih o hI => ?_) (fun ih i o hi hI hS => ?_)
    · simp only [br_no (show ¬ ((3 : Nat) : Int) < 3 by omega)]
      exact W_some.2 (by have hI : o.length ≤ 10 + 200010 * 3 := hI; show o.length ≤ 1000000; omega)
    · have hI : o.length ≤ 10 + 200010 * i := hI
      simp only [br_yes (show (i : Int) < 3 by omega), Int.toNat_natCast]
      rw [chk_true (by simp; omega), chk_true (by omega), w64_succ (by omega)]
      have hv : -1000000 ≤ [x.2.1, x.2.2.1, x.2.2.2].getD i 0 ∧ [x.2.1, x.2.2.1, x.2.2.2].getD i 0 ≤ 1000000 := by
        have : i = 0 ∨ i = 1 ∨ i = 2 := by omega
        rcases this with rfl | rfl | rfl
        · exact o2
        · exact o3
        · exact o4
      rw [W_br]
      refine ⟨fun _ => ?_, fun _ => hS o (by show o.length ≤ 10 + 200010 * (i + 1); omega)⟩
      rw [str_chk (by simp; omega), W_bind]
      refine W_and (number_W hn hv.1 hv.2) (fun r12 ⟨g1, g2⟩ => ?_)
      rw [str_chk (by simp; omega)]
      refine hS _ ?_
      show ((o ++ [32]) ++ r12.1).length ≤ 10 + 200010 * (i + 1)
      simp; omega
theorem fmtProgram_W {n : Nat} {p : Program} (hs : SmallP p) (hp : okP p = true) (hn : 1048576 < n) : W (fmtProgram.f n p) (fun r => r.1.length ≤ 100000000) := by
  have hq := okP_n hp
  unfold fmtProgram.f
  rw [sIsProgram_spec hs hn, hp, bind_unit, Bool.not_true, br_false, W_bind]
  refine W_and (number_W hn (by omega) (by omega)) (fun r2 ⟨_, h2⟩ => ?_)
  rw [str_chk (by simp; omega), W_bind]
  refine W_and (number_W hn (by omega) (by omega)) (fun r3 ⟨_, h3⟩ => ?_)
  rw [str_chk (by simp; omega)]
  refine W_up (fun i (t : List UInt8) => (t, ((i : Int), ()))) p.2.2.length (fun i t => t.length ≤ 500000 + 1000010 * i) rfl (by simp; omega) (by omega) (fun ih t hI => ?_) (fun ih i t hi hI hS => ?_)
  · simp only [br_no (Int.lt_irrefl _)]
    have hI : t.length ≤ 500000 + 1000010 * p.2.2.length := hI
    exact W_some.2 (by show t.length ≤ 100000000; omega)
  · have hI : t.length ≤ 500000 + 1000010 * i := hI
    simp only [br_yes (show (i : Int) < (p.2.2.length : Int) by omega), Int.toNat_natCast]
    rw [chk_true (by omega), str_chk (by simp; omega), W_bind]
    refine W_and (fmtInstr_W hn) (fun r13 h13 => ?_)
    rw [str_chk (by simp; omega), w64_succ (by omega)]
    refine hS _ ?_
    show ((t ++ [59]) ++ r13.1).length ≤ 500000 + 1000010 * (i + 1)
    simp; omega
theorem fmtNetwork_W {n : Nat} {nt : Network} (h : SmallN nt) (o : OkN nt) (hn : 1048576 < n) : W (fmtNetwork.f n nt) (fun _ => True) := by
  have hpr := o.progs
  have hli := o.links
  unfold fmtNetwork.f
  rw [sIsNetwork_spec h hn, okN_true o, bind_unit, Bool.not_true, br_false]
  refine W_up (fun i (t : List UInt8) => (t, ((i : Int), ()))) nt.1.length (fun i t => t.length ≤ 200000000 * i) (s0 := []) rfl (by simp) (by omega) (fun ih t hI => ?_) (fun ih i t hi hI hS => ?_)
  rotate_left
  · have hI : t.length ≤ 200000000 * i := hI
    have e1 : nt.1.getD i zProgram = nt.1[i] := getD_lt hi _
    simp only [br_yes (show (i : Int) < (nt.1.length : Int) by omega), Int.toNat_natCast, e1]
    rw [chk_true (by omega), str_chk (by simp; omega), W_bind]
    refine W_and (fmtProgram_W (h.prog _ (List.getElem_mem hi)) (o.prog i hi) hn) (fun r17 h17 => ?_)
    rw [str_chk (by simp; omega), str_chk (by simp; omega), w64_succ (by omega)]
    refine hS _ ?_
    show _ ≤ 200000000 * (i + 1)
    simp; omega
  have hI : t.length ≤ 200000000 * nt.1.length := hI
  simp only [br_no (Int.lt_irrefl _)]
  refine W_up (fun i (t : List UInt8) => (t, ((i : Int), ()))) nt.2.length (fun i t => t.length ≤ 2400000000 + 200000000 * i) (s0 := t) rfl (by show t.length ≤ 2400000000 + 200000000 * 0; omega) (by omega) (fun ih t hI => ?_) (fun ih i t hi hI hS => ?_)
  · simp only [br_no (Int.lt_irrefl _)]
    exact W_some.2 trivial
  · have hI : t.length ≤ 2400000000 + 200000000 * i := hI
    have e1 : nt.2.getD i zLink = nt.2[i] := getD_lt hi _
    have E := o.ends i hi
    have hin : ∀ k : Nat, (nt.1.getD k zProgram).1 ≤ 3 ∧ (nt.1.getD k zProgram).2.1 ≤ 3 := fun k => by
      by_cases hk : k < nt.1.length
      · have := okP_n (o.prog k hk); rw [getD_lt hk]; omega
      · rw [List.getD_eq_getElem?_getD, List.getElem?_eq_none (by omega)]; exact ⟨by decide, by decide⟩
    have b1 : -1 ≤ nt.2[i].1 ∧ nt.2[i].1 ≤ 12 := by rcases E.out with h | h; omega; have := h.1; have := h.2.1; omega
    have b2 : 0 ≤ nt.2[i].2.1 ∧ nt.2[i].2.1 ≤ 3 := by rcases E.out with h | h; omega; have := h.2.2.1; have := h.2.2.2; have := (hin nt.2[i].1.toNat).2; omega
    have b3 : -1 ≤ nt.2[i].2.2.1 ∧ nt.2[i].2.2.1 ≤ 12 := by rcases E.inn with h | h; omega; have := h.1; have := h.2.1; omega
    have b4 : 0 ≤ nt.2[i].2.2.2.1 ∧ nt.2[i].2.2.2.1 ≤ 3 := by rcases E.inn with h | h; omega; have := h.2.2.1; have := h.2.2.2; have := (hin nt.2[i].2.2.1.toNat).1; omega
    simp only [br_yes (show (i : Int) < (nt.2.length : Int) by omega), Int.toNat_natCast, e1]
    rw [chk_true (by omega), str_chk (by simp; omega), W_bind]
    refine W_and (number_W hn (by omega) (by omega)) (fun r31 ⟨_, g1⟩ => ?_)
    rw [str_chk (by simp; omega), str_chk (by simp; omega), W_bind]
    refine W_and (number_W hn (by omega) (by omega)) (fun r32 ⟨_, g2⟩ => ?_)
    rw [str_chk (by simp; omega), str_chk (by simp; omega), W_bind]
    refine W_and (number_W hn (by omega) (by omega)) (fun r33 ⟨_, g3⟩ => ?_)
    rw [str_chk (by simp; omega), str_chk (by simp; omega), W_bind]
    refine W_and (number_W hn (by omega) (by omega)) (fun r34 ⟨_, g4⟩ => ?_)
    rw [str_chk (by simp; omega), str_chk (by simp; omega), W_bind]
    refine W_and (fmtStream_W (o.toks i hi) hn) (fun r35 g5 => ?_)
    rw [str_chk (by simp; omega), str_chk (by simp; omega), w64_succ (by omega)]
    refine hS _ ?_
    show _ ≤ 2400000000 + 200000000 * (i + 1)
    simp; omega
end Go.AmT
