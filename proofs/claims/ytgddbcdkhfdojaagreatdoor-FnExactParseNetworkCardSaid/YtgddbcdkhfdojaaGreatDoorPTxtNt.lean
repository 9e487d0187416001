/- Networks as texts, in plain Lean: both programs write the same. -/
import Derived.Test.YtgddbcdkhfdojaaGreatDoorLTxtNt
import Derived.Test.YtgddbcdkhfdojaaGreatDoorPTxtP
namespace Go.AmT
open Go Go.Am
set_option linter.unusedVariables false
set_option linter.unusedSimpArgs false

noncomputable def lineP (p : Program) : List UInt8 := [112, 114, 111, 99, 101, 115, 115, 32] ++ fmtP p ++ [10]
noncomputable def lineL (l : Link) : List UInt8 := [108, 105, 110, 107, 32] ++ Lib.itoa l.1 ++ [32] ++ Lib.itoa l.2.1 ++ [32] ++ Lib.itoa l.2.2.1 ++ [32] ++ Lib.itoa l.2.2.2.1 ++ [32] ++ fmtS l.2.2.2.2 ++ [10]
noncomputable def txtN (nt : Network) : List UInt8 := ((List.range nt.1.length).map fun i => lineP (nt.1.getD i zProgram)).flatten ++ ((List.range nt.2.length).map fun i => lineL (nt.2.getD i zLink)).flatten
noncomputable def fmtN (nt : Network) : List UInt8 := if okN nt then txtN nt else []
theorem okN_of {nt : Network} (h : okN nt = true) : OkN nt := of_decide_eq_true h
/-- the numbers of a link -/
structure LnkB (l : Link) : Prop where
  a : -1 ≤ l.1 ∧ l.1 ≤ 12
  b : 0 ≤ l.2.1 ∧ l.2.1 ≤ 3
  c : -1 ≤ l.2.2.1 ∧ l.2.2.1 ≤ 12
  d : 0 ≤ l.2.2.2.1 ∧ l.2.2.2.1 ≤ 3
  t : okS l.2.2.2.2 = true
theorem ports_le {nt : Network} (o : OkN nt) (k : Int) (h0 : 0 ≤ k) (h1 : k < (nt.1.length : Int)) : (nt.1.getD k.toNat zProgram).1 ≤ 3 ∧ (nt.1.getD k.toNat zProgram).2.1 ≤ 3 := by
  have hk : k.toNat < nt.1.length := by omega
  rw [getD_lt hk]
  have := okP_all (o.prog k.toNat hk)
  exact ⟨this.1.2, this.2.1.2⟩
theorem lnk_bd {nt : Network} (o : OkN nt) {i : Nat} (hi : i < nt.2.length) : LnkB (nt.2.getD i zLink) := by
  rw [getD_lt hi]
  have E := o.ends i hi
  have hp := o.progs
  refine ⟨?_, ?_, ?_, ?_, o.toks i hi⟩
  · rcases E.out with h | h
    · omega
    · have := h.1; have := h.2.1; omega
  · rcases E.out with h | h
    · omega
    · have := (ports_le o _ h.1 h.2.1).2; have := h.2.2.1; have := h.2.2.2; omega
  · rcases E.inn with h | h
    · omega
    · have := h.1; have := h.2.1; omega
  · rcases E.inn with h | h
    · omega
    · have := (ports_le o _ h.1 h.2.1).1; have := h.2.2.1; have := h.2.2.2; omega
theorem lineP_len (p : Program) : (lineP p).length ≤ 1200 := by
  have := fmtP_len p
  simp only [lineP, List.length_append, List.length_cons, List.length_nil]
  omega
theorem lineL_len {l : Link} (B : LnkB l) : (lineL l).length ≤ 4100 := by
  have h1 := B.a
  have h2 := B.b
  have h3 := B.c
  have h4 := B.d
  have l1 := itoa_len (x := l.1) (by omega) (by omega)
  have l2 := itoa_len (x := l.2.1) (by omega) (by omega)
  have l3 := itoa_len (x := l.2.2.1) (by omega) (by omega)
  have l4 := itoa_len (x := l.2.2.2.1) (by omega) (by omega)
  have l5 := fmtS_len l.2.2.2.2
  simp only [lineL, List.length_append, List.length_cons, List.length_nil]
  omega
theorem procs_len (nt : Network) (o : OkN nt) : (((List.range nt.1.length).map fun i => lineP (nt.1.getD i zProgram)).flatten).length ≤ 20000 := by
  have := flat_len (fun i => lineP (nt.1.getD i zProgram)) 1200 (List.range nt.1.length) (fun x hx => lineP_len _)
  rw [List.length_range] at this
  have := o.progs
  omega
theorem txtN_len {nt : Network} (o : OkN nt) : (txtN nt).length ≤ 150000 := by
  have h1 := procs_len nt o
  have h2 := flat_len (fun i => lineL (nt.2.getD i zLink)) 4100 (List.range nt.2.length) (fun x hx => lineL_len (lnk_bd o (List.mem_range.1 hx)))
  rw [List.length_range] at h2
  have := o.links
  unfold txtN
  rw [List.length_append]
  omega
theorem smallP_of {nt : Network} (h : SmallN nt) {i : Nat} (hi : i < nt.1.length) : SmallP (nt.1.getD i zProgram) := by
  rw [getD_lt hi]; exact h.prog _ (List.getElem_mem _)
theorem fmtNetwork_spec {n : Nat} {nt : Network} (h : SmallN nt) (hn : 1048576 < n) : fmtNetwork.f n nt = some (fmtN nt, ()) := by
  unfold fmtNetwork.f fmtN
  rw [sIsNetwork_spec h hn, bind_unit]
  cases hk : okN nt
  · simp only [Bool.not_false, br_true]; rfl
  · have o := okN_of hk
    have hli := o.links
    have hpr := o.progs
    simp only [Bool.not_true, br_false, if_true]
    refine cat_loop (fun i => lineP (nt.1.getD i zProgram)) nt.1.length 1200 [] (fun i hi => lineP_len _) (fun t i => (t, (i, ()))) (fun ih i t hi ht => ?_) (fun ih => ?_) (by omega)
    · have hf := fmtP_len (nt.1.getD i zProgram)
      simp only [List.length_nil] at ht
      simp only [br_yes (show (i : Int) < (nt.1.length : Int) by omega), Int.toNat_natCast]
      rw [chk_true (by omega), str_chk (by simp only [List.length_cons, List.length_nil]; omega), fmtProgram_spec (smallP_of h hi) hn, bind_unit, str_chk (by simp only [List.length_append, List.length_cons, List.length_nil]; omega), str_chk (by simp only [List.length_append, List.length_cons, List.length_nil]; omega), w64_succ (by omega)]
      simp only [lineP, List.append_assoc]
    · simp only [br_no (Int.lt_irrefl _)]
      rw [List.nil_append]
      have hL := procs_len nt o
      refine cat_loop (fun i => lineL (nt.2.getD i zLink)) nt.2.length 4100 _ (fun i hi => lineL_len (lnk_bd o hi)) (fun t i => (t, (i, ()))) (fun ih i t hi ht => ?_) (fun ih => ?_) (by omega)
      · have ht : t.length ≤ 200000 := by omega
        obtain ⟨b1, b2, b3, b4, b5⟩ := lnk_bd o hi
        have l1 := itoa_len (x := (nt.2.getD i zLink).1) (by omega) (by omega)
        have l2 := itoa_len (x := (nt.2.getD i zLink).2.1) (by omega) (by omega)
        have l3 := itoa_len (x := (nt.2.getD i zLink).2.2.1) (by omega) (by omega)
        have l4 := itoa_len (x := (nt.2.getD i zLink).2.2.2.1) (by omega) (by omega)
        have l5 := fmtS_len (nt.2.getD i zLink).2.2.2.2
        have l6 := (okS_bd b5).1
        simp only [br_yes (show (i : Int) < (nt.2.length : Int) by omega), Int.toNat_natCast]
        have L : ∀ {m : Nat} {ρ : Type} {y : Option ρ}, m ≤ 300000 → chk (m < maxS) y = y := fun h => str_chk (by omega)
        rw [chk_true (by omega), L (by simp only [List.length_cons, List.length_nil]; omega), number_spec hn (by omega) (by omega), bind_unit]
        rw [L (by simp only [List.length_append, List.length_cons, List.length_nil]; omega), L (by simp only [List.length_append, List.length_cons, List.length_nil]; omega), number_spec hn (by omega) (by omega), bind_unit]
        rw [L (by simp only [List.length_append, List.length_cons, List.length_nil]; omega), L (by simp only [List.length_append, List.length_cons, List.length_nil]; omega), number_spec hn (by omega) (by omega), bind_unit]
        rw [L (by simp only [List.length_append, List.length_cons, List.length_nil]; omega), L (by simp only [List.length_append, List.length_cons, List.length_nil]; omega), number_spec hn (by omega) (by omega), bind_unit]
        rw [L (by simp only [List.length_append, List.length_cons, List.length_nil]; omega), L (by simp only [List.length_append, List.length_cons, List.length_nil]; omega), fmtStream_spec (by omega) hn, bind_unit]
        rw [L (by simp only [List.length_append, List.length_cons, List.length_nil]; omega), L (by simp only [List.length_append, List.length_cons, List.length_nil]; omega), w64_succ (by omega)]
        simp only [lineL, List.append_assoc]
      · simp only [br_no (Int.lt_irrefl _)]
        rfl
theorem iFmtNetwork_spec {n : Nat} {nt : Network} (h : SmallN nt) (hn : 1048576 < n) : iFmtNetwork.f n nt = some (fmtN nt, ()) := by
  unfold iFmtNetwork.f fmtN
  rw [iIsNetwork_spec h hn, bind_unit]
  cases hk : okN nt
  · simp only [Bool.not_false, br_true]; rfl
  · have o := okN_of hk
    have hli := o.links
    have hpr := o.progs
    simp only [Bool.not_true, br_false, if_true]
    refine cat_loop (fun i => lineP (nt.1.getD i zProgram)) nt.1.length 1200 [] (fun i hi => lineP_len _) (fun t i => (t, (i, ()))) (fun ih i t hi ht => ?_) (fun ih => ?_) (by omega)
    · have hf := fmtP_len (nt.1.getD i zProgram)
      simp only [List.length_nil] at ht
      simp only [br_yes (show (i : Int) < (nt.1.length : Int) by omega), Int.toNat_natCast]
      rw [chk_true (by omega), iFmtProgram_spec (smallP_of h hi) hn, bind_unit, str_chk (by simp only [List.length_cons, List.length_nil]; omega), str_chk (by simp only [List.length_append, List.length_cons, List.length_nil]; omega), str_chk (by simp only [List.length_append, List.length_cons, List.length_nil]; omega), w64_succ (by omega)]
      simp only [lineP, List.append_assoc]
    · simp only [br_no (Int.lt_irrefl _)]
      rw [List.nil_append]
      have hL := procs_len nt o
      refine cat_loop (fun i => lineL (nt.2.getD i zLink)) nt.2.length 4100 _ (fun i hi => lineL_len (lnk_bd o hi)) (fun t i => (t, (i, ()))) (fun ih i t hi ht => ?_) (fun ih => ?_) (by omega)
      · have ht : t.length ≤ 200000 := by omega
        obtain ⟨b1, b2, b3, b4, b5⟩ := lnk_bd o hi
        have l1 := itoa_len (x := (nt.2.getD i zLink).1) (by omega) (by omega)
        have l2 := itoa_len (x := (nt.2.getD i zLink).2.1) (by omega) (by omega)
        have l3 := itoa_len (x := (nt.2.getD i zLink).2.2.1) (by omega) (by omega)
        have l4 := itoa_len (x := (nt.2.getD i zLink).2.2.2.1) (by omega) (by omega)
        have l5 := fmtS_len (nt.2.getD i zLink).2.2.2.2
        have l6 := (okS_bd b5).1
        simp only [br_yes (show (i : Int) < (nt.2.length : Int) by omega), Int.toNat_natCast]
        have L : ∀ {m : Nat} {ρ : Type} {y : Option ρ}, m ≤ 300000 → chk (m < maxS) y = y := fun h => str_chk (by omega)
        rw [chk_true (by omega), iListed_four hn (by omega) (by omega) (by omega) (by omega), bind_unit, L (by simp only [List.length_append, List.length_cons, List.length_nil]; omega), iFmtStream_spec (by omega) hn, bind_unit]
        rw [L (by simp only [List.length_append, List.length_cons, List.length_nil]; omega), L (by simp only [List.length_append, List.length_cons, List.length_nil]; omega), L (by simp only [List.length_append, List.length_cons, List.length_nil]; omega), w64_succ (by omega)]
        simp only [lineL, List.append_assoc]
      · simp only [br_no (Int.lt_irrefl _)]
        rfl
end Go.AmT
