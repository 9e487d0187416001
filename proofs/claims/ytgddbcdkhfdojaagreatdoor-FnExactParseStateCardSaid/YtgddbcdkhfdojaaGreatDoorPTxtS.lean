/- States as texts, in plain Lean: both programs write the same. -/
import Derived.Test.YtgddbcdkhfdojaaGreatDoorLTxtS
import Derived.Test.YtgddbcdkhfdojaaGreatDoorPNum
import Derived.Test.YtgddbcdkhfdojaaGreatDoorPSt
namespace Go.AmT
open Go Go.Am
set_option linter.unusedVariables false
set_option linter.unusedSimpArgs false

/-- a loop that writes one piece behind the other -/
theorem cat_loop {γ ρ : Type} (g : Nat → List UInt8) (len B : Nat) (t0 : List UInt8) (hB : ∀ i, i < len → (g i).length ≤ B) {F : (γ → Option ρ) → γ → Option ρ} (st : List UInt8 → Int → γ) {R : Option ρ}
    (h1 : ∀ ih (i : Nat) (t : List UInt8), i < len → t.length ≤ t0.length + B * i → F ih (st t (i : Int)) = ih (st (t ++ g i) ((i + 1 : Nat) : Int)))
    (h2 : ∀ ih, F ih (st (t0 ++ ((List.range len).map g).flatten) (len : Int)) = R) {n : Nat} (hn : len < n) : iter n F (st t0 0) = R := by
  have hl : ∀ i, i ≤ len → ((List.range i).map g).flatten.length ≤ B * i := fun i hi => by
    have := flat_len g B (List.range i) (fun x hx => hB x (by have := List.mem_range.1 hx; omega))
    rwa [List.length_range] at this
  have := iter_line (F := F) (fun i => st (t0 ++ ((List.range i).map g).flatten) (i : Int)) len (R := R) (fun ih i hi => by
    show F ih (st (t0 ++ ((List.range i).map g).flatten) (i : Int)) = _
    rw [h1 ih i _ hi (by have := hl i (by omega); simp only [List.length_append]; omega), List.range_succ]
    simp) (fun ih => h2 ih) hn
  simpa using this

theorem okA_bd {p : Program} {a : Actor} (h : okA p a = true) : 0 ≤ a.1 ∧ a.1 ≤ (p.2.2.length : Int) ∧ okS a.2 = true := by
  unfold okA at h
  simp only [Bool.and_eq_true, decide_eq_true_eq] at h
  exact ⟨h.1, h.2.1, h.2.2.2⟩
theorem okP_code {p : Program} (hp : okP p = true) : p.2.2.length ≤ 24 := by
  unfold okP at hp
  simp only [Bool.and_eq_true, decide_eq_true_eq] at hp
  omega
noncomputable def lineA (a : Actor) : List UInt8 := [97, 99, 116, 111, 114, 32] ++ Lib.itoa a.1 ++ [32] ++ fmtS a.2 ++ [10]
noncomputable def lineQ (q h : List Int) : List UInt8 := [113, 117, 101, 117, 101, 32] ++ fmtS q ++ [32] ++ fmtS h ++ [10]
noncomputable def txtSt (s : State) : List UInt8 := [115, 116, 101, 112, 115, 32] ++ Lib.itoa s.2.2.2 ++ [10] ++ ((List.range s.1.length).map fun i => lineA (s.1.getD i zActor)).flatten ++ ((List.range s.2.1.length).map fun i => lineQ (s.2.1.getD i []) (s.2.2.1.getD i [])).flatten
noncomputable def fmtSt (nt : Network) (s : State) : List UInt8 := if okSt nt s then txtSt s else []
theorem lineQ_len (q h : List Int) : (lineQ q h).length ≤ 9000 := by
  have h1 := fmtS_len q
  have h2 := fmtS_len h
  simp only [lineQ, List.length_append, List.length_cons, List.length_nil]
  omega
theorem act_bd {nt : Network} {s : State} (o : OkSt nt s) {i : Nat} (hi : i < s.1.length) : (0 ≤ (s.1.getD i zActor).1 ∧ (s.1.getD i zActor).1 ≤ 24) ∧ (s.1.getD i zActor).2.length ≤ 400 := by
  have hna := o.na
  obtain ⟨a1, a2, a3⟩ := okA_bd (o.act i (by omega))
  have := okP_code (by rw [getD_lt (show i < nt.1.length by omega)]; exact o.net.prog i (by omega) : okP (nt.1.getD i zProgram) = true)
  exact ⟨⟨a1, by omega⟩, (okS_bd a3).1⟩
theorem lineA_len {nt : Network} {s : State} (o : OkSt nt s) {i : Nat} (hi : i < s.1.length) : (lineA (s.1.getD i zActor)).length ≤ 5000 := by
  obtain ⟨⟨a1, a2⟩, a3⟩ := act_bd o hi
  have h1 := itoa_len (x := (s.1.getD i zActor).1) (by omega) (by omega)
  have h2 := fmtS_len (s.1.getD i zActor).2
  simp only [lineA, List.length_append, List.length_cons, List.length_nil]
  omega
theorem okSt_of' {nt : Network} {s : State} (h : okSt nt s = true) : OkSt nt s := of_decide_eq_true h
theorem fmtState_spec {n : Nat} {nt : Network} {s : State} (h : SmallN nt) (hs : SmallSt s) (hn : 1048576 < n) : fmtState.f n nt s = some (fmtSt nt s, ()) := by
  unfold fmtState.f fmtSt
  rw [sIsState_spec h hs hn, bind_unit]
  cases hk : okSt nt s
  · rw [Bool.not_false, br_true]; rfl
  · have o := okSt_of' hk
    have hna := o.na
    have hnq := o.nq
    have hns := o.ns
    have hst := o.steps
    have hli := o.net.links
    have hpr := o.net.progs
    have h8 := itoa_len (x := s.2.2.2) (by omega) (by omega)
    rw [Bool.not_true, br_false, number_spec hn (by omega) (by omega), bind_unit, str_chk (by simp only [List.length_append, List.length_cons, List.length_nil]; omega), str_chk (by simp only [List.length_append, List.length_cons, List.length_nil]; omega)]
    refine cat_loop (fun i => lineA (s.1.getD i zActor)) s.1.length 5000 ([115, 116, 101, 112, 115, 32] ++ Lib.itoa s.2.2.2 ++ [10]) (fun i hi => lineA_len o hi) (fun t i => (t, (i, ()))) (fun ih i t hi ht => ?_) (fun ih => ?_) (by omega)
    · obtain ⟨⟨a1, a2⟩, a3⟩ := act_bd o hi
      have h1 := itoa_len (x := (s.1.getD i zActor).1) (by omega) (by omega)
      have h2 := fmtS_len (s.1.getD i zActor).2
      simp only [br_yes (show (i : Int) < (s.1.length : Int) by omega), Int.toNat_natCast]
      simp only [List.length_append, List.length_cons, List.length_nil] at ht
      rw [chk_true (by omega), str_chk (by simp only [List.length_append, List.length_cons, List.length_nil]; omega), number_spec hn (by omega) (by omega), bind_unit, str_chk (by simp only [List.length_append, List.length_cons, List.length_nil]; omega), str_chk (by simp only [List.length_append, List.length_cons, List.length_nil]; omega), fmtStream_spec (by omega) hn, bind_unit, str_chk (by simp only [List.length_append, List.length_cons, List.length_nil]; omega), str_chk (by simp only [List.length_append, List.length_cons, List.length_nil]; omega), w64_succ (by omega)]
      simp only [lineA, List.append_assoc]
    · simp only [br_no (Int.lt_irrefl _)]
      have hL : (([115, 116, 101, 112, 115, 32] : List UInt8) ++ Lib.itoa s.2.2.2 ++ [10] ++ ((List.range s.1.length).map fun i => lineA (s.1.getD i zActor)).flatten).length ≤ 1000000 := by
        have := flat_len (fun i => lineA (s.1.getD i zActor)) 5000 (List.range s.1.length) (fun x hx => lineA_len o (List.mem_range.1 hx))
        rw [List.length_range] at this
        have := Nat.mul_le_mul_left 5000 (show s.1.length ≤ 100 by omega)
        simp only [List.length_append, List.length_cons, List.length_nil]
        omega
      refine cat_loop (fun i => lineQ (s.2.1.getD i []) (s.2.2.1.getD i [])) s.2.1.length 9000 ([115, 116, 101, 112, 115, 32] ++ Lib.itoa s.2.2.2 ++ [10] ++ ((List.range s.1.length).map fun i => lineA (s.1.getD i zActor)).flatten) (fun i hi => lineQ_len _ _) (fun t i => (t, (i, ()))) (fun ih i t hi ht => ?_) (fun ih => ?_) (by omega)
      · have L := o.lnk i (by omega)
        have h1 := fmtS_len (s.2.1.getD i [])
        have h2 := fmtS_len (s.2.2.1.getD i [])
        simp only [br_yes (show (i : Int) < (s.2.1.length : Int) by omega), Int.toNat_natCast]
        have ht : t.length ≤ 100000000 := by omega
        rw [chk_true (by omega), str_chk (by simp only [List.length_append, List.length_cons, List.length_nil]; omega), fmtStream_spec (by have := (okS_bd L.qs).1; omega) hn, bind_unit, str_chk (by simp only [List.length_append, List.length_cons, List.length_nil]; omega), str_chk (by simp only [List.length_append, List.length_cons, List.length_nil]; omega), chk_true (by omega), fmtStream_spec (by have := (okS_bd L.hs).1; omega) hn, bind_unit, str_chk (by simp only [List.length_append, List.length_cons, List.length_nil]; omega), str_chk (by simp only [List.length_append, List.length_cons, List.length_nil]; omega), w64_succ (by omega)]
        simp only [lineQ, List.append_assoc]
      · simp only [br_no (Int.lt_irrefl _)]
        rfl
theorem iFmtState_spec {n : Nat} {nt : Network} {s : State} (h : SmallN nt) (hs : SmallSt s) (hn : 1048576 < n) : iFmtState.f n nt s = some (fmtSt nt s, ()) := by
  unfold iFmtState.f fmtSt
  rw [iIsState_spec h hs hn, bind_unit]
  cases hk : okSt nt s
  · rw [Bool.not_false, br_true]; rfl
  · have o := okSt_of' hk
    have hna := o.na
    have hnq := o.nq
    have hns := o.ns
    have hst := o.steps
    have hli := o.net.links
    have hpr := o.net.progs
    have h8 := itoa_len (x := s.2.2.2) (by omega) (by omega)
    rw [Bool.not_true, br_false, itoaC_spec (by omega) (by omega), bind_unit, str_chk (by simp only [List.length_append, List.length_cons, List.length_nil]; omega), str_chk (by simp only [List.length_append, List.length_cons, List.length_nil]; omega)]
    refine cat_loop (fun i => lineA (s.1.getD i zActor)) s.1.length 5000 ([115, 116, 101, 112, 115, 32] ++ Lib.itoa s.2.2.2 ++ [10]) (fun i hi => lineA_len o hi) (fun t i => (t, (i, ()))) (fun ih i t hi ht => ?_) (fun ih => ?_) (by omega)
    · obtain ⟨⟨a1, a2⟩, a3⟩ := act_bd o hi
      have h1 := itoa_len (x := (s.1.getD i zActor).1) (by omega) (by omega)
      have h2 := fmtS_len (s.1.getD i zActor).2
      simp only [br_yes (show (i : Int) < (s.1.length : Int) by omega), Int.toNat_natCast]
      simp only [List.length_append, List.length_cons, List.length_nil] at ht
      rw [chk_true (by omega), iListed_one hn (by omega) (by omega), bind_unit, str_chk (by simp only [List.length_append, List.length_cons, List.length_nil]; omega), iFmtStream_spec (by omega) hn, bind_unit, str_chk (by simp only [List.length_append, List.length_cons, List.length_nil]; omega), str_chk (by simp only [List.length_append, List.length_cons, List.length_nil]; omega), str_chk (by simp only [List.length_append, List.length_cons, List.length_nil]; omega), w64_succ (by omega)]
      simp only [lineA, List.append_assoc]
    · simp only [br_no (Int.lt_irrefl _)]
      have hL : (([115, 116, 101, 112, 115, 32] : List UInt8) ++ Lib.itoa s.2.2.2 ++ [10] ++ ((List.range s.1.length).map fun i => lineA (s.1.getD i zActor)).flatten).length ≤ 1000000 := by
        have := flat_len (fun i => lineA (s.1.getD i zActor)) 5000 (List.range s.1.length) (fun x hx => lineA_len o (List.mem_range.1 hx))
        rw [List.length_range] at this
        have := Nat.mul_le_mul_left 5000 (show s.1.length ≤ 100 by omega)
        simp only [List.length_append, List.length_cons, List.length_nil]
        omega
      refine cat_loop (fun i => lineQ (s.2.1.getD i []) (s.2.2.1.getD i [])) s.2.1.length 9000 ([115, 116, 101, 112, 115, 32] ++ Lib.itoa s.2.2.2 ++ [10] ++ ((List.range s.1.length).map fun i => lineA (s.1.getD i zActor)).flatten) (fun i hi => lineQ_len _ _) (fun t i => (t, (i, ()))) (fun ih i t hi ht => ?_) (fun ih => ?_) (by omega)
      · have L := o.lnk i (by omega)
        have h1 := fmtS_len (s.2.1.getD i [])
        have h2 := fmtS_len (s.2.2.1.getD i [])
        simp only [br_yes (show (i : Int) < (s.2.1.length : Int) by omega), Int.toNat_natCast]
        have ht : t.length ≤ 100000000 := by omega
        rw [chk_true (by omega), iFmtStream_spec (by have := (okS_bd L.qs).1; omega) hn, bind_unit, str_chk (by simp only [List.length_append, List.length_cons, List.length_nil]; omega), str_chk (by simp only [List.length_append, List.length_cons, List.length_nil]; omega), chk_true (by omega), iFmtStream_spec (by have := (okS_bd L.hs).1; omega) hn, bind_unit, str_chk (by simp only [List.length_append, List.length_cons, List.length_nil]; omega), str_chk (by simp only [List.length_append, List.length_cons, List.length_nil]; omega), str_chk (by simp only [List.length_append, List.length_cons, List.length_nil]; omega), w64_succ (by omega)]
        simp only [lineQ, List.append_assoc]
      · simp only [br_no (Int.lt_irrefl _)]
        rfl
end Go.AmT
