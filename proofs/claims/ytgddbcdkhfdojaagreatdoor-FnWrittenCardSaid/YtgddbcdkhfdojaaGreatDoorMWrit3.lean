/- A step of a process, in plain Lean: both programs make the same. -/
import Derived.Test.YtgddbcdkhfdojaaGreatDoorMWrit2
namespace Go.AmT
open Go Go.Am
set_option linter.unusedVariables false
set_option linter.unusedSimpArgs false

/-! ### numbers -/
def wr (x : Int) : Int := if 999999 < x.tmod 1999999 then x.tmod 1999999 - 1999999 else if x.tmod 1999999 < -999999 then x.tmod 1999999 + 1999999 else x.tmod 1999999
theorem tmod_lt (x : Int) : -1999999 < x.tmod 1999999 ∧ x.tmod 1999999 < 1999999 := by
  rcases Int.lt_or_le x 0 with h | h
  · have h1 := Int.tmod_lt_of_pos (-x) (show (0 : Int) < 1999999 by omega)
    have h2 := Int.tmod_nonneg (1999999 : Int) (show 0 ≤ -x by omega)
    rw [Int.neg_tmod] at h1 h2
    omega
  · have h1 := Int.tmod_lt_of_pos x (show (0 : Int) < 1999999 by omega)
    have h2 := Int.tmod_nonneg (1999999 : Int) h
    omega
theorem wr_tok (x : Int) : tok (wr x) = true := by
  have := tmod_lt x
  unfold wr tok
  simp only [Bool.and_eq_true, decide_eq_true_eq]
  split
  · omega
  · split <;> omega
theorem sWrapToken_spec (n : Nat) (x : Int) : sWrapToken.f n x = some (wr x, ()) := by
  have := tmod_lt x
  unfold sWrapToken.f wr
  generalize x.tmod 1999999 = r at this
  by_cases h : 999999 < r
  · rw [br_yes h, if_pos h, w64_id (by omega) (by omega)]
    simp only [cut_inr]
    rw [br_no (by omega)]
  · rw [br_no h, if_neg h]
    simp only [cut_inr, brd]
    split
    · rw [w64_id (by omega) (by omega)]
    · rfl
def rs (x c : Int) : Int := if c = 0 then 0 else if x.tmod (max c (-c)) < 0 then x.tmod (max c (-c)) + max c (-c) else x.tmod (max c (-c))
theorem tok_of {x : Int} (h : tok x = true) : -999999 ≤ x ∧ x ≤ 999999 := by
  unfold tok at h
  simpa using h
theorem tmod_ltm (x m : Int) (hm : 0 < m) : -m < x.tmod m ∧ x.tmod m < m := by
  rcases Int.lt_or_le x 0 with h | h
  · have h1 := Int.tmod_lt_of_pos (-x) hm
    have h2 := Int.tmod_nonneg m (show 0 ≤ -x by omega)
    rw [Int.neg_tmod] at h1 h2
    omega
  · have h1 := Int.tmod_lt_of_pos x hm
    have h2 := Int.tmod_nonneg m h
    omega
theorem rs_tok {x c : Int} (hc : tok c = true) : tok (rs x c) = true := by
  have hc := tok_of hc
  unfold rs
  by_cases h : c = 0
  · rw [if_pos h]; decide
  · rw [if_neg h]
    have := tmod_ltm x (max c (-c)) (by omega)
    unfold tok
    simp only [Bool.and_eq_true, decide_eq_true_eq]
    split <;> omega
theorem sL2Rest_spec (n : Nat) {x c : Int} (hc : tok c = true) : sL2Rest.f n x c = some (rs x c, ()) := by
  have hc := tok_of hc
  unfold sL2Rest.f rs
  rw [w64_id (by omega) (by omega), Int.zero_sub]
  by_cases h : c = 0
  · rw [br_yes (by omega), if_pos h]
  · have hm := tmod_ltm x (max c (-c)) (by omega)
    rw [br_no (by omega), if_neg h, if_neg (by omega)]
    simp only [brd]
    split
    · rw [w64_id (by omega) (by omega)]
    · rfl

/-! ### an instruction -/
structure OpOk (size : Int) (x : Instr) : Prop where
  op : 1 ≤ x.1 ∧ x.1 ≤ 11
  a : 0 ≤ x.2.1 ∧ x.2.1 ≤ 3
  bc : x.1 = 4 ∨ x.1 = 5 ∨ x.1 = 6 ∨ x.1 = 7 → (0 ≤ x.2.2.1 ∧ x.2.2.1 ≤ 3) ∧ 0 ≤ x.2.2.2 ∧ x.2.2.2 ≤ 3
  b : x.1 = 8 ∨ x.1 = 9 ∨ x.1 = 10 → 0 ≤ x.2.2.1 ∧ x.2.2.1 ≤ size
  t : x.1 = 3 → tok x.2.2.1 = true
theorem opOk_of {ins outs size : Int} {x : Instr} (h : okI ins outs size x = true) : OpOk size x := by
  unfold okI at h
  simp only [reg] at h
  split at h
  · rename_i c
    simp only [Bool.and_eq_true, decide_eq_true_eq] at h
    exact ⟨by omega, by omega, by omega, by omega, by omega⟩
  · split at h
    · rename_i c
      simp only [Bool.and_eq_true, decide_eq_true_eq] at h
      exact ⟨by omega, by omega, by omega, by omega, by omega⟩
    · split at h
      · rename_i c
        simp only [Bool.and_eq_true, decide_eq_true_eq] at h
        exact ⟨by omega, by omega, by omega, by omega, fun _ => h.2.1⟩
      · split at h
        · rename_i c
          simp only [Bool.and_eq_true, decide_eq_true_eq] at h
          exact ⟨by omega, by omega, by omega, by omega, by omega⟩
        · split at h
          · rename_i c
            simp only [Bool.and_eq_true, decide_eq_true_eq] at h
            exact ⟨by omega, by omega, by omega, by omega, by omega⟩
          · split at h
            · rename_i c
              simp only [Bool.and_eq_true, decide_eq_true_eq] at h
              exact ⟨by omega, by omega, by omega, by omega, by omega⟩
            · split at h
              · rename_i c
                simp only [Bool.and_eq_true, decide_eq_true_eq] at h
                exact ⟨by omega, by omega, by omega, by omega, by omega⟩
              · simp at h
def rg (regs : List Int) (i : Int) : Int := regs.getD i.toNat 0
def valP (x : Instr) (regs : List Int) (token : Int) : Int :=
  if x.1 = 1 then token else if x.1 = 3 then x.2.2.1 else if x.1 = 4 then wr (rg regs x.2.2.1 + rg regs x.2.2.2) else if x.1 = 5 then wr (rg regs x.2.2.1 - rg regs x.2.2.2)
  else if x.1 = 6 then wr (rg regs x.2.2.1 * rg regs x.2.2.2) else if x.1 = 7 then rs (rg regs x.2.2.1) (rg regs x.2.2.2) else rg regs x.2.1
def pcP (x : Instr) (a : Actor) : Int := if x.1 = 8 ∨ (x.1 = 9 ∧ rg a.2 x.2.1 = 0) ∨ (x.1 = 10 ∧ rg a.2 x.2.1 < 0) then x.2.2.1 else a.1 + 1
def outP (x : Instr) (a : Actor) : Int := if x.1 = 2 then rg a.2 x.2.1 else 0
def instrP (p : Program) (a : Actor) : Instr := p.2.2.getD a.1.toNat zInstr
def stepA (p : Program) (a : Actor) (token : Int) : Actor := (pcP (instrP p a) a, a.2.set (instrP p a).2.1.toNat (valP (instrP p a) a.2 token))
theorem rg_tok {regs : List Int} {i : Int} (h : okS regs = true) : tok (rg regs i) = true := by
  unfold okS at h
  simp only [Bool.and_eq_true, decide_eq_true_eq, List.all_eq_true] at h
  unfold rg
  by_cases hi : i.toNat < regs.length
  · rw [getD_lt hi]; exact h.2 _ (List.getElem_mem hi)
  · rw [List.getD_eq_getElem?_getD, List.getElem?_eq_none (by omega)]; decide
theorem mul_bound {x y : Int} (hx : -999999 ≤ x ∧ x ≤ 999999) (hy : -999999 ≤ y ∧ y ≤ 999999) : -1000000000000 ≤ x * y ∧ x * y ≤ 1000000000000 := by
  have h : (x * y).natAbs ≤ 999999 * 999999 := by
    rw [Int.natAbs_mul]; exact Nat.mul_le_mul (by omega) (by omega)
  omega
theorem sL2Value_spec {n : Nat} {size : Int} {x : Instr} {regs : List Int} {token : Int} (ho : OpOk size x) (hl : regs.length = 4) (hr : okS regs = true) : sL2Value.f n x regs token = some (valP x regs token, ()) := by
  unfold sL2Value.f valP
  have hb := tok_of (rg_tok (i := x.2.2.1) hr)
  have hc := tok_of (rg_tok (i := x.2.2.2) hr)
  have hm := mul_bound hb hc
  simp only [brd]
  split
  · rfl
  · split
    · rfl
    · split
      · rename_i h; have := ho.bc (by omega)
        rw [chk_true (by omega), chk_true (by omega)]
        show ((sWrapToken.f n (w64 (rg regs x.2.2.1 + rg regs x.2.2.2))).bind _) = _
        rw [w64_id (by omega) (by omega), sWrapToken_spec]; rfl
      · split
        · rename_i h; have := ho.bc (by omega)
          rw [chk_true (by omega), chk_true (by omega)]
          show ((sWrapToken.f n (w64 (rg regs x.2.2.1 - rg regs x.2.2.2))).bind _) = _
          rw [w64_id (by omega) (by omega), sWrapToken_spec]; rfl
        · split
          · rename_i h; have := ho.bc (by omega)
            rw [chk_true (by omega), chk_true (by omega)]
            show ((sWrapToken.f n (w64 (rg regs x.2.2.1 * rg regs x.2.2.2))).bind _) = _
            rw [w64_id (by omega) (by omega), sWrapToken_spec]; rfl
          · split
            · rename_i h; have := ho.bc (by omega)
              rw [chk_true (by omega), chk_true (by omega)]
              show ((sL2Rest.f n (rg regs x.2.2.1) (rg regs x.2.2.2)).bind _) = _
              rw [sL2Rest_spec n (rg_tok hr)]; rfl
            · have := ho.a
              rw [chk_true (by omega)]; rfl
theorem valP_tok {size : Int} {x : Instr} {regs : List Int} {token : Int} (ho : OpOk size x) (hr : okS regs = true) (ht : tok token = true) : tok (valP x regs token) = true := by
  unfold valP
  repeat' split
  · exact ht
  · rename_i h; exact ho.t h
  · exact wr_tok _
  · exact wr_tok _
  · exact wr_tok _
  · exact rs_tok (rg_tok hr)
  · exact rg_tok hr

/-! ### a step of an actor -/
theorem instr_ok {p : Program} {a : Actor} (hp : okP p = true) (h0 : 0 ≤ a.1) (h1 : a.1 < (p.2.2.length : Int)) : OpOk (p.2.2.length : Int) (instrP p a) := by
  unfold okP at hp
  simp only [Bool.and_eq_true, List.all_eq_true] at hp
  have hlt : a.1.toNat < p.2.2.length := by omega
  unfold instrP
  rw [getD_lt hlt]
  exact opOk_of (hp.2 _ (List.getElem_mem hlt))
theorem okA_regs {p : Program} {a : Actor} (h : okA p a = true) : a.2.length = 4 ∧ okS a.2 = true := by
  unfold okA at h
  simp only [Bool.and_eq_true, decide_eq_true_eq] at h
  exact ⟨h.2.2.1, h.2.2.2⟩
theorem sL1Copy_run {n : Nat} {a : List Int} (h : a.length ≤ 1048576) : sL1Copy.f n a = some (a, ()) := by
  unfold sL1Copy.f
  rw [small_chk (by simp; omega)]; rfl
theorem sL2Step_spec {n : Nat} {p : Program} {a : Actor} {token : Int} (hp : okP p = true) (ha : okA p a = true) (h1 : a.1 < (p.2.2.length : Int)) : sL2Step.f n p a token = some (stepA p a token, (outP (instrP p a) a, ())) := by
  have hpc := okA_pc ha
  obtain ⟨hl, hr⟩ := okA_regs ha
  have O := instr_ok hp hpc.1 h1
  have hlen : p.2.2.length ≤ 24 := by
    unfold okP at hp
    simp only [Bool.and_eq_true, decide_eq_true_eq] at hp
    omega
  unfold sL2Step.f stepA
  rw [chk_true (by omega), sL1Copy_run (by omega)]
  simp only [Option.bind_some]
  rw [show p.2.2.getD a.1.toNat zInstr = instrP p a from rfl]
  generalize instrP p a = x at O
  have hA := O.a
  have cA : 0 ≤ x.2.1 ∧ x.2.1 < (a.2.length : Int) := by omega
  simp only [chk_true cA]
  have e1 : br (decide (x.1 = 2)) (some (Sum.inr (α := Actor × (Int × Unit)) (a.2.getD x.2.1.toNat 0, ()))) (some (.inr (0, ()))) = some (.inr (outP x a, ())) := by
    unfold outP rg; by_cases h : x.1 = 2 <;> simp [h, br]
  rw [e1]
  simp only [cut_inr]
  have e2 : br (decide (x.1 = 8)) (some (Sum.inr (α := Actor × (Int × Unit)) (true, ()))) (br (decide (x.1 = 9)) (br (decide (a.2.getD x.2.1.toNat 0 = 0)) (some (.inr (true, ()))) (br (decide (x.1 = 10)) (some (.inr ((decide (a.2.getD x.2.1.toNat 0 < 0)), ()))) (some (.inr (false, ()))))) (br (decide (x.1 = 10)) (some (.inr ((decide (a.2.getD x.2.1.toNat 0 < 0)), ()))) (some (.inr (false, ()))))) =
      some (.inr (decide (x.1 = 8 ∨ (x.1 = 9 ∧ rg a.2 x.2.1 = 0) ∨ (x.1 = 10 ∧ rg a.2 x.2.1 < 0)), ())) := by
    unfold rg
    generalize a.2.getD x.2.1.toNat 0 = v
    by_cases h8 : x.1 = 8
    · simp [h8, br]
    · by_cases h9 : x.1 = 9
      · by_cases hz : v = 0 <;> simp [h9, hz, br]
      · by_cases h10 : x.1 = 10
        · simp [h8, h9, h10, br]
        · simp [h8, h9, h10, br]
  rw [e2]
  simp only [cut_inr]
  have e3 : br (decide (x.1 = 8 ∨ (x.1 = 9 ∧ rg a.2 x.2.1 = 0) ∨ (x.1 = 10 ∧ rg a.2 x.2.1 < 0))) (some (Sum.inr (α := Actor × (Int × Unit)) (x.2.2.1, (a.2, ())))) (some (.inr ((w64 (a.1 + 1)), (a.2, ())))) = some (.inr (pcP x a, (a.2, ()))) := by
    unfold pcP
    rw [w64_id (by omega) (by omega), brd]
    split <;> rfl
  rw [e3]
  simp only [cut_inr]
  rw [sL2Value_spec O hl hr]
  simp only [Option.bind_some]
  rw [chk_true (by omega)]
theorem stepA_ok {p : Program} {a : Actor} {token : Int} (hp : okP p = true) (ha : okA p a = true) (h1 : a.1 < (p.2.2.length : Int)) (ht : tok token = true) : okA p (stepA p a token) = true ∧ tok (outP (instrP p a) a) = true := by
  have hpc := okA_pc ha
  obtain ⟨hl, hr⟩ := okA_regs ha
  have O := instr_ok hp hpc.1 h1
  have hv := valP_tok O hr ht
  have hb := O.b
  refine ⟨?_, ?_⟩
  · unfold okA stepA pcP
    simp only [Bool.and_eq_true, decide_eq_true_eq, List.length_set]
    refine ⟨?_, ?_, hl, ?_⟩
    · split <;> omega
    · split <;> omega
    · unfold okS at hr ⊢
      simp only [Bool.and_eq_true, decide_eq_true_eq, List.all_eq_true, List.length_set] at hr ⊢
      refine ⟨hr.1, fun y hy => ?_⟩
      rcases List.mem_or_eq_of_mem_set hy with hy | rfl
      · exact hr.2 y hy
      · exact hv
  · unfold outP
    split
    · exact rg_tok hr
    · decide

/-! ### a step of a network -/
def tokenOf (nt : Network) (s : State) (k : Nat) : Int := if (wantOf nt s k).1 = 2 then (s.2.1.getD (linkOf nt s k).toNat []).getD 0 0 else 0
def outOf (nt : Network) (s : State) (k : Nat) : Int := outP (instrP (prog nt k) (actor s k)) (actor s k)
def stepP (nt : Network) (s : State) (k : Nat) : State :=
  (s.1.set k (stepA (prog nt k) (actor s k) (tokenOf nt s k)),
   if (wantOf nt s k).1 = 2 then s.2.1.set (linkOf nt s k).toNat ((s.2.1.getD (linkOf nt s k).toNat []).drop 1) else if (wantOf nt s k).1 = 3 then s.2.1.set (linkOf nt s k).toNat (s.2.1.getD (linkOf nt s k).toNat [] ++ [outOf nt s k]) else s.2.1,
   if (wantOf nt s k).1 = 3 then s.2.2.1.set (linkOf nt s k).toNat (s.2.2.1.getD (linkOf nt s k).toNat [] ++ [outOf nt s k]) else s.2.2.1,
   s.2.2.2 + 1)
theorem wantP_pc {p : Program} {a : Actor} (h : (wantP p a).1 ≠ 0) : a.1 ≠ (p.2.2.length : Int) := by
  intro e
  unfold wantP at h
  rw [if_pos e] at h
  exact h rfl
theorem canP_facts {nt : Network} {s : State} {k : Nat} (h : canP nt s k = true) : (wantOf nt s k).1 ≠ 0 ∧ s.2.2.2 < 20000 ∧ ((wantOf nt s k).1 = 2 → 0 < (s.2.1.getD (linkOf nt s k).toNat []).length) ∧ ((wantOf nt s k).1 = 3 → (s.2.2.1.getD (linkOf nt s k).toNat []).length < 400) := by
  unfold canP at h
  split at h
  · simp at h
  · rename_i h0
    have h0 : (wantOf nt s k).1 ≠ 0 ∧ ¬ 20000 ≤ s.2.2.2 := by
      constructor
      · exact fun e => h0 (.inl e)
      · exact fun e => h0 (.inr e)
    refine ⟨h0.1, by omega, fun h2 => ?_, fun h3 => ?_⟩
    · rw [if_pos h2, decide_eq_true_eq] at h; omega
    · rw [if_neg (by omega), if_pos h3, decide_eq_true_eq] at h; omega
theorem sL5Step_spec {n : Nat} {nt : Network} {s : State} {k : Nat} (o : OkSt nt s) (hs : SmallSt s) (hk : k < nt.1.length) (hc : canP nt s k = true) (hn : 1048576 < n) :
    sL5Step.f n nt.1 nt.2 s.2.2.2 (k : Int) s.1 s.2.1 s.2.2.1 = some ((stepP nt s k).2.2.2, ((stepP nt s k).1, ((stepP nt s k).2.1, ((stepP nt s k).2.2.1, ())))) := by
  obtain ⟨w0, w20, w2, w3⟩ := canP_facts hc
  have hks : k < s.1.length := by rw [o.na]; exact hk
  have ha := o.act k hk
  have hp := o.net.prog k hk
  have hst := o.steps
  have hw : sL2Want.f n (nt.1.getD k zProgram) (s.1.getD k zActor) = some ((wantOf nt s k).1, ((wantOf nt s k).2, ())) := sL2Want_spec ha
  have hpc : (s.1.getD k zActor).1 < ((nt.1.getD k zProgram).2.2.length : Int) := by
    have h1 := (okA_pc ha).2
    have h2 := wantP_pc (p := nt.1.getD k zProgram) (a := s.1.getD k zActor) w0
    omega
  have hstep : ∀ token, sL2Step.f n (nt.1.getD k zProgram) (s.1.getD k zActor) token = some (stepA (prog nt k) (actor s k) token, (outOf nt s k, ())) := fun token => sL2Step_spec (by rw [getD_lt hk]; exact hp) ha hpc
  have hq := o.nq
  have hns := o.ns
  have hlk := sL5Link_spec (n := n) o hk hn
  unfold sL5Step.f stepP tokenOf
  simp only [Int.toNat_natCast]
  rw [chk_true (by omega), chk_true (by omega), hw]
  simp only [Option.bind_some]
  rw [show ((nt.1, nt.2) : Network) = nt from rfl, show ((s.1, (s.2.1, (s.2.2.1, s.2.2.2))) : State) = s from rfl, hlk]
  simp only [Option.bind_some]
  by_cases c2 : (wantOf nt s k).1 = 2
  · obtain ⟨j, hj, e, -⟩ := linkOf_to o hk c2
    have hlen := w2 c2
    rw [e, Int.toNat_natCast] at hlen ⊢
    have hql : (s.2.1.getD j []).length ≤ 1048576 := by rw [getD_lt (by omega)]; exact hs.queue _ (List.getElem_mem (by omega))
    have c3 : ¬ (wantOf nt s k).1 = 3 := by omega
    rw [br_yes c2, chk_true (by omega), chk_true (by omega), chk_true (by omega), chk_true (by omega), List.take_of_length_le (by simp), sL1Copy_run (by rw [List.length_drop]; omega)]
    simp only [Option.bind_some]
    rw [chk_true (by omega)]
    simp only [cut_inr]
    rw [chk_true (by omega), chk_true (by omega), hstep]
    simp only [Option.bind_some]
    rw [chk_true (by omega), br_no c3]
    simp only [cut_inr]
    rw [w64_id (by omega) (by omega), if_pos c2, if_pos c2, if_neg c3]
  · rw [br_no c2]
    simp only [cut_inr]
    rw [chk_true (by omega), chk_true (by omega), hstep]
    simp only [Option.bind_some]
    rw [chk_true (by omega)]
    by_cases c3 : (wantOf nt s k).1 = 3
    · obtain ⟨j, hj, e, -⟩ := linkOf_from o hk c3
      have hlen := w3 c3
      rw [e, Int.toNat_natCast] at hlen ⊢
      have hql : (s.2.1.getD j []).length ≤ 1048576 := by rw [getD_lt (by omega)]; exact hs.queue _ (List.getElem_mem (by omega))
      rw [br_yes c3, chk_true (by omega), small_chk (by simp only [List.length_singleton]; omega), chk_true (by omega), chk_true (by trivial), chk_true (by omega), small_chk (by simp only [List.length_singleton]; omega), chk_true (by omega), chk_true (by trivial)]
      simp only [cut_inr]
      rw [w64_id (by omega) (by omega), if_neg c2, if_neg c2, if_pos c3, if_pos c3]
    · rw [br_no c3]
      simp only [cut_inr]
      rw [w64_id (by omega) (by omega), if_neg c2, if_neg c2, if_neg c3, if_neg c3]
theorem IsRun.step {nt : Network} {s s' : State} {r : Run} (R : IsRun nt s r) : IsRun nt s' (r.1, (s', r.2.2)) := ⟨R.net, rfl, R.to, R.fr⟩

/-! ### valid states stay valid -/
theorem okS_len {q : List Int} (h : okS q = true) : q.length ≤ 400 ∧ ∀ x ∈ q, tok x = true := by
  unfold okS at h
  simpa only [Bool.and_eq_true, decide_eq_true_eq, List.all_eq_true] using h
theorem okS_of {q : List Int} (h1 : q.length ≤ 400) (h2 : ∀ x ∈ q, tok x = true) : okS q = true := by
  unfold okS
  simpa only [Bool.and_eq_true, decide_eq_true_eq, List.all_eq_true] using ⟨h1, h2⟩
theorem small_of_ok {nt : Network} {s : State} (o : OkSt nt s) : SmallSt s := by
  have h1 := o.na
  have h2 := o.nq
  have h3 := o.ns
  have hp := o.net.progs
  have hl := o.net.links
  refine ⟨by omega, fun a ha => ?_, by omega, fun q hq => ?_, by omega, fun q hq => ?_⟩
  · obtain ⟨i, hi, rfl⟩ := List.mem_iff_getElem.1 ha
    have := o.act i (by omega)
    rw [getD_lt hi] at this
    have := (okA_regs this).1; omega
  · obtain ⟨i, hi, rfl⟩ := List.mem_iff_getElem.1 hq
    have := (o.lnk i (by omega)).qs
    rw [getD_lt hi] at this
    have := (okS_len this).1; omega
  · obtain ⟨i, hi, rfl⟩ := List.mem_iff_getElem.1 hq
    have := (o.lnk i (by omega)).hs
    rw [getD_lt hi] at this
    have := (okS_len this).1; omega
theorem token_ok {nt : Network} {s : State} {k : Nat} (o : OkSt nt s) (hk : k < nt.1.length) : tok (tokenOf nt s k) = true := by
  unfold tokenOf
  split
  · rename_i h
    obtain ⟨j, hj, e, -⟩ := linkOf_to o hk h
    rw [e, Int.toNat_natCast]
    have hq := (okS_len (o.lnk j hj).qs).2
    by_cases h0 : 0 < (s.2.1.getD j []).length
    · rw [getD_lt h0]; exact hq _ (List.getElem_mem h0)
    · rw [List.getD_eq_getElem?_getD, List.getElem?_eq_none (by omega)]; decide
  · decide
theorem stepP_ok {nt : Network} {s : State} {k : Nat} (o : OkSt nt s) (hk : k < nt.1.length) (hc : canP nt s k = true) : OkSt nt (stepP nt s k) := by
  obtain ⟨w0, w20, w2, w3⟩ := canP_facts hc
  have hks : k < s.1.length := by rw [o.na]; exact hk
  have ha := o.act k hk
  have hp := o.net.prog k hk
  have hst := o.steps
  have hpc : (s.1.getD k zActor).1 < ((nt.1.getD k zProgram).2.2.length : Int) := by
    have h1 := (okA_pc ha).2
    have h2 := wantP_pc (p := nt.1.getD k zProgram) (a := s.1.getD k zActor) w0
    omega
  have hA := stepA_ok (p := nt.1.getD k zProgram) (a := s.1.getD k zActor) (by rw [getD_lt hk]; exact hp) ha hpc (token_ok o hk)
  have hO : tok (outOf nt s k) = true := hA.2
  have hq := o.nq
  have hns := o.ns
  refine ⟨o.net, by simp [stepP, o.na], ?_, ?_, ?_, fun i hi => ?_, fun i hi => ?_⟩
  · unfold stepP; simp only
    split
    · simp [hq]
    · split <;> simp [hq]
  · unfold stepP; simp only
    split <;> simp [hns]
  · show 0 ≤ s.2.2.2 + 1 ∧ s.2.2.2 + 1 ≤ 20000
    omega
  · show okA _ ((s.1.set k _).getD i zActor) = true
    by_cases hik : k = i
    · subst hik
      rw [getD_set_same hks]; exact hA.1
    · rw [getD_set_ne hik]; exact o.act i hi
  · have L := o.lnk i hi
    show LinkSt _ ((stepP nt s k).2.1.getD i []) ((stepP nt s k).2.2.1.getD i [])
    unfold stepP
    simp only
    by_cases c2 : (wantOf nt s k).1 = 2
    · obtain ⟨j, hj, e, e2, -⟩ := linkOf_to o hk c2
      rw [if_pos c2, if_neg (show ¬ (wantOf nt s k).1 = 3 by omega), e, Int.toNat_natCast]
      by_cases hij : j = i
      · subst hij
        rw [getD_set_same (by omega)]
        have h1 := okS_len L.qs
        refine ⟨okS_of (by rw [List.length_drop]; omega) (fun x hx => h1.2 x (List.mem_of_mem_drop hx)), L.hs, L.pre, (List.drop_suffix 1 _).trans L.suf, L.inp, fun h => ?_⟩
        rw [getD_lt hj] at h
        omega
      · rw [getD_set_ne hij]; exact L
    · rw [if_neg c2]
      by_cases c3 : (wantOf nt s k).1 = 3
      · obtain ⟨j, hj, e, e2, -⟩ := linkOf_from o hk c3
        have hlen := w3 c3
        rw [if_pos c3, if_pos c3]
        rw [e, Int.toNat_natCast] at hlen ⊢
        by_cases hij : j = i
        · subst hij
          rw [getD_set_same (by omega), getD_set_same (by omega)]
          have h1 := okS_len L.qs
          have h2 := okS_len L.hs
          have h3 := L.suf.length_le
          refine ⟨okS_of (by rw [List.length_append, List.length_singleton]; omega) (fun x hx => ?_), okS_of (by rw [List.length_append, List.length_singleton]; omega) (fun x hx => ?_), L.pre.trans (List.prefix_append _ _), ?_, fun h => ?_, fun h => ?_⟩
          · rcases List.mem_append.1 hx with hx | hx
            · exact h1.2 x hx
            · rw [List.mem_singleton.1 hx]; exact hO
          · rcases List.mem_append.1 hx with hx | hx
            · exact h2.2 x hx
            · rw [List.mem_singleton.1 hx]; exact hO
          · obtain ⟨t, ht⟩ := L.suf
            exact ⟨t, by rw [← ht, List.append_assoc]⟩
          · rw [getD_lt hj] at h; omega
          · have := L.out h
            rw [List.length_append, List.length_append, this]
        · rw [getD_set_ne hij, getD_set_ne hij]; exact L
      · rw [if_neg c3, if_neg c3]; exact L
end Go.AmT

namespace Go.AmT
open Go Go.Am Go.Proofs
set_option linter.unusedVariables false
set_option maxRecDepth 100000
def tys7 : List (Nat × TInfo) := [(3, ⟨false, 1, 8, [.int .i64 0], .int .i64, 0, some I, [], false⟩),
  (22, ⟨false, 1, 24, [.nil], .slice, 62, some (.sl tProgram), [], false⟩),
  (23, ⟨false, 1, 24, [.nil], .slice, 80, some (.sl tLink), [], false⟩),
  (25, ⟨true, 2, 48, [.nil, .nil], .struct, 0, some tNetwork, [(0, 22), (1, 23)], false⟩),
  (36, ⟨false, 1, 24, [.nil], .slice, 103, some (.sl tActor), [], false⟩),
  (37, ⟨false, 1, 24, [.nil], .slice, 49, some (.sl IS), [], false⟩),
  (39, ⟨true, 4, 80, [.nil, .nil, .nil, .int .i64 0], .struct, 0, some tState, [(0, 36), (1, 37), (2, 37), (3, 3)], false⟩),
  (49, ⟨false, 1, 24, [.nil], .slice, 3, some IS, [], false⟩),
  (62, ⟨true, 3, 40, [.int .i64 0, .int .i64 0, .nil], .struct, 0, some tProgram, [(0, 3), (1, 3), (2, 60)], false⟩),
  (80, ⟨true, 5, 56, [.int .i64 0, .int .i64 0, .int .i64 0, .int .i64 0, .nil], .struct, 0, some tLink, [(0, 3), (1, 3), (2, 3), (3, 3), (4, 49)], false⟩),
  (103, ⟨true, 2, 32, [.int .i64 0, .nil], .struct, 0, some tActor, [(0, 3), (1, 49)], false⟩)]
theorem tys7_ok : (tys7.all fun p => tokB Tryz.prog p.1 p.2) = true := by kernel_rfl

def sL4Tokens.las : List (Nat × LA) := [(4, ⟨[(3, .own 1000 IS), (10, .int .i64)], [(1000, .row true IS)], [8, 9], []⟩)]
noncomputable def sL4Tokens.f (n : Nat) (a0 : Network) : Option ((List (List Int)) × Unit) := iter (α := (Int × (List (List Int)) × Unit)) n (fun ih7 x6 => br (decide (x6.1 < (a0.2.length : Int))) (chk (0 ≤ x6.1 ∧ x6.1 < (a0.2.length : Int)) (let v8 := (a0.2.getD x6.1.toNat zLink); (sL1Copy.f n v8.2.2.2.2).bind fun r9 => chk ((x6.2.1.length + ([r9.1] : List (List Int)).length) * 24 ≤ maxB) (ih7 ((w64 (x6.1 + 1)), ((x6.2.1 ++ [r9.1]), ()))))) (some (x6.2.1, ()))) (0, ([], ()))
noncomputable def sL4Tokens.mng (n : Nat) : Mng := ⟨[.val tNetwork], [.val (.sl IS)], fun x => sL4Tokens.f n x.1⟩
noncomputable def sL4Tokens.cfg (n : Nat) : Cfg := ⟨tys7, [(145, sL1Copy.mng n)], [], []⟩
theorem sL4Tokens.eq : ∀ (n : Nat) (a0 : Network), runF (sL4Tokens.cfg n) n Tryz.f141 (annOf Tryz.f141 sL4Tokens.las) [.val tNetwork] [.val (.sl IS)] (a0, ()) = sL4Tokens.f n a0 := by
  intros
  kernel_rfl
theorem sL4Tokens.gof : GoF Tryz.prog 141 := ⟨_, Tryz.func141, by kernel_rfl, by kernel_rfl⟩
theorem sL4Tokens.sound (n : Nat) : Sound Tryz.prog 141 (sL4Tokens.mng n) := runF_sound (fn := Tryz.f141) (m := sL4Tokens.mng n) (c := sL4Tokens.cfg n) (regOK mixed (opOK (.of (c := sL4Tokens.cfg n) ⟨⟨sL1Copy.sound n, sL1Copy.gof⟩, trivial⟩) (.of (c := sL4Tokens.cfg n) trivial)) (tysOK tys7_ok)) (tysOK tys7_ok) Tryz.func141 (fun x => (sL4Tokens.eq n x.1).symm)

def sNewActor.las : List (Nat × LA) := []
noncomputable def sNewActor.f (n : Nat) (a0 : Program) : Option (Actor × Unit) := (sIsProgram.f n a0).bind fun r1 => br (!r1.1) (some ((0, []), ())) (some ((0, [0, 0, 0, 0]), ()))
noncomputable def sNewActor.mng (n : Nat) : Mng := ⟨[.val tProgram], [.val tActor], fun x => sNewActor.f n x.1⟩
noncomputable def sNewActor.cfg (n : Nat) : Cfg := ⟨tys7, [(95, sIsProgram.mng n)], [], []⟩
theorem sNewActor.eq : ∀ (n : Nat) (a0 : Program), runF (sNewActor.cfg n) n Tryz.f142 (annOf Tryz.f142 sNewActor.las) [.val tProgram] [.val tActor] (a0, ()) = sNewActor.f n a0 := by
  intros
  kernel_rfl
theorem sNewActor.gof : GoF Tryz.prog 142 := ⟨_, Tryz.func142, by kernel_rfl, by kernel_rfl⟩
theorem sNewActor.sound (n : Nat) : Sound Tryz.prog 142 (sNewActor.mng n) := runF_sound (fn := Tryz.f142) (m := sNewActor.mng n) (c := sNewActor.cfg n) (regOK mixed (opOK (.of (c := sNewActor.cfg n) ⟨⟨sIsProgram.sound n, sIsProgram.gof⟩, trivial⟩) (.of (c := sNewActor.cfg n) trivial)) (tysOK tys7_ok)) (tysOK tys7_ok) Tryz.func142 (fun x => (sNewActor.eq n x.1).symm)

def sStartState.las : List (Nat × LA) := [(7, ⟨[(3, .vptr 1000 0), (18, .int .i64)], [(1000, .cells [] [.own 1001 tActor, .own 1002 IS, .own 1003 IS, .int .i64]), (1001, .row true tActor), (1002, .row true IS), (1003, .row true IS)], [2, 16, 17], []⟩)]
noncomputable def sStartState.f (n : Nat) (a0 : Network) : Option (State × Unit) := (sIsNetwork.f n a0).bind fun r1 => br (!r1.1) (some (([], ([], ([], 0))), ())) ((sL4Tokens.f n a0).bind fun r2 => (sL4Tokens.f n a0).bind fun r3 => iter (α := (Int × (Int × (List Actor) × (List (List Int)) × (List (List Int)) × Unit))) n (fun ih24 x23 => br (decide (x23.1 < (a0.1.length : Int))) (chk (0 ≤ x23.1 ∧ x23.1 < (a0.1.length : Int)) (let v25 := (a0.1.getD x23.1.toNat zProgram); (sNewActor.f n v25).bind fun r26 => chk ((x23.2.2.1.length + ([r26.1] : List Actor).length) * 32 ≤ maxB) (ih24 ((w64 (x23.1 + 1)), (x23.2.1, ((x23.2.2.1 ++ [r26.1]), (x23.2.2.2.1, (x23.2.2.2.2.1, ())))))))) (some ((x23.2.2.1, (x23.2.2.2.1, (x23.2.2.2.2.1, x23.2.1))), ()))) (0, (0, ([], (r2.1, (r3.1, ()))))))
noncomputable def sStartState.mng (n : Nat) : Mng := ⟨[.val tNetwork], [.val tState], fun x => sStartState.f n x.1⟩
noncomputable def sStartState.cfg (n : Nat) : Cfg := ⟨tys7, [(43, sIsNetwork.mng n), (141, sL4Tokens.mng n), (142, sNewActor.mng n)], [], []⟩
theorem sStartState.eq : ∀ (n : Nat) (a0 : Network), runF (sStartState.cfg n) n Tryz.f84 (annOf Tryz.f84 sStartState.las) [.val tNetwork] [.val tState] (a0, ()) = sStartState.f n a0 := by
  intros
  kernel_rfl
theorem sStartState.gof : GoF Tryz.prog 84 := ⟨_, Tryz.func84, by kernel_rfl, by kernel_rfl⟩
theorem sStartState.sound (n : Nat) : Sound Tryz.prog 84 (sStartState.mng n) := runF_sound (fn := Tryz.f84) (m := sStartState.mng n) (c := sStartState.cfg n) (regOK mixed (opOK (.of (c := sStartState.cfg n) ⟨⟨sIsNetwork.sound n, sIsNetwork.gof⟩, ⟨⟨sL4Tokens.sound n, sL4Tokens.gof⟩, ⟨⟨sNewActor.sound n, sNewActor.gof⟩, trivial⟩⟩⟩) (.of (c := sStartState.cfg n) trivial)) (tysOK tys7_ok)) (tysOK tys7_ok) Tryz.func84 (fun x => (sStartState.eq n x.1).symm)

end Go.AmT

namespace Go.AmT
open Go Go.Am
set_option linter.unusedVariables false
set_option linter.unusedSimpArgs false

theorem sL4Tokens_spec {n : Nat} {nt : Network} (h : SmallN nt) (hn : 1048576 < n) : sL4Tokens.f n nt = some (nt.2.map (fun l => l.2.2.2.2), ()) := by
  have hl := h.links
  unfold sL4Tokens.f
  refine push_loop nt.2 (fun l => l.2.2.2.2) (fun i s => (i, (s, ()))) (R := fun s => some (s, ())) (fun ih i hi s hs => ?_) (fun ih s => br_no (Int.lt_irrefl _)) (by omega)
  have c1 : (i : Int) < (nt.2.length : Int) := by omega
  have e1 : nt.2.getD i zLink = nt.2[i] := getD_lt hi _
  show br (decide ((i : Int) < (nt.2.length : Int))) _ _ = _
  rw [br_yes c1, chk_true ⟨Int.natCast_nonneg i, c1⟩]
  simp only [Int.toNat_natCast, e1]
  rw [sL1Copy_run (h.link _ (List.getElem_mem hi)).tokens, Option.bind_some, small_chk (by simp; omega), w64_succ (by omega)]
theorem sNewActor_spec {n : Nat} {p : Program} (hp : SmallP p) (h : okP p = true) (hn : 1048576 < n) : sNewActor.f n p = some (newA, ()) := by
  unfold sNewActor.f
  rw [sIsProgram_spec hp hn, h]; rfl
theorem sStartState_spec {n : Nat} {nt : Network} (h : SmallN nt) (o : OkN nt) (hn : 1048576 < n) : sStartState.f n nt = some (start nt, ()) := by
  have ho : okN nt = true := by simp [okN, o]
  have hp := h.progs
  unfold sStartState.f start
  rw [sIsNetwork_spec h hn, ho, sL4Tokens_spec h hn]
  simp only [Option.bind_some, Bool.not_true, br_false]
  generalize nt.2.map (fun l => l.2.2.2.2) = T
  refine push_loop nt.1 (fun _ => newA) (fun i s => (i, (0, (s, (T, (T, ())))))) (R := fun s => some ((s, (T, (T, 0))), ())) (fun ih i hi s hs => ?_) (fun ih s => br_no (Int.lt_irrefl _)) (by omega)
  have c1 : (i : Int) < (nt.1.length : Int) := by omega
  have e1 : nt.1.getD i zProgram = nt.1[i] := getD_lt hi _
  show br (decide ((i : Int) < (nt.1.length : Int))) _ _ = _
  rw [br_yes c1, chk_true ⟨Int.natCast_nonneg i, c1⟩]
  simp only [Int.toNat_natCast, e1]
  rw [sNewActor_spec (h.prog _ (List.getElem_mem hi)) (o.prog i hi) hn, Option.bind_some, small_chk (by simp; omega), w64_succ (by omega)]
end Go.AmT

namespace Go.AmT
open Go Go.Am Go.Proofs
set_option linter.unusedVariables false
set_option maxRecDepth 100000
def tys8 : List (Nat × TInfo) := [(3, ⟨false, 1, 8, [.int .i64 0], .int .i64, 0, some I, [], false⟩),
  (22, ⟨false, 1, 24, [.nil], .slice, 62, some (.sl tProgram), [], false⟩),
  (25, ⟨true, 2, 48, [.nil, .nil], .struct, 0, some tNetwork, [(0, 22), (1, 23)], false⟩)]
theorem tys8_ok : (tys8.all fun p => tokB Tryz.prog p.1 p.2) = true := by kernel_rfl

def sL3Has.las : List (Nat × LA) := []
noncomputable def sL3Has.f (n : Nat) (a0 : Network) (a1 : Int) : Option (Bool × Unit) := br (decide (0 ≤ a1)) (some ((decide (a1 < (a0.1.length : Int))), ())) (some (false, ()))
noncomputable def sL3Has.mng (n : Nat) : Mng := ⟨[.val tNetwork, .val I], [.val .bool], fun x => sL3Has.f n x.1 x.2.1⟩
noncomputable def sL3Has.cfg (n : Nat) : Cfg := ⟨tys8, [], [], []⟩
theorem sL3Has.eq : ∀ (n : Nat) (a0 : Network) (a1 : Int), runF (sL3Has.cfg n) n Tryz.f85 (annOf Tryz.f85 sL3Has.las) [.val tNetwork, .val I] [.val .bool] (a0, (a1, ())) = sL3Has.f n a0 a1 := by
  intros
  kernel_rfl
theorem sL3Has.gof : GoF Tryz.prog 85 := ⟨_, Tryz.func85, by kernel_rfl, by kernel_rfl⟩
theorem sL3Has.sound (n : Nat) : Sound Tryz.prog 85 (sL3Has.mng n) := runF_sound (fn := Tryz.f85) (m := sL3Has.mng n) (c := sL3Has.cfg n) (regOK mixed (opOK (.of (c := sL3Has.cfg n) trivial) (.of (c := sL3Has.cfg n) trivial)) (tysOK tys8_ok)) (tysOK tys8_ok) Tryz.func85 (fun x => (sL3Has.eq n x.1 x.2.1).symm)
end Go.AmT

namespace Go.AmT
open Go Go.Am
set_option linter.unusedVariables false
set_option linter.unusedSimpArgs false

end Go.AmT
