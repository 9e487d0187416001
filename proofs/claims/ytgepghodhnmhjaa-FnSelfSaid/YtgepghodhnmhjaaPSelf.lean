/- A process that grows into itself alone: the law. -/
import Derived.Test.YtgepghodhnmhjaaLSelf
import Derived.Test.YtgepghodhnmhjaaPPerm
import Derived.Test.YtgepghodhnmhjaaPExp2
import Derived.Test.YtgepghodhnmhjaaPFmtN
import Derived.Test.YtgepghodhnmhjaaPGenS
namespace Go.AmT
open Go Go.Am
set_option linter.unusedVariables false
set_option linter.unusedSimpArgs false

/-- the others in order, and a process behind them -/
def others (N k : Nat) : List Int := (((List.range N).filter (fun i => decide (i ≠ k))).map (fun i : Nat => (i : Int)))
theorem filter_rem {β : Type} (N k : Nat) (f : Nat → β) : ((List.range N).filter (fun i => decide (i ≠ k))).map f = rem k ((List.range N).map f) := by
  induction N with
  | zero => simp [rem]
  | succ N ih =>
    rw [List.range_succ, List.filter_append, List.map_append, List.map_append, ih]
    simp only [List.map_cons, List.map_nil]
    rw [rem_snoc, List.length_map, List.length_range]
    by_cases h : N = k
    · rw [if_pos h]; simp [h]
    · rw [if_neg h]; simp [h]
theorem rem_len {α : Type} {k : Nat} {a : List α} (h : k < a.length) : (rem k a).length + 1 = a.length := by
  unfold rem; simp; omega
theorem rem_get {α : Type} {k : Nat} {a : List α} (h : k < a.length) {i : Nat} (z : α) : (rem k a).getD i z = if i < k then a.getD i z else a.getD (i + 1) z := by
  unfold rem
  rw [List.getD_eq_getElem?_getD]
  by_cases hi : i < k
  · rw [if_pos hi, List.getElem?_append_left (by simp; omega), List.getElem?_take, if_pos hi, List.getD_eq_getElem?_getD]
  · rw [if_neg hi, List.getElem?_append_right (by simp; omega), List.getElem?_drop, List.getD_eq_getElem?_getD]
    congr 2
    simp; omega

def ord0 (N k : Nat) : List Int := others N k ++ [(k : Int)]
theorem ord0_len {N k : Nat} (hk : k < N) : (others N k).length = N - 1 := by
  have := rem_len (k := k) (a := (List.range N).map (fun i : Nat => (i : Int))) (by simpa using hk)
  unfold others; rw [filter_rem]
  simp only [List.length_map, List.length_range] at this
  omega
theorem ord0_ord {N k : Nat} (hk : k < N) : Ord (ord0 N k) N := by
  refine ⟨by unfold ord0; rw [List.length_append, ord0_len hk]; simp; omega, fun j hj => ?_⟩
  unfold ord0
  rw [List.mem_append, List.mem_singleton]
  by_cases e : j = k
  · exact Or.inr (by omega)
  · refine Or.inl (List.mem_map.2 ⟨j, ?_, rfl⟩)
    rw [List.mem_filter]
    exact ⟨List.mem_range.2 hj, by simpa using e⟩
theorem ord0_last {N k : Nat} (hk : k < N) : (ord0 N k).getD (N - 1) 0 = (k : Int) := by
  unfold ord0
  rw [List.getD_eq_getElem?_getD, List.getElem?_append_right (by rw [ord0_len hk]; omega), ord0_len hk]
  simp
theorem ord0_get {N k : Nat} (hk : k < N) {i : Nat} (hi : i < N - 1) : (ord0 N k).getD i 0 = if i < k then (i : Int) else ((i + 1 : Nat) : Int) := by
  unfold ord0
  rw [List.getD_eq_getElem?_getD, List.getElem?_append_left (by rw [ord0_len hk]; omega), ← List.getD_eq_getElem?_getD]
  unfold others
  rw [filter_rem, rem_get (by simpa using hk)]
  by_cases h : i < k
  · rw [if_pos h, if_pos h, getD_lt (by simp; omega)]; simp
  · rw [if_neg h, if_neg h, getD_lt (by simp; omega)]; simp

theorem pe_ord0 {N k : Nat} (hk : k < N) {x : Int} (hx : x = -1 ∨ (0 ≤ x ∧ x < (N : Int))) : pe (ord0 N k) x = if x = (k : Int) then (N : Int) - 1 else lessI (k : Int) x := by
  have hO := ord0_ord hk
  by_cases e : x = (k : Int)
  · rw [if_pos e]
    have := (pe_iff hO hx (i := N - 1) (by omega)).2 (by rw [ord0_last hk]; exact e)
    rw [this]; omega
  · rw [if_neg e]
    unfold lessI
    by_cases h : (k : Int) < x
    · rw [if_pos h]
      have := (pe_iff hO hx (i := (x - 1).toNat) (by omega)).2 (by rw [ord0_get hk (by omega), if_neg (by omega)]; omega)
      rw [this]; omega
    · rw [if_neg h]
      rcases hx with hx | hx
      · rw [pe_out hx, hx]
      · have := (pe_iff hO (Or.inr hx) (i := x.toNat) (by omega)).2 (by rw [ord0_get hk (by omega), if_pos (by omega)]; omega)
        rw [this]; omega

/-! ### the network of a process alone -/
def insL (p : Program) : List Link := (List.range p.1.toNat).map fun i : Nat => (-1, (0, (0, ((i : Int), []))))
def outsL (p : Program) : List Link := (List.range p.2.1.toNat).map fun i : Nat => (0, ((i : Int), (-1, (0, []))))
def alone (p : Program) : Network := ([p], insL p ++ outsL p)

theorem lks_filter {p : Link → Bool} {ls : List Link} : lks p ls = ls.filter p := by
  have := range_fm ls p id zLink
  simpa [lks, ixs] using this

theorem ins_mem {p : Program} {l : Link} (h : l ∈ insL p) : ∃ i : Nat, i < p.1.toNat ∧ l = (-1, (0, (0, ((i : Int), [])))) := by
  obtain ⟨i, hi, rfl⟩ := List.mem_map.1 h
  exact ⟨i, List.mem_range.1 hi, rfl⟩
theorem outs_mem {p : Program} {l : Link} (h : l ∈ outsL p) : ∃ i : Nat, i < p.2.1.toNat ∧ l = (0, ((i : Int), (-1, (0, [])))) := by
  obtain ⟨i, hi, rfl⟩ := List.mem_map.1 h
  exact ⟨i, List.mem_range.1 hi, rfl⟩
theorem alone_in {p : Program} : lks (inOut true) (alone p).2 = insL p := by
  rw [lks_filter, alone, List.filter_append]
  rw [List.filter_eq_self.2 (fun l hl => by obtain ⟨i, hi, rfl⟩ := ins_mem hl; simp [inOut]), List.filter_eq_nil_iff.2 (fun l hl => by obtain ⟨i, hi, rfl⟩ := outs_mem hl; simp [inOut])]
  simp
theorem alone_out {p : Program} : lks (inOut false) (alone p).2 = outsL p := by
  rw [lks_filter, alone, List.filter_append]
  rw [List.filter_eq_nil_iff.2 (fun l hl => by obtain ⟨i, hi, rfl⟩ := ins_mem hl; simp [inOut]), List.filter_eq_self.2 (fun l hl => by obtain ⟨i, hi, rfl⟩ := outs_mem hl; simp [inOut])]
  simp
theorem alone_inner {p : Program} : (alone p).2.filter innerL = [] := by
  rw [List.filter_eq_nil_iff]
  intro l hl
  rcases List.mem_append.1 hl with h | h
  · obtain ⟨i, hi, rfl⟩ := ins_mem h; simp [innerL]
  · obtain ⟨i, hi, rfl⟩ := outs_mem h; simp [innerL]

theorem range_one {N k : Nat} (h : k < N) : (List.range N).countP (fun i => decide (i = k)) = 1 := by
  have := count_of_nodup (l := List.range N) List.nodup_range (List.mem_range.2 h)
  unfold List.count at this
  rw [← this]
  exact List.countP_congr (fun x _ => by simp)

theorem alone_ok {p : Program} (h : okP p = true) : OkN (alone p) := by
  have hp := okP_ports h
  have l1 : (insL p).length = p.1.toNat := by simp [insL]
  have l2 : (outsL p).length = p.2.1.toNat := by simp [outsL]
  have p0 : ∀ i : Nat, i < (alone p).1.length → i = 0 := fun i hi => by simp [alone] at hi; exact hi
  refine ⟨by simp [alone], by simp [alone, l1, l2]; omega, fun i hi => ?_, fun i hi => ?_, fun i hi => ?_, fun i hi k hk => ?_, fun i hi k hk => ?_⟩
  · have := p0 i hi; subst this; exact h
  · have hm := List.getElem_mem hi
    rcases List.mem_append.1 hm with hm | hm
    · obtain ⟨j, hj, e⟩ := ins_mem hm
      rw [e]
      exact ⟨Or.inl ⟨rfl, rfl⟩, Or.inr ⟨by simp, by simp [alone], by simp, by simp [alone]; omega⟩, by simp⟩
    · obtain ⟨j, hj, e⟩ := outs_mem hm
      rw [e]
      exact ⟨Or.inr ⟨by simp, by simp [alone], by simp, by simp [alone]; omega⟩, Or.inl ⟨rfl, rfl⟩, by simp⟩
  · have hm := List.getElem_mem hi
    rcases List.mem_append.1 hm with hm | hm
    · obtain ⟨j, hj, e⟩ := ins_mem hm
      rw [e]; rfl
    · obtain ⟨j, hj, e⟩ := outs_mem hm
      rw [e]; rfl
  · have := p0 i hi; subst this
    have hk : (k : Int) < p.1 := hk
    simp only [alone, List.countP_append]
    have a : (insL p).countP (isTo ((0 : Nat) : Int) k) = 1 := by
      unfold insL; rw [List.countP_map, ← range_one (N := p.1.toNat) (k := k) (by omega)]
      exact List.countP_congr (fun x _ => by simp [isTo]; omega)
    have b : (outsL p).countP (isTo ((0 : Nat) : Int) k) = 0 := by
      rw [List.countP_eq_zero]; intro l hl; obtain ⟨j, hj, rfl⟩ := outs_mem hl; simp [isTo]
    rw [a, b]
  · have := p0 i hi; subst this
    have hk : (k : Int) < p.2.1 := hk
    simp only [alone, List.countP_append]
    have a : (outsL p).countP (isFrom ((0 : Nat) : Int) k) = 1 := by
      unfold outsL; rw [List.countP_map, ← range_one (N := p.2.1.toNat) (k := k) (by omega)]
      exact List.countP_congr (fun x _ => by simp [isFrom]; omega)
    have b : (insL p).countP (isFrom ((0 : Nat) : Int) k) = 0 := by
      rw [List.countP_eq_zero]; intro l hl; obtain ⟨j, hj, rfl⟩ := ins_mem hl; simp [isFrom]
    rw [a, b]

theorem alone_small {p : Program} (h : SmallP p) (hp : okP p = true) : SmallN (alone p) := by
  have hp := okP_ports hp
  refine ⟨by simp [alone], fun q hq => ?_, by simp [alone, insL, outsL]; omega, fun l hl => ?_⟩
  · simp [alone] at hq; rw [hq]; exact h
  · rcases List.mem_append.1 hl with h | h
    · obtain ⟨j, hj, e⟩ := ins_mem h; rw [e]; exact ⟨by simp⟩
    · obtain ⟨j, hj, e⟩ := outs_mem h; rw [e]; exact ⟨by simp⟩

theorem alone_tmpl {nt : Network} (o : OkN nt) {k : Nat} (hk : k < nt.1.length) : tmpl nt (k : Int) (alone (nt.1.getD k zProgram)) = true := by
  have hp : okP (nt.1.getD k zProgram) = true := by rw [getD_lt hk]; exact o.prog k hk
  have pp := okP_ports hp
  unfold tmpl
  rw [okN_true o, okN_true (alone_ok hp), Int.toNat_natCast]
  have e1 : (ixs (inOut true) (alone (nt.1.getD k zProgram)).2).length = (nt.1.getD k zProgram).1.toNat := by rw [← lks_len, alone_in]; simp [insL]
  have e2 : (ixs (inOut false) (alone (nt.1.getD k zProgram)).2).length = (nt.1.getD k zProgram).2.1.toNat := by rw [← lks_len, alone_out]; simp [outsL]
  rw [e1, e2, decide_eq_true (show (0 : Int) ≤ (k : Int) by omega), decide_eq_true (show (k : Int) < (nt.1.length : Int) by omega), decide_eq_true (by omega), decide_eq_true (by omega)]
  simp only [Bool.true_and, Bool.not_eq_true']
  rw [List.any_eq_false]
  intro i hi
  have hlt : i < (alone (nt.1.getD k zProgram)).2.length := by
    rcases List.mem_append.1 hi with h | h <;> exact ixs_lt h
  rw [getD_lt hlt]
  have hm := List.getElem_mem hlt
  rcases List.mem_append.1 hm with hm | hm
  · obtain ⟨j, hj, e⟩ := ins_mem hm; rw [e]; simp [hasT]
  · obtain ⟨j, hj, e⟩ := outs_mem hm; rw [e]; simp [hasT]

/-- grown into itself alone, it is numbered anew, and no more -/
theorem self_perm {nt : Network} (o : OkN nt) {k : Nat} (hk : k < nt.1.length) : expN nt k (alone (nt.1.getD k zProgram)) = permN nt (ord0 nt.1.length k) := by
  unfold expN permN
  rw [alone_inner]
  refine Prod.ext ?_ ?_
  · simp only [ord0, List.map_append, List.map_cons, List.map_nil, Int.toNat_natCast, alone]
    congr 1
    unfold others
    rw [List.map_map]
    have := filter_rem nt.1.length k (fun i => nt.1.getD i zProgram)
    have e : (List.range nt.1.length).map (fun i => nt.1.getD i zProgram) = nt.1 := by
      refine List.ext_getElem (by simp) (fun i h1 h2 => ?_)
      simp only [List.getElem_map, List.getElem_range]
      rw [getD_lt h2]
    rw [e] at this
    rw [← this]
    rfl
  · simp only [List.map_nil, List.append_nil]
    refine List.map_congr_left (fun l hl => ?_)
    have E := mem_end o hl
    have eo : l.1 = -1 ∨ (0 ≤ l.1 ∧ l.1 < (nt.1.length : Int)) := E.out.elim (fun h => Or.inl h.1) (fun h => Or.inr ⟨h.1, h.2.1⟩)
    have ei : l.2.2.1 = -1 ∨ (0 ≤ l.2.2.1 ∧ l.2.2.1 < (nt.1.length : Int)) := E.inn.elim (fun h => Or.inl h.1) (fun h => Or.inr ⟨h.1, h.2.1⟩)
    unfold expL permL outAt inAt
    rw [alone_in, alone_out, pe_ord0 hk eo, pe_ord0 hk ei]
    have outg : l.1 = (k : Int) → (outsL (nt.1.getD k zProgram)).getD l.2.1.toNat zLink = (0, (l.2.1, (-1, (0, [])))) := by
      intro e
      rcases E.out with ⟨h1, h2⟩ | ⟨h1, h2, h3, h4⟩
      · omega
      · rw [show l.1.toNat = k by omega] at h4
        unfold outsL
        rw [getD_lt (by rw [List.length_map, List.length_range]; omega)]
        simp only [List.getElem_map, List.getElem_range]
        rw [show ((l.2.1.toNat : Nat) : Int) = l.2.1 by omega]
    have ing : l.2.2.1 = (k : Int) → (insL (nt.1.getD k zProgram)).getD l.2.2.2.1.toNat zLink = (-1, (0, (0, (l.2.2.2.1, [])))) := by
      intro e
      rcases E.inn with ⟨h1, h2⟩ | ⟨h1, h2, h3, h4⟩
      · omega
      · rw [show l.2.2.1.toNat = k by omega] at h4
        unfold insL
        rw [getD_lt (by rw [List.length_map, List.length_range]; omega)]
        simp only [List.getElem_map, List.getElem_range]
        rw [show ((l.2.2.2.1.toNat : Nat) : Int) = l.2.2.2.1 by omega]
    by_cases c1 : l.1 = (k : Int) <;> by_cases c2 : l.2.2.1 = (k : Int)
    · rw [outg c1, ing c2]; simp only [if_pos c1, if_pos c2, Int.add_zero]
    · rw [outg c1]; simp only [if_pos c1, if_neg c2, Int.add_zero]
    · rw [ing c2]; simp only [if_neg c1, if_pos c2, Int.add_zero]
    · simp only [if_neg c1, if_neg c2]

theorem law_true (code : List Int) (hcode : InR (.sl U8) code) : ∃ n, law.f n code = some (true, ()) := by
  refine ⟨1048577, ?_⟩
  have hn : 1048576 < 1048577 := by omega
  unfold law.f
  by_cases hl : code.length ≤ 1048576
  rotate_left
  · rw [br_yes (by omega)]
  rw [br_no (show ¬ (1048576 < (code.length : Int)) by omega)]
  refine W_eq.1 ?_
  rw [W_bind]
  refine W_and (makeNetwork_W (m := 5) hl (by omega) hn) (fun r1 hN => ?_)
  rw [W_brd]
  refine ⟨fun _ => W_some.2 rfl, fun hne => ?_⟩
  rw [W_bind]
  refine W_and (lawAt_W hl hcode (by omega)) (fun r2 h2 => ?_)
  rw [if_neg hne]
  obtain ⟨nt, ⟨⟩⟩ := r1
  have hS := hN.small
  have o : OkN nt := hN.ok
  have hpr : nt.1.length ≤ 5 := hN.progs
  have hne : ¬ ((nt.1.length : Int) = 0) := hne
  simp only
  have hk1 := Int.tmod_nonneg (a := r2.1) (nt.1.length : Int) h2.1
  have hk2 := Int.tmod_lt_of_pos r2.1 (b := (nt.1.length : Int)) (by omega)
  generalize r2.1.tmod (nt.1.length : Int) = k0 at hk1 hk2
  obtain ⟨k, rfl⟩ : ∃ l : Nat, k0 = (l : Int) := ⟨k0.toNat, by omega⟩
  have hk : k < nt.1.length := by omega
  rw [chk_true (by omega)]
  simp only [Int.toNat_natCast]
  obtain ⟨p, hp⟩ : ∃ p, nt.1.getD k zProgram = p := ⟨_, rfl⟩
  simp only [hp]
  have okp : okP p = true := by rw [← hp, getD_lt hk]; exact o.prog k hk
  have smp : SmallP p := by rw [← hp, getD_lt hk]; exact hS.prog _ (List.getElem_mem hk)
  have pp := okP_ports okp
  have mB : maxB = 140737488355328 := rfl
  refine W_up (fun i (s : List Link) => ((i : Int), ([p], (s, ())))) p.1.toNat (fun i s => s = (List.range i).map (fun j : Nat => ((-1, (0, (0, ((j : Int), [])))) : Link))) (s0 := []) rfl (by simp) (by omega) (fun ih s hI => ?_) (fun ih i s hi hI hS' => ?_)
  rotate_left
  · simp only [br_yes (show (i : Int) < p.1 by omega)]
    have hs : s.length = i := by rw [hI]; simp
    rw [chk_true (by rw [mB]; simp only [List.length_singleton]; omega), w64_succ (by omega)]
    refine hS' _ ?_
    rw [hI, List.range_succ, List.map_append]; rfl
  simp only [br_no (show ¬ ((p.1.toNat : Nat) : Int) < p.1 by omega)]
  have hI : s = insL p := hI
  subst hI
  have li : (insL p).length = p.1.toNat := by simp [insL]
  refine W_up (fun i (s : List Link) => ((i : Int), ([p], (s, ())))) p.2.1.toNat (fun i s => s = insL p ++ (List.range i).map (fun j : Nat => ((0, ((j : Int), (-1, (0, [])))) : Link))) (s0 := insL p) rfl (by simp) (by omega) (fun ih s hI => ?_) (fun ih i s hi hI hS' => ?_)
  rotate_left
  · simp only [br_yes (show (i : Int) < p.2.1 by omega)]
    have hs : s.length = p.1.toNat + i := by rw [hI]; simp [li]
    rw [chk_true (by rw [mB]; simp only [List.length_singleton]; omega), w64_succ (by omega)]
    refine hS' _ ?_
    rw [hI, List.range_succ, List.map_append, List.append_assoc]; rfl
  simp only [br_no (show ¬ ((p.2.1.toNat : Nat) : Int) < p.2.1 by omega)]
  have hI : s = (alone p).2 := hI
  subst hI
  refine W_up (fun i (s : List Int) => ((i : Int), (s, ()))) nt.1.length (fun i s => s = ((List.range i).filter (fun j => decide (j ≠ k))).map (fun j : Nat => (j : Int))) (s0 := []) rfl (by simp) (by omega) (fun ih s hI => ?_) (fun ih i s hi hI hS' => ?_)
  rotate_left
  · simp only [br_yes (show (i : Int) < (nt.1.length : Int) by omega)]
    have hs : s.length ≤ i := by rw [hI, List.length_map]; exact Nat.le_trans (List.length_filter_le _ _) (by simp)
    rw [w64_succ (by omega)]
    by_cases e : i = k
    · rw [decide_eq_true (show (i : Int) = (k : Int) by omega)]
      simp only [Bool.not_true, br_false]
      refine hS' _ ?_
      rw [hI, List.range_succ, List.filter_append]; simp [e]
    · rw [decide_eq_false (show ¬ (i : Int) = (k : Int) by omega)]
      simp only [Bool.not_false, br_true]
      rw [chk_true (by rw [mB]; simp only [List.length_singleton]; omega)]
      refine hS' _ ?_
      rw [hI, List.range_succ, List.filter_append]; simp [e]
  simp only [br_no (Int.lt_irrefl _)]
  have hI : s = others nt.1.length k := hI
  subst hI
  have ol := ord0_len hk
  rw [chk_true (by rw [mB]; simp only [List.length_singleton]; omega)]
  have hO := ord0_ord hk
  have okp' := perm_ok o hO
  have smp' := perm_small hS o hO
  have ht := alone_tmpl o hk
  rw [hp] at ht
  have sma := alone_small smp okp
  have hex : expd nt (k : Int) (alone p) = (permN nt (ord0 nt.1.length k), (true, ())) := by
    unfold expd
    rw [if_pos ht, Int.toNat_natCast]
    have := self_perm o hk
    rw [hp] at this
    rw [this, if_pos (okN_true okp')]
  have e1 := iExp_spec (n := 1048577) (k := (k : Int)) hS sma hn
  rw [hex] at e1
  have e2 := iPermute_spec (n := 1048577) hS o hO hn
  have e3 := iIsTemplate_spec (n := 1048577) (k := (k : Int)) hS sma hn
  rw [ht] at e3
  have ea : (([p], (alone p).2) : Network) = alone p := rfl
  have eo : others nt.1.length k ++ [(k : Int)] = ord0 nt.1.length k := rfl
  rw [ea, eo, e1, bind_unit, e2, bind_unit, e3, bind_unit]
  simp only [br_true]
  obtain ⟨t, e4, -⟩ := fmtNetwork_W smp' okp' hn
  rw [e4]
  simp only [bind_unit, Option.bind_some, decide_true]
  exact W_some.2 rfl
end Go.AmT
