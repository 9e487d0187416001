/- The links of a network whose one end is outside, and templates, in plain Lean: both programs tell the same. -/
import Derived.Test.YtkgknijpmcagmaaGreatLOut
namespace Go.AmT
open Go Go.Am
set_option linter.unusedVariables false
set_option linter.unusedSimpArgs false

abbrev toI (l : List Nat) : List Int := l.map fun (i : Nat) => (i : Int)
def ixs (p : Link → Bool) (ls : List Link) : List Nat := (List.range ls.length).filter fun i => p (ls.getD i zLink)
def lks (p : Link → Bool) (ls : List Link) : List Link := (ixs p ls).map fun i => ls.getD i zLink
def inOut (b : Bool) (l : Link) : Bool := if b = true then decide (l.1 = -1) else decide (l.2.2.1 = -1)
theorem ixs_len {p : Link → Bool} {ls : List Link} : (ixs p ls).length ≤ ls.length := Nat.le_trans (List.length_filter_le _ _) (by simp)
theorem lks_len {p : Link → Bool} {ls : List Link} : (lks p ls).length = (ixs p ls).length := by simp [lks]
theorem ixs_lt {p : Link → Bool} {ls : List Link} {i : Nat} (h : i ∈ ixs p ls) : i < ls.length := by
  have := (List.mem_filter.1 h).1
  simpa using this

theorem sL8Outside_spec {n : Nat} {nt : Network} {b : Bool} (hl : nt.2.length ≤ 1048576) (hn : 1048576 < n) : sL8Outside.f n nt b = some (lks (inOut b) nt.2, ()) := by
  unfold sL8Outside.f
  refine pushif_loop nt.2.length (fun i => inOut b (nt.2.getD i zLink)) (fun i => nt.2.getD i zLink) (fun i s => (i, (s, ()))) (R := fun s => some (s, ())) (fun ih i hi s hs => ?_) (fun ih s => br_no (Int.lt_irrefl _)) (by omega)
  have c0 : 0 ≤ (i : Int) := by omega
  have c1 : (i : Int) < (nt.2.length : Int) := by omega
  simp only [c1, c0, and_self, chk_T, decide_true, br_true, Int.toNat_natCast]
  rw [w64_succ (by omega), small_chk (by simp; omega)]
  cases b
  · simp only [br_false, Bool.not_false, br_true, cut_inr, inOut, Bool.false_eq_true, if_false]
    cases decide ((nt.2.getD i zLink).2.2.1 = -1) <;> rfl
  · simp only [br_true, Bool.not_true, br_false, inOut, if_true]
    cases decide ((nt.2.getD i zLink).1 = -1) <;> rfl
theorem whereI_spec {n : Nat} {nt : Network} (hl : nt.2.length ≤ 1048576) (hn : 1048576 < n) : whereI.f n nt () = some (toI (ixs (inOut true) nt.2), ()) := by
  unfold whereI.f insC.f
  refine pushif_loop nt.2.length (fun i => inOut true (nt.2.getD i zLink)) (fun i => (i : Int)) (fun i s => (i, (s, ()))) (R := fun s => some (s, ())) (fun ih i hi s hs => ?_) (fun ih s => br_no (Int.lt_irrefl _)) (by omega)
  have c0 : 0 ≤ (i : Int) := by omega
  have c1 : (i : Int) < (nt.2.length : Int) := by omega
  simp only [c1, c0, and_self, chk_T, decide_true, br_true, Int.toNat_natCast, Option.bind_some]
  rw [w64_succ (by omega), small_chk (by simp; omega), br_ite]
  rfl
theorem whereO_spec {n : Nat} {nt : Network} (hl : nt.2.length ≤ 1048576) (hn : 1048576 < n) : whereO.f n nt () = some (toI (ixs (inOut false) nt.2), ()) := by
  unfold whereO.f outsC.f
  refine pushif_loop nt.2.length (fun i => inOut false (nt.2.getD i zLink)) (fun i => (i : Int)) (fun i s => (i, (s, ()))) (R := fun s => some (s, ())) (fun ih i hi s hs => ?_) (fun ih s => br_no (Int.lt_irrefl _)) (by omega)
  have c0 : 0 ≤ (i : Int) := by omega
  have c1 : (i : Int) < (nt.2.length : Int) := by omega
  simp only [c1, c0, and_self, chk_T, decide_true, br_true, Int.toNat_natCast, Option.bind_some]
  rw [w64_succ (by omega), small_chk (by simp; omega), br_ite]
  rfl
theorem insOf_spec {n : Nat} {nt : Network} (h : SmallN nt) (o : okN nt = true) (hn : 1048576 < n) : insOf.f n nt = some (toI (ixs (inOut true) nt.2), ()) := by
  unfold insOf.f
  rw [iIsNetwork_spec h hn, whereI_spec h.links hn, o]; rfl
theorem outsOf_spec {n : Nat} {nt : Network} (h : SmallN nt) (o : okN nt = true) (hn : 1048576 < n) : outsOf.f n nt = some (toI (ixs (inOut false) nt.2), ()) := by
  unfold outsOf.f
  rw [iIsNetwork_spec h hn, whereO_spec h.links hn, o]; rfl

theorem concatIG_spec {n : Nat} {a : Int} (h0 : 0 ≤ a) (h1 : a ≤ 4194304) : concatIG.f n a = some ([], ()) := by
  have hm := maxB_eq
  unfold concatIG.f
  rw [br_no (by omega), w64_id (by omega) (by omega)]
  by_cases h : 0 < a - 0
  · rw [br_yes h, chk_true (by omega), chk_true (by omega), chk_true (by simp; omega)]
  · rw [br_no h]
theorem flat_take {α : Type} (ls : List (List α)) (i : Nat) : (ls.take i).flatten.length ≤ ls.flatten.length := by
  conv => rhs; rw [← List.take_append_drop i ls]
  rw [List.flatten_append, List.length_append]; omega
theorem concatI_all {n : Nat} {ls : List (List Int)} (hl : ls.length ≤ 1048576) (ht : ls.flatten.length ≤ 4194304) (hn : 1048576 < n) : concatI.f n ls = some (ls.flatten, ()) := by
  unfold concatI.f
  have hst : ((0 : Int), ((0 : Int), ())) = (fun (i : Nat) => (((ls.take i).flatten.length : Int), ((i : Int), ()))) 0 := by simp
  rw [hst]
  refine iter_line (fun i => (((ls.take i).flatten.length : Int), ((i : Int), ()))) ls.length (fun ih i hi => ?_) (fun ih => ?_) (by omega)
  · have c0 : 0 ≤ (i : Int) := by omega
    have c1 : (i : Int) < (ls.length : Int) := by omega
    have e1 : ls.getD i [] = ls[i] := getD_lt hi _
    have h1 := flat_take ls (i + 1)
    have e2 : (ls.take (i + 1)).flatten = (ls.take i).flatten ++ ls[i] := by rw [List.take_succ_eq_append_getElem hi, List.flatten_append]; simp
    rw [e2, List.length_append] at h1
    show br (decide ((i : Int) < (ls.length : Int))) _ _ = _
    rw [br_yes c1, chk_true ⟨c0, c1⟩]
    simp only [Int.toNat_natCast, e1]
    rw [w64_id (by omega) (by omega), br_no (by omega), w64_succ (by omega), e2, List.length_append, Int.natCast_add (List.take i ls).flatten.length]
  · simp only [List.take_length]
    rw [br_no (Int.lt_irrefl _), concatIG_spec (by omega) (by omega)]
    simp only [Option.bind_some]
    refine Eq.trans (iter_line (fun i => ((i : Int), ((ls.take i).flatten, ()))) ls.length (R := some (ls.flatten, ())) (fun ih i hi => ?_) (fun ih => ?_) (by omega)) rfl
    · have c0 : 0 ≤ (i : Int) := by omega
      have c1 : (i : Int) < (ls.length : Int) := by omega
      have e1 : ls.getD i [] = ls[i] := getD_lt hi _
      have h1 := flat_take ls (i + 1)
      have e2 : (ls.take (i + 1)).flatten = (ls.take i).flatten ++ ls[i] := by rw [List.take_succ_eq_append_getElem hi, List.flatten_append]; simp
      rw [e2, List.length_append] at h1
      show br (decide ((i : Int) < (ls.length : Int))) _ _ = _
      rw [br_yes c1, chk_true ⟨c0, c1⟩]
      simp only [Int.toNat_natCast, e1]
      rw [small_chk (by omega), w64_succ (by omega), e2]
    · simp only [List.take_length]
      exact br_no (Int.lt_irrefl _)
theorem concatI_spec {n : Nat} {a b : List Int} (ha : a.length ≤ 1048576) (hb : b.length ≤ 1048576) (hn : 1048576 < n) : concatI.f n [a, b] = some (a ++ b, ()) := by
  rw [concatI_all (by simp) (by simp; omega) hn]; simp

def hasT (l : Link) : Bool := decide (0 < (l.2.2.2.2.length : Int))
theorem containsT_spec {n : Nat} {m : Network} {is : List Nat} (hi : ∀ i ∈ is, i < m.2.length) (hl : is.length ≤ 1048576) (hn : 1048576 < n) : containsFuncT.f n (toI is) (m, ()) = some (is.any (fun i => hasT (m.2.getD i zLink)), ()) := by
  unfold containsFuncT.f indexFuncT.f tmplC.f
  have key : W (iter (α := (Int × Unit)) n (fun ih7 x6 => br (decide (x6.1 < ((toI is).length : Int))) (chk (0 ≤ x6.1 ∧ x6.1 < ((toI is).length : Int)) ((chk (0 ≤ (toI is).getD x6.1.toNat 0 ∧ (toI is).getD x6.1.toNat 0 < (m.2.length : Int)) (let v1 := (m.2.getD ((toI is).getD x6.1.toNat 0).toNat zLink); some ((decide (0 < (v1.2.2.2.2.length : Int))), ()))).bind fun r8 => br r8.1 (some (x6.1, ())) (ih7 ((w64 (x6.1 + 1)), ())))) (some ((-1), ()))) (0, ())) (fun r => decide (0 ≤ r.1) = is.any (fun i => hasT (m.2.getD i zLink))) := by
    refine any_loop is.length (fun j => hasT (m.2.getD (is.getD j 0) zLink)) (yes := fun j => some ((j : Int), ())) (no := some (-1, ())) (fun ih j hj => ?_) (fun ih => ?_) (by omega) (fun j hj h => ?_) (fun h => ?_)
    · have e : (toI is).getD j 0 = (is[j] : Int) := by simp [hj]
      have e2 : is.getD j 0 = is[j] := getD_lt hj _
      have := hi _ (List.getElem_mem hj)
      simp only [List.length_map, Int.toNat_natCast, e]
      rw [br_yes (by omega), chk_true (by omega), chk_true (by omega), w64_succ (by omega), Option.bind_some, br_ite, e2]
      rfl
    · simp only [List.length_map]; exact br_no (Int.lt_irrefl _)
    · rw [W_some]
      have : is.any (fun i => hasT (m.2.getD i zLink)) = true := List.any_eq_true.2 ⟨is[j], List.getElem_mem hj, by rw [getD_lt hj] at h; exact h⟩
      rw [this]; simp
    · rw [W_some]
      have : is.any (fun i => hasT (m.2.getD i zLink)) = false := by
        rw [List.any_eq_false]
        intro x hx
        obtain ⟨j, hj, rfl⟩ := List.mem_iff_getElem.1 hx
        have := h j hj
        rw [getD_lt hj] at this
        rw [this]; simp
      rw [this]; simp
  refine W_eq.1 (W_bind.2 (W_and key (fun r hr => ?_)))
  rw [W_some, hr]

/-- is the third network a template for process k of the first one? -/
noncomputable def tmpl (nt : Network) (k : Int) (m : Network) : Bool :=
  okN nt && (okN m && (decide (0 ≤ k) && (decide (k < (nt.1.length : Int)) && (decide (((ixs (inOut true) m.2).length : Int) = (nt.1.getD k.toNat zProgram).1) && (decide (((ixs (inOut false) m.2).length : Int) = (nt.1.getD k.toNat zProgram).2.1) &&
    !((ixs (inOut true) m.2 ++ ixs (inOut false) m.2).any (fun i => hasT (m.2.getD i zLink))))))))
theorem iIsTemplate_spec {n : Nat} {nt m : Network} {k : Int} (h : SmallN nt) (h' : SmallN m) (hn : 1048576 < n) : iIsTemplate.f n nt k m = some (tmpl nt k m, ()) := by
  have hl := h'.links
  have i1 := ixs_len (p := inOut true) (ls := m.2)
  have i2 := ixs_len (p := inOut false) (ls := m.2)
  unfold iIsTemplate.f tmpl
  rw [iIsNetwork_spec h hn, iIsNetwork_spec h' hn]
  simp only [Option.bind_some]
  cases o1 : okN nt
  · rfl
  · cases o2 : okN m
    · by_cases a : k < 0 <;> by_cases b : (nt.1.length : Int) ≤ k <;> simp [a, b, br, cut]
    · by_cases a : k < 0
      · simp [a, br, cut, show ¬ 0 ≤ k by omega]
      · by_cases b : (nt.1.length : Int) ≤ k
        · simp [a, b, br, cut, show ¬ k < (nt.1.length : Int) by omega]
        · rw [insOf_spec h' o2 hn, outsOf_spec h' o2 hn]
          simp only [Bool.not_true, br_false, a, b, decide_false, cut_inr, Option.bind_some, List.length_map]
          rw [chk_true (by omega)]
          have c1 : decide (0 ≤ k) = true := decide_eq_true (by omega)
          have c2 : decide (k < (nt.1.length : Int)) = true := decide_eq_true (by omega)
          rw [c1, c2, concatI_spec (by simp; omega) (by simp; omega) hn, ← List.map_append]
          simp only [Option.bind_some]
          rw [containsT_spec (fun i hi => by rcases List.mem_append.1 hi with hi | hi <;> exact ixs_lt hi) (by
            have h1 := ixs_len (p := inOut true) (ls := m.2); have h2 := ixs_len (p := inOut false) (ls := m.2); have o := (of_decide_eq_true o2 : OkN m).links
            rw [List.length_append]; omega) hn]
          simp only [Option.bind_some, Bool.true_and]
          cases decide (((ixs (inOut true) m.2).length : Int) = (nt.1.getD k.toNat zProgram).1)
          · rfl
          · simp only [Bool.not_true, br_false]
            rw [chk_true (by omega)]
            cases decide (((ixs (inOut false) m.2).length : Int) = (nt.1.getD k.toNat zProgram).2.1) <;> rfl
theorem lks_any {p : Link → Bool} {ls : List Link} : (lks p ls).any hasT = (ixs p ls).any (fun i => hasT (ls.getD i zLink)) := by
  unfold lks; rw [List.any_map]; rfl
theorem sIsTemplate_spec {n : Nat} {nt m : Network} {k : Int} (h : SmallN nt) (h' : SmallN m) (hn : 1048576 < n) : sIsTemplate.f n nt k m = some (tmpl nt k m, ()) := by
  have hl := h'.links
  have i1 := ixs_len (p := inOut true) (ls := m.2)
  have i2 := ixs_len (p := inOut false) (ls := m.2)
  unfold sIsTemplate.f tmpl sL3Has.f
  rw [sIsNetwork_spec h hn, sIsNetwork_spec h' hn]
  simp only [Option.bind_some]
  cases o1 : okN nt
  · rfl
  · cases o2 : okN m
    · rfl
    · have hk := (of_decide_eq_true o2 : OkN m).links
      by_cases a : 0 ≤ k
      · by_cases b : k < (nt.1.length : Int)
        · rw [sL8Outside_spec h'.links hn, sL8Outside_spec h'.links hn]
          simp only [Bool.not_true, br_false, a, b, decide_true, br_true, cut_inr, Option.bind_some, Bool.true_and, and_self, chk_T]
          rw [small_chk (by rw [lks_len]; omega), small_chk (by rw [lks_len, lks_len]; omega), List.any_append, ← lks_any, ← lks_any, ← List.any_append]
          have hlen : (lks (inOut true) m.2 ++ lks (inOut false) m.2).length ≤ 60 := by rw [List.length_append, lks_len, lks_len]; omega
          generalize hL : lks (inOut true) m.2 ++ lks (inOut false) m.2 = L at hlen
          refine W_eq.1 (any_loop L.length (fun j => hasT (L.getD j zLink)) (yes := fun _ => some (false, ())) (fun ih j hj => ?_) (fun ih => br_no (Int.lt_irrefl _)) (by omega) (fun j hj h => ?_) (fun h => ?_))
          · have c0 : 0 ≤ (j : Int) := by omega
            have c1 : (j : Int) < (L.length : Int) := by omega
            simp only [c1, c0, and_self, chk_T, decide_true, br_true, Int.toNat_natCast]
            rw [w64_succ (by omega), br_ite]; rfl
          · rw [W_some]
            have : L.any hasT = true := List.any_eq_true.2 ⟨L[j], List.getElem_mem hj, by rw [getD_lt hj] at h; exact h⟩
            rw [this]; simp
          · have : L.any hasT = false := by
              rw [List.any_eq_false]
              intro x hx
              obtain ⟨j, hj, rfl⟩ := List.mem_iff_getElem.1 hx
              have := h j hj
              rw [getD_lt hj] at this
              rw [this]; simp
            rw [this, lks_len, lks_len]
            cases decide (((ixs (inOut true) m.2).length : Int) = (nt.1.getD k.toNat zProgram).1)
            · exact W_some.2 rfl
            · rw [br_true, W_some]; simp
        · simp [a, b, br, cut]
      · simp [a, br, cut]
end Go.AmT
