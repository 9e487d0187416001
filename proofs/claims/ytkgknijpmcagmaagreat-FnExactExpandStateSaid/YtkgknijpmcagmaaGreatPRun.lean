/- Networks at work, in plain Lean: the tables of links, what a process wants, and whether it can. -/
import Derived.Test.YtkgknijpmcagmaaGreatLRun
namespace Go.AmT
open Go Go.Am
set_option linter.unusedVariables false
set_option linter.unusedSimpArgs false

/-! ### what a process wants -/
/-! ### one link for each port -/
theorem count_uniq {α : Type} {f : α → Bool} : ∀ {ls : List α} {i j : Nat} (hi : i < ls.length) (hj : j < ls.length), ls.countP f ≤ 1 → f ls[i] = true → f ls[j] = true → i = j
  | [], i, j, hi, _, _, _, _ => by simp at hi
  | x :: ls, i, j, hi, hj, hc, h1, h2 => by
    have z : ∀ (k : Nat) (hk : k < ls.length), f x = true → f ls[k] = true → False := by
      intro k hk hx hl
      rw [List.countP_cons_of_pos hx] at hc
      have : ls.countP f = 0 := by omega
      rw [List.countP_eq_zero] at this
      exact this _ (List.getElem_mem hk) hl
    cases i with
    | zero =>
      cases j with
      | zero => rfl
      | succ j => exact (z j (by simpa using hj) (by simpa using h1) (by simpa using h2)).elim
    | succ i =>
      cases j with
      | zero => exact (z i (by simpa using hi) (by simpa using h2) (by simpa using h1)).elim
      | succ j =>
        have hc' : ls.countP f ≤ 1 := Nat.le_trans (List.countP_le_countP_cons) hc
        rw [count_uniq (ls := ls) (i := i) (j := j) (by simpa using hi) (by simpa using hj) hc' (by simpa using h1) (by simpa using h2)]
  where
  List.countP_le_countP_cons {α : Type} {f : α → Bool} {x : α} {ls : List α} : ls.countP f ≤ (x :: ls).countP f := by
    rw [List.countP_cons]; omega
/-- a table of links: for each port the link that is there -/
structure Tab (nt : Network) (pl ql : Link → Int) (wd : Program → Int) (t : List (List Int)) (i : Nat) : Prop where
  len : t.length = nt.1.length
  row : ∀ (k : Nat) (hk : k < nt.1.length), (t.getD k []).length = (wd nt.1[k]).toNat
  at' : ∀ (k b j : Nat) (hk : k < nt.1.length) (hj : j < nt.2.length), j < i → (b : Int) < wd nt.1[k] → pl nt.2[j] = (k : Int) → ql nt.2[j] = (b : Int) → (t.getD k []).getD b 0 = (j : Int)
def Uniq (nt : Network) (pl ql : Link → Int) (wd : Program → Int) : Prop := ∀ (k b : Nat) (hk : k < nt.1.length), (b : Int) < wd nt.1[k] → nt.2.countP (fun l => decide (pl l = (k : Int)) && decide (ql l = (b : Int))) = 1

theorem getD_set_ne {α : Type} {l : List α} {i j : Nat} (h : i ≠ j) (x z : α) : (l.set i x).getD j z = l.getD j z := by simp [List.getElem?_set_ne h]
theorem Tab.put {nt : Network} {pl ql : Link → Int} {wd : Program → Int} {t : List (List Int)} {i p q : Nat} (T : Tab nt pl ql wd t i) (U : Uniq nt pl ql wd) (hi : i < nt.2.length) (hp : p < nt.1.length) (hq : (q : Int) < wd nt.1[p]) (e1 : pl nt.2[i] = (p : Int)) (e2 : ql nt.2[i] = (q : Int)) :
    Tab nt pl ql wd (t.set p ((t.getD p []).set q (i : Int))) (i + 1) := by
  have hpt : p < t.length := by rw [T.len]; exact hp
  refine ⟨by simp [T.len], fun k hk => ?_, fun k b j hk hj hlt hb h1 h2 => ?_⟩
  · by_cases h : p = k
    · subst h
      rw [getD_set_same hpt, List.length_set]; exact T.row p hk
    · rw [getD_set_ne h]; exact T.row k hk
  · rcases Nat.lt_or_ge j i with h | h
    · by_cases hpk : p = k
      · subst hpk
        rw [getD_set_same hpt]
        by_cases hqb : q = b
        · subst hqb
          have := count_uniq (f := fun l => decide (pl l = (p : Int)) && decide (ql l = (q : Int))) hi hj (by rw [U p q hp hq]; omega) (by simp [e1, e2]) (by simp [h1, h2])
          omega
        · rw [getD_set_ne hqb]; exact T.at' p b j hk hj h hb h1 h2
      · rw [getD_set_ne hpk]; exact T.at' k b j hk hj h hb h1 h2
    · obtain rfl : j = i := by omega
      obtain rfl : p = k := by omega
      obtain rfl : q = b := by omega
      rw [getD_set_same hpt, getD_set_same (by rw [T.row p hp]; omega)]
/-! ### how it is made -/
theorem cloneI_run {n : Nat} {a : List Int} (h : a.length ≤ 1048576) : cloneI.f n a = some (a, ()) := by
  unfold cloneI.f
  rw [small_chk (by simp; omega)]; rfl
theorem copyStreams_spec {n : Nat} {a : List (List Int)} (hl : a.length ≤ 1048576) (h : ∀ q ∈ a, q.length ≤ 1048576) (hn : 1048576 < n) : copyStreams.f n a = some (a, ()) := by
  unfold copyStreams.f
  refine Eq.trans (push_loop a id (fun i s => (i, (s, ()))) (R := fun ps => some (ps, ())) (fun ih i hi s hs => ?_) (fun ih ps => br_no (Int.lt_irrefl _)) (by omega)) (by simp)
  have c0 : 0 ≤ (i : Int) := by omega
  have c1 : (i : Int) < (a.length : Int) := by omega
  have e1 : a.getD i [] = a[i] := getD_lt hi _
  simp only [c1, c0, and_self, chk_T, decide_true, br_true, Int.toNat_natCast, e1, cloneI_run (h _ (List.getElem_mem hi)), Option.bind_some]
  rw [small_chk (by simp; omega), w64_succ (by omega)]; rfl
theorem copyState_spec {n : Nat} {s : State} (h : SmallSt s) (hn : 1048576 < n) : copyState.f n s = some (s, ()) := by
  have ha := h.actors
  unfold copyState.f
  rw [copyStreams_spec h.queues h.queue hn, copyStreams_spec h.sents h.sent hn]
  simp only [Option.bind_some]
  refine Eq.trans (push_loop s.1 id (fun i ps => (i, (s.2.2.2, (ps, (s.2.1, (s.2.2.1, ())))))) (R := fun ps => some ((ps, (s.2.1, (s.2.2.1, s.2.2.2))), ())) (fun ih i hi ps hs => ?_) (fun ih ps => br_no (Int.lt_irrefl _)) (by omega)) (by simp)
  have c0 : 0 ≤ (i : Int) := by omega
  have c1 : (i : Int) < (s.1.length : Int) := by omega
  have e1 : s.1.getD i zActor = s.1[i] := getD_lt hi _
  simp only [c1, c0, and_self, chk_T, decide_true, br_true, Int.toNat_natCast, e1, cloneI_run (h.actor _ (List.getElem_mem hi)), Option.bind_some]
  rw [small_chk (by simp; omega), w64_succ (by omega)]; rfl

/-! ### what it wants, and whether it can -/
def prog (nt : Network) (k : Nat) : Program := nt.1.getD k zProgram
def actor (s : State) (k : Nat) : Actor := s.1.getD k zActor
end Go.AmT
