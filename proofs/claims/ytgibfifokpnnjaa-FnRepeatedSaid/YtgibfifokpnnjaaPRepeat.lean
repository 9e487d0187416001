/- Least repetitions and their schedules: the law. -/
import Derived.Test.YtgibfifokpnnjaaLFired
import Derived.Test.YtgibfifokpnnjaaPSchd
import Derived.Test.YtgibfifokpnnjaaPCur
import Derived.Test.YtgibfifokpnnjaaPGrW
namespace Go.AmT
open Go Go.Am
set_option linter.unusedVariables false
set_option linter.unusedSimpArgs false

theorem sum_zero : ∀ {q : List Int}, (∀ i, i < q.length → 0 ≤ qf q i) → q.sum = 0 → ∀ i, qf q i = 0 := by
  intro q h hs i
  rcases Nat.lt_or_ge i q.length with hi | hi
  · have := sum_pos h hi; have := h i hi; omega
  · unfold qf; rw [List.getD_eq_getElem?_getD, List.getElem?_eq_none hi]; rfl

theorem peak_get {pk t : List Int} {i : Nat} (hi : i < pk.length) : pk.getD i 0 ≤ (peak pk t).getD i 0 := by
  unfold peak
  rw [getD_lt hi, getD_lt (by simpa using hi), List.getElem_mapIdx]
  exact Int.le_max_left _ _

theorem schedF_run {g : Graph} (hg : okG g = true) : ∀ (m : Nat) (q tok pk out L : List Int), q.length = g.1.toNat → (∀ i, i < q.length → 0 ≤ qf q i) → q.sum = (m : Int) → tok.length = g.2.length → pk.length = g.2.length → schedF g m q tok out = (L, (true, ())) →
    ∃ l : List Int, L = out ++ l ∧ (∀ k ∈ l, 0 ≤ k ∧ k < g.1) ∧ (∀ j : Nat, j < g.1.toNat → (l.count (j : Int) : Int) = qf q j) ∧ ∃ t p : List Int, runP g l tok pk = some (t, p) ∧ t.length = g.2.length ∧ p.length = g.2.length ∧
      ∀ i, i < g.2.length → t.getD i 0 = tok.getD i 0 + qf q (g.2.getD i zEdge).1.toNat * (g.2.getD i zEdge).2.2.1 - qf q (g.2.getD i zEdge).2.1.toNat * (g.2.getD i zEdge).2.2.2.1 ∧ pk.getD i 0 ≤ p.getD i 0
  | 0, q, tok, pk, out, L, hq, hnn, hs, ht, hp, h => by
    simp only [schedF, Prod.mk.injEq, and_true] at h
    have z := sum_zero hnn hs
    refine ⟨[], by simp [h], by simp, fun j _ => by rw [z]; simp, tok, pk, rfl, ht, hp, fun i _ => ⟨by rw [z, z]; omega, Int.le_refl _⟩⟩
  | m + 1, q, tok, pk, out, L, hq, hnn, hs, ht, hp, h => by
    obtain ⟨g0, g8, g16, ge⟩ := okG_un hg
    simp only [schedF] at h
    split at h
    · rename_i k hk
      obtain ⟨hr, hkN, hf⟩ := List.find?_range_eq_some.1 hk
      have hkN := List.mem_range.1 hkN
      have hc : canB g tok k = true ∧ 0 < qf q k := by unfold ready at hr; simp only [Bool.and_eq_true, decide_eq_true_eq] at hr; exact ⟨hr.2, hr.1⟩
      have ss := sum_set (q := q) (k := k) (by omega) (qf q k - 1)
      have qs : ∀ i, qf (q.set k (qf q k - 1)) i = qf q i - (if i = k then 1 else 0) := by
        intro i; rw [qf_set (by omega)]; split
        · rename_i e; subst e; rfl
        · omega
      obtain ⟨l, e1, e2, e3, t, p, e4, e5, e6, e7⟩ := schedF_run hg m (q.set k (qf q k - 1)) (after g tok (k : Int)) (peak pk (after g tok (k : Int))) (out ++ [(k : Int)]) L (by simpa using hq)
        (fun i hi => by rw [qs]; have := hnn i (by simpa using hi); split
                        · rename_i e; subst e; omega
                        · omega) (by rw [ss]; unfold qf; omega) (by rw [after_len]; exact ht) (by simp [peak, hp]) h
      refine ⟨(k : Int) :: l, by rw [e1]; simp, fun j hj => ?_, fun j hj => ?_, t, p, ?_, e5, e6, fun i hi => ?_⟩
      · rcases List.mem_cons.1 hj with e | e
        · subst e; omega
        · exact e2 j e
      · have := e3 j hj
        rw [qs] at this
        rw [List.count_cons]
        by_cases e : j = k
        · subst e; simp only [if_true, beq_self_eq_true] at this ⊢; omega
        · have ne : ¬ ((k : Int) == (j : Int)) = true := by simp; omega
          rw [if_neg e] at this; rw [if_neg ne]; omega
      · simp only [runP]
        rw [if_pos ⟨⟨by omega, by omega⟩, canB_iff.1 hc.1⟩]
        exact e4
      · obtain ⟨a1, a2⟩ := e7 i hi
        have pg := peak_get (pk := pk) (t := after g tok (k : Int)) (i := i) (by omega)
        refine ⟨?_, by omega⟩
        rw [a1, after_get (by omega), qs, qs]
        obtain ⟨⟨f1, f2⟩, ⟨t1, t2⟩, -⟩ := ge _ (List.getElem_mem hi)
        rw [getD_lt hi]
        generalize g.2[i] = e at *
        unfold takes makes
        have c1 : (e.1.toNat = k) ↔ e.1 = (k : Int) := by omega
        have c2 : (e.2.1.toNat = k) ↔ e.2.1 = (k : Int) := by omega
        by_cases d1 : e.1 = (k : Int) <;> by_cases d2 : e.2.1 = (k : Int)
        · rw [if_pos d1, if_pos d2, if_pos (c1.2 d1), if_pos (c2.2 d2), Int.sub_mul, Int.sub_mul]; omega
        · rw [if_pos d1, if_neg d2, if_pos (c1.2 d1), if_neg (fun h => d2 (c2.1 h)), Int.sub_mul, Int.sub_mul]; omega
        · rw [if_neg d1, if_pos d2, if_neg (fun h => d1 (c1.1 h)), if_pos (c2.2 d2), Int.sub_mul, Int.sub_mul]; omega
        · rw [if_neg d1, if_neg d2, if_neg (fun h => d1 (c1.1 h)), if_neg (fun h => d2 (c2.1 h)), Int.sub_mul, Int.sub_mul]; omega
    · simp at h

theorem law_true (code : List Int) (hcode : InR (.sl U8) code) : ∃ n, law.f n code = some (true, ()) := by
  obtain ⟨n, hn⟩ : ∃ n : Nat, 1000000000000 < n := ⟨1000000000001, by omega⟩
  refine ⟨n, ?_⟩
  unfold law.f
  by_cases hl : code.length ≤ 1048576
  rotate_left
  · rw [br_yes (by omega)]
  rw [br_no (show ¬ (1048576 < (code.length : Int)) by omega)]
  refine W_eq.1 ?_
  rw [W_bind]
  refine W_and (graph_W hl (by omega)) (fun r1 hg => ?_)
  obtain ⟨g, ⟨⟩⟩ := r1
  have hg : okG g = true := hg
  obtain ⟨g0, g8, g16, ge⟩ := okG_un hg
  obtain ⟨r, x, s1, s2, r1, r2, h1, h2, h3, h4⟩ := sched_same (n := n) (g := g) (by omega) hn
  have h1 := h1 hg
  simp only
  rw [s1, s2, r1, r2]
  simp only [bind_unit, decide_true, Bool.not_true, br_false]
  obtain ⟨xq, xb, ⟨⟩⟩ := x
  obtain ⟨rl, rb, ⟨⟩⟩ := r
  simp only at h1 h3 h4
  simp only
  cases xb with
  | false =>
    have e := h3 rfl
    simp only [Prod.mk.injEq, and_true] at e
    obtain ⟨rfl, rfl⟩ := e
    simp only [br_false, cut_inr, Bool.not_false, br_true]
    exact W_some.2 rfl
  | true =>
    obtain ⟨-, ql, ha, hb, hle⟩ := h1.resolve_right (fun h => absurd h.1 (by simp))
    simp only at ql ha hb hle
    have qlen : decide ((xq.length : Int) = g.1) = true := decide_eq_true (by omega)
    have h4 := h4 rfl
    have sb := sum_bd (q := xq) (fun i hi => by have := hle i (by omega); omega)
    have len := schedF_len (g := g) xq.sum.toNat xq (toks g) []
    rw [← h4] at len
    simp only [List.length_nil] at len
    rw [W_cut]
    refine W_and (P := fun s => s = .inr (false, ())) ?_ (fun s hs => ?_)
    · cases rb <;> simp only [br_true, Bool.not_true, br_false, qlen] <;> exact W_some.2 rfl
    subst hs
    simp only [br_false, Bool.not_true]
    have xb : ∀ i, i < xq.length → 0 < xq.getD i 0 ∧ xq.getD i 0 ≤ 200 := fun i hi => hle i (by omega)
    refine bal_W hg (by omega) (fun i hi => by have := hle i hi; omega) hn (fun _ => ?_) (fun h => absurd hb h)
    refine W_chkloop xq.length (fun _ => true) (bad := some (false, ())) (fun ih i hi => ?_) (fun ih => br_no (Int.lt_irrefl _)) (by omega) (fun _ => ?_) (fun i hi h => by simp at h)
    · have := xb i hi
      simp only [br_yes (show (i : Int) < (xq.length : Int) by omega), Int.toNat_natCast, if_true]
      rw [chk_true (by omega), br_no (by omega), chk_true (by omega), br_no (by omega), w64_succ (by omega)]
    cases rb with
    | false => simp only [Bool.not_false, br_true]; exact W_some.2 rfl
    | true =>
      simp only [Bool.not_true, br_false]
      have mB : (maxB : Int) = 140737488355328 := rfl
      rw [chk_true (by refine ⟨?_, g0, ?_⟩ <;> first | trivial | omega)]
      obtain ⟨l, e1, e2, e3, t, p, e4, e5, e6, e7⟩ := schedF_run hg xq.sum.toNat xq (toks g) (toks g) [] rl ql (fun i hi => by have := hle i (by omega); omega) (by omega) (by simp [toks]) (by simp [toks]) h4.symm
      simp only [List.nil_append] at e1
      subst e1
      refine W_up (fun i (s : List Int) => ((i : Int), (s, ()))) rl.length (fun i s => s.length = g.1.toNat ∧ ∀ j : Nat, j < g.1.toNat → qf s j = ((rl.take i).count (j : Int) : Int)) (s0 := List.replicate g.1.toNat 0) rfl
        ⟨by simp, fun j hj => by unfold qf; rw [getD_lt (by simpa using hj)]; simp⟩ (by omega) (fun ih c hI => ?_) (fun ih i c hi hI hS => ?_)
      rotate_left
      · obtain ⟨cl, cc⟩ := hI
        simp only [br_yes (show (i : Int) < (rl.length : Int) by omega), Int.toNat_natCast, getD_lt hi]
        have hk := e2 _ (List.getElem_mem hi)
        have htk : rl.take (i + 1) = rl.take i ++ [rl[i]] := List.take_succ_eq_append_getElem hi
        generalize rl[i] = k at *
        rw [chk_true (by omega), br_no (by omega)]
        simp only [cut_inr]
        rw [br_no (by omega), chk_true (by omega), chk_true (by omega), w64_succ (by omega)]
        have ck := cc k.toNat (by omega)
        have cle := List.count_le_length (a := ((k.toNat : Nat) : Int)) (l := rl.take i)
        rw [List.length_take] at cle
        rw [show c.getD k.toNat 0 = qf c k.toNat from rfl, ck, w64_id (by omega) (by omega)]
        refine hS _ ⟨by simpa using cl, fun j hj => ?_⟩
        rw [qf_set (by omega), htk, List.count_append, List.count_singleton]
        by_cases e : j = k.toNat
        · have : (k == (j : Int)) = true := by simp; omega
          rw [if_pos e, if_pos this, e]; omega
        · have : ¬ (k == (j : Int)) = true := by simp; omega
          rw [if_neg e, if_neg this, cc j hj]; omega
      · obtain ⟨cl, cc⟩ := hI
        rw [List.take_length] at cc
        have cx : c = xq := by
          refine List.ext_getElem (by omega) (fun j h1 h2 => ?_)
          have a := cc j (by omega)
          have b := e3 j (by omega)
          unfold qf at a b
          rw [getD_lt h1] at a
          rw [getD_lt h2] at b
          omega
        subst cx
        simp only [br_no (Int.lt_irrefl _)]
        rw [iRunFirings_spec hg (by omega) (by omega), e4]
        simp only [res, bind_unit, Bool.not_true, br_false]
        rw [intsF_spec (by omega) (by omega)]
        simp only [bind_unit, Bool.not_true, br_false, e5, e6, decide_true, cut_inr]
        refine W_chkloop g.2.length (fun _ => true) (bad := some (false, ())) (fun ih i hi => ?_) (fun ih => br_no (Int.lt_irrefl _)) (by omega) (fun _ => W_some.2 rfl) (fun i hi h => by simp at h)
        obtain ⟨a1, a2⟩ := e7 i hi
        have tg : (toks g).getD i 0 = (g.2.getD i zEdge).2.2.2.2 := by
          rw [getD_lt hi, getD_lt (by simpa [toks] using hi)]; simp [toks]
        have bal := hb _ (List.getElem_mem hi)
        rw [getD_lt hi] at a1 tg
        simp only [br_yes (show (i : Int) < (g.2.length : Int) by omega), Int.toNat_natCast, getD_lt hi, if_true]
        rw [chk_true (by omega), chk_true (by omega)]
        have e1 : t.getD i 0 = g.2[i].2.2.2.2 := by omega
        rw [e1]
        simp only [decide_true, Bool.not_true, br_false]
        rw [chk_true (by omega), br_no (by omega), w64_succ (by omega)]
end Go.AmT
