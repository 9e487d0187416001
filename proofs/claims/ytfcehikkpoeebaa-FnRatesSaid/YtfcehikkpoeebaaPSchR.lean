/- What a schedule of least repetitions leads to. -/
import Derived.Test.YtfcehikkpoeebaaPSchd
import Derived.Test.YtfcehikkpoeebaaPGrW
namespace Go.AmT
open Go Go.Am
set_option linter.unusedVariables false
set_option linter.unusedSimpArgs false

theorem sum_zero : ∀ {q : List Int}, (∀ i, i < q.length → 0 ≤ qf q i) → q.sum = 0 → ∀ i, qf q i = 0 := by
  intro q h hs i
  rcases Nat.lt_or_ge i q.length with hi | hi
  · have := sum_pos h hi; have := h i hi; omega
  · unfold qf; rw [List.getD_eq_getElem?_getD, List.getElem?_eq_none hi]; rfl

theorem peak_get {pk t : List Int} {i : Nat} (hi : i < pk.length) : pk.getD i 0 ≤ (peak pk t).getD i 0 := by
  unfold peak
  rw [getD_lt hi, getD_lt (by simpa using hi), List.getElem_mapIdx]
  exact Int.le_max_left _ _

theorem schedF_run {g : Graph} (hg : okG g = true) : ∀ (m : Nat) (q tok pk out L : List Int), q.length = g.1.toNat → (∀ i, i < q.length → 0 ≤ qf q i) → q.sum = (m : Int) → tok.length = g.2.length → pk.length = g.2.length → schedF g m q tok out = (L, (true, ())) →
    ∃ l : List Int, L = out ++ l ∧ (∀ k ∈ l, 0 ≤ k ∧ k < g.1) ∧ (∀ j : Nat, j < g.1.toNat → (l.count (j : Int) : Int) = qf q j) ∧ ∃ t p : List Int, runP g l tok pk = some (t, p) ∧ t.length = g.2.length ∧ p.length = g.2.length ∧
      ∀ i, i < g.2.length → t.getD i 0 = tok.getD i 0 + qf q (g.2.getD i zEdge).1.toNat * (g.2.getD i zEdge).2.2.1 - qf q (g.2.getD i zEdge).2.1.toNat * (g.2.getD i zEdge).2.2.2.1 ∧ pk.getD i 0 ≤ p.getD i 0
  | 0, q, tok, pk, out, L, hq, hnn, hs, ht, hp, h => by
    simp only [schedF, Prod.mk.injEq, and_true] at h
    have z := sum_zero hnn hs
    refine ⟨[], by simp [h], by simp, fun j _ => by rw [z]; simp, tok, pk, rfl, ht, hp, fun i _ => ⟨by rw [z, z]; omega, Int.le_refl _⟩⟩
  | m + 1, q, tok, pk, out, L, hq, hnn, hs, ht, hp, h => by
    obtain ⟨g0, g8, g16, ge⟩ := okG_un hg
    simp only [schedF] at h
    split at h
    · rename_i k hk
      obtain ⟨hr, hkN, hf⟩ := List.find?_range_eq_some.1 hk
      have hkN := List.mem_range.1 hkN
      have hc : canB g tok k = true ∧ 0 < qf q k := by unfold ready at hr; simp only [Bool.and_eq_true, decide_eq_true_eq] at hr; exact ⟨hr.2, hr.1⟩
      have ss := sum_set (q := q) (k := k) (by omega) (qf q k - 1)
      have qs : ∀ i, qf (q.set k (qf q k - 1)) i = qf q i - (if i = k then 1 else 0) := by
        intro i; rw [qf_set (by omega)]; split
        · rename_i e; subst e; rfl
        · omega
      obtain ⟨l, e1, e2, e3, t, p, e4, e5, e6, e7⟩ := schedF_run hg m (q.set k (qf q k - 1)) (after g tok (k : Int)) (peak pk (after g tok (k : Int))) (out ++ [(k : Int)]) L (by simpa using hq)
        (fun i hi => by rw [qs]; have := hnn i (by simpa using hi); split
                        · rename_i e; subst e; omega
                        · omega) (by rw [ss]; unfold qf; omega) (by rw [after_len]; exact ht) (by simp [peak, hp]) h
      refine ⟨(k : Int) :: l, by rw [e1]; simp, fun j hj => ?_, fun j hj => ?_, t, p, ?_, e5, e6, fun i hi => ?_⟩
      · rcases List.mem_cons.1 hj with e | e
        · subst e; omega
        · exact e2 j e
      · have := e3 j hj
        rw [qs] at this
        rw [List.count_cons]
        by_cases e : j = k
        · subst e; simp only [if_true, beq_self_eq_true] at this ⊢; omega
        · have ne : ¬ ((k : Int) == (j : Int)) = true := by simp; omega
          rw [if_neg e] at this; rw [if_neg ne]; omega
      · simp only [runP]
        rw [if_pos ⟨⟨by omega, by omega⟩, canB_iff.1 hc.1⟩]
        exact e4
      · obtain ⟨a1, a2⟩ := e7 i hi
        have pg := peak_get (pk := pk) (t := after g tok (k : Int)) (i := i) (by omega)
        refine ⟨?_, by omega⟩
        rw [a1, after_get (by omega), qs, qs]
        obtain ⟨⟨f1, f2⟩, ⟨t1, t2⟩, -⟩ := ge _ (List.getElem_mem hi)
        rw [getD_lt hi]
        generalize g.2[i] = e at *
        unfold takes makes
        have c1 : (e.1.toNat = k) ↔ e.1 = (k : Int) := by omega
        have c2 : (e.2.1.toNat = k) ↔ e.2.1 = (k : Int) := by omega
        by_cases d1 : e.1 = (k : Int) <;> by_cases d2 : e.2.1 = (k : Int)
        · rw [if_pos d1, if_pos d2, if_pos (c1.2 d1), if_pos (c2.2 d2), Int.sub_mul, Int.sub_mul]; omega
        · rw [if_pos d1, if_neg d2, if_pos (c1.2 d1), if_neg (fun h => d2 (c2.1 h)), Int.sub_mul, Int.sub_mul]; omega
        · rw [if_neg d1, if_pos d2, if_neg (fun h => d1 (c1.1 h)), if_pos (c2.2 d2), Int.sub_mul, Int.sub_mul]; omega
        · rw [if_neg d1, if_neg d2, if_neg (fun h => d1 (c1.1 h)), if_neg (fun h => d2 (c2.1 h)), Int.sub_mul, Int.sub_mul]; omega
    · simp at h

end Go.AmT
