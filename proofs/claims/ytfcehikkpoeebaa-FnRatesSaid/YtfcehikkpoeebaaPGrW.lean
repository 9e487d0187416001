/- Graphs that are drawn, and firings of them. -/
import Derived.Test.YtfcehikkpoeebaaLFired
import Derived.Test.YtfcehikkpoeebaaPGr
import Derived.Test.YtfcehikkpoeebaaPFireC
import Derived.Test.YtfcehikkpoeebaaPCur
namespace Go.AmT
open Go Go.Am
set_option linter.unusedVariables false
set_option linter.unusedSimpArgs false

theorem gcd_ok {n : Nat} {a b : Int} (ha : 1 ≤ a ∧ a ≤ 4) (hb : 1 ≤ b ∧ b ≤ 4) (hn : 1048576 < n) : ∃ d : Int, l7Gcd.f n a b = some (d, ()) ∧ 1 ≤ d ∧ (1 ≤ a.tdiv d ∧ a.tdiv d ≤ 4) ∧ (1 ≤ b.tdiv d ∧ b.tdiv d ≤ 4) := by
  obtain ⟨m, rfl⟩ : ∃ m, n = m + 8 := ⟨n - 8, by omega⟩
  have ha : a = 1 ∨ a = 2 ∨ a = 3 ∨ a = 4 := by omega
  have hb : b = 1 ∨ b = 2 ∨ b = 3 ∨ b = 4 := by omega
  rcases ha with rfl | rfl | rfl | rfl <;> rcases hb with rfl | rfl | rfl | rfl <;> exact ⟨_, rfl, by decide, by decide, by decide⟩
theorem okE_mk {nodes f t mk tk tok : Int} (h1 : 0 ≤ f ∧ f < nodes) (h2 : 0 ≤ t ∧ t < nodes) (h3 : 1 ≤ mk ∧ mk ≤ 5) (h4 : 1 ≤ tk ∧ tk ≤ 5) (h5 : 0 ≤ tok ∧ tok ≤ 50) : okE nodes (f, (t, (mk, (tk, tok)))) = true := by
  unfold okE
  simp only [Bool.and_eq_true, decide_eq_true_eq]
  omega
theorem graph_W {n : Nat} {code : List Int} (hb : code.length ≤ 1048576) (hn : 1048576 < n) : W (makeGraph.f n code) (fun r => okG r.1 = true) := by
  unfold makeGraph.f
  rw [W_bind]
  refine W_and (curNew_W hb hn) (fun r0 c0 => ?_)
  rw [W_bind]
  refine W_and (P := fun r => okG (r.1, r.2.1) = true) ?_ (fun r hr => W_some.2 hr)
  unfold l7Graph.f
  rw [W_bind]
  refine W_and (below_W hb c0) (fun r1 ⟨⟨a0, a1, _⟩, c1⟩ => ?_)
  have a1 := a1 (by omega)
  refine W_up (fun i (x : (List Int × (Int × (Int × Unit))) × List Int) => ((i : Int), (x.1.1, (x.1.2.1, (x.1.2.2.1, (x.2, ())))))) r1.1.toNat (fun i x => CurR code x.1 ∧ x.2.length = i ∧ ∀ y ∈ x.2, 1 ≤ y ∧ y ≤ 4) (s0 := (r1.2, [])) rfl ⟨c1, rfl, by simp⟩ (by omega) (fun ih x hI => ?_) (fun ih i x hi hI hS => ?_)
  rotate_left
  · obtain ⟨h1, h2, h3⟩ := hI
    simp only [br_yes (show (i : Int) < r1.1 by omega)]
    rw [W_bind]
    refine W_and (below_W hb h1) (fun r15 ⟨⟨b0, b1, _⟩, c15⟩ => ?_)
    have b1 := b1 (by omega)
    rw [w64_id (n := 1 + r15.1) (by omega) (by omega), small_chk (by simp; omega), w64_succ (by omega)]
    refine hS (r15.2, _) ⟨c15, by simp [h2], fun y hy => ?_⟩
    rcases List.mem_append.1 hy with hy | hy
    · exact h3 y hy
    · rw [List.mem_singleton.1 hy]; omega
  obtain ⟨h1, h2, h3⟩ := hI
  have hq : ∀ i : Int, 0 ≤ i → i < r1.1 → 1 ≤ x.2.getD i.toNat 0 ∧ x.2.getD i.toNat 0 ≤ 4 := fun i g0 g1 => by
    rw [getD_lt (show i.toNat < x.2.length by omega)]
    exact h3 _ (List.getElem_mem _)
  simp only [br_no (show ¬ ((r1.1.toNat : Nat) : Int) < r1.1 by omega)]
  rw [W_bind]
  refine W_and (below_W hb h1) (fun r16 ⟨⟨d0, d1, _⟩, c16⟩ => ?_)
  have d1 := d1 (by omega)
  refine W_iter (fun y => 0 ≤ y.1 ∧ CurR code (y.2.1, (y.2.2.1, (y.2.2.2.1, ()))) ∧ y.2.2.2.2.1 = r1.1 ∧ (y.2.2.2.2.2.1.length : Int) + y.1 ≤ 5 ∧ ∀ e ∈ y.2.2.2.2.2.1, okE r1.1 e = true) (fun y => y.1.toNat) (fun ih y hy hS => ?_) ⟨d0, c16, rfl, by show ((0 : Nat) : Int) + r16.1 ≤ 5; omega, by simp⟩ (by show r16.1.toNat < n; omega)
  obtain ⟨k, cb, ci, ch, nd, es, ⟨⟩⟩ := y
  obtain ⟨k0, k1, k2, k3, k4⟩ := hy
  simp only at k0 k1 k2 k3 k4
  subst k2
  have hend : W (some (r1.1, (es, (cb, (ci, (ch, ())))))) (fun r : Int × (List Edge × (List Int × (Int × (Int × Unit)))) => okG (r.1, r.2.1) = true) := by
    rw [W_some]
    unfold okG
    simp only [Bool.and_eq_true, decide_eq_true_eq, List.all_eq_true]
    exact ⟨⟨⟨a0, by omega⟩, by omega⟩, k4⟩
  have hcut : ∀ {ρ : Type} (f : Bool × Unit → Option ρ), cut (br (decide (0 < k)) (some (Sum.inr (α := ρ) ((decide (0 < r1.1)), ()))) (some (.inr (false, ())))) f = f ((decide (0 < k) && decide (0 < r1.1)), ()) := by
    intro ρ f
    cases decide (0 < k) <;> rfl
  simp only
  rw [hcut]
  by_cases hk : 0 < k ∧ 0 < r1.1
  rotate_left
  · have : (decide (0 < k) && decide (0 < r1.1)) = false := by
      cases h : (decide (0 < k) && decide (0 < r1.1))
      · rfl
      · simp only [Bool.and_eq_true, decide_eq_true_eq] at h; exact absurd h hk
    simp only [this, br_false]
    exact hend
  simp only [decide_eq_true hk.1, decide_eq_true hk.2, Bool.and_self, br_true]
  rw [W_bind]
  refine W_and (below_W (c := (cb, (ci, (ch, ())))) hb k1) (fun r63 ⟨⟨e0, e1, _⟩, c63⟩ => ?_)
  have e1 := e1 hk.2
  rw [W_bind]
  refine W_and (below_W hb c63) (fun r64 ⟨⟨f0, f1, _⟩, c64⟩ => ?_)
  have f1 := f1 hk.2
  rw [chk_true (by omega), chk_true (by omega)]
  obtain ⟨d, ed, g1, g2, g3⟩ := gcd_ok (hq r63.1 e0 e1) (hq r64.1 f0 f1) hn
  rw [ed, bind_unit, chk_true (by omega), if_neg (show ¬ d = 0 by omega), chk_true (by omega), if_neg (show ¬ d = 0 by omega)]
  rw [w64_id (n := (x.2.getD r64.1.toNat 0).tdiv d) (by omega) (by omega), w64_id (n := (x.2.getD r63.1.toNat 0).tdiv d) (by omega) (by omega)]
  refine W_cut.2 (W_and (P := fun s => ∃ z : Bool × (List Int × (Int × (Int × Unit))), s = Sum.inr z ∧ CurR code z.2) ?_ (fun s hs => ?_))
  · rw [W_brd]
    refine ⟨fun _ => W_some.2 ⟨_, rfl, c64⟩, fun _ => ?_⟩
    rw [W_bind]
    refine W_and (once_W hb c64) (fun r68 c68 => ?_)
    exact W_some.2 ⟨_, rfl, c68⟩
  obtain ⟨z, rfl, cz⟩ := hs
  simp only
  refine W_cut.2 (W_and (P := fun s => ∃ z : List Int × (Int × (Int × (Int × (Int × (Int × (Int × (Int × Unit))))))), s = Sum.inr z ∧ CurR code (z.1, (z.2.1, (z.2.2.1, ()))) ∧ (0 ≤ z.2.2.2.1 ∧ z.2.2.2.1 < r1.1) ∧ (0 ≤ z.2.2.2.2.1 ∧ z.2.2.2.2.1 < r1.1) ∧ (1 ≤ z.2.2.2.2.2.1 ∧ z.2.2.2.2.2.1 ≤ 5) ∧ (1 ≤ z.2.2.2.2.2.2.1 ∧ z.2.2.2.2.2.2.1 ≤ 5) ∧ (0 ≤ z.2.2.2.2.2.2.2.1 ∧ z.2.2.2.2.2.2.2.1 ≤ 50)) ?_ (fun s hs => ?_))
  · rw [W_br]
    refine ⟨fun _ => ?_, fun _ => W_some.2 ⟨_, rfl, cz, ⟨e0, e1⟩, ⟨f0, f1⟩, by simp only; omega, by simp only; omega, by simp⟩⟩
    rw [W_bind]
    refine W_and (below_W hb cz) (fun r71 ⟨⟨t0, t1, _⟩, c71⟩ => ?_)
    have t1 := t1 (by omega)
    exact W_some.2 ⟨_, rfl, c71, ⟨e0, e1⟩, ⟨f0, f1⟩, by simp only; omega, by simp only; omega, by simp only; omega⟩
  obtain ⟨u, rfl, cu, u1, u2, u3, u4, u5⟩ := hs
  simp only
  rw [W_bind]
  refine W_and (once_W (c := (u.1, (u.2.1, (u.2.2.1, ())))) hb cu) (fun r72 c72 => ?_)
  refine W_cut.2 (W_and (P := fun s => ∃ z : List Int × (Int × (Int × (Int × (Int × (Int × (Int × (Int × Unit))))))), s = Sum.inr z ∧ CurR code (z.1, (z.2.1, (z.2.2.1, ()))) ∧ (0 ≤ z.2.2.2.1 ∧ z.2.2.2.1 < r1.1) ∧ (0 ≤ z.2.2.2.2.1 ∧ z.2.2.2.2.1 < r1.1) ∧ (1 ≤ z.2.2.2.2.2.1 ∧ z.2.2.2.2.2.1 ≤ 5) ∧ (1 ≤ z.2.2.2.2.2.2.1 ∧ z.2.2.2.2.2.2.1 ≤ 5) ∧ (0 ≤ z.2.2.2.2.2.2.2.1 ∧ z.2.2.2.2.2.2.2.1 ≤ 50)) ?_ (fun s hs => ?_))
  · rw [W_br]
    refine ⟨fun _ => ?_, fun _ => W_some.2 ⟨_, rfl, c72, u1, u2, u3, u4, u5⟩⟩
    rw [W_bind]
    refine W_and (below_W hb c72) (fun r75 ⟨⟨t0, t1, _⟩, c75⟩ => ?_)
    have t1 := t1 (by omega)
    rw [w64_id (n := 1 + r75.1) (by omega) (by omega)]
    exact W_some.2 ⟨_, rfl, c75, u1, u2, by simp only; omega, u4, u5⟩
  obtain ⟨v, rfl, cv, v1, v2, v3, v4, v5⟩ := hs
  simp only
  rw [small_chk (by simp; omega), w64_id (n := k - 1) (by omega) (by omega)]
  refine hS _ ⟨by simp only; omega, cv, rfl, by simp; omega, fun e he => ?_⟩ (by simp only; omega)
  rcases List.mem_append.1 he with he | he
  · exact k4 e he
  · rw [List.mem_singleton.1 he]; exact okE_mk v1 v2 v3 v4 v5

/-! ### firings -/
theorem after_len {g : Graph} {tok : List Int} {k : Int} : (after g tok k).length = tok.length := by simp [after]
theorem after_get {g : Graph} {tok : List Int} {k : Int} {i : Nat} (hi : i < tok.length) : (after g tok k).getD i 0 = tok.getD i 0 - takes k (g.2.getD i zEdge) + makes k (g.2.getD i zEdge) := by
  unfold after
  rw [getD_lt (by simpa using hi), List.getElem_mapIdx, getD_lt hi]
theorem intsF_spec {n : Nat} {a : List Int} (hl : a.length ≤ 1048576) (hn : 1048576 < n) : intsF.f n a a = some (true, ()) := by
  unfold intsF.f
  rw [show (!decide ((a.length : Int) = (a.length : Int))) = false by simp, br_false]
  refine iter_line (fun i => ((i : Int), ())) a.length (fun ih i hi => ?_) (fun ih => br_no (Int.lt_irrefl _)) (by omega)
  simp only [br_yes (show (i : Int) < (a.length : Int) by omega)]
  rw [chk_true (by omega), chk_true (by omega)]
  simp only [decide_true, Bool.not_true, br_false]
  rw [w64_succ (by omega)]
end Go.AmT
