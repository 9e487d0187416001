/- Firings in any order, and schedules that are compressed and expanded again: the law. -/
import Derived.Test.YtgibfifokpnnjaaPExpA
import Derived.Test.YtgibfifokpnnjaaPCur
namespace Go.AmT
open Go Go.Am
set_option linter.unusedVariables false
set_option linter.unusedSimpArgs false

theorem gcd_ok {n : Nat} {a b : Int} (ha : 1 ≤ a ∧ a ≤ 4) (hb : 1 ≤ b ∧ b ≤ 4) (hn : 1048576 < n) : ∃ d : Int, l7Gcd.f n a b = some (d, ()) ∧ 1 ≤ d ∧ (1 ≤ a.tdiv d ∧ a.tdiv d ≤ 4) ∧ (1 ≤ b.tdiv d ∧ b.tdiv d ≤ 4) := by
  obtain ⟨m, rfl⟩ : ∃ m, n = m + 8 := ⟨n - 8, by omega⟩
  have ha : a = 1 ∨ a = 2 ∨ a = 3 ∨ a = 4 := by omega
  have hb : b = 1 ∨ b = 2 ∨ b = 3 ∨ b = 4 := by omega
  rcases ha with rfl | rfl | rfl | rfl <;> rcases hb with rfl | rfl | rfl | rfl <;> exact ⟨_, rfl, by decide, by decide, by decide⟩
theorem okE_mk {nodes f t mk tk tok : Int} (h1 : 0 ≤ f ∧ f < nodes) (h2 : 0 ≤ t ∧ t < nodes) (h3 : 1 ≤ mk ∧ mk ≤ 5) (h4 : 1 ≤ tk ∧ tk ≤ 5) (h5 : 0 ≤ tok ∧ tok ≤ 50) : okE nodes (f, (t, (mk, (tk, tok)))) = true := by
  unfold okE
  simp only [Bool.and_eq_true, decide_eq_true_eq]
  omega
theorem graph_W {n : Nat} {code : List Int} (hb : code.length ≤ 1048576) (hn : 1048576 < n) : W (makeGraph.f n code) (fun r => okG r.1 = true) := by
  unfold makeGraph.f
  rw [W_bind]
  refine W_and (curNew_W hb hn) (fun r0 c0 => ?_)
  rw [W_bind]
  refine W_and (P := fun r => okG (r.1, r.2.1) = true) ?_ (fun r hr => W_some.2 hr)
  unfold l7Graph.f
  rw [W_bind]
  refine W_and (below_W hb c0) (fun r1 ⟨⟨a0, a1, _⟩, c1⟩ => ?_)
  have a1 := a1 (by omega)
  refine W_up (fun i (x : (List Int × (Int × (Int × Unit))) × List Int) => ((i : Int), (x.1.1, (x.1.2.1, (x.1.2.2.1, (x.2, ())))))) r1.1.toNat (fun i x => CurR code x.1 ∧ x.2.length = i ∧ ∀ y ∈ x.2, 1 ≤ y ∧ y ≤ 4) (s0 := (r1.2, [])) rfl ⟨c1, rfl, by simp⟩ (by omega) (fun ih x hI => ?_) (fun ih i x hi hI hS => ?_)
  rotate_left
  · obtain ⟨h1, h2, h3⟩ := hI
    simp only [br_yes (show (i : Int) < r1.1 by omega)]
    rw [W_bind]
    refine W_and (below_W hb h1) (fun r15 ⟨⟨b0, b1, _⟩, c15⟩ => ?_)
    have b1 := b1 (by omega)
    rw [w64_id (n := 1 + r15.1) (by omega) (by omega), small_chk (by simp; omega), w64_succ (by omega)]
    refine hS (r15.2, _) ⟨c15, by simp [h2], fun y hy => ?_⟩
    rcases List.mem_append.1 hy with hy | hy
    · exact h3 y hy
    · rw [List.mem_singleton.1 hy]; omega
  obtain ⟨h1, h2, h3⟩ := hI
  have hq : ∀ i : Int, 0 ≤ i → i < r1.1 → 1 ≤ x.2.getD i.toNat 0 ∧ x.2.getD i.toNat 0 ≤ 4 := fun i g0 g1 => by
    rw [getD_lt (show i.toNat < x.2.length by omega)]
    exact h3 _ (List.getElem_mem _)
  simp only [br_no (show ¬ ((r1.1.toNat : Nat) : Int) < r1.1 by omega)]
  rw [W_bind]
  refine W_and (below_W hb h1) (fun r16 ⟨⟨d0, d1, _⟩, c16⟩ => ?_)
  have d1 := d1 (by omega)
  refine W_iter (fun y => 0 ≤ y.1 ∧ CurR code (y.2.1, (y.2.2.1, (y.2.2.2.1, ()))) ∧ y.2.2.2.2.1 = r1.1 ∧ (y.2.2.2.2.2.1.length : Int) + y.1 ≤ 5 ∧ ∀ e ∈ y.2.2.2.2.2.1, okE r1.1 e = true) (fun y => y.1.toNat) (fun ih y hy hS => ?_) ⟨d0, c16, rfl, by show ((0 : Nat) : Int) + r16.1 ≤ 5; omega, by simp⟩ (by show r16.1.toNat < n; omega)
  obtain ⟨k, cb, ci, ch, nd, es, ⟨⟩⟩ := y
  obtain ⟨k0, k1, k2, k3, k4⟩ := hy
  simp only at k0 k1 k2 k3 k4
  subst k2
  have hend : W (some (r1.1, (es, (cb, (ci, (ch, ())))))) (fun r : Int × (List Edge × (List Int × (Int × (Int × Unit)))) => okG (r.1, r.2.1) = true) := by
    rw [W_some]
    unfold okG
    simp only [Bool.and_eq_true, decide_eq_true_eq, List.all_eq_true]
    exact ⟨⟨⟨a0, by omega⟩, by omega⟩, k4⟩
  have hcut : ∀ {ρ : Type} (f : Bool × Unit → Option ρ), cut (br (decide (0 < k)) (some (Sum.inr (α := ρ) ((decide (0 < r1.1)), ()))) (some (.inr (false, ())))) f = f ((decide (0 < k) && decide (0 < r1.1)), ()) := by
    intro ρ f
    cases decide (0 < k) <;> rfl
  simp only
  rw [hcut]
  by_cases hk : 0 < k ∧ 0 < r1.1
  rotate_left
  · have : (decide (0 < k) && decide (0 < r1.1)) = false := by
      cases h : (decide (0 < k) && decide (0 < r1.1))
      · rfl
      · simp only [Bool.and_eq_true, decide_eq_true_eq] at h; exact absurd h hk
    simp only [this, br_false]
    exact hend
  simp only [decide_eq_true hk.1, decide_eq_true hk.2, Bool.and_self, br_true]
  rw [W_bind]
  refine W_and (below_W (c := (cb, (ci, (ch, ())))) hb k1) (fun r63 ⟨⟨e0, e1, _⟩, c63⟩ => ?_)
  have e1 := e1 hk.2
  rw [W_bind]
  refine W_and (below_W hb c63) (fun r64 ⟨⟨f0, f1, _⟩, c64⟩ => ?_)
  have f1 := f1 hk.2
  rw [chk_true (by omega), chk_true (by omega)]
  obtain ⟨d, ed, g1, g2, g3⟩ := gcd_ok (hq r63.1 e0 e1) (hq r64.1 f0 f1) hn
  rw [ed, bind_unit, chk_true (by omega), if_neg (show ¬ d = 0 by omega), chk_true (by omega), if_neg (show ¬ d = 0 by omega)]
  rw [w64_id (n := (x.2.getD r64.1.toNat 0).tdiv d) (by omega) (by omega), w64_id (n := (x.2.getD r63.1.toNat 0).tdiv d) (by omega) (by omega)]
  refine W_cut.2 (W_and (P := fun s => ∃ z : Bool × (List Int × (Int × (Int × Unit))), s = Sum.inr z ∧ CurR code z.2) ?_ (fun s hs => ?_))
  · rw [W_brd]
    refine ⟨fun _ => W_some.2 ⟨_, rfl, c64⟩, fun _ => ?_⟩
    rw [W_bind]
    refine W_and (once_W hb c64) (fun r68 c68 => ?_)
    exact W_some.2 ⟨_, rfl, c68⟩
  obtain ⟨z, rfl, cz⟩ := hs
  simp only
  refine W_cut.2 (W_and (P := fun s => ∃ z : List Int × (Int × (Int × (Int × (Int × (Int × (Int × (Int × Unit))))))), s = Sum.inr z ∧ CurR code (z.1, (z.2.1, (z.2.2.1, ()))) ∧ (0 ≤ z.2.2.2.1 ∧ z.2.2.2.1 < r1.1) ∧ (0 ≤ z.2.2.2.2.1 ∧ z.2.2.2.2.1 < r1.1) ∧ (1 ≤ z.2.2.2.2.2.1 ∧ z.2.2.2.2.2.1 ≤ 5) ∧ (1 ≤ z.2.2.2.2.2.2.1 ∧ z.2.2.2.2.2.2.1 ≤ 5) ∧ (0 ≤ z.2.2.2.2.2.2.2.1 ∧ z.2.2.2.2.2.2.2.1 ≤ 50)) ?_ (fun s hs => ?_))
  · rw [W_br]
    refine ⟨fun _ => ?_, fun _ => W_some.2 ⟨_, rfl, cz, ⟨e0, e1⟩, ⟨f0, f1⟩, by simp only; omega, by simp only; omega, by simp⟩⟩
    rw [W_bind]
    refine W_and (below_W hb cz) (fun r71 ⟨⟨t0, t1, _⟩, c71⟩ => ?_)
    have t1 := t1 (by omega)
    exact W_some.2 ⟨_, rfl, c71, ⟨e0, e1⟩, ⟨f0, f1⟩, by simp only; omega, by simp only; omega, by simp only; omega⟩
  obtain ⟨u, rfl, cu, u1, u2, u3, u4, u5⟩ := hs
  simp only
  rw [W_bind]
  refine W_and (once_W (c := (u.1, (u.2.1, (u.2.2.1, ())))) hb cu) (fun r72 c72 => ?_)
  refine W_cut.2 (W_and (P := fun s => ∃ z : List Int × (Int × (Int × (Int × (Int × (Int × (Int × (Int × Unit))))))), s = Sum.inr z ∧ CurR code (z.1, (z.2.1, (z.2.2.1, ()))) ∧ (0 ≤ z.2.2.2.1 ∧ z.2.2.2.1 < r1.1) ∧ (0 ≤ z.2.2.2.2.1 ∧ z.2.2.2.2.1 < r1.1) ∧ (1 ≤ z.2.2.2.2.2.1 ∧ z.2.2.2.2.2.1 ≤ 5) ∧ (1 ≤ z.2.2.2.2.2.2.1 ∧ z.2.2.2.2.2.2.1 ≤ 5) ∧ (0 ≤ z.2.2.2.2.2.2.2.1 ∧ z.2.2.2.2.2.2.2.1 ≤ 50)) ?_ (fun s hs => ?_))
  · rw [W_br]
    refine ⟨fun _ => ?_, fun _ => W_some.2 ⟨_, rfl, c72, u1, u2, u3, u4, u5⟩⟩
    rw [W_bind]
    refine W_and (below_W hb c72) (fun r75 ⟨⟨t0, t1, _⟩, c75⟩ => ?_)
    have t1 := t1 (by omega)
    rw [w64_id (n := 1 + r75.1) (by omega) (by omega)]
    exact W_some.2 ⟨_, rfl, c75, u1, u2, by simp only; omega, u4, u5⟩
  obtain ⟨v, rfl, cv, v1, v2, v3, v4, v5⟩ := hs
  simp only
  rw [small_chk (by simp; omega), w64_id (n := k - 1) (by omega) (by omega)]
  refine hS _ ⟨by simp only; omega, cv, rfl, by simp; omega, fun e he => ?_⟩ (by simp only; omega)
  rcases List.mem_append.1 he with he | he
  · exact k4 e he
  · rw [List.mem_singleton.1 he]; exact okE_mk v1 v2 v3 v4 v5

/-! ### firings -/
theorem after_len {g : Graph} {tok : List Int} {k : Int} : (after g tok k).length = tok.length := by simp [after]
theorem after_get {g : Graph} {tok : List Int} {k : Int} {i : Nat} (hi : i < tok.length) : (after g tok k).getD i 0 = tok.getD i 0 - takes k (g.2.getD i zEdge) + makes k (g.2.getD i zEdge) := by
  unfold after
  rw [getD_lt (by simpa using hi), List.getElem_mapIdx, getD_lt hi]
theorem after_comm {g : Graph} {tok : List Int} {i k : Int} : after g (after g tok i) k = after g (after g tok k) i := by
  refine List.ext_getElem (by simp [after]) (fun j h1 h2 => ?_)
  simp only [after, List.getElem_mapIdx]
  omega
theorem edge_at {g : Graph} (h : okG g = true) {i : Nat} (hi : i < g.2.length) : 0 ≤ (g.2.getD i zEdge).2.2.1 ∧ (g.2.getD i zEdge).2.2.1 ≤ 5 ∧ 0 ≤ (g.2.getD i zEdge).2.2.2.1 ∧ (g.2.getD i zEdge).2.2.2.1 ≤ 5 := by
  unfold okG at h
  simp only [Bool.and_eq_true, decide_eq_true_eq, List.all_eq_true] at h
  have := h.2 _ (List.getElem_mem hi)
  rw [getD_lt hi]
  unfold okE at this
  simp only [Bool.and_eq_true, decide_eq_true_eq] at this
  omega
theorem canAt_keep {g : Graph} {tok : List Int} {i k : Int} (hg : okG g = true) (hl : tok.length = g.2.length) (hik : i ≠ k) {j : Nat} (hj : j < tok.length) (h : canAt g tok k j = true) : canAt g (after g tok i) k j = true := by
  have he := edge_at hg (i := j) (by omega)
  unfold canAt at h ⊢
  rw [after_get hj]
  by_cases h1 : (g.2.getD j zEdge).2.1 = k
  · rw [decide_eq_true h1, Bool.true_and] at h ⊢
    have ht : takes i (g.2.getD j zEdge) = 0 := by unfold takes; rw [if_neg (fun e => hik (by rw [← e, h1]))]
    have hm : 0 ≤ makes i (g.2.getD j zEdge) := by unfold makes; split <;> omega
    simp only [Bool.not_eq_true', decide_eq_false_iff_not] at h ⊢
    omega
  · rw [decide_eq_false h1]; rfl
theorem okTok_of {n : Int} (h0 : 0 ≤ n) (h1 : n ≤ 1000000) : okTok n = true := by unfold okTok; simp only [Bool.and_eq_true, decide_eq_true_eq]; omega
theorem after_ok {g : Graph} {tok : List Int} {k : Int} (hg : okG g = true) (hl : tok.length = g.2.length) (ht : ∀ x ∈ tok, 0 ≤ x ∧ x ≤ 100) (h : ∀ i, i < tok.length → canAt g tok k i = true) : (after g tok k).all okTok = true := by
  rw [List.all_eq_true]
  intro x hx
  obtain ⟨j, hj, rfl⟩ := List.mem_iff_getElem.1 hx
  have hj' : j < tok.length := by simpa [after] using hj
  have e := after_get (g := g) (k := k) hj'
  rw [getD_lt hj, getD_lt hj'] at e
  have he := edge_at hg (i := j) (by omega)
  have hc := h j hj'
  have hb := ht _ (List.getElem_mem hj')
  unfold canAt at hc
  rw [getD_lt hj'] at hc
  rw [e]
  unfold takes makes
  simp only [Bool.not_eq_true', Bool.and_eq_false_iff, decide_eq_false_iff_not] at hc
  refine okTok_of ?_ ?_
  · split <;> split <;> (rcases hc with hc | hc <;> omega)
  · split <;> split <;> omega
theorem intsF_spec {n : Nat} {a : List Int} (hl : a.length ≤ 1048576) (hn : 1048576 < n) : intsF.f n a a = some (true, ()) := by
  unfold intsF.f
  rw [show (!decide ((a.length : Int) = (a.length : Int))) = false by simp, br_false]
  refine iter_line (fun i => ((i : Int), ())) a.length (fun ih i hi => ?_) (fun ih => br_no (Int.lt_irrefl _)) (by omega)
  simp only [br_yes (show (i : Int) < (a.length : Int) by omega)]
  rw [chk_true (by omega), chk_true (by omega)]
  simp only [decide_true, Bool.not_true, br_false]
  rw [w64_succ (by omega)]
/-! ### schedules -/
def flat (ls : List Loop) : List Int := ls.flatMap (fun l => List.replicate l.2.toNat l.1)
theorem expP_flat : ∀ (ls : List Loop) (out : List Int), (∀ l ∈ ls, 1 ≤ l.2) → out.length + (flat ls).length ≤ 1600 → expP ls out = (out ++ flat ls, (true, ()))
  | [], out, _, _ => by simp [expP, flat]
  | l :: ls, out, h, hl => by
    have e : flat (l :: ls) = List.replicate l.2.toNat l.1 ++ flat ls := by simp [flat]
    rw [e, List.length_append, List.length_replicate] at hl
    have h1 := h l (by simp)
    unfold expP
    rw [if_pos ⟨by omega, by omega⟩, expP_flat ls _ (fun x hx => h x (by simp [hx])) (by simp; omega), e, List.append_assoc]
structure Cmp (s : List Int) (i : Nat) (out : List Loop) : Prop where
  len : out.length ≤ i
  flt : flat out = s.take i
  tms : ∀ l ∈ out, 1 ≤ l.2 ∧ l.2 ≤ i
  ne : ∀ j, j + 1 < out.length → (out.getD (j + 1) zLoop).1 ≠ (out.getD j zLoop).1
  last : 0 < i → ∃ ini t, out = ini ++ [(s.getD (i - 1) 0, t)]
theorem last_get {α : Type} {ini : List α} {a d : α} : (ini ++ [a]).getD ini.length d = a := by
  rw [getD_lt (by simp)]; simp
theorem last_set {α : Type} {ini : List α} {a b : α} : (ini ++ [a]).set ini.length b = ini ++ [b] := by simp
theorem getD_app {α : Type} {ini t : List α} {j : Nat} {d : α} (h : j < ini.length) : (ini ++ t).getD j d = ini.getD j d := by
  rw [getD_lt (by simp; omega), getD_lt h, List.getElem_append_left h]
theorem iCompress_W {n : Nat} {s : List Int} (hl : s.length ≤ 1000) (hn : 1048576 < n) : W (iCompress.f n s) (fun r => Cmp s s.length r.1) := by
  unfold iCompress.f
  refine W_up (fun i (out : List Loop) => ((i : Int), (out, ()))) s.length (fun i out => Cmp s i out) (s0 := []) rfl ⟨by simp, by simp [flat], by simp, by simp, fun h => absurd h (by omega)⟩ (by omega) (fun ih out hI => ?_) (fun ih i out hi hI hS => ?_)
  · simp only [br_no (Int.lt_irrefl _)]
    exact W_some.2 hI
  · simp only [br_yes (show (i : Int) < (s.length : Int) by omega), Int.toNat_natCast]
    have hln := hI.len
    have hti : s.take (i + 1) = s.take i ++ [s.getD i 0] := by rw [List.take_succ_eq_append_getElem hi, getD_lt hi]
    rw [chk_true (by omega), w64_succ (by omega)]
    have hpush : (0 < i → s.getD (i - 1) 0 ≠ s.getD i 0) → W (chk ((out.length + ([(s.getD i 0, 1)] : List Loop).length) * 16 ≤ maxB) (ih (((i + 1 : Nat) : Int), ((out ++ [(s.getD i 0, 1)]), ())))) (fun r => Cmp s s.length r.1) := by
      intro hne
      rw [small_chk (by simp; omega)]
      refine hS _ ⟨by simp; omega, ?_, fun l hx => ?_, fun j hj => ?_, fun _ => ⟨out, 1, rfl⟩⟩
      · rw [hti, ← hI.flt]; simp [flat]
      · rcases List.mem_append.1 hx with hx | hx
        · have := hI.tms l hx; omega
        · rw [List.mem_singleton.1 hx]; simp only; omega
      · simp only [List.length_append, List.length_singleton] at hj
        by_cases h1 : j + 1 < out.length
        · rw [getD_app h1, getD_app (by omega)]; exact hI.ne j h1
        · have h0 : 0 < i := by omega
          obtain ⟨ini, t, e⟩ := hI.last h0
          have hlen : out.length = ini.length + 1 := by rw [e]; simp
          have e1 : j + 1 = out.length := by omega
          rw [e1, last_get, getD_app (by omega), e, show j = ini.length by omega, last_get]
          exact fun h => hne h0 h.symm
    by_cases h0 : 0 < i
    · rw [br_yes (by omega), w64_id (n := (i : Int) - 1) (by omega) (by omega), chk_true (by omega)]
      simp only [cut_inr]
      rw [show ((i : Int) - 1).toNat = i - 1 by omega]
      by_cases he : s.getD (i - 1) 0 = s.getD i 0
      · rw [br_yes he]
        obtain ⟨ini, t, e⟩ := hI.last h0
        have hlen : out.length = ini.length + 1 := by rw [e]; simp
        rw [w64_id (n := (out.length : Int) - 1) (by omega) (by omega), chk_true (by omega), chk_true (by omega)]
        rw [show ((out.length : Int) - 1).toNat = ini.length by omega]
        have ht := hI.tms (s.getD (i - 1) 0, t) (by rw [e]; simp)
        simp only at ht
        rw [e, last_get, last_set, w64_id (n := t + 1) (by omega) (by omega)]
        refine hS _ ⟨by simp; omega, ?_, fun l hx => ?_, fun j hj => ?_, fun _ => ⟨ini, t + 1, by rw [he]; rfl⟩⟩
        · rw [hti, ← hI.flt, e, ← he]
          unfold flat
          rw [List.flatMap_append, List.flatMap_append, List.append_assoc]
          congr 1
          simp only [List.flatMap_cons, List.flatMap_nil, List.append_nil]
          rw [show (t + 1).toNat = t.toNat + 1 by omega, List.replicate_succ']
        · rcases List.mem_append.1 hx with hx | hx
          · have := hI.tms l (by rw [e]; simp [hx]); omega
          · rw [List.mem_singleton.1 hx]; simp only; omega
        · have hn1 := hI.ne j (by simp at hj; omega)
          rw [e] at hn1
          simp only [List.length_append, List.length_singleton] at hj
          by_cases h1 : j + 1 < ini.length
          · rw [getD_app h1, getD_app (by omega)] at hn1 ⊢; exact hn1
          · rw [show j + 1 = ini.length by omega, last_get, getD_app (by omega)] at hn1 ⊢
            exact hn1
      · rw [br_no he]
        exact hpush (fun _ => he)
    · rw [br_no (by omega)]
      simp only [cut_inr, br_false]
      exact hpush (fun h => absurd h h0)
/-! ### the law -/
theorem law_true (code : List Int) (hcode : InR (.sl U8) code) : ∃ n, law.f n code = some (true, ()) := by
  refine ⟨1048577, ?_⟩
  have hn : 1048576 < 1048577 := by omega
  unfold law.f
  by_cases hl : code.length ≤ 1048576
  rotate_left
  · rw [br_yes (by omega)]
  rw [br_no (show ¬ (1048576 < (code.length : Int)) by omega)]
  refine W_eq.1 ?_
  rw [W_bind]
  refine W_and (graph_W hl hn) (fun r1 hg => ?_)
  obtain ⟨g, ⟨⟩⟩ := r1
  have hg : okG g = true := hg
  have hgf := hg
  unfold okG at hgf
  simp only [Bool.and_eq_true, decide_eq_true_eq] at hgf
  obtain ⟨⟨⟨g0, g8⟩, g16⟩, -⟩ := hgf
  simp only
  refine W_up (fun i (t : List Int) => ((i : Int), (t, ()))) g.2.length (fun i t => t.length = i ∧ ∀ x ∈ t, 0 ≤ x ∧ x ≤ 100) (s0 := []) rfl ⟨rfl, by simp⟩ (by omega) (fun ih tok hI => ?_) (fun ih i t hi hI hS => ?_)
  rotate_left
  · simp only [br_yes (show (i : Int) < (g.2.length : Int) by omega)]
    rw [W_bind, w64_id (n := (i : Int) + 3) (by omega) (by omega)]
    refine W_and (lawAt_W hl hcode (by omega)) (fun r ⟨h0, h1⟩ => ?_)
    have hI1 : t.length = i := hI.1
    rw [small_chk (by simp; omega), w64_succ (by omega)]
    refine hS _ ⟨by simp [hI1], fun x hx => ?_⟩
    rcases List.mem_append.1 hx with hx | hx
    · exact hI.2 x hx
    · rw [List.mem_singleton.1 hx]
      have a1 := Int.tmod_nonneg (a := r.1) 8 h0
      have a2 := Int.tmod_lt_of_pos r.1 (b := 8) (by omega)
      omega
  obtain ⟨ht1, ht2⟩ := hI
  have ht1 : tok.length = g.2.length := ht1
  have htok : tok.all okTok = true := List.all_eq_true.2 (fun x hx => by have := ht2 x hx; exact okTok_of (by omega) (by omega))
  simp only [br_no (Int.lt_irrefl _)]
  refine W_up (fun i (_ : Unit) => ((i : Int), ())) g.1.toNat (fun _ _ => True) (s0 := ()) rfl trivial (by omega) (fun ih _ _ => ?_) (fun ih i _ hi _ hS => ?_)
  rotate_left
  · simp only [br_yes (show (i : Int) < g.1 by omega)]
    refine W_up (fun k (_ : Unit) => ((k : Int), ())) i (fun _ _ => True) (s0 := ()) rfl trivial (by omega) (fun ih2 _ _ => ?_) (fun ih2 k _ hk _ hS2 => ?_)
    · simp only [br_no (Int.lt_irrefl _)]
      rw [w64_succ (by omega)]
      exact hS () trivial
    · simp only [br_yes (show (k : Int) < (i : Int) by omega)]
      rw [w64_succ (by omega)]
      obtain ⟨fi, fi'⟩ := iFireNode_spec (n := 1048577) (k := (i : Int)) hg ht1 htok (by omega) hn
      obtain ⟨fk, fk'⟩ := iFireNode_spec (n := 1048577) (k := (k : Int)) hg ht1 htok (by omega) hn
      by_cases ci : ∀ j, j < tok.length → canAt g tok (i : Int) j = true
      rotate_left
      · rw [fi' ci, bind_unit]
        by_cases ck : ∀ j, j < tok.length → canAt g tok (k : Int) j = true
        · rw [fk ck]; exact hS2 () trivial
        · rw [fk' ck]; exact hS2 () trivial
      rw [fi ci, bind_unit]
      by_cases ck : ∀ j, j < tok.length → canAt g tok (k : Int) j = true
      rotate_left
      · rw [fk' ck]; exact hS2 () trivial
      rw [fk ck]
      simp only [bind_unit, Bool.not_true, br_false, cut_inr]
      have li : (after g tok (i : Int)).length = g.2.length := by rw [after_len]; exact ht1
      have lk : (after g tok (k : Int)).length = g.2.length := by rw [after_len]; exact ht1
      have oi := after_ok hg ht1 ht2 ci
      have ok := after_ok hg ht1 ht2 ck
      have cki : ∀ j, j < (after g tok (i : Int)).length → canAt g (after g tok (i : Int)) (k : Int) j = true := fun j hj => canAt_keep hg ht1 (by omega) (by rw [after_len] at hj; exact hj) (ck j (by rw [after_len] at hj; exact hj))
      have cik : ∀ j, j < (after g tok (k : Int)).length → canAt g (after g tok (k : Int)) (i : Int) j = true := fun j hj => canAt_keep hg ht1 (by omega) (by rw [after_len] at hj; exact hj) (ci j (by rw [after_len] at hj; exact hj))
      rw [(iFireNode_spec (n := 1048577) (k := (k : Int)) hg li oi (by omega) hn).1 cki, bind_unit, (iFireNode_spec (n := 1048577) (k := (i : Int)) hg lk ok (by omega) hn).1 cik, bind_unit]
      simp only [Bool.not_true, br_false]
      rw [after_comm, intsF_spec (by rw [after_len, after_len]; omega) hn, bind_unit]
      exact hS2 () trivial
  simp only [br_no (show ¬ ((g.1.toNat : Nat) : Int) < g.1 by omega)]
  refine W_iter (fun x => 0 ≤ x.1 ∧ x.1 ≤ 255 ∧ (x.2.1.length : Int) = x.1) (fun x => (300 - x.1).toNat) (fun ih x hx hS => ?_) ⟨by simp, by simp, by simp⟩ (by simp)
  obtain ⟨c, list, ⟨⟩⟩ := x
  obtain ⟨c0, c1, c2⟩ := hx
  simp only at c0 c1 c2
  simp only
  rw [W_bind]
  refine W_and (lawAt_W hl hcode (by omega)) (fun r83 ⟨h0, h1⟩ => ?_)
  rw [W_brd]
  refine ⟨fun hlt => ?_, fun _ => ?_⟩
  · have hd : c.tdiv 2 = c / 2 := Int.tdiv_eq_ediv_of_nonneg c0
    rw [hd, w64_id (n := c / 2) (by omega) (by omega), W_bind]
    refine W_and (lawAt_W hl hcode (by omega)) (fun r84 _ => ?_)
    rw [small_chk (by simp; omega), w64_id (n := c + 1) (by omega) (by omega)]
    exact hS _ ⟨by simp only; omega, by simp only; omega, by simp; omega⟩ (by simp only; omega)
  rw [W_bind]
  refine W_and (iCompress_W (by omega) hn) (fun r85 hC => ?_)
  obtain ⟨lp, ⟨⟩⟩ := r85
  have hC : Cmp list list.length lp := hC
  have hlen := hC.len
  have hflt := hC.flt
  rw [List.take_length] at hflt
  simp only
  rw [iExpand_spec (by omega) (by omega) (by omega), bind_unit, expP_flat lp [] (fun l h => (hC.tms l h).1) (by rw [hflt]; simp; omega), hflt]
  simp only [List.nil_append, br_true]
  rw [intsF_spec (by omega) hn]
  by_cases hz : lp.length = 0
  · refine W_iter (fun x => x = (1, ())) (fun _ => 0) (fun ih x hx hS => ?_) rfl (by omega)
    subst hx
    simp only [br_no (show ¬ (1 : Int) < (lp.length : Int) by omega)]
    exact W_some.2 rfl
  refine W_up (fun i (_ : Unit) => (((i + 1 : Nat) : Int), ())) (lp.length - 1) (fun _ _ => True) (s0 := ()) rfl trivial (by omega) (fun ih _ _ => ?_) (fun ih i _ hi _ hS => ?_)
  · simp only [br_no (show ¬ ((lp.length - 1 + 1 : Nat) : Int) < (lp.length : Int) by omega)]
    exact W_some.2 rfl
  · have hne := hC.ne i (by omega)
    simp only [br_yes (show ((i + 1 : Nat) : Int) < (lp.length : Int) by omega), Int.toNat_natCast]
    rw [chk_true (by omega), w64_id (n := ((i + 1 : Nat) : Int) - 1) (by omega) (by omega), chk_true (by omega), show (((i + 1 : Nat) : Int) - 1).toNat = i by omega, br_no hne, w64_succ (by omega)]
    exact hS () trivial
end Go.AmT
