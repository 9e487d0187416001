/- Networks that stand beside each other, and the numbers of processes: the law. -/
import Derived.Test.YtgepghodhnmhjaaGreatLJoinF
import Derived.Test.YtgepghodhnmhjaaGreatPJoin
import Derived.Test.YtgepghodhnmhjaaGreatPBel
namespace Go.AmT
open Go Go.Am
set_option linter.unusedVariables false
set_option linter.unusedSimpArgs false

theorem swap_permI {v : List Int} {i j : Nat} (hi : i < v.length) (hj : j < v.length) : ((v.set i (v.getD j 0)).set j (v.getD i 0)).Perm v := by
  rw [getD_lt hi, getD_lt hj]
  exact List.set_set_perm hi hj
theorem l3Shuffle_W {n : Nat} {b : List Int} (hb : b.length ≤ 1048576) {N : Nat} (hN : N ≤ 20) (hn : 1048576 < n) {c : List Int × (Int × (Int × Unit))} (hc : CurR b c) :
    W (l3Shuffle.f n (N : Int) c.1 c.2.1 c.2.2.1) (fun r => r.1.Perm ((List.range N).map (fun i : Nat => (i : Int)))) := by
  unfold l3Shuffle.f
  refine W_up (fun i (s : (List Int × (Int × (Int × Unit))) × List Int) => ((i : Int), (s.1.1, (s.1.2.1, (s.1.2.2.1, (s.2, ())))))) N (fun i s => CurR b s.1 ∧ s.2.Perm ((List.range i).map (fun i : Nat => (i : Int)))) (s0 := (c, [])) rfl ⟨hc, List.Perm.refl _⟩ (by omega) (fun ih s hI => ?_) (fun ih i s hi hI hS => ?_)
  · simp only
    rw [br_no (Int.lt_irrefl _)]; exact W_some.2 hI.2
  · obtain ⟨c, v⟩ := s
    obtain ⟨hc, hp⟩ := hI
    have hl : v.length = i := by have := hp.length_eq; simpa using this
    simp only
    rw [br_yes (show (i : Int) < (N : Int) by omega), w64_succ (by omega), W_bind]
    refine W_and (below_W hb hc) (fun r hr => ?_)
    obtain ⟨⟨h0, h1, _⟩, hc'⟩ := hr
    have h1 := h1 (by omega)
    rw [small_chk (by simp; omega), chk_true (by simp; omega), chk_true (by simp; omega)]
    simp only [Int.toNat_natCast]
    rw [chk_true (by simp; omega)]
    refine hS (r.2, _) ⟨hc', ?_⟩
    have ei : (v ++ [(i : Int)]).getD i 0 = (i : Int) := by
      rw [getD_lt (by simp; omega), List.getElem_append_right (by omega)]; simp
    have sw := swap_permI (v := v ++ [(i : Int)]) (i := i) (j := r.1.toNat) (by simp; omega) (by simp; omega)
    rw [ei] at sw
    refine sw.trans ?_
    rw [List.range_succ, List.map_append]
    exact hp.append_right _
theorem makeOrder_W {n : Nat} {b : List Int} (hb : b.length ≤ 1048576) {N : Nat} (hN : N ≤ 20) (hn : 1048576 < n) : W (makeOrder.f n b (N : Int)) (fun r => Ord r.1 N) := by
  unfold makeOrder.f
  rw [W_bind]
  refine W_and (curNew_W hb hn) (fun c hc => ?_)
  rw [W_bind, show max 0 (min (N : Int) 20) = (N : Int) by omega]
  refine W_and (l3Shuffle_W hb hN hn hc) (fun r hr => W_some.2 ⟨by have := hr.length_eq; simpa using this, fun k hk => hr.mem_iff.2 (List.mem_map.2 ⟨k, List.mem_range.2 hk, rfl⟩)⟩)

theorem law_true (code : List Int) (hcode : InR (.sl U8) code) : ∃ n, law.f n code = some (true, ()) := by
  obtain ⟨n, hn⟩ : ∃ n : Nat, 1048576 < n := ⟨1048577, by omega⟩
  refine ⟨n, ?_⟩
  unfold law.f
  by_cases hl : code.length ≤ 1048576
  rotate_left
  · rw [br_yes (by omega)]
  rw [br_no (show ¬ (1048576 < (code.length : Int)) by omega)]
  refine W_eq.1 ?_
  rw [W_bind]
  refine W_and (makeNetwork_W (m := 4) hl (by omega) hn) (fun r1 hA => ?_)
  rw [W_bind]
  refine W_and (fresh_W hl hn) (fun r2 h2 => ?_)
  rw [W_bind]
  refine W_and (makeNetwork_W (m := 4) h2 (by omega) hn) (fun r3 hB => ?_)
  obtain ⟨a, ⟨⟩⟩ := r1
  obtain ⟨b, ⟨⟩⟩ := r3
  have oa : OkN a := hA.ok
  have ob : OkN b := hB.ok
  have sa := hA.small
  have sb := hB.small
  have := oa.progs; have := ob.progs; have := oa.links; have := ob.links
  simp only
  rw [iJoin_spec oa ob sa sb hn, sJoin_spec oa ob sa sb hn, sLeast_spec sa oa hn, sLeast_spec sb ob hn]
  simp only [bind_unit, Option.bind_some, decide_true, Bool.not_true, br_false]
  unfold joinR
  by_cases hok : okN (joinN a b) = true
  rotate_left
  · simp only [if_neg hok, Bool.not_false, br_true, cut_inr]
    exact W_some.2 rfl
  have oj : OkN (joinN a b) := of_decide_eq_true hok
  have sj := join_small oa ob sa sb
  simp only [if_pos hok, Bool.not_true, br_false]
  unfold leastR
  cases ea : leastF a 300 1 (tokL a) with
  | none => simp only [Bool.not_false, br_true, cut_inr]; exact W_some.2 rfl
  | some fr =>
  cases eb : leastF b 300 1 (tokL b) with
  | none => simp only [Bool.not_false, Bool.not_true, br_true, br_false, cut_inr]; exact W_some.2 rfl
  | some gr =>
  obtain ⟨f, ra⟩ := fr
  obtain ⟨g, rb⟩ := gr
  obtain ⟨rj, ej⟩ := least_join oa ob oj 300 1 _ _ _ _ _ _ (by simp [tokL]) ea eb
  rw [← tokL_join] at ej
  have ej' : leastP (joinN a b) = some (f ++ g, rj) := ej
  have lj := least_len ej'
  have hok : ∀ j, (atL (f ++ g) j).length ≤ 1048576 := fun j => by
    rcases Nat.lt_or_ge j (joinN a b).2.length with h | h
    · have := (okS_len (least_okS ej' h)).1; omega
    · unfold atL
      rw [List.getD_eq_getElem?_getD, List.getElem?_eq_none (by omega)]; simp
  simp only [Bool.not_true, br_false, cut_inr, bind_unit, Option.bind_some]
  rw [iLeast_spec sj oj hn, bind_unit]
  unfold leastR
  rw [ej]
  have lf : f.length + g.length = a.2.length + b.2.length := by rw [List.length_append, jl2] at lj; exact lj
  simp only [Bool.not_true, br_false]
  rw [small_chk (by simp; omega), small_chk (by simp; omega), List.nil_append, makeEqual_spec (by simp; omega) hok hn, bind_unit]
  simp only [decide_true, Bool.not_true, cut_inr, br_false]
  rw [W_bind]
  refine W_and (fresh_W hl hn) (fun r5 h5 => ?_)
  rw [W_bind]
  refine W_and (makeOrder_W h5 (N := (joinN a b).1.length) (by have := oj.progs; omega) hn) (fun r6 hO => ?_)
  obtain ⟨order, ⟨⟩⟩ := r6
  have hO : Ord order (joinN a b).1.length := hO
  have op := perm_ok oj hO
  have sp := perm_small sj oj hO
  simp only
  rw [iPermute_spec sj oj hO hn, bind_unit]
  simp only
  rw [iLeast_spec sp op hn, bind_unit]
  unfold leastR
  rw [tokL_p, least_p oj hO _ _ _ _ ej]
  simp only [br_true]
  rw [makeEqual_spec (by simp; omega) hok hn, bind_unit]
  simp only [decide_true, br_true]
  rw [iHasCycle_spec sp op hn, iHasCycle_spec sj oj hn]
  simp only [bind_unit, Option.bind_some]
  rw [cyc_perm oj hO, decide_eq_true rfl]
  exact W_some.2 rfl
end Go.AmT
