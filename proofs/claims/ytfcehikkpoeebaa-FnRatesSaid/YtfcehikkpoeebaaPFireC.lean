/- Firings of nodes, in plain Lean. -/
import Derived.Test.YtfcehikkpoeebaaLFireC
import Derived.Test.YtfcehikkpoeebaaAmD
import Derived.Test.YtfcehikkpoeebaaPMark0
import Derived.Test.YtfcehikkpoeebaaPGr
namespace Go.AmT
open Go Go.Am
set_option linter.unusedVariables false
set_option linter.unusedSimpArgs false

/-- what a firing takes from an edge, and gives to it -/
def takes (k : Int) (e : Edge) : Int := if e.2.1 = k then e.2.2.2.1 else 0
def makes (k : Int) (e : Edge) : Int := if e.1 = k then e.2.2.1 else 0
def canAt (g : Graph) (tok : List Int) (k : Int) (i : Nat) : Bool := !(decide ((g.2.getD i zEdge).2.1 = k) && decide (tok.getD i 0 < (g.2.getD i zEdge).2.2.2.1))
def after (g : Graph) (tok : List Int) (k : Int) : List Int := tok.mapIdx fun i n => n - takes k (g.2.getD i zEdge) + makes k (g.2.getD i zEdge)

structure Fine (g : Graph) (tok : List Int) : Prop where
  len : tok.length = g.2.length
  few : g.2.length ≤ 16
  tok : ∀ i, i < tok.length → 0 ≤ tok.getD i 0 ∧ tok.getD i 0 ≤ 1000000000
  edge : ∀ i, i < g.2.length → 0 ≤ (g.2.getD i zEdge).2.2.1 ∧ (g.2.getD i zEdge).2.2.1 ≤ 5 ∧ 0 ≤ (g.2.getD i zEdge).2.2.2.1 ∧ (g.2.getD i zEdge).2.2.2.1 ≤ 5

theorem l7Fire_spec {n : Nat} {g : Graph} {tok : List Int} {k : Int} (hf : Fine g tok) (hn : tok.length < n) :
    ((∀ i, i < tok.length → canAt g tok k i = true) → l7Fire.f n g tok k = some (after g tok k, (true, ()))) ∧ (¬ (∀ i, i < tok.length → canAt g tok k i = true) → l7Fire.f n g tok k = some ([], (false, ()))) := by
  unfold l7Fire.f l1Copy.f
  rw [chk_true (by have := hf.len; have := hf.few; have : maxB = 140737488355328 := rfl; simp; omega)]
  simp only [Option.bind_some, List.nil_append]
  have hlen := hf.len
  have hfew := hf.few
  have := upd_loop tok (fun i m => m - takes k (g.2.getD i zEdge)) (canAt g tok k) (some (([] : List Int), (false, ()))) (fun ys => some (ys.mapIdx (fun i m => m + makes k (g.2.getD i zEdge)), (true, ()))) (n := n)
    (F := fun ih15 x14 => br (decide (x14.1 < (g.2.length : Int))) (chk (0 ≤ x14.1 ∧ x14.1 < (g.2.length : Int)) (let v16 := (g.2.getD x14.1.toNat zEdge); br (decide (v16.2.1 = k)) (chk (0 ≤ x14.1 ∧ x14.1 < (x14.2.1.length : Int)) (br (decide ((x14.2.1.getD x14.1.toNat 0) < v16.2.2.2.1)) (some ([], (false, ()))) (chk (0 ≤ x14.1 ∧ x14.1 < (x14.2.1.length : Int)) (chk (0 ≤ x14.1 ∧ x14.1 < (x14.2.1.length : Int)) (let v17 := (x14.2.1.set x14.1.toNat (w64 ((x14.2.1.getD x14.1.toNat 0) - v16.2.2.2.1))); ih15 ((w64 (x14.1 + 1)), (v17, ()))))))) (ih15 ((w64 (x14.1 + 1)), (x14.2.1, ()))))) (iter (α := (Int × (List Int) × Unit)) n (fun ih26 x25 => br (decide (x25.1 < (g.2.length : Int))) (chk (0 ≤ x25.1 ∧ x25.1 < (g.2.length : Int)) (let v27 := (g.2.getD x25.1.toNat zEdge); br (decide (v27.1 = k)) (chk (0 ≤ x25.1 ∧ x25.1 < (x25.2.1.length : Int)) (chk (0 ≤ x25.1 ∧ x25.1 < (x25.2.1.length : Int)) (let v28 := (x25.2.1.set x25.1.toNat (w64 ((x25.2.1.getD x25.1.toNat 0) + v27.2.2.1))); ih26 ((w64 (x25.1 + 1)), (v28, ()))))) (ih26 ((w64 (x25.1 + 1)), (x25.2.1, ()))))) (some (x25.2.1, (true, ())))) (0, (x14.2.1, ()))))
    (fun ih i hi ys hy hyi => by
      have h1 : (i : Int) < (g.2.length : Int) := by omega
      have h2 : 0 ≤ (i : Int) ∧ (i : Int) < (ys.length : Int) := by omega
      have hyd : ys.getD i 0 = tok[i] := by rw [List.getD_eq_getElem?_getD, hyi]; rfl
      have htd : tok.getD i 0 = tok[i] := getD_lt hi 0
      have hb := hf.tok i hi
      have he := hf.edge i (by omega)
      rw [htd] at hb
      simp only [h1, decide_true, br_true, Int.toNat_natCast, hyd]
      rw [chk_true (by simp)]
      unfold canAt takes
      rw [htd]
      by_cases hk : (g.2.getD i zEdge).2.1 = k
      · simp only [hk, decide_true, br_true, Bool.true_and, if_true]
        rw [chk_true h2]
        by_cases hlt : tok[i] < (g.2.getD i zEdge).2.2.2.1
        · simp only [hlt, decide_true, br_true, Bool.not_true, Bool.false_eq_true, if_false]
        · simp only [hlt, decide_false, br_false, Bool.not_false, if_true]
          rw [chk_true h2, chk_true h2, w64_succ (by omega), w64_id (by omega) (by omega)]
      · simp only [hk, decide_false, br_false, Bool.false_and, Bool.not_false, if_true, if_false, Int.sub_zero]
        rw [w64_succ (by omega)]
        have : ys.set i tok[i] = ys := by
          refine List.ext_getElem? (fun j => ?_)
          rw [List.getElem?_set]
          split
          · rename_i hj; subst hj; rw [hyi]; simp; omega
          · rfl
        rw [this])
    (fun hcan ih => by
      have h1 : ¬ ((tok.length : Int) < (g.2.length : Int)) := by omega
      simp only [h1, decide_false, br_false]
      generalize hys : tok.mapIdx (fun i m => m - takes k (g.2.getD i zEdge)) = ys
      have hyl : ys.length = tok.length := by rw [← hys]; simp
      have hyb : ∀ i (hi : i < ys.length), -10 ≤ ys[i] ∧ ys[i] ≤ 1000000000 := by
        intro i hi
        have hi' : i < tok.length := by omega
        have hb := hf.tok i hi'
        have he := hf.edge i (by omega)
        rw [getD_lt hi'] at hb
        subst hys
        simp only [List.getElem_mapIdx]
        unfold takes
        split <;> omega
      have hk2 := upd_loop ys (fun i m => m + makes k (g.2.getD i zEdge)) (fun _ => true) none (fun ys => some (ys, (true, ()))) (n := n)
        (F := fun ih26 x25 => br (decide (x25.1 < (g.2.length : Int))) (chk (0 ≤ x25.1 ∧ x25.1 < (g.2.length : Int)) (let v27 := (g.2.getD x25.1.toNat zEdge); br (decide (v27.1 = k)) (chk (0 ≤ x25.1 ∧ x25.1 < (x25.2.1.length : Int)) (chk (0 ≤ x25.1 ∧ x25.1 < (x25.2.1.length : Int)) (let v28 := (x25.2.1.set x25.1.toNat (w64 ((x25.2.1.getD x25.1.toNat 0) + v27.2.2.1))); ih26 ((w64 (x25.1 + 1)), (v28, ()))))) (ih26 ((w64 (x25.1 + 1)), (x25.2.1, ()))))) (some (x25.2.1, (true, ()))))
        (fun ih i hi zs hz hzi => by
          have h1 : (i : Int) < (g.2.length : Int) := by omega
          have h2 : 0 ≤ (i : Int) ∧ (i : Int) < (zs.length : Int) := by omega
          have hzd : zs.getD i 0 = ys[i] := by rw [List.getD_eq_getElem?_getD, hzi]; rfl
          have hb := hyb i hi
          have he := hf.edge i (by omega)
          simp only [h1, decide_true, br_true, Int.toNat_natCast, hzd, if_true]
          rw [chk_true (by simp)]
          unfold makes
          by_cases hk : (g.2.getD i zEdge).1 = k
          · simp only [hk, decide_true, br_true, if_true]
            rw [chk_true h2, chk_true h2, w64_succ (by omega), w64_id (by omega) (by omega)]
          · simp only [hk, decide_false, br_false, if_false, Int.add_zero]
            rw [w64_succ (by omega)]
            have : zs.set i ys[i] = zs := by
              refine List.ext_getElem? (fun j => ?_)
              rw [List.getElem?_set]
              split
              · rename_i hj; subst hj; rw [hzi]; simp; omega
              · rfl
            rw [this])
        (fun _ ih => by
          have h1 : ¬ ((ys.length : Int) < (g.2.length : Int)) := by omega
          simp only [h1, decide_false, br_false]) (by omega)
      exact hk2.1 (fun _ _ => rfl)) hn
  refine ⟨fun h => ?_, fun h => this.2 h⟩
  rw [this.1 h]
  simp only [List.mapIdx_mapIdx]
  rfl

theorem fire_spec {n : Nat} {g : Graph} {tok : List Int} {k : Int} (hf : Fine g tok) (hk : 0 ≤ k ∧ k < g.1) (hn : tok.length < n) :
    ((∀ i, i < tok.length → canAt g tok k i = true) → fire.f n g tok k = some (true, (after g tok k, ()))) ∧ (¬ (∀ i, i < tok.length → canAt g tok k i = true) → fire.f n g tok k = some (false, (tok, ()))) := by
  have hlen := hf.len
  have hfew := hf.few
  have a1 : ¬ (k < 0) := by omega
  have a2 : ¬ (g.1 ≤ k) := by omega
  unfold fire.f
  simp only [a1, a2, decide_false, br_false]
  have second := upd_loop tok (fun i m => m - takes k (g.2.getD i zEdge) + makes k (g.2.getD i zEdge)) (fun _ => true) none (fun ys => some (true, (ys, ()))) (n := n)
    (F := fun ih25 x24 => br (decide (x24.1 < (g.2.length : Int))) (chk (0 ≤ x24.1 ∧ x24.1 < (g.2.length : Int)) (let v26 := (g.2.getD x24.1.toNat zEdge); cut (α := ((List Int) × Unit)) (br (decide (v26.2.1 = k)) (chk (0 ≤ x24.1 ∧ x24.1 < (x24.2.1.length : Int)) (chk (0 ≤ x24.1 ∧ x24.1 < (x24.2.1.length : Int)) (let v29 := (x24.2.1.set x24.1.toNat (w64 ((x24.2.1.getD x24.1.toNat 0) - v26.2.2.2.1))); some (.inr (v29, ()))))) (some (.inr (x24.2.1, ())))) fun y28 => br (decide (v26.1 = k)) (chk (0 ≤ x24.1 ∧ x24.1 < (y28.1.length : Int)) (chk (0 ≤ x24.1 ∧ x24.1 < (y28.1.length : Int)) (let v30 := (y28.1.set x24.1.toNat (w64 ((y28.1.getD x24.1.toNat 0) + v26.2.2.1))); ih25 ((w64 (x24.1 + 1)), (v30, ()))))) (ih25 ((w64 (x24.1 + 1)), (y28.1, ()))))) (some (true, (x24.2.1, ()))))
    (fun ih i hi zs hz hzi => by
      have h1 : (i : Int) < (g.2.length : Int) := by omega
      have h2 : 0 ≤ (i : Int) ∧ (i : Int) < (zs.length : Int) := by omega
      have hzd : zs.getD i 0 = tok[i] := by rw [List.getD_eq_getElem?_getD, hzi]; rfl
      have hb := hf.tok i hi
      rw [getD_lt hi] at hb
      have he := hf.edge i (by omega)
      have same : ∀ (x : Int), x = tok[i] → zs.set i x = zs := by
        intro x hx
        subst hx
        refine List.ext_getElem? (fun j => ?_)
        rw [List.getElem?_set]
        split
        · rename_i hj; subst hj; rw [hzi]; simp; omega
        · rfl
      simp only [h1, decide_true, br_true, Int.toNat_natCast, hzd, if_true]
      rw [chk_true (by simp)]
      unfold takes makes
      by_cases c1 : (g.2.getD i zEdge).2.1 = k
      · simp only [c1, decide_true, br_true, if_true]
        rw [chk_true h2, chk_true h2, w64_id (by omega) (by omega)]
        simp only [cut, Option.bind_some, List.length_set]
        have hg : (zs.set i (tok[i] - (g.2.getD i zEdge).2.2.2.1)).getD i 0 = tok[i] - (g.2.getD i zEdge).2.2.2.1 := by
          rw [getD_lt (by simp; omega)]; simp
        by_cases c2 : (g.2.getD i zEdge).1 = k
        · simp only [c2, decide_true, br_true, if_true, hg]
          rw [chk_true h2, chk_true h2, w64_succ (by omega), w64_id (by omega) (by omega), List.set_set]
        · simp only [c2, decide_false, br_false, if_false, Int.add_zero]
          rw [w64_succ (by omega)]
      · simp only [c1, decide_false, br_false, if_false, Int.sub_zero]
        simp only [cut, Option.bind_some]
        by_cases c2 : (g.2.getD i zEdge).1 = k
        · simp only [c2, decide_true, br_true, if_true, hzd]
          rw [chk_true h2, chk_true h2, w64_succ (by omega), w64_id (by omega) (by omega)]
        · simp only [c2, decide_false, br_false, if_false, Int.add_zero]
          rw [w64_succ (by omega), same _ rfl])
    (fun _ ih => by
      have h1 : ¬ ((tok.length : Int) < (g.2.length : Int)) := by omega
      simp only [h1, decide_false, br_false]) hn
  refine chk_loop tok.length (canAt g tok k) (some (false, (tok, ()))) (some (true, (after g tok k, ())))
    (fun ih i hi => ?_) (fun ih => ?_) hn
  · have h1 : (i : Int) < (g.2.length : Int) := by omega
    have h2 : 0 ≤ (i : Int) ∧ (i : Int) < (tok.length : Int) := by omega
    simp only [h1, decide_true, br_true, Int.toNat_natCast]
    rw [chk_true (by simp)]
    unfold canAt
    by_cases c1 : (g.2.getD i zEdge).2.1 = k
    · simp only [c1, decide_true, br_true, Bool.true_and]
      rw [chk_true h2]
      by_cases hlt : tok.getD i 0 < (g.2.getD i zEdge).2.2.2.1
      · simp only [hlt, decide_true, br_true, Bool.not_true, Bool.false_eq_true, if_false]
      · simp only [hlt, decide_false, br_false, Bool.not_false, if_true]
        rw [w64_succ (by omega)]
    · simp only [c1, decide_false, br_false, Bool.false_and, Bool.not_false, if_true]
      rw [w64_succ (by omega)]
  · have h1 : ¬ ((tok.length : Int) < (g.2.length : Int)) := by omega
    simp only [h1, decide_false, br_false]
    exact second.1 (fun _ _ => rfl)


end Go.AmT
