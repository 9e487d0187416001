/- Firings, in plain Lean. -/
import Derived.Test.YtgibfifokpnnjaaLFireA
import Derived.Test.YtgibfifokpnnjaaAmD
import Derived.Test.YtgibfifokpnnjaaPMark0
namespace Go.AmT
open Go Go.Am
set_option linter.unusedVariables false
set_option linter.unusedSimpArgs false

/-- is an edge valid? -/
def okE (nodes : Int) (e : Edge) : Bool :=
  decide (0 ≤ e.1) && decide (e.1 ≤ nodes - 1) && (decide (0 ≤ e.2.1) && decide (e.2.1 ≤ nodes - 1)) && (decide (1 ≤ e.2.2.1) && decide (e.2.2.1 ≤ 5)) && (decide (1 ≤ e.2.2.2.1) && decide (e.2.2.2.1 ≤ 5)) && (decide (0 ≤ e.2.2.2.2) && decide (e.2.2.2.2 ≤ 50))

def okG (g : Graph) : Bool := decide (0 ≤ g.1) && decide (g.1 ≤ 8) && decide (g.2.length ≤ 16) && g.2.all (okE g.1)

theorem isGraphC_spec (n : Nat) (e : Edge) (g : Graph) (h : 0 ≤ g.1 ∧ g.1 ≤ 8) : isGraphC.f n e g = some (!(okE g.1 e), ()) := by
  have no : ∀ {b : Bool}, (okE g.1 e = true → b = false) → (b = false → okE g.1 e = true) → some (b, ()) = some (!(okE g.1 e), ()) := by
    intro b h1 h2
    cases b <;> cases hk : okE g.1 e <;> simp_all
  have unf : okE g.1 e = true ↔ (0 ≤ e.1 ∧ e.1 ≤ g.1 - 1) ∧ (0 ≤ e.2.1 ∧ e.2.1 ≤ g.1 - 1) ∧ (1 ≤ e.2.2.1 ∧ e.2.2.1 ≤ 5) ∧ (1 ≤ e.2.2.2.1 ∧ e.2.2.2.1 ≤ 5) ∧ (0 ≤ e.2.2.2.2 ∧ e.2.2.2.2 ≤ 50) := by
    unfold okE
    simp only [Bool.and_eq_true, decide_eq_true_eq]
    constructor
    · rintro ⟨⟨⟨⟨a, b⟩, c⟩, d⟩, e⟩; exact ⟨a, b, c, d, e⟩
    · rintro ⟨a, b, c, d, e⟩; exact ⟨⟨⟨⟨a, b⟩, c⟩, d⟩, e⟩
  unfold isGraphC.f
  simp only [br_if, decide_eq_true_eq]
  repeat' split
  all_goals
    refine no (fun hk => ?_) (fun hb => ?_)
    · have hk := unf.1 hk
      first
        | (exfalso; omega)
        | (apply decide_eq_false; omega)
    · first
        | exact Bool.noConfusion hb
        | (have hb := of_decide_eq_false hb; exact unf.2 (by omega))

theorem iIsGraph_spec {n : Nat} {g : Graph} (hl : g.2.length ≤ 1048576) (hn : g.2.length < n) : iIsGraph.f n g = some (okG g, ()) := by
  unfold iIsGraph.f okG containsFuncE.f indexFuncE.f
  by_cases h0 : 0 ≤ g.1
  · by_cases h8 : g.1 ≤ 8
    · by_cases h2 : g.2.length ≤ 16
      · have a1 : ¬ (g.1 < 0) := by omega
        have a2 : ¬ (8 < g.1) := by omega
        have a3 : ¬ (16 < (g.2.length : Int)) := by omega
        simp only [a1, a2, a3, h0, h8, h2, decide_false, decide_true, br_false, Bool.true_and]
        obtain ⟨r, e1, e2⟩ := index_loop g.2 (fun e => !(okE g.1 e)) (F := fun ih6 x5 => br (decide (x5.1 < (g.2.length : Int))) (chk (0 ≤ x5.1 ∧ x5.1 < (g.2.length : Int)) (let v7 := (g.2.getD x5.1.toNat zEdge); (isGraphC.f n v7 g).bind fun r8 => br r8.1 (some (x5.1, ())) (ih6 ((w64 (x5.1 + 1)), ())))) (some ((-1), ()))) (n := n)
          (fun ih i hi => by
            have h3 : (i : Int) < (g.2.length : Int) := by omega
            simp only [h3, decide_true, br_true, Int.toNat_natCast, getD_lt hi, isGraphC_spec n _ g ⟨h0, h8⟩, Option.bind_some]
            rw [chk_true (by simp), w64_succ (by omega), br_if]) (fun ih => by simp [br]) hn
        rw [e1]
        simp only [Option.bind_some, e2]
        congr 2
        rw [List.any_eq_not_all_not]
        simp
      · have a1 : ¬ (g.1 < 0) := by omega
        have a2 : ¬ (8 < g.1) := by omega
        have a3 : (16 < (g.2.length : Int)) := by omega
        simp [a1, a2, a3, h2, br]
    · have a1 : ¬ (g.1 < 0) := by omega
      have a2 : (8 < g.1) := by omega
      simp [a1, a2, h8, br]
  · have a1 : (g.1 < 0) := by omega
    simp [a1, h0, br]


/-! ### a firing -/
/-- what a firing takes from an edge, and gives to it -/
def takes (k : Int) (e : Edge) : Int := if e.2.1 = k then e.2.2.2.1 else 0
def makes (k : Int) (e : Edge) : Int := if e.1 = k then e.2.2.1 else 0
def canAt (g : Graph) (tok : List Int) (k : Int) (i : Nat) : Bool := !(decide ((g.2.getD i zEdge).2.1 = k) && decide (tok.getD i 0 < (g.2.getD i zEdge).2.2.2.1))
def after (g : Graph) (tok : List Int) (k : Int) : List Int := tok.mapIdx fun i n => n - takes k (g.2.getD i zEdge) + makes k (g.2.getD i zEdge)

structure Fine (g : Graph) (tok : List Int) : Prop where
  len : tok.length = g.2.length
  few : g.2.length ≤ 16
  tok : ∀ i, i < tok.length → 0 ≤ tok.getD i 0 ∧ tok.getD i 0 ≤ 1000000000
  edge : ∀ i, i < g.2.length → 0 ≤ (g.2.getD i zEdge).2.2.1 ∧ (g.2.getD i zEdge).2.2.1 ≤ 5 ∧ 0 ≤ (g.2.getD i zEdge).2.2.2.1 ∧ (g.2.getD i zEdge).2.2.2.1 ≤ 5

theorem fire_spec {n : Nat} {g : Graph} {tok : List Int} {k : Int} (hf : Fine g tok) (hk : 0 ≤ k ∧ k < g.1) (hn : tok.length < n) :
    ((∀ i, i < tok.length → canAt g tok k i = true) → fire.f n g tok k = some (true, (after g tok k, ()))) ∧ (¬ (∀ i, i < tok.length → canAt g tok k i = true) → fire.f n g tok k = some (false, (tok, ()))) := by
  have hlen := hf.len
  have hfew := hf.few
  have a1 : ¬ (k < 0) := by omega
  have a2 : ¬ (g.1 ≤ k) := by omega
  unfold fire.f
  simp only [a1, a2, decide_false, br_false]
  have second := upd_loop tok (fun i m => m - takes k (g.2.getD i zEdge) + makes k (g.2.getD i zEdge)) (fun _ => true) none (fun ys => some (true, (ys, ()))) (n := n)
    (F := fun ih25 x24 => br (decide (x24.1 < (g.2.length : Int))) (chk (0 ≤ x24.1 ∧ x24.1 < (g.2.length : Int)) (let v26 := (g.2.getD x24.1.toNat zEdge); cut (α := ((List Int) × Unit)) (br (decide (v26.2.1 = k)) (chk (0 ≤ x24.1 ∧ x24.1 < (x24.2.1.length : Int)) (chk (0 ≤ x24.1 ∧ x24.1 < (x24.2.1.length : Int)) (let v29 := (x24.2.1.set x24.1.toNat (w64 ((x24.2.1.getD x24.1.toNat 0) - v26.2.2.2.1))); some (.inr (v29, ()))))) (some (.inr (x24.2.1, ())))) fun y28 => br (decide (v26.1 = k)) (chk (0 ≤ x24.1 ∧ x24.1 < (y28.1.length : Int)) (chk (0 ≤ x24.1 ∧ x24.1 < (y28.1.length : Int)) (let v30 := (y28.1.set x24.1.toNat (w64 ((y28.1.getD x24.1.toNat 0) + v26.2.2.1))); ih25 ((w64 (x24.1 + 1)), (v30, ()))))) (ih25 ((w64 (x24.1 + 1)), (y28.1, ()))))) (some (true, (x24.2.1, ()))))
    (fun ih i hi zs hz hzi => by
      have h1 : (i : Int) < (g.2.length : Int) := by omega
      have h2 : 0 ≤ (i : Int) ∧ (i : Int) < (zs.length : Int) := by omega
      have hzd : zs.getD i 0 = tok[i] := by rw [List.getD_eq_getElem?_getD, hzi]; rfl
      have hb := hf.tok i hi
      rw [getD_lt hi] at hb
      have he := hf.edge i (by omega)
      have same : ∀ (x : Int), x = tok[i] → zs.set i x = zs := by
        intro x hx
        subst hx
        refine List.ext_getElem? (fun j => ?_)
        rw [List.getElem?_set]
        split
        · rename_i hj; subst hj; rw [hzi]; simp; omega
        · rfl
      simp only [h1, decide_true, br_true, Int.toNat_natCast, hzd, if_true]
      rw [chk_true (by simp)]
      unfold takes makes
      by_cases c1 : (g.2.getD i zEdge).2.1 = k
      · simp only [c1, decide_true, br_true, if_true]
        rw [chk_true h2, chk_true h2, w64_id (by omega) (by omega)]
        simp only [cut, Option.bind_some, List.length_set]
        have hg : (zs.set i (tok[i] - (g.2.getD i zEdge).2.2.2.1)).getD i 0 = tok[i] - (g.2.getD i zEdge).2.2.2.1 := by
          rw [getD_lt (by simp; omega)]; simp
        by_cases c2 : (g.2.getD i zEdge).1 = k
        · simp only [c2, decide_true, br_true, if_true, hg]
          rw [chk_true h2, chk_true h2, w64_succ (by omega), w64_id (by omega) (by omega), List.set_set]
        · simp only [c2, decide_false, br_false, if_false, Int.add_zero]
          rw [w64_succ (by omega)]
      · simp only [c1, decide_false, br_false, if_false, Int.sub_zero]
        simp only [cut, Option.bind_some]
        by_cases c2 : (g.2.getD i zEdge).1 = k
        · simp only [c2, decide_true, br_true, if_true, hzd]
          rw [chk_true h2, chk_true h2, w64_succ (by omega), w64_id (by omega) (by omega)]
        · simp only [c2, decide_false, br_false, if_false, Int.add_zero]
          rw [w64_succ (by omega), same _ rfl])
    (fun _ ih => by
      have h1 : ¬ ((tok.length : Int) < (g.2.length : Int)) := by omega
      simp only [h1, decide_false, br_false]) hn
  refine chk_loop tok.length (canAt g tok k) (some (false, (tok, ()))) (some (true, (after g tok k, ())))
    (fun ih i hi => ?_) (fun ih => ?_) hn
  · have h1 : (i : Int) < (g.2.length : Int) := by omega
    have h2 : 0 ≤ (i : Int) ∧ (i : Int) < (tok.length : Int) := by omega
    simp only [h1, decide_true, br_true, Int.toNat_natCast]
    rw [chk_true (by simp)]
    unfold canAt
    by_cases c1 : (g.2.getD i zEdge).2.1 = k
    · simp only [c1, decide_true, br_true, Bool.true_and]
      rw [chk_true h2]
      by_cases hlt : tok.getD i 0 < (g.2.getD i zEdge).2.2.2.1
      · simp only [hlt, decide_true, br_true, Bool.not_true, Bool.false_eq_true, if_false]
      · simp only [hlt, decide_false, br_false, Bool.not_false, if_true]
        rw [w64_succ (by omega)]
    · simp only [c1, decide_false, br_false, Bool.false_and, Bool.not_false, if_true]
      rw [w64_succ (by omega)]
  · have h1 : ¬ ((tok.length : Int) < (g.2.length : Int)) := by omega
    simp only [h1, decide_false, br_false]
    exact second.1 (fun _ _ => rfl)


def okTok (n : Int) : Bool := decide (0 ≤ n) && decide (n ≤ 1000000)

theorem fine_of {g : Graph} {tok : List Int} (h1 : okG g = true) (h2 : tok.length = g.2.length) (h3 : tok.all okTok = true) : Fine g tok := by
  unfold okG at h1
  simp only [Bool.and_eq_true, decide_eq_true_eq] at h1
  obtain ⟨⟨-, b⟩, c⟩ := h1
  refine ⟨h2, b, fun i hi => ?_, fun i hi => ?_⟩
  · rw [getD_lt hi]
    have := List.all_eq_true.1 h3 _ (List.getElem_mem hi)
    unfold okTok at this
    simp only [Bool.and_eq_true, decide_eq_true_eq] at this
    omega
  · rw [getD_lt hi]
    have := List.all_eq_true.1 c _ (List.getElem_mem hi)
    unfold okE at this
    simp only [Bool.and_eq_true, decide_eq_true_eq] at this
    omega

theorem containsFuncI_spec {n : Nat} {tok : List Int} (hl : tok.length ≤ 1048576) (hn : tok.length < n) : containsFuncI.f n tok () = some (!(tok.all okTok), ()) := by
  unfold containsFuncI.f indexFuncI.f
  obtain ⟨r, e1, e2⟩ := index_loop tok (fun m => !(okTok m)) (F := fun ih6 x5 => br (decide (x5.1 < (tok.length : Int))) (chk (0 ≤ x5.1 ∧ x5.1 < (tok.length : Int)) ((fireNodeC.f n (tok.getD x5.1.toNat 0)).bind fun r7 => br r7.1 (some (x5.1, ())) (ih6 ((w64 (x5.1 + 1)), ())))) (some ((-1), ()))) (n := n)
    (fun ih i hi => by
      have h3 : (i : Int) < (tok.length : Int) := by omega
      have hc : fireNodeC.f n tok[i] = some (!(okTok tok[i]), ()) := by
        unfold fireNodeC.f okTok
        by_cases c1 : tok[i] < 0
        · have : ¬ (0 ≤ tok[i]) := by omega
          simp [c1, this, br]
        · by_cases c2 : 1000000 < tok[i]
          · have : ¬ (tok[i] ≤ 1000000) := by omega
            simp [c1, c2, this, br]
          · have h4 : 0 ≤ tok[i] := by omega
            have h5 : tok[i] ≤ 1000000 := by omega
            simp [c1, c2, h4, h5, br]
      simp only [h3, decide_true, br_true, Int.toNat_natCast, getD_lt hi, hc, Option.bind_some]
      rw [chk_true (by simp), w64_succ (by omega), br_if]) (fun ih => by simp [br]) hn
  rw [e1]
  simp only [Option.bind_some, e2]
  congr 2
  rw [List.any_eq_not_all_not]
  simp

theorem cloneI_spec {n : Nat} {a : List Int} (hl : a.length ≤ 1048576) : cloneI.f n a = some (a, ()) := by
  unfold cloneI.f
  rw [chk_true (by have : maxB = 140737488355328 := rfl; simp; omega)]
  simp

theorem iFireNode_spec {n : Nat} {g : Graph} {tok : List Int} {k : Int} (hok : okG g = true) (hlen : tok.length = g.2.length) (ht : tok.all okTok = true) (hk : 0 ≤ k ∧ k < g.1) (hn : 1048576 < n) :
    ((∀ i, i < tok.length → canAt g tok k i = true) → iFireNode.f n g tok k = some (after g tok k, (true, ()))) ∧ (¬ (∀ i, i < tok.length → canAt g tok k i = true) → iFireNode.f n g tok k = some ([], (false, ()))) := by
  have hf := fine_of hok hlen ht
  have hfew := hf.few
  have hs := fire_spec (n := n) hf hk (by omega)
  unfold iFireNode.f
  rw [iIsGraph_spec (by omega) (by omega), hok]
  simp only [Option.bind_some, Bool.not_true, br_false]
  have hlen' : (tok.length : Int) = (g.2.length : Int) := by omega
  simp only [hlen', decide_true, Bool.not_true, br_false, containsFuncI_spec (n := n) (tok := tok) (by omega) (by omega), Option.bind_some, ht, cut_inr]
  rw [cloneI_spec (by omega)]
  simp only [Option.bind_some]
  constructor
  · intro h
    rw [hs.1 h]; rfl
  · intro h
    rw [hs.2 h]; rfl
end Go.AmT
