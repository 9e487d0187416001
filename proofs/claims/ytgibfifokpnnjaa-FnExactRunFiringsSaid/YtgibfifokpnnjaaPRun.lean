/- The law RunFirings, in plain Lean. -/
import Derived.Test.YtgibfifokpnnjaaLRun
namespace Go.AmT
open Go Go.Am
set_option linter.unusedVariables false
set_option linter.unusedSimpArgs false

/-- is an edge valid? -/
def okE (nodes : Int) (e : Edge) : Bool :=
  decide (0 ≤ e.1) && decide (e.1 ≤ nodes - 1) && (decide (0 ≤ e.2.1) && decide (e.2.1 ≤ nodes - 1)) && (decide (1 ≤ e.2.2.1) && decide (e.2.2.1 ≤ 5)) && (decide (1 ≤ e.2.2.2.1) && decide (e.2.2.2.1 ≤ 5)) && (decide (0 ≤ e.2.2.2.2) && decide (e.2.2.2.2 ≤ 50))

def okG (g : Graph) : Bool := decide (0 ≤ g.1) && decide (g.1 ≤ 8) && decide (g.2.length ≤ 16) && g.2.all (okE g.1)

theorem l1In_spec (n : Nat) (a b c : Int) : l1In.f n a b c = some (decide (b ≤ a) && decide (a ≤ c), ()) := by
  unfold l1In.f
  by_cases h : b ≤ a <;> simp [h, br]

theorem toEdgeS_spec {n : Nat} {a : List Edge} (hl : a.length ≤ 1048576) (hn : a.length < n) : toEdgeS.f n a = some (a, ()) := by
  unfold toEdgeS.f
  rw [chk_true (by refine ⟨rfl, by omega, ?_⟩; have : (maxB : Int) = 140737488355328 := rfl; omega)]
  refine copy_loop a (fun ih i hi ys hy => ?_) (fun ih ys => ?_) hn (by simp)
  · have h1 : (i : Int) < (a.length : Int) := by omega
    have h2 : (i : Int) < (ys.length : Int) := by omega
    simp only [toEdge.f, Option.bind_some, h1, decide_true, br_true]
    rw [chk_true (by simp), chk_true (by simp; omega), w64_succ (by omega), Int.toNat_natCast, getD_lt hi]
  · simp [br]

theorem toGraph_spec {n : Nat} {g : Graph} (hl : g.2.length ≤ 1048576) (hn : g.2.length < n) : toGraph.f n g = some (g, ()) := by
  unfold toGraph.f
  rw [toEdgeS_spec hl hn]
  rfl

theorem eqEdge_refl (n : Nat) (e : Edge) : eqEdge.f n e e = some (true, ()) := by
  unfold eqEdge.f
  simp [br]

theorem eqEdgeS_refl {n : Nat} {a : List Edge} (hl : a.length ≤ 1048576) (hn : a.length < n) : eqEdgeS.f n a a = some (true, ()) := by
  unfold eqEdgeS.f
  simp only [decide_true, Bool.not_true, br_false]
  refine (all_loop a (fun _ => true) (fun ih i hi => ?_) (fun ih => ?_) hn).trans (by simp)
  · have h1 : (i : Int) < (a.length : Int) := by omega
    simp only [h1, decide_true, br_true, eqEdge_refl, Option.bind_some, Bool.not_true, br_false, if_true]
    rw [chk_true (by simp), chk_true (by simp), w64_succ (by omega)]
  · simp [br]

theorem eqGraph_refl {n : Nat} {g : Graph} (hl : g.2.length ≤ 1048576) (hn : g.2.length < n) : eqGraph.f n g g = some (true, ()) := by
  unfold eqGraph.f
  rw [eqEdgeS_refl hl hn]
  simp [br]

theorem sIsGraph_spec {n : Nat} {g : Graph} (hl : g.2.length ≤ 1048576) (hn : g.2.length < n) : sIsGraph.f n g = some (okG g, ()) := by
  unfold sIsGraph.f okG
  simp only [l1In_spec, Option.bind_some]
  by_cases h1 : (0 ≤ g.1 ∧ g.1 ≤ 8)
  · have e1 : w64 (g.1 - 1) = g.1 - 1 := w64_id (by omega) (by omega)
    simp only [h1.1, h1.2, decide_true, Bool.and_self, Bool.not_true, br_false, Bool.true_and, e1]
    by_cases h2 : g.2.length ≤ 16
    · have h2' : ¬ (16 < (g.2.length : Int)) := by omega
      simp only [h2, h2', decide_true, decide_false, br_false, Bool.true_and]
      refine all_loop g.2 (okE g.1) (fun ih i hi => ?_) (fun ih => ?_) hn
      · have h3 : (i : Int) < (g.2.length : Int) := by omega
        simp only [h3, decide_true, br_true, Int.toNat_natCast, getD_lt hi]
        rw [chk_true (by simp), w64_succ (by omega)]
        generalize g.2[i] = e
        unfold okE
        simp only [br_if]
        simp only [Bool.not_eq_true', ← Bool.not_eq_true]
        by_cases c1 : (decide (0 ≤ e.1) && decide (e.1 ≤ g.1 - 1)) = true <;> by_cases c2 : (decide (0 ≤ e.2.1) && decide (e.2.1 ≤ g.1 - 1)) = true <;>
          by_cases c3 : (decide (1 ≤ e.2.2.1) && decide (e.2.2.1 ≤ 5)) = true <;> by_cases c4 : (decide (1 ≤ e.2.2.2.1) && decide (e.2.2.2.1 ≤ 5)) = true <;>
          by_cases c5 : (decide (0 ≤ e.2.2.2.2) && decide (e.2.2.2.2 ≤ 50)) = true <;> simp [c1, c2, c3, c4, c5]
      · simp [br]
    · have h2' : (16 < (g.2.length : Int)) := by omega
      simp [h2, h2', br]
  · have : (decide (0 ≤ g.1) && decide (g.1 ≤ 8)) = false := by
      rw [← Bool.not_eq_true]; simpa using h1
    simp [this, br]

theorem isGraphC_spec (n : Nat) (e : Edge) (g : Graph) (h : 0 ≤ g.1 ∧ g.1 ≤ 8) : isGraphC.f n e g = some (!(okE g.1 e), ()) := by
  have no : ∀ {b : Bool}, (okE g.1 e = true → b = false) → (b = false → okE g.1 e = true) → some (b, ()) = some (!(okE g.1 e), ()) := by
    intro b h1 h2
    cases b <;> cases hk : okE g.1 e <;> simp_all
  have unf : okE g.1 e = true ↔ (0 ≤ e.1 ∧ e.1 ≤ g.1 - 1) ∧ (0 ≤ e.2.1 ∧ e.2.1 ≤ g.1 - 1) ∧ (1 ≤ e.2.2.1 ∧ e.2.2.1 ≤ 5) ∧ (1 ≤ e.2.2.2.1 ∧ e.2.2.2.1 ≤ 5) ∧ (0 ≤ e.2.2.2.2 ∧ e.2.2.2.2 ≤ 50) := by
    unfold okE
    simp only [Bool.and_eq_true, decide_eq_true_eq]
    constructor
    · rintro ⟨⟨⟨⟨a, b⟩, c⟩, d⟩, e⟩; exact ⟨a, b, c, d, e⟩
    · rintro ⟨a, b, c, d, e⟩; exact ⟨⟨⟨⟨a, b⟩, c⟩, d⟩, e⟩
  unfold isGraphC.f
  simp only [br_if, decide_eq_true_eq]
  repeat' split
  all_goals
    refine no (fun hk => ?_) (fun hb => ?_)
    · have hk := unf.1 hk
      first
        | (exfalso; omega)
        | (apply decide_eq_false; omega)
    · first
        | exact Bool.noConfusion hb
        | (have hb := of_decide_eq_false hb; exact unf.2 (by omega))

theorem iIsGraph_spec {n : Nat} {g : Graph} (hl : g.2.length ≤ 1048576) (hn : g.2.length < n) : iIsGraph.f n g = some (okG g, ()) := by
  unfold iIsGraph.f okG containsFuncE.f indexFuncE.f
  by_cases h0 : 0 ≤ g.1
  · by_cases h8 : g.1 ≤ 8
    · by_cases h2 : g.2.length ≤ 16
      · have a1 : ¬ (g.1 < 0) := by omega
        have a2 : ¬ (8 < g.1) := by omega
        have a3 : ¬ (16 < (g.2.length : Int)) := by omega
        simp only [a1, a2, a3, h0, h8, h2, decide_false, decide_true, br_false, Bool.true_and]
        obtain ⟨r, e1, e2⟩ := index_loop g.2 (fun e => !(okE g.1 e)) (F := fun ih6 x5 => br (decide (x5.1 < (g.2.length : Int))) (chk (0 ≤ x5.1 ∧ x5.1 < (g.2.length : Int)) (let v7 := (g.2.getD x5.1.toNat zEdge); (isGraphC.f n v7 g).bind fun r8 => br r8.1 (some (x5.1, ())) (ih6 ((w64 (x5.1 + 1)), ())))) (some ((-1), ()))) (n := n)
          (fun ih i hi => by
            have h3 : (i : Int) < (g.2.length : Int) := by omega
            simp only [h3, decide_true, br_true, Int.toNat_natCast, getD_lt hi, isGraphC_spec n _ g ⟨h0, h8⟩, Option.bind_some]
            rw [chk_true (by simp), w64_succ (by omega), br_if]) (fun ih => by simp [br]) hn
        rw [e1]
        simp only [Option.bind_some, e2]
        congr 2
        rw [List.any_eq_not_all_not]
        simp
      · have a1 : ¬ (g.1 < 0) := by omega
        have a2 : ¬ (8 < g.1) := by omega
        have a3 : (16 < (g.2.length : Int)) := by omega
        simp [a1, a2, a3, h2, br]
    · have a1 : ¬ (g.1 < 0) := by omega
      have a2 : (8 < g.1) := by omega
      simp [a1, a2, h8, br]
  · have a1 : (g.1 < 0) := by omega
    simp [a1, h0, br]


theorem toIntS_spec {n : Nat} {a : List Int} (hl : a.length ≤ 1048576) (hn : a.length < n) : toIntS.f n a = some (a, ()) := by
  unfold toIntS.f
  rw [chk_true (by refine ⟨rfl, by omega, ?_⟩; have : (maxB : Int) = 140737488355328 := rfl; omega)]
  refine copy_loop a (fun ih i hi ys hy => ?_) (fun ih ys => ?_) hn (by simp)
  · have h1 : (i : Int) < (a.length : Int) := by omega
    have h2 : (i : Int) < (ys.length : Int) := by omega
    simp only [h1, decide_true, br_true]
    rw [chk_true (by simp), chk_true (by simp; omega), w64_succ (by omega), Int.toNat_natCast, getD_lt hi]
  · simp [br]

theorem eqIntS_refl {n : Nat} {a : List Int} (hl : a.length ≤ 1048576) (hn : a.length < n) : eqIntS.f n a a = some (true, ()) := by
  unfold eqIntS.f
  simp only [decide_true, Bool.not_true, br_false]
  refine (all_loop a (fun _ => true) (fun ih i hi => ?_) (fun ih => ?_) hn).trans (by simp)
  · have h1 : (i : Int) < (a.length : Int) := by omega
    simp only [h1, decide_true, br_true, Bool.not_true, br_false, if_true]
    rw [chk_true (by simp), chk_true (by simp), w64_succ (by omega)]
  · simp [br]

theorem markIntS_spec {n : Nat} {a : List Int} {k : Int} (hk : 0 ≤ k ∧ k ≤ 100000000) (hl : a.length ≤ 1048576) (hn : a.length < n) : markIntS.f n a k = some (k + (a.length : Int), (ramp k a.length, ())) := by
  unfold markIntS.f
  refine mark_loop a k (fun ih i hi ys hy => ?_) (fun ih ys hy => ?_) hn
  · have h1 : (i : Int) < (ys.length : Int) := by omega
    simp only [h1, decide_true, br_true]
    rw [chk_true (by simp), w64_succ (by omega), Int.toNat_natCast, w64_id (by omega) (by omega)]
    congr 2
    omega
  · have h1 : ¬ ((a.length : Int) < (ys.length : Int)) := by omega
    simp [h1, br]

theorem ramp_len (k : Int) (m : Nat) : (ramp k m).length = m := by simp [ramp]

theorem heldIntS_spec {n m : Nat} {k : Int} (hk : 0 ≤ k ∧ k ≤ 100000000) (hl : m ≤ 1048576) (hn : m < n) : heldIntS.f n (ramp k m) k = some (k + (m : Int), ()) := by
  unfold heldIntS.f
  have hlen := ramp_len k m
  have := held_loop (ramp k m) k (n := n) (F := fun ih5 x4 => br (decide (x4.2.1 < ((ramp k m).length : Int))) (chk (0 ≤ x4.2.1 ∧ x4.2.1 < ((ramp k m).length : Int)) (br (!decide (((ramp k m).getD x4.2.1.toNat 0) = x4.1)) (some ((-1), ())) (ih5 ((w64 (x4.1 + 1)), ((w64 (x4.2.1 + 1)), ()))))) (some (x4.1, ()))) (fun ih i hi => by
    have h1 : (i : Int) < ((ramp k m).length : Int) := by omega
    have h2 : (ramp k m).getD i 0 = k + (i : Int) := by
      rw [getD_lt hi]; simp [ramp]
    simp only [h1, decide_true, br_true, Int.toNat_natCast, h2, Bool.not_true, br_false]
    rw [chk_true (by simp), w64_succ (by omega), w64_id (by omega) (by omega)]
    congr 2
    omega) (fun ih => by simp [br]) (by omega)
  rw [hlen] at this
  rw [hlen]
  exact this

theorem markEdgeS_spec {n : Nat} {a : List Edge} {k : Int} (hk : 0 ≤ k ∧ k ≤ 1000) (hl : a.length ≤ 1048576) (hn : a.length < n) : ∃ ys, markEdgeS.f n a k = some (k + 5 * (a.length : Int), (ys, ())) := by
  unfold markEdgeS.f
  have := iter_upG (F := fun ih10 x9 => br (decide (x9.2.1 < (x9.2.2.1.length : Int))) (chk (0 ≤ x9.2.1 ∧ x9.2.1 < (x9.2.2.1.length : Int)) (let v11 := (x9.2.2.1.set x9.2.1.toNat (x9.1, (x9.2.2.1.getD x9.2.1.toNat zEdge).2)); chk (0 ≤ x9.2.1 ∧ x9.2.1 < (v11.length : Int)) (let v12 := (v11.set x9.2.1.toNat ((v11.getD x9.2.1.toNat zEdge).1, ((w64 (x9.1 + 1)), (v11.getD x9.2.1.toNat zEdge).2.2))); chk (0 ≤ x9.2.1 ∧ x9.2.1 < (v12.length : Int)) (let v13 := (v12.set x9.2.1.toNat ((v12.getD x9.2.1.toNat zEdge).1, ((v12.getD x9.2.1.toNat zEdge).2.1, ((w64 ((w64 (x9.1 + 1)) + 1)), (v12.getD x9.2.1.toNat zEdge).2.2.2)))); chk (0 ≤ x9.2.1 ∧ x9.2.1 < (v13.length : Int)) (let v14 := (v13.set x9.2.1.toNat ((v13.getD x9.2.1.toNat zEdge).1, ((v13.getD x9.2.1.toNat zEdge).2.1, ((v13.getD x9.2.1.toNat zEdge).2.2.1, ((w64 ((w64 ((w64 (x9.1 + 1)) + 1)) + 1)), (v13.getD x9.2.1.toNat zEdge).2.2.2.2))))); chk (0 ≤ x9.2.1 ∧ x9.2.1 < (v14.length : Int)) (let v15 := (v14.set x9.2.1.toNat ((v14.getD x9.2.1.toNat zEdge).1, ((v14.getD x9.2.1.toNat zEdge).2.1, ((v14.getD x9.2.1.toNat zEdge).2.2.1, ((v14.getD x9.2.1.toNat zEdge).2.2.2.1, (w64 ((w64 ((w64 ((w64 (x9.1 + 1)) + 1)) + 1)) + 1))))))); ih10 ((w64 ((w64 ((w64 ((w64 ((w64 (x9.1 + 1)) + 1)) + 1)) + 1)) + 1)), ((w64 (x9.2.1 + 1)), (v15, ()))))))))) (some (x9.1, (x9.2.2.1, ()))))
    (fun i (s : List Edge) => (k + 5 * (i : Int), ((i : Int), (s, ())))) a.length (fun i s o => s.length = a.length → ∃ ys, o = some (k + 5 * (a.length : Int), (ys, ())))
    (fun ih s hs => by
      have h1 : ¬ ((a.length : Int) < (s.length : Int)) := by omega
      exact ⟨s, by simp [h1, br]⟩)
    (fun ih i s hi h hs => by
      have h1 : (i : Int) < (s.length : Int) := by omega
      have h2 : 0 ≤ (i : Int) ∧ True := ⟨by omega, trivial⟩
      simp only [h1, decide_true, br_true, List.length_set]
      rw [chk_true h2, chk_true h2, chk_true h2, chk_true h2, chk_true h2, w64_succ (by omega)]
      have e1 : w64 (k + 5 * (i : Int) + 1) = k + 5 * (i : Int) + 1 := w64_id (by omega) (by omega)
      have e2 : w64 (k + 5 * (i : Int) + 1 + 1) = k + 5 * (i : Int) + 1 + 1 := w64_id (by omega) (by omega)
      have e3 : w64 (k + 5 * (i : Int) + 1 + 1 + 1) = k + 5 * (i : Int) + 1 + 1 + 1 := w64_id (by omega) (by omega)
      have e4 : w64 (k + 5 * (i : Int) + 1 + 1 + 1 + 1) = k + 5 * (i : Int) + 1 + 1 + 1 + 1 := w64_id (by omega) (by omega)
      have e5 : w64 (k + 5 * (i : Int) + 1 + 1 + 1 + 1 + 1) = k + 5 * ((i + 1 : Nat) : Int) := by rw [w64_id (by omega) (by omega)]; omega
      simp only [e1, e2, e3, e4, e5]
      exact h _ (by simp [hs]))
    n 0 a (Nat.zero_le _) (by omega) rfl
  simpa using this

/-! ### a firing -/
/-- what a firing takes from an edge, and gives to it -/
def takes (k : Int) (e : Edge) : Int := if e.2.1 = k then e.2.2.2.1 else 0
def makes (k : Int) (e : Edge) : Int := if e.1 = k then e.2.2.1 else 0
def canAt (g : Graph) (tok : List Int) (k : Int) (i : Nat) : Bool := !(decide ((g.2.getD i zEdge).2.1 = k) && decide (tok.getD i 0 < (g.2.getD i zEdge).2.2.2.1))
def after (g : Graph) (tok : List Int) (k : Int) : List Int := tok.mapIdx fun i n => n - takes k (g.2.getD i zEdge) + makes k (g.2.getD i zEdge)

structure Fine (g : Graph) (tok : List Int) : Prop where
  len : tok.length = g.2.length
  few : g.2.length ≤ 16
  tok : ∀ i, i < tok.length → 0 ≤ tok.getD i 0 ∧ tok.getD i 0 ≤ 1000000000
  edge : ∀ i, i < g.2.length → 0 ≤ (g.2.getD i zEdge).2.2.1 ∧ (g.2.getD i zEdge).2.2.1 ≤ 5 ∧ 0 ≤ (g.2.getD i zEdge).2.2.2.1 ∧ (g.2.getD i zEdge).2.2.2.1 ≤ 5

theorem l7Fire_spec {n : Nat} {g : Graph} {tok : List Int} {k : Int} (hf : Fine g tok) (hn : tok.length < n) :
    ((∀ i, i < tok.length → canAt g tok k i = true) → l7Fire.f n g tok k = some (after g tok k, (true, ()))) ∧ (¬ (∀ i, i < tok.length → canAt g tok k i = true) → l7Fire.f n g tok k = some ([], (false, ()))) := by
  unfold l7Fire.f l1Copy.f
  rw [chk_true (by have := hf.len; have := hf.few; have : maxB = 140737488355328 := rfl; simp; omega)]
  simp only [Option.bind_some, List.nil_append]
  have hlen := hf.len
  have hfew := hf.few
  have := upd_loop tok (fun i m => m - takes k (g.2.getD i zEdge)) (canAt g tok k) (some (([] : List Int), (false, ()))) (fun ys => some (ys.mapIdx (fun i m => m + makes k (g.2.getD i zEdge)), (true, ()))) (n := n)
    (F := fun ih15 x14 => br (decide (x14.1 < (g.2.length : Int))) (chk (0 ≤ x14.1 ∧ x14.1 < (g.2.length : Int)) (let v16 := (g.2.getD x14.1.toNat zEdge); br (decide (v16.2.1 = k)) (chk (0 ≤ x14.1 ∧ x14.1 < (x14.2.1.length : Int)) (br (decide ((x14.2.1.getD x14.1.toNat 0) < v16.2.2.2.1)) (some ([], (false, ()))) (chk (0 ≤ x14.1 ∧ x14.1 < (x14.2.1.length : Int)) (chk (0 ≤ x14.1 ∧ x14.1 < (x14.2.1.length : Int)) (let v17 := (x14.2.1.set x14.1.toNat (w64 ((x14.2.1.getD x14.1.toNat 0) - v16.2.2.2.1))); ih15 ((w64 (x14.1 + 1)), (v17, ()))))))) (ih15 ((w64 (x14.1 + 1)), (x14.2.1, ()))))) (iter (α := (Int × (List Int) × Unit)) n (fun ih26 x25 => br (decide (x25.1 < (g.2.length : Int))) (chk (0 ≤ x25.1 ∧ x25.1 < (g.2.length : Int)) (let v27 := (g.2.getD x25.1.toNat zEdge); br (decide (v27.1 = k)) (chk (0 ≤ x25.1 ∧ x25.1 < (x25.2.1.length : Int)) (chk (0 ≤ x25.1 ∧ x25.1 < (x25.2.1.length : Int)) (let v28 := (x25.2.1.set x25.1.toNat (w64 ((x25.2.1.getD x25.1.toNat 0) + v27.2.2.1))); ih26 ((w64 (x25.1 + 1)), (v28, ()))))) (ih26 ((w64 (x25.1 + 1)), (x25.2.1, ()))))) (some (x25.2.1, (true, ())))) (0, (x14.2.1, ()))))
    (fun ih i hi ys hy hyi => by
      have h1 : (i : Int) < (g.2.length : Int) := by omega
      have h2 : 0 ≤ (i : Int) ∧ (i : Int) < (ys.length : Int) := by omega
      have hyd : ys.getD i 0 = tok[i] := by rw [List.getD_eq_getElem?_getD, hyi]; rfl
      have htd : tok.getD i 0 = tok[i] := getD_lt hi 0
      have hb := hf.tok i hi
      have he := hf.edge i (by omega)
      rw [htd] at hb
      simp only [h1, decide_true, br_true, Int.toNat_natCast, hyd]
      rw [chk_true (by simp)]
      unfold canAt takes
      rw [htd]
      by_cases hk : (g.2.getD i zEdge).2.1 = k
      · simp only [hk, decide_true, br_true, Bool.true_and, if_true]
        rw [chk_true h2]
        by_cases hlt : tok[i] < (g.2.getD i zEdge).2.2.2.1
        · simp only [hlt, decide_true, br_true, Bool.not_true, Bool.false_eq_true, if_false]
        · simp only [hlt, decide_false, br_false, Bool.not_false, if_true]
          rw [chk_true h2, chk_true h2, w64_succ (by omega), w64_id (by omega) (by omega)]
      · simp only [hk, decide_false, br_false, Bool.false_and, Bool.not_false, if_true, if_false, Int.sub_zero]
        rw [w64_succ (by omega)]
        have : ys.set i tok[i] = ys := by
          refine List.ext_getElem? (fun j => ?_)
          rw [List.getElem?_set]
          split
          · rename_i hj; subst hj; rw [hyi]; simp; omega
          · rfl
        rw [this])
    (fun hcan ih => by
      have h1 : ¬ ((tok.length : Int) < (g.2.length : Int)) := by omega
      simp only [h1, decide_false, br_false]
      generalize hys : tok.mapIdx (fun i m => m - takes k (g.2.getD i zEdge)) = ys
      have hyl : ys.length = tok.length := by rw [← hys]; simp
      have hyb : ∀ i (hi : i < ys.length), -10 ≤ ys[i] ∧ ys[i] ≤ 1000000000 := by
        intro i hi
        have hi' : i < tok.length := by omega
        have hb := hf.tok i hi'
        have he := hf.edge i (by omega)
        rw [getD_lt hi'] at hb
        subst hys
        simp only [List.getElem_mapIdx]
        unfold takes
        split <;> omega
      have hk2 := upd_loop ys (fun i m => m + makes k (g.2.getD i zEdge)) (fun _ => true) none (fun ys => some (ys, (true, ()))) (n := n)
        (F := fun ih26 x25 => br (decide (x25.1 < (g.2.length : Int))) (chk (0 ≤ x25.1 ∧ x25.1 < (g.2.length : Int)) (let v27 := (g.2.getD x25.1.toNat zEdge); br (decide (v27.1 = k)) (chk (0 ≤ x25.1 ∧ x25.1 < (x25.2.1.length : Int)) (chk (0 ≤ x25.1 ∧ x25.1 < (x25.2.1.length : Int)) (let v28 := (x25.2.1.set x25.1.toNat (w64 ((x25.2.1.getD x25.1.toNat 0) + v27.2.2.1))); ih26 ((w64 (x25.1 + 1)), (v28, ()))))) (ih26 ((w64 (x25.1 + 1)), (x25.2.1, ()))))) (some (x25.2.1, (true, ()))))
        (fun ih i hi zs hz hzi => by
          have h1 : (i : Int) < (g.2.length : Int) := by omega
          have h2 : 0 ≤ (i : Int) ∧ (i : Int) < (zs.length : Int) := by omega
          have hzd : zs.getD i 0 = ys[i] := by rw [List.getD_eq_getElem?_getD, hzi]; rfl
          have hb := hyb i hi
          have he := hf.edge i (by omega)
          simp only [h1, decide_true, br_true, Int.toNat_natCast, hzd, if_true]
          rw [chk_true (by simp)]
          unfold makes
          by_cases hk : (g.2.getD i zEdge).1 = k
          · simp only [hk, decide_true, br_true, if_true]
            rw [chk_true h2, chk_true h2, w64_succ (by omega), w64_id (by omega) (by omega)]
          · simp only [hk, decide_false, br_false, if_false, Int.add_zero]
            rw [w64_succ (by omega)]
            have : zs.set i ys[i] = zs := by
              refine List.ext_getElem? (fun j => ?_)
              rw [List.getElem?_set]
              split
              · rename_i hj; subst hj; rw [hzi]; simp; omega
              · rfl
            rw [this])
        (fun _ ih => by
          have h1 : ¬ ((ys.length : Int) < (g.2.length : Int)) := by omega
          simp only [h1, decide_false, br_false]) (by omega)
      exact hk2.1 (fun _ _ => rfl)) hn
  refine ⟨fun h => ?_, fun h => this.2 h⟩
  rw [this.1 h]
  simp only [List.mapIdx_mapIdx]
  rfl

theorem after_bound {g : Graph} {tok : List Int} {k : Int} (hf : Fine g tok) : True := trivial

theorem fire_spec {n : Nat} {g : Graph} {tok : List Int} {k : Int} (hf : Fine g tok) (hk : 0 ≤ k ∧ k < g.1) (hn : tok.length < n) :
    ((∀ i, i < tok.length → canAt g tok k i = true) → fire.f n g tok k = some (true, (after g tok k, ()))) ∧ (¬ (∀ i, i < tok.length → canAt g tok k i = true) → fire.f n g tok k = some (false, (tok, ()))) := by
  have hlen := hf.len
  have hfew := hf.few
  have a1 : ¬ (k < 0) := by omega
  have a2 : ¬ (g.1 ≤ k) := by omega
  unfold fire.f
  simp only [a1, a2, decide_false, br_false]
  have second := upd_loop tok (fun i m => m - takes k (g.2.getD i zEdge) + makes k (g.2.getD i zEdge)) (fun _ => true) none (fun ys => some (true, (ys, ()))) (n := n)
    (F := fun ih25 x24 => br (decide (x24.1 < (g.2.length : Int))) (chk (0 ≤ x24.1 ∧ x24.1 < (g.2.length : Int)) (let v26 := (g.2.getD x24.1.toNat zEdge); cut (α := ((List Int) × Unit)) (br (decide (v26.2.1 = k)) (chk (0 ≤ x24.1 ∧ x24.1 < (x24.2.1.length : Int)) (chk (0 ≤ x24.1 ∧ x24.1 < (x24.2.1.length : Int)) (let v29 := (x24.2.1.set x24.1.toNat (w64 ((x24.2.1.getD x24.1.toNat 0) - v26.2.2.2.1))); some (.inr (v29, ()))))) (some (.inr (x24.2.1, ())))) fun y28 => br (decide (v26.1 = k)) (chk (0 ≤ x24.1 ∧ x24.1 < (y28.1.length : Int)) (chk (0 ≤ x24.1 ∧ x24.1 < (y28.1.length : Int)) (let v30 := (y28.1.set x24.1.toNat (w64 ((y28.1.getD x24.1.toNat 0) + v26.2.2.1))); ih25 ((w64 (x24.1 + 1)), (v30, ()))))) (ih25 ((w64 (x24.1 + 1)), (y28.1, ()))))) (some (true, (x24.2.1, ()))))
    (fun ih i hi zs hz hzi => by
      have h1 : (i : Int) < (g.2.length : Int) := by omega
      have h2 : 0 ≤ (i : Int) ∧ (i : Int) < (zs.length : Int) := by omega
      have hzd : zs.getD i 0 = tok[i] := by rw [List.getD_eq_getElem?_getD, hzi]; rfl
      have hb := hf.tok i hi
      rw [getD_lt hi] at hb
      have he := hf.edge i (by omega)
      have same : ∀ (x : Int), x = tok[i] → zs.set i x = zs := by
        intro x hx
        subst hx
        refine List.ext_getElem? (fun j => ?_)
        rw [List.getElem?_set]
        split
        · rename_i hj; subst hj; rw [hzi]; simp; omega
        · rfl
      simp only [h1, decide_true, br_true, Int.toNat_natCast, hzd, if_true]
      rw [chk_true (by simp)]
      unfold takes makes
      by_cases c1 : (g.2.getD i zEdge).2.1 = k
      · simp only [c1, decide_true, br_true, if_true]
        rw [chk_true h2, chk_true h2, w64_id (by omega) (by omega)]
        simp only [cut, Option.bind_some, List.length_set]
        have hg : (zs.set i (tok[i] - (g.2.getD i zEdge).2.2.2.1)).getD i 0 = tok[i] - (g.2.getD i zEdge).2.2.2.1 := by
          rw [getD_lt (by simp; omega)]; simp
        by_cases c2 : (g.2.getD i zEdge).1 = k
        · simp only [c2, decide_true, br_true, if_true, hg]
          rw [chk_true h2, chk_true h2, w64_succ (by omega), w64_id (by omega) (by omega), List.set_set]
        · simp only [c2, decide_false, br_false, if_false, Int.add_zero]
          rw [w64_succ (by omega)]
      · simp only [c1, decide_false, br_false, if_false, Int.sub_zero]
        simp only [cut, Option.bind_some]
        by_cases c2 : (g.2.getD i zEdge).1 = k
        · simp only [c2, decide_true, br_true, if_true, hzd]
          rw [chk_true h2, chk_true h2, w64_succ (by omega), w64_id (by omega) (by omega)]
        · simp only [c2, decide_false, br_false, if_false, Int.add_zero]
          rw [w64_succ (by omega), same _ rfl])
    (fun _ ih => by
      have h1 : ¬ ((tok.length : Int) < (g.2.length : Int)) := by omega
      simp only [h1, decide_false, br_false]) hn
  refine chk_loop tok.length (canAt g tok k) (some (false, (tok, ()))) (some (true, (after g tok k, ())))
    (fun ih i hi => ?_) (fun ih => ?_) hn
  · have h1 : (i : Int) < (g.2.length : Int) := by omega
    have h2 : 0 ≤ (i : Int) ∧ (i : Int) < (tok.length : Int) := by omega
    simp only [h1, decide_true, br_true, Int.toNat_natCast]
    rw [chk_true (by simp)]
    unfold canAt
    by_cases c1 : (g.2.getD i zEdge).2.1 = k
    · simp only [c1, decide_true, br_true, Bool.true_and]
      rw [chk_true h2]
      by_cases hlt : tok.getD i 0 < (g.2.getD i zEdge).2.2.2.1
      · simp only [hlt, decide_true, br_true, Bool.not_true, Bool.false_eq_true, if_false]
      · simp only [hlt, decide_false, br_false, Bool.not_false, if_true]
        rw [w64_succ (by omega)]
    · simp only [c1, decide_false, br_false, Bool.false_and, Bool.not_false, if_true]
      rw [w64_succ (by omega)]
  · have h1 : ¬ ((tok.length : Int) < (g.2.length : Int)) := by omega
    simp only [h1, decide_false, br_false]
    exact second.1 (fun _ _ => rfl)


theorem cloneI_spec {n : Nat} {a : List Int} (hl : a.length ≤ 1048576) : cloneI.f n a = some (a, ()) := by
  unfold cloneI.f
  rw [chk_true (by have : maxB = 140737488355328 := rfl; simp; omega)]
  simp

theorem markGraph_spec {n : Nat} {g : Graph} (hl : g.2.length ≤ 1048576) (hn : g.2.length < n) : ∃ ys, markGraph.f n g 1 = some (1 + 5 * (g.2.length : Int), (ys, ())) := by
  obtain ⟨ys, h⟩ := markEdgeS_spec (k := 1) (by omega) hl hn
  exact ⟨ys, by unfold markGraph.f; rw [h]; rfl⟩


/-! ### runs -/
def toks (g : Graph) : List Int := g.2.map fun e => e.2.2.2.2

theorem tok_loop {a : List Edge} {F : (Int × List Int × Unit → Option (List Int × Unit)) → Int × List Int × Unit → Option (List Int × Unit)}
    (hF : ∀ ih (i : Nat) (hi : i < a.length) (ys : List Int), ys.length = i → F ih ((i : Int), (ys, ())) = ih (((i + 1 : Nat) : Int), (ys ++ [a[i].2.2.2.2], ())))
    (hE : ∀ ih (ys : List Int), F ih ((a.length : Int), (ys, ())) = some (ys, ())) {n : Nat} (hn : a.length < n) : iter n F (0, ([], ())) = some (a.map (fun e => e.2.2.2.2), ()) := by
  have := iter_upG (F := F) (fun i (s : List Int) => ((i : Int), (s, ()))) a.length
    (fun i s o => s = (a.take i).map (fun e => e.2.2.2.2) → o = some (a.map (fun e => e.2.2.2.2), ()))
    (fun ih s hs => by rw [hE, hs, List.take_length])
    (fun ih i s hi h hs => by
      have hl : s.length = i := by rw [hs]; simp; omega
      rw [hF ih i hi s hl]
      refine h _ ?_
      rw [hs, List.take_succ_eq_append_getElem hi, List.map_append]
      rfl)
    n 0 [] (Nat.zero_le _) (by omega) rfl
  simpa using this

theorem l7Tokens_spec {n : Nat} {g : Graph} (hl : g.2.length ≤ 1048576) (hn : g.2.length < n) : l7Tokens.f n g = some (toks g, ()) := by
  unfold l7Tokens.f
  refine tok_loop (a := g.2) (fun ih i hi ys hy => ?_) (fun ih ys => ?_) hn
  · have h1 : (i : Int) < (g.2.length : Int) := by omega
    simp only [h1, decide_true, br_true, Int.toNat_natCast, getD_lt hi]
    rw [chk_true (by simp), chk_true (by have : maxB = 140737488355328 := rfl; simp; omega), w64_succ (by omega)]
  · simp [br]

theorem first_spec {n : Nat} {g : Graph} (hl : g.2.length ≤ 1048576) (hn : g.2.length < n) : first.f n g = some (toks g, ()) := by
  unfold first.f
  refine tok_loop (a := g.2) (fun ih i hi ys hy => ?_) (fun ih ys => ?_) hn
  · have h1 : (i : Int) < (g.2.length : Int) := by omega
    simp only [h1, decide_true, br_true, Int.toNat_natCast, getD_lt hi]
    rw [chk_true (by simp), chk_true (by have : maxB = 140737488355328 := rfl; simp; omega), w64_succ (by omega)]
  · simp [br]

def peak (pk t : List Int) : List Int := pk.mapIdx fun i p => max p (t.getD i 0)

open Classical in
noncomputable def runP (g : Graph) : List Int → List Int → List Int → Option (List Int × List Int)
  | [], tok, pk => some (tok, pk)
  | k :: ks, tok, pk => if (0 ≤ k ∧ k < g.1) ∧ (∀ i, i < tok.length → canAt g tok k i = true) then runP g ks (after g tok k) (peak pk (after g tok k)) else none

def res (o : Option (List Int × List Int)) : Option (List Int × List Int × Bool × Unit) := match o with
  | some (t, p) => some (t, (p, (true, ())))
  | none => some ([], ([], (false, ())))

structure RInv (g : Graph) (i : Nat) (tok pk : List Int) : Prop where
  len : tok.length = g.2.length
  pk : pk.length = g.2.length
  bd : ∀ j, j < tok.length → 0 ≤ tok.getD j 0 ∧ tok.getD j 0 ≤ 50 + 5 * (i : Int)

theorem fine_run {g : Graph} (h1 : okG g = true) {i : Nat} (hi : i ≤ 1600) {tok pk : List Int} (R : RInv g i tok pk) : Fine g tok := by
  unfold okG at h1
  simp only [Bool.and_eq_true, decide_eq_true_eq] at h1
  obtain ⟨⟨-, b⟩, c⟩ := h1
  refine ⟨R.len, b, fun j hj => ?_, fun j hj => ?_⟩
  · have := R.bd j hj; omega
  · rw [getD_lt hj]
    have := List.all_eq_true.1 c _ (List.getElem_mem hj)
    unfold okE at this
    simp only [Bool.and_eq_true, decide_eq_true_eq] at this
    omega

theorem rinv_step {g : Graph} (h1 : okG g = true) {i : Nat} (hi : i < 1600) {tok pk : List Int} (R : RInv g i tok pk) {k : Int} (hc : ∀ i, i < tok.length → canAt g tok k i = true) :
    RInv g (i + 1) (after g tok k) (peak pk (after g tok k)) := by
  have hf := fine_run h1 (Nat.le_of_lt hi) R
  have hlen : (after g tok k).length = tok.length := by simp [after]
  refine ⟨by rw [hlen, R.len], by simp [peak, R.pk], fun j hj => ?_⟩
  have hj' : j < tok.length := by omega
  have hb := R.bd j hj'
  have he := hf.edge j (by rw [← R.len]; exact hj')
  have hcan := hc j hj'
  rw [getD_lt hj]
  rw [getD_lt hj'] at hb
  simp only [after, List.getElem_mapIdx]
  unfold canAt at hcan
  rw [getD_lt hj'] at hcan
  unfold takes makes
  by_cases c1 : (g.2.getD j zEdge).2.1 = k
  · rw [if_pos c1]
    have : ¬ (tok[j] < (g.2.getD j zEdge).2.2.2.1) := by
      intro hh
      simp only [c1, hh, decide_true, Bool.and_self, Bool.not_true] at hcan
      exact Bool.noConfusion hcan
    split <;> omega
  · rw [if_neg c1]
    split <;> omega

theorem start_inv {g : Graph} (hok : okG g = true) : RInv g 0 (toks g) (toks g) := by
  refine ⟨by simp [toks], by simp [toks], fun j hj => ?_⟩
  rw [getD_lt hj]
  unfold okG at hok
  simp only [Bool.and_eq_true, decide_eq_true_eq] at hok
  have hj' : j < g.2.length := by simpa [toks] using hj
  have := List.all_eq_true.1 hok.2 _ (List.getElem_mem hj')
  unfold okE at this
  simp only [Bool.and_eq_true, decide_eq_true_eq] at this
  simp only [toks, List.getElem_map]
  omega

theorem runP_len {g : Graph} (h1 : okG g = true) : ∀ (ks tok pk : List Int) (i : Nat), i + ks.length ≤ 1600 → RInv g i tok pk → ∀ t p, runP g ks tok pk = some (t, p) → t.length = g.2.length ∧ p.length = g.2.length
  | [], tok, pk, i, hi, R, t, p, h => by
    simp only [runP, Option.some.injEq, Prod.mk.injEq] at h
    rw [← h.1, ← h.2]
    exact ⟨R.len, R.pk⟩
  | k :: ks, tok, pk, i, hi, R, t, p, h => by
    simp only [List.length_cons] at hi
    simp only [runP] at h
    split at h
    · rename_i hc
      exact runP_len h1 ks _ _ (i + 1) (by omega) (rinv_step h1 (by omega) R hc.2) t p h
    · simp at h

/-- the inner loop: peaks -/
theorem peak_loop {ρ : Type} {t pk : List Int} {K : List Int → Option ρ} {F : (Int × List Int × Unit → Option ρ) → Int × List Int × Unit → Option ρ} (hl : pk.length = t.length)
    (hF : ∀ ih (i : Nat) (hi : i < t.length) (ys : List Int), ys.length = t.length → F ih ((i : Int), (ys, ())) = ih (((i + 1 : Nat) : Int), (ys.set i (max (ys.getD i 0) (t.getD i 0)), ())))
    (hE : ∀ ih (ys : List Int), ys.length = t.length → F ih ((t.length : Int), (ys, ())) = K ys) {n : Nat} (hn : t.length < n) : iter n F (0, (pk, ())) = K (peak pk t) := by
  refine (upd_loop pk (fun i p => max p (t.getD i 0)) (fun _ => true) none K (fun ih i hi ys hy hyi => ?_) (fun _ ih => ?_) (by omega)).1 (fun _ _ => rfl)
  · have hyd : ys.getD i 0 = pk[i] := by rw [List.getD_eq_getElem?_getD, hyi]; rfl
    rw [hF ih i (by omega) ys (by omega), hyd]
    rfl
  · rw [hl]
    exact hE ih _ (by simp [hl])

theorem sRun_loop {n : Nat} {g : Graph} {ks : List Int} (hok : okG g = true) (hk : ks.length ≤ 1600) (hng : g.2.length < n) (hnk : ks.length < n) :
    iter (α := (Int × (List Int) × (List Int) × Unit)) n (fun ih44 x43 => br (decide (x43.1 < (ks.length : Int))) (chk (0 ≤ x43.1 ∧ x43.1 < (ks.length : Int)) ((l1In.f n (ks.getD x43.1.toNat 0) 0 (w64 (g.1 - 1))).bind fun r45 => br (!r45.1) (some ([], ([], (false, ())))) ((l7Fire.f n g x43.2.1 (ks.getD x43.1.toNat 0)).bind fun r46 => br (!r46.2.1) (some ([], ([], (false, ())))) (iter (α := (Int × (List Int) × Unit)) n (fun ih48 x47 => br (decide (x47.1 < (r46.1.length : Int))) (chk (0 ≤ x47.1 ∧ x47.1 < (r46.1.length : Int)) (chk (0 ≤ x47.1 ∧ x47.1 < (x47.2.1.length : Int)) (chk (0 ≤ x47.1 ∧ x47.1 < (x47.2.1.length : Int)) (let v49 := (x47.2.1.set x47.1.toNat (max (x47.2.1.getD x47.1.toNat 0) (r46.1.getD x47.1.toNat 0))); ih48 ((w64 (x47.1 + 1)), (v49, ())))))) (ih44 ((w64 (x43.1 + 1)), (r46.1, (x47.2.1, ()))))) (0, (x43.2.2.1, ())))))) (some (x43.2.1, (x43.2.2.1, (true, ()))))) (0, (toks g, (toks g, ()))) = res (runP g ks (toks g) (toks g)) := by
  have hg := hok
  unfold okG at hg
  simp only [Bool.and_eq_true, decide_eq_true_eq] at hg
  obtain ⟨⟨hnodes, hfew⟩, hed⟩ := hg
  have e1 : w64 (g.1 - 1) = g.1 - 1 := w64_id (by omega) (by omega)
  refine iter_upG (fun i (s : List Int × List Int) => ((i : Int), (s.1, (s.2, ())))) ks.length (fun i s o => RInv g i s.1 s.2 → o = res (runP g (ks.drop i) s.1 s.2))
    (fun ih s R => ?_) (fun ih i s hi h R => ?_) n 0 (toks g, toks g) (Nat.zero_le _) (by omega) (start_inv hok)
  · have h1 : ¬ ((ks.length : Int) < (ks.length : Int)) := by omega
    simp only [h1, decide_false, br_false, List.drop_length, runP, res]
  · have h1 : (i : Int) < (ks.length : Int) := by omega
    have hf := fine_run hok (by omega : i ≤ 1600) R
    have hd : ks.drop i = ks[i] :: ks.drop (i + 1) := List.drop_eq_getElem_cons hi
    simp only [h1, decide_true, br_true, Int.toNat_natCast, getD_lt hi, l1In_spec, Option.bind_some, e1]
    rw [chk_true (by simp), hd]
    generalize ks[i] = k
    obtain ⟨tok, pk⟩ := s
    simp only at R hf h ⊢
    simp only [runP]
    by_cases hkr : 0 ≤ k ∧ k ≤ g.1 - 1
    · have hkr' : 0 ≤ k ∧ k < g.1 := by omega
      simp only [hkr.1, hkr.2, decide_true, Bool.and_self, Bool.not_true, br_false]
      obtain ⟨p1, p2⟩ := l7Fire_spec (n := n) (k := k) hf (by rw [R.len]; exact hng)
      by_cases hc : ∀ i, i < tok.length → canAt g tok k i = true
      · rw [p1 hc, if_pos ⟨⟨trivial, hkr'.2⟩, hc⟩]
        simp only [Option.bind_some, Bool.not_true, br_false]
        have R2 := rinv_step hok (by omega) R hc
        have hal : (after g tok k).length = g.2.length := R2.len
        have := peak_loop (t := after g tok k) (pk := pk) (n := n) (K := fun ys => ih (((i + 1 : Nat) : Int), (after g tok k, (ys, ())))) (by rw [R.pk, hal])
          (F := fun ih48 x47 => br (decide (x47.1 < ((after g tok k).length : Int))) (chk (0 ≤ x47.1 ∧ x47.1 < ((after g tok k).length : Int)) (chk (0 ≤ x47.1 ∧ x47.1 < (x47.2.1.length : Int)) (chk (0 ≤ x47.1 ∧ x47.1 < (x47.2.1.length : Int)) (let v49 := (x47.2.1.set x47.1.toNat (max (x47.2.1.getD x47.1.toNat 0) ((after g tok k).getD x47.1.toNat 0))); ih48 ((w64 (x47.1 + 1)), (v49, ())))))) (ih ((w64 ((i : Int) + 1)), (after g tok k, (x47.2.1, ())))))
          (fun ih2 j hj ys hy => by
            have h3 : (j : Int) < ((after g tok k).length : Int) := by omega
            have h4 : 0 ≤ (j : Int) ∧ (j : Int) < (ys.length : Int) := by omega
            simp only [h3, decide_true, br_true, Int.toNat_natCast]
            rw [chk_true (by simp), chk_true h4, chk_true h4, w64_succ (by omega)])
          (fun ih2 ys hy => by
            have h3 : ¬ (((after g tok k).length : Int) < ((after g tok k).length : Int)) := by omega
            simp only [h3, decide_false, br_false]
            rw [w64_succ (by omega)]) (by omega)
        rw [this]
        exact h (after g tok k, peak pk (after g tok k)) R2
      · rw [p2 hc, if_neg (fun hh => hc hh.2)]
        rfl
    · have hkr' : (decide (0 ≤ k) && decide (k ≤ g.1 - 1)) = false := by
        rw [← Bool.not_eq_true]; simpa using hkr
      simp only [hkr', Bool.not_false, br_true]
      rw [if_neg (fun hh => hkr (by omega))]
      rfl

theorem iRun_loop {n : Nat} {g : Graph} {ks : List Int} (hok : okG g = true) (hk : ks.length ≤ 1600) (hng : g.2.length < n) (hnk : ks.length < n) :
    iter (α := (Int × (List Int) × (List Int) × Unit)) n (fun ih42 x41 => br (decide (x41.1 < (ks.length : Int))) (chk (0 ≤ x41.1 ∧ x41.1 < (ks.length : Int)) ((fire.f n g x41.2.1 (ks.getD x41.1.toNat 0)).bind fun r43 => br (!r43.1) (some ([], ([], (false, ())))) (iter (α := (Int × (List Int) × Unit)) n (fun ih45 x44 => br (decide (x44.1 < (r43.2.1.length : Int))) (chk (0 ≤ x44.1 ∧ x44.1 < (r43.2.1.length : Int)) (chk (0 ≤ x44.1 ∧ x44.1 < (x44.2.1.length : Int)) (chk (0 ≤ x44.1 ∧ x44.1 < (x44.2.1.length : Int)) (let v46 := (x44.2.1.set x44.1.toNat (max (x44.2.1.getD x44.1.toNat 0) (r43.2.1.getD x44.1.toNat 0))); ih45 ((w64 (x44.1 + 1)), (v46, ())))))) (ih42 ((w64 (x41.1 + 1)), (r43.2.1, (x44.2.1, ()))))) (0, (x41.2.2.1, ()))))) (some (x41.2.1, (x41.2.2.1, (true, ()))))) (0, (toks g, (toks g, ()))) = res (runP g ks (toks g) (toks g)) := by
  have hg := hok
  unfold okG at hg
  simp only [Bool.and_eq_true, decide_eq_true_eq] at hg
  obtain ⟨⟨hnodes, hfew⟩, hed⟩ := hg
  refine iter_upG (fun i (s : List Int × List Int) => ((i : Int), (s.1, (s.2, ())))) ks.length (fun i s o => RInv g i s.1 s.2 → o = res (runP g (ks.drop i) s.1 s.2))
    (fun ih s R => ?_) (fun ih i s hi h R => ?_) n 0 (toks g, toks g) (Nat.zero_le _) (by omega) (start_inv hok)
  · have h1 : ¬ ((ks.length : Int) < (ks.length : Int)) := by omega
    simp only [h1, decide_false, br_false, List.drop_length, runP, res]
  · have h1 : (i : Int) < (ks.length : Int) := by omega
    have hf := fine_run hok (by omega : i ≤ 1600) R
    have hd : ks.drop i = ks[i] :: ks.drop (i + 1) := List.drop_eq_getElem_cons hi
    simp only [h1, decide_true, br_true, Int.toNat_natCast, getD_lt hi]
    rw [chk_true (by simp), hd]
    generalize ks[i] = k
    obtain ⟨tok, pk⟩ := s
    simp only at R hf h ⊢
    simp only [runP]
    by_cases hkr : 0 ≤ k ∧ k < g.1
    · obtain ⟨p1, p2⟩ := fire_spec (n := n) (k := k) hf hkr (by rw [R.len]; exact hng)
      by_cases hc : ∀ i, i < tok.length → canAt g tok k i = true
      · rw [p1 hc, if_pos ⟨hkr, hc⟩]
        simp only [Option.bind_some, Bool.not_true, br_false]
        have R2 := rinv_step hok (by omega) R hc
        have hal : (after g tok k).length = g.2.length := R2.len
        have := peak_loop (t := after g tok k) (pk := pk) (n := n) (K := fun ys => ih (((i + 1 : Nat) : Int), (after g tok k, (ys, ())))) (by rw [R.pk, hal])
          (F := fun ih48 x47 => br (decide (x47.1 < ((after g tok k).length : Int))) (chk (0 ≤ x47.1 ∧ x47.1 < ((after g tok k).length : Int)) (chk (0 ≤ x47.1 ∧ x47.1 < (x47.2.1.length : Int)) (chk (0 ≤ x47.1 ∧ x47.1 < (x47.2.1.length : Int)) (let v49 := (x47.2.1.set x47.1.toNat (max (x47.2.1.getD x47.1.toNat 0) ((after g tok k).getD x47.1.toNat 0))); ih48 ((w64 (x47.1 + 1)), (v49, ())))))) (ih ((w64 ((i : Int) + 1)), (after g tok k, (x47.2.1, ())))))
          (fun ih2 j hj ys hy => by
            have h3 : (j : Int) < ((after g tok k).length : Int) := by omega
            have h4 : 0 ≤ (j : Int) ∧ (j : Int) < (ys.length : Int) := by omega
            simp only [h3, decide_true, br_true, Int.toNat_natCast]
            rw [chk_true (by simp), chk_true h4, chk_true h4, w64_succ (by omega)])
          (fun ih2 ys hy => by
            have h3 : ¬ (((after g tok k).length : Int) < ((after g tok k).length : Int)) := by omega
            simp only [h3, decide_false, br_false]
            rw [w64_succ (by omega)]) (by omega)
        rw [this]
        exact h (after g tok k, peak pk (after g tok k)) R2
      · rw [p2 hc, if_neg (fun hh => hc hh.2)]
        rfl
    · have hfi : fire.f n g tok k = some (false, (tok, ())) := by
        unfold fire.f
        by_cases c1 : k < 0
        · simp [c1, br]
        · have c2 : g.1 ≤ k := by omega
          simp [c1, c2, br]
      rw [hfi, if_neg (fun hh => hkr hh.1)]
      rfl


theorem run_same {n : Nat} {g : Graph} {ks : List Int} (hg : g.2.length ≤ 1048576) (hng : g.2.length < n) (hnk : ks.length < n) :
    ∃ (t p : List Int) (b : Bool), sRunFirings.f n g ks = some (t, (p, (b, ()))) ∧ iRunFirings.f n g ks = some (t, (p, (b, ()))) ∧ (t.length ≤ 16 ∧ t.length < n) ∧ (p.length ≤ 16 ∧ p.length < n) := by
  unfold sRunFirings.f iRunFirings.f
  rw [sIsGraph_spec hg hng, iIsGraph_spec hg hng]
  simp only [Option.bind_some]
  cases hok : okG g with
  | false => exact ⟨[], [], false, rfl, rfl, by simp; omega, by simp; omega⟩
  | true =>
    have hfew : g.2.length ≤ 16 := by
      unfold okG at hok
      simp only [Bool.and_eq_true, decide_eq_true_eq] at hok
      exact hok.1.2
    by_cases hk : ks.length ≤ 1600
    · have hk' : ¬ (1600 < (ks.length : Int)) := by omega
      have hcl : cloneI.f n (toks g) = some (toks g, ()) := cloneI_spec (by simp [toks]; omega)
      simp only [Bool.not_true, br_false, hk', decide_false, l7Tokens_spec hg hng, first_spec hg hng, hcl, Option.bind_some]
      rw [sRun_loop hok hk hng hnk, iRun_loop hok hk hng hnk]
      cases hr : runP g ks (toks g) (toks g) with
      | none => exact ⟨[], [], false, rfl, rfl, by simp; omega, by simp; omega⟩
      | some tp =>
        obtain ⟨t, p⟩ := tp
        obtain ⟨l1, l2⟩ := runP_len hok ks _ _ 0 (by omega) (start_inv hok) t p hr
        exact ⟨t, p, true, rfl, rfl, by omega, by omega⟩
    · have hk' : (1600 < (ks.length : Int)) := by omega
      simp only [Bool.not_true, br_false, hk', decide_true, br_true]
      exact ⟨[], [], false, rfl, rfl, by simp; omega, by simp; omega⟩

theorem law_true (g : Graph) (ks : List Int) (h : g.2.length ≤ maxLen) (h' : ks.length ≤ maxLen) : ∃ n, law.f n g ks = some (true, ()) := by
  by_cases ht : ks.length ≤ 1048576
  · have ht' : ¬ (1048576 < (ks.length : Int)) := by omega
    by_cases hl : g.2.length ≤ 1048576
    · refine ⟨g.2.length + ks.length + 1, ?_⟩
      generalize hN : g.2.length + ks.length + 1 = n
      have hng : g.2.length < n := by omega
      have hnt : ks.length < n := by omega
      have e1 : w64 (1048576 - (g.2.length : Int)) = 1048576 - (g.2.length : Int) := w64_id (by omega) (by omega)
      have e2 : ¬ (1048576 - (g.2.length : Int) < 0) := by omega
      obtain ⟨t, p, b, s1, s2, ⟨t1, t2⟩, ⟨p1, p2⟩⟩ := run_same (ks := ks) hl hng hnt
      obtain ⟨ys, m1⟩ := markGraph_spec hl hng
      have m2 := markIntS_spec (n := n) (a := ks) (k := 1 + 5 * (g.2.length : Int)) (by omega) ht hnt
      have m3 := markIntS_spec (n := n) (a := t) (k := 1) (by omega) (by omega) t2
      have m4 := markIntS_spec (n := n) (a := p) (k := 1 + (t.length : Int)) (by omega) (by omega) p2
      have m5 := heldIntS_spec (n := n) (m := t.length) (k := 1) (by omega) (by omega) t2
      have m6 := heldIntS_spec (n := n) (m := p.length) (k := 1 + (t.length : Int)) (by omega) (by omega) p2
      have n1 : ¬ (1 + 5 * (g.2.length : Int) + (ks.length : Int) < 0) := by omega
      have n2 : ¬ (1 + (t.length : Int) < 0) := by omega
      have n3 : ¬ (1 + (t.length : Int) + (p.length : Int) < 0) := by omega
      have q1 := eqIntS_refl (n := n) (a := t) (by omega) t2
      have q2 := eqIntS_refl (n := n) (a := p) (by omega) p2
      unfold law.f szGraph.f szEdgeS.f
      simp only [ht', e1, e2, decide_false, br_false, Option.bind_some, toGraph_spec hl hng, toIntS_spec ht hnt, s1, s2, q1, q2, Bool.not_true, decide_true, eqGraph_refl hl hng, eqIntS_refl ht hnt,
        m1, m2, n1, m3, m4, m5, m6, n2, n3]
    · refine ⟨0, ?_⟩
      have hm : maxLen = 9223372036854775807 := by decide
      have e1 : w64 (1048576 - (g.2.length : Int)) = 1048576 - (g.2.length : Int) := w64_id (by omega) (by omega)
      have e2 : (1048576 - (g.2.length : Int) < 0) := by omega
      have e3 : ((-1 : Int) < 0) := by omega
      unfold law.f szGraph.f szEdgeS.f
      simp only [ht', e1, e2, e3, decide_true, decide_false, br_true, br_false, Option.bind_some]
  · have ht' : (1048576 < (ks.length : Int)) := by omega
    exact ⟨0, by unfold law.f; simp [ht', br]⟩

end Go.AmT
