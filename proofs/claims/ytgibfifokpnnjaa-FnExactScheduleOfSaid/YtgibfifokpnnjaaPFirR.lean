/- Runs of firings, in plain Lean. -/
import Derived.Test.YtgibfifokpnnjaaLFirR
import Derived.Test.YtgibfifokpnnjaaPFireA
namespace Go.AmT
open Go Go.Am
set_option linter.unusedVariables false
set_option linter.unusedSimpArgs false

/-! ### runs -/
def toks (g : Graph) : List Int := g.2.map fun e => e.2.2.2.2

theorem tok_loop {a : List Edge} {F : (Int × List Int × Unit → Option (List Int × Unit)) → Int × List Int × Unit → Option (List Int × Unit)}
    (hF : ∀ ih (i : Nat) (hi : i < a.length) (ys : List Int), ys.length = i → F ih ((i : Int), (ys, ())) = ih (((i + 1 : Nat) : Int), (ys ++ [a[i].2.2.2.2], ())))
    (hE : ∀ ih (ys : List Int), F ih ((a.length : Int), (ys, ())) = some (ys, ())) {n : Nat} (hn : a.length < n) : iter n F (0, ([], ())) = some (a.map (fun e => e.2.2.2.2), ()) := by
  have := iter_upG (F := F) (fun i (s : List Int) => ((i : Int), (s, ()))) a.length
    (fun i s o => s = (a.take i).map (fun e => e.2.2.2.2) → o = some (a.map (fun e => e.2.2.2.2), ()))
    (fun ih s hs => by rw [hE, hs, List.take_length])
    (fun ih i s hi h hs => by
      have hl : s.length = i := by rw [hs]; simp; omega
      rw [hF ih i hi s hl]
      refine h _ ?_
      rw [hs, List.take_succ_eq_append_getElem hi, List.map_append]
      rfl)
    n 0 [] (Nat.zero_le _) (by omega) rfl
  simpa using this

theorem l7Tokens_spec {n : Nat} {g : Graph} (hl : g.2.length ≤ 1048576) (hn : g.2.length < n) : l7Tokens.f n g = some (toks g, ()) := by
  unfold l7Tokens.f
  refine tok_loop (a := g.2) (fun ih i hi ys hy => ?_) (fun ih ys => ?_) hn
  · have h1 : (i : Int) < (g.2.length : Int) := by omega
    simp only [h1, decide_true, br_true, Int.toNat_natCast, getD_lt hi]
    rw [chk_true (by simp), chk_true (by have : maxB = 140737488355328 := rfl; simp; omega), w64_succ (by omega)]
  · simp [br]

theorem first_spec {n : Nat} {g : Graph} (hl : g.2.length ≤ 1048576) (hn : g.2.length < n) : first.f n g = some (toks g, ()) := by
  unfold first.f
  refine tok_loop (a := g.2) (fun ih i hi ys hy => ?_) (fun ih ys => ?_) hn
  · have h1 : (i : Int) < (g.2.length : Int) := by omega
    simp only [h1, decide_true, br_true, Int.toNat_natCast, getD_lt hi]
    rw [chk_true (by simp), chk_true (by have : maxB = 140737488355328 := rfl; simp; omega), w64_succ (by omega)]
  · simp [br]

def peak (pk t : List Int) : List Int := pk.mapIdx fun i p => max p (t.getD i 0)

open Classical in
structure RInv (g : Graph) (i : Nat) (tok pk : List Int) : Prop where
  len : tok.length = g.2.length
  pk : pk.length = g.2.length
  bd : ∀ j, j < tok.length → 0 ≤ tok.getD j 0 ∧ tok.getD j 0 ≤ 50 + 5 * (i : Int)

theorem fine_run {g : Graph} (h1 : okG g = true) {i : Nat} (hi : i ≤ 1600) {tok pk : List Int} (R : RInv g i tok pk) : Fine g tok := by
  unfold okG at h1
  simp only [Bool.and_eq_true, decide_eq_true_eq] at h1
  obtain ⟨⟨-, b⟩, c⟩ := h1
  refine ⟨R.len, b, fun j hj => ?_, fun j hj => ?_⟩
  · have := R.bd j hj; omega
  · rw [getD_lt hj]
    have := List.all_eq_true.1 c _ (List.getElem_mem hj)
    unfold okE at this
    simp only [Bool.and_eq_true, decide_eq_true_eq] at this
    omega

theorem rinv_step {g : Graph} (h1 : okG g = true) {i : Nat} (hi : i < 1600) {tok pk : List Int} (R : RInv g i tok pk) {k : Int} (hc : ∀ i, i < tok.length → canAt g tok k i = true) :
    RInv g (i + 1) (after g tok k) (peak pk (after g tok k)) := by
  have hf := fine_run h1 (Nat.le_of_lt hi) R
  have hlen : (after g tok k).length = tok.length := by simp [after]
  refine ⟨by rw [hlen, R.len], by simp [peak, R.pk], fun j hj => ?_⟩
  have hj' : j < tok.length := by omega
  have hb := R.bd j hj'
  have he := hf.edge j (by rw [← R.len]; exact hj')
  have hcan := hc j hj'
  rw [getD_lt hj]
  rw [getD_lt hj'] at hb
  simp only [after, List.getElem_mapIdx]
  unfold canAt at hcan
  rw [getD_lt hj'] at hcan
  unfold takes makes
  by_cases c1 : (g.2.getD j zEdge).2.1 = k
  · rw [if_pos c1]
    have : ¬ (tok[j] < (g.2.getD j zEdge).2.2.2.1) := by
      intro hh
      simp only [c1, hh, decide_true, Bool.and_self, Bool.not_true] at hcan
      exact Bool.noConfusion hcan
    split <;> omega
  · rw [if_neg c1]
    split <;> omega

theorem start_inv {g : Graph} (hok : okG g = true) : RInv g 0 (toks g) (toks g) := by
  refine ⟨by simp [toks], by simp [toks], fun j hj => ?_⟩
  rw [getD_lt hj]
  unfold okG at hok
  simp only [Bool.and_eq_true, decide_eq_true_eq] at hok
  have hj' : j < g.2.length := by simpa [toks] using hj
  have := List.all_eq_true.1 hok.2 _ (List.getElem_mem hj')
  unfold okE at this
  simp only [Bool.and_eq_true, decide_eq_true_eq] at this
  simp only [toks, List.getElem_map]
  omega

end Go.AmT
