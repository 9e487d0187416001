/- Runs of firings, in plain Lean. -/
import Derived.Test.YtfcehikkpoeebaaLFirR
import Derived.Test.YtfcehikkpoeebaaPGr
import Derived.Test.YtfcehikkpoeebaaPFireC
import Derived.Test.YtfcehikkpoeebaaPCopy
namespace Go.AmT
open Go Go.Am
set_option linter.unusedVariables false
set_option linter.unusedSimpArgs false

/-! ### runs -/
def toks (g : Graph) : List Int := g.2.map fun e => e.2.2.2.2

theorem tok_loop {a : List Edge} {F : (Int × List Int × Unit → Option (List Int × Unit)) → Int × List Int × Unit → Option (List Int × Unit)}
    (hF : ∀ ih (i : Nat) (hi : i < a.length) (ys : List Int), ys.length = i → F ih ((i : Int), (ys, ())) = ih (((i + 1 : Nat) : Int), (ys ++ [a[i].2.2.2.2], ())))
    (hE : ∀ ih (ys : List Int), F ih ((a.length : Int), (ys, ())) = some (ys, ())) {n : Nat} (hn : a.length < n) : iter n F (0, ([], ())) = some (a.map (fun e => e.2.2.2.2), ()) := by
  have := iter_upG (F := F) (fun i (s : List Int) => ((i : Int), (s, ()))) a.length
    (fun i s o => s = (a.take i).map (fun e => e.2.2.2.2) → o = some (a.map (fun e => e.2.2.2.2), ()))
    (fun ih s hs => by rw [hE, hs, List.take_length])
    (fun ih i s hi h hs => by
      have hl : s.length = i := by rw [hs]; simp; omega
      rw [hF ih i hi s hl]
      refine h _ ?_
      rw [hs, List.take_succ_eq_append_getElem hi, List.map_append]
      rfl)
    n 0 [] (Nat.zero_le _) (by omega) rfl
  simpa using this

theorem l7Tokens_spec {n : Nat} {g : Graph} (hl : g.2.length ≤ 1048576) (hn : g.2.length < n) : l7Tokens.f n g = some (toks g, ()) := by
  unfold l7Tokens.f
  refine tok_loop (a := g.2) (fun ih i hi ys hy => ?_) (fun ih ys => ?_) hn
  · have h1 : (i : Int) < (g.2.length : Int) := by omega
    simp only [h1, decide_true, br_true, Int.toNat_natCast, getD_lt hi]
    rw [chk_true (by simp), chk_true (by have : maxB = 140737488355328 := rfl; simp; omega), w64_succ (by omega)]
  · simp [br]

theorem first_spec {n : Nat} {g : Graph} (hl : g.2.length ≤ 1048576) (hn : g.2.length < n) : first.f n g = some (toks g, ()) := by
  unfold first.f
  refine tok_loop (a := g.2) (fun ih i hi ys hy => ?_) (fun ih ys => ?_) hn
  · have h1 : (i : Int) < (g.2.length : Int) := by omega
    simp only [h1, decide_true, br_true, Int.toNat_natCast, getD_lt hi]
    rw [chk_true (by simp), chk_true (by have : maxB = 140737488355328 := rfl; simp; omega), w64_succ (by omega)]
  · simp [br]

def peak (pk t : List Int) : List Int := pk.mapIdx fun i p => max p (t.getD i 0)

open Classical in
noncomputable def runP (g : Graph) : List Int → List Int → List Int → Option (List Int × List Int)
  | [], tok, pk => some (tok, pk)
  | k :: ks, tok, pk => if (0 ≤ k ∧ k < g.1) ∧ (∀ i, i < tok.length → canAt g tok k i = true) then runP g ks (after g tok k) (peak pk (after g tok k)) else none

def res (o : Option (List Int × List Int)) : Option (List Int × List Int × Bool × Unit) := match o with
  | some (t, p) => some (t, (p, (true, ())))
  | none => some ([], ([], (false, ())))

structure RInv (g : Graph) (i : Nat) (tok pk : List Int) : Prop where
  len : tok.length = g.2.length
  pk : pk.length = g.2.length
  bd : ∀ j, j < tok.length → 0 ≤ tok.getD j 0 ∧ tok.getD j 0 ≤ 50 + 5 * (i : Int)

theorem fine_run {g : Graph} (h1 : okG g = true) {i : Nat} (hi : i ≤ 1600) {tok pk : List Int} (R : RInv g i tok pk) : Fine g tok := by
  unfold okG at h1
  simp only [Bool.and_eq_true, decide_eq_true_eq] at h1
  obtain ⟨⟨-, b⟩, c⟩ := h1
  refine ⟨R.len, b, fun j hj => ?_, fun j hj => ?_⟩
  · have := R.bd j hj; omega
  · rw [getD_lt hj]
    have := List.all_eq_true.1 c _ (List.getElem_mem hj)
    unfold okE at this
    simp only [Bool.and_eq_true, decide_eq_true_eq] at this
    omega

theorem rinv_step {g : Graph} (h1 : okG g = true) {i : Nat} (hi : i < 1600) {tok pk : List Int} (R : RInv g i tok pk) {k : Int} (hc : ∀ i, i < tok.length → canAt g tok k i = true) :
    RInv g (i + 1) (after g tok k) (peak pk (after g tok k)) := by
  have hf := fine_run h1 (Nat.le_of_lt hi) R
  have hlen : (after g tok k).length = tok.length := by simp [after]
  refine ⟨by rw [hlen, R.len], by simp [peak, R.pk], fun j hj => ?_⟩
  have hj' : j < tok.length := by omega
  have hb := R.bd j hj'
  have he := hf.edge j (by rw [← R.len]; exact hj')
  have hcan := hc j hj'
  rw [getD_lt hj]
  rw [getD_lt hj'] at hb
  simp only [after, List.getElem_mapIdx]
  unfold canAt at hcan
  rw [getD_lt hj'] at hcan
  unfold takes makes
  by_cases c1 : (g.2.getD j zEdge).2.1 = k
  · rw [if_pos c1]
    have : ¬ (tok[j] < (g.2.getD j zEdge).2.2.2.1) := by
      intro hh
      simp only [c1, hh, decide_true, Bool.and_self, Bool.not_true] at hcan
      exact Bool.noConfusion hcan
    split <;> omega
  · rw [if_neg c1]
    split <;> omega

theorem start_inv {g : Graph} (hok : okG g = true) : RInv g 0 (toks g) (toks g) := by
  refine ⟨by simp [toks], by simp [toks], fun j hj => ?_⟩
  rw [getD_lt hj]
  unfold okG at hok
  simp only [Bool.and_eq_true, decide_eq_true_eq] at hok
  have hj' : j < g.2.length := by simpa [toks] using hj
  have := List.all_eq_true.1 hok.2 _ (List.getElem_mem hj')
  unfold okE at this
  simp only [Bool.and_eq_true, decide_eq_true_eq] at this
  simp only [toks, List.getElem_map]
  omega

/-- the inner loop: peaks -/
theorem peak_loop {ρ : Type} {t pk : List Int} {K : List Int → Option ρ} {F : (Int × List Int × Unit → Option ρ) → Int × List Int × Unit → Option ρ} (hl : pk.length = t.length)
    (hF : ∀ ih (i : Nat) (hi : i < t.length) (ys : List Int), ys.length = t.length → F ih ((i : Int), (ys, ())) = ih (((i + 1 : Nat) : Int), (ys.set i (max (ys.getD i 0) (t.getD i 0)), ())))
    (hE : ∀ ih (ys : List Int), ys.length = t.length → F ih ((t.length : Int), (ys, ())) = K ys) {n : Nat} (hn : t.length < n) : iter n F (0, (pk, ())) = K (peak pk t) := by
  refine (upd_loop pk (fun i p => max p (t.getD i 0)) (fun _ => true) none K (fun ih i hi ys hy hyi => ?_) (fun _ ih => ?_) (by omega)).1 (fun _ _ => rfl)
  · have hyd : ys.getD i 0 = pk[i] := by rw [List.getD_eq_getElem?_getD, hyi]; rfl
    rw [hF ih i (by omega) ys (by omega), hyd]
    rfl
  · rw [hl]
    exact hE ih _ (by simp [hl])

theorem iRun_loop {n : Nat} {g : Graph} {ks : List Int} (hok : okG g = true) (hk : ks.length ≤ 1600) (hng : g.2.length < n) (hnk : ks.length < n) :
    iter (α := (Int × (List Int) × (List Int) × Unit)) n (fun ih42 x41 => br (decide (x41.1 < (ks.length : Int))) (chk (0 ≤ x41.1 ∧ x41.1 < (ks.length : Int)) ((fire.f n g x41.2.1 (ks.getD x41.1.toNat 0)).bind fun r43 => br (!r43.1) (some ([], ([], (false, ())))) (iter (α := (Int × (List Int) × Unit)) n (fun ih45 x44 => br (decide (x44.1 < (r43.2.1.length : Int))) (chk (0 ≤ x44.1 ∧ x44.1 < (r43.2.1.length : Int)) (chk (0 ≤ x44.1 ∧ x44.1 < (x44.2.1.length : Int)) (chk (0 ≤ x44.1 ∧ x44.1 < (x44.2.1.length : Int)) (let v46 := (x44.2.1.set x44.1.toNat (max (x44.2.1.getD x44.1.toNat 0) (r43.2.1.getD x44.1.toNat 0))); ih45 ((w64 (x44.1 + 1)), (v46, ())))))) (ih42 ((w64 (x41.1 + 1)), (r43.2.1, (x44.2.1, ()))))) (0, (x41.2.2.1, ()))))) (some (x41.2.1, (x41.2.2.1, (true, ()))))) (0, (toks g, (toks g, ()))) = res (runP g ks (toks g) (toks g)) := by
  have hg := hok
  unfold okG at hg
  simp only [Bool.and_eq_true, decide_eq_true_eq] at hg
  obtain ⟨⟨hnodes, hfew⟩, hed⟩ := hg
  refine iter_upG (fun i (s : List Int × List Int) => ((i : Int), (s.1, (s.2, ())))) ks.length (fun i s o => RInv g i s.1 s.2 → o = res (runP g (ks.drop i) s.1 s.2))
    (fun ih s R => ?_) (fun ih i s hi h R => ?_) n 0 (toks g, toks g) (Nat.zero_le _) (by omega) (start_inv hok)
  · have h1 : ¬ ((ks.length : Int) < (ks.length : Int)) := by omega
    simp only [h1, decide_false, br_false, List.drop_length, runP, res]
  · have h1 : (i : Int) < (ks.length : Int) := by omega
    have hf := fine_run hok (by omega : i ≤ 1600) R
    have hd : ks.drop i = ks[i] :: ks.drop (i + 1) := List.drop_eq_getElem_cons hi
    simp only [h1, decide_true, br_true, Int.toNat_natCast, getD_lt hi]
    rw [chk_true (by simp), hd]
    generalize ks[i] = k
    obtain ⟨tok, pk⟩ := s
    simp only at R hf h ⊢
    simp only [runP]
    by_cases hkr : 0 ≤ k ∧ k < g.1
    · obtain ⟨p1, p2⟩ := fire_spec (n := n) (k := k) hf hkr (by rw [R.len]; exact hng)
      by_cases hc : ∀ i, i < tok.length → canAt g tok k i = true
      · rw [p1 hc, if_pos ⟨hkr, hc⟩]
        simp only [Option.bind_some, Bool.not_true, br_false]
        have R2 := rinv_step hok (by omega) R hc
        have hal : (after g tok k).length = g.2.length := R2.len
        have := peak_loop (t := after g tok k) (pk := pk) (n := n) (K := fun ys => ih (((i + 1 : Nat) : Int), (after g tok k, (ys, ())))) (by rw [R.pk, hal])
          (F := fun ih48 x47 => br (decide (x47.1 < ((after g tok k).length : Int))) (chk (0 ≤ x47.1 ∧ x47.1 < ((after g tok k).length : Int)) (chk (0 ≤ x47.1 ∧ x47.1 < (x47.2.1.length : Int)) (chk (0 ≤ x47.1 ∧ x47.1 < (x47.2.1.length : Int)) (let v49 := (x47.2.1.set x47.1.toNat (max (x47.2.1.getD x47.1.toNat 0) ((after g tok k).getD x47.1.toNat 0))); ih48 ((w64 (x47.1 + 1)), (v49, ())))))) (ih ((w64 ((i : Int) + 1)), (after g tok k, (x47.2.1, ())))))
          (fun ih2 j hj ys hy => by
            have h3 : (j : Int) < ((after g tok k).length : Int) := by omega
            have h4 : 0 ≤ (j : Int) ∧ (j : Int) < (ys.length : Int) := by omega
            simp only [h3, decide_true, br_true, Int.toNat_natCast]
            rw [chk_true (by simp), chk_true h4, chk_true h4, w64_succ (by omega)])
          (fun ih2 ys hy => by
            have h3 : ¬ (((after g tok k).length : Int) < ((after g tok k).length : Int)) := by omega
            simp only [h3, decide_false, br_false]
            rw [w64_succ (by omega)]) (by omega)
        rw [this]
        exact h (after g tok k, peak pk (after g tok k)) R2
      · rw [p2 hc, if_neg (fun hh => hc hh.2)]
        rfl
    · have hfi : fire.f n g tok k = some (false, (tok, ())) := by
        unfold fire.f
        by_cases c1 : k < 0
        · simp [c1, br, cut]
        · have c2 : g.1 ≤ k := by omega
          simp [c1, c2, br, cut]
      rw [hfi, if_neg (fun hh => hkr hh.1)]
      rfl



theorem iRunFirings_spec {n : Nat} {g : Graph} {ks : List Int} (hok : okG g = true) (hk : ks.length ≤ 1600) (hn : 1048576 < n) : iRunFirings.f n g ks = res (runP g ks (toks g) (toks g)) := by
  have hfew : g.2.length ≤ 16 := by
    unfold okG at hok
    simp only [Bool.and_eq_true, decide_eq_true_eq] at hok
    exact hok.1.2
  unfold iRunFirings.f
  rw [iIsGraph_spec (by omega) (by omega), hok]
  have hk' : ¬ (1600 < (ks.length : Int)) := by omega
  have hcl : cloneI.f n (toks g) = some (toks g, ()) := cloneI_spec (by simp [toks]; omega)
  simp only [bind_unit, Bool.not_true, br_false, hk', decide_false, first_spec (n := n) (g := g) (by omega) (by omega), hcl]
  exact iRun_loop hok hk (by omega) (by omega)
end Go.AmT
