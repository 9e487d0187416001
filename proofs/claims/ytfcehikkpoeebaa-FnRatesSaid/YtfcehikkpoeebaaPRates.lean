/- The network of a graph of rates at work: the law. -/
import Derived.Test.YtfcehikkpoeebaaLRates
import Derived.Test.YtfcehikkpoeebaaPRateK
import Derived.Test.YtfcehikkpoeebaaPGrW
import Derived.Test.YtfcehikkpoeebaaPCopy
namespace Go.AmT
open Go Go.Am
set_option linter.unusedVariables false
set_option linter.unusedSimpArgs false

theorem runP_pre {g : Graph} : ∀ (l tok pk : List Int) {x : List Int × List Int}, runP g l tok pk = some x → x.1 = l.foldl (after g) tok ∧
    (∀ (i : Nat) (hi : i < l.length), (0 ≤ l[i] ∧ l[i] < g.1) ∧ ∀ j, j < ((l.take i).foldl (after g) tok).length → canAt g ((l.take i).foldl (after g) tok) l[i] j = true) ∧
    (∀ i, ∃ p, runP g (l.take i) tok pk = some ((l.take i).foldl (after g) tok, p))
  | [], tok, pk, x, h => by
    simp only [runP, Option.some.injEq] at h
    subst h
    exact ⟨rfl, fun i hi => absurd hi (by simp), fun i => ⟨pk, by simp [runP]⟩⟩
  | k :: ks, tok, pk, x, h => by
    simp only [runP] at h
    split at h
    · rename_i hc
      obtain ⟨h1, h2, h3⟩ := runP_pre ks _ _ h
      refine ⟨h1, fun i hi => ?_, fun i => ?_⟩
      · cases i with
        | zero => exact hc
        | succ i => simp only [List.length_cons] at hi; exact h2 i (by omega)
      · cases i with
        | zero => exact ⟨pk, by simp [runP]⟩
        | succ i =>
          obtain ⟨p, e⟩ := h3 i
          refine ⟨p, ?_⟩
          simp only [List.take_succ_cons, runP, List.foldl_cons]
          rw [if_pos hc]; exact e
    · simp at h

def tokI (g : Graph) (l : List Int) (i : Nat) : List Int := (l.take i).foldl (after g) (toks g)
def sntI (g : Graph) (l : List Int) (i : Nat) (j : Nat) : Int := (g.2.getD j zEdge).2.2.2.2 + (((l.take i).count (g.2.getD j zEdge).1 : Nat) : Int) * (g.2.getD j zEdge).2.2.1
theorem fold_len {g : Graph} : ∀ (l tok : List Int), (l.foldl (after g) tok).length = tok.length
  | [], tok => rfl
  | k :: l, tok => by rw [List.foldl_cons, fold_len l, after_len]
theorem tokI_len {g : Graph} {l : List Int} {i : Nat} : (tokI g l i).length = g.2.length := by unfold tokI; rw [fold_len]; simp [toks]
theorem tokI_succ {g : Graph} {l : List Int} {i : Nat} (hi : i < l.length) : tokI g l (i + 1) = after g (tokI g l i) l[i] := by
  unfold tokI; rw [List.take_succ_eq_append_getElem hi, List.foldl_append]; rfl
theorem Bas.congr {g : Graph} {tk : List Int} {snt snt' : Nat → Int} {st0 : Int} {s : State} (h : Bas g tk snt st0 s) (e : ∀ j, j < g.2.length → snt j = snt' j) : Bas g tk snt' st0 s :=
  ⟨h.ok, h.act, h.que, h.zer, fun j hj => by rw [← e j hj]; exact h.sen j hj, h.stp⟩

theorem start_bas {g : Graph} (hg : okG g = true) (o : OkN (netG g)) (l : List Int) : Bas g (tokI g l 0) (sntI g l 0) 0 (start (netG g)) := by
  obtain ⟨g0, g8, g16, ge⟩ := okG_un hg
  have q : ∀ j, j < g.2.length → (start (netG g)).2.1.getD j [] = List.replicate (g.2.getD j zEdge).2.2.2.2.toNat 0 := by
    intro j hj
    simp only [start, netG]
    rw [getD_lt (by simpa using hj)]
    simp [lnkAt]
  have q2 : (start (netG g)).2.2.1 = (start (netG g)).2.1 := rfl
  refine ⟨start_ok o, fun i hi => ?_, fun j hj => ?_, fun j hj x hx => ?_, fun j hj => ?_, rfl⟩
  · unfold actor start
    simp only
    rw [getD_lt (by simpa [netG] using hi)]
    simp; rfl
  · rw [q j hj, List.length_replicate]
    have := ge _ (List.getElem_mem hj)
    simp only [tokI, List.take_zero, List.foldl_nil, toks]
    rw [getD_lt hj, getD_lt (by simpa using hj), List.getElem_map]; omega
  · rw [q j hj] at hx; exact List.eq_of_mem_replicate hx
  · rw [q2, q j hj, List.length_replicate]
    have := ge _ (List.getElem_mem hj)
    simp only [sntI, List.take_zero, List.count_nil]
    rw [getD_lt hj]; omega

theorem law_true (code : List Int) (hcode : InR (.sl U8) code) : ∃ n, law.f n code = some (true, ()) := by
  obtain ⟨n, hn⟩ : ∃ n : Nat, 1000000000000 < n := ⟨1000000000001, by omega⟩
  refine ⟨n, ?_⟩
  have hn' : 1048576 < n := by omega
  unfold law.f
  by_cases hl : code.length ≤ 1048576
  rotate_left
  · rw [br_yes (by omega)]
  rw [br_no (show ¬ (1048576 < (code.length : Int)) by omega)]
  refine W_eq.1 ?_
  rw [W_bind]
  refine W_and (graph_W hl hn') (fun r1 hg => ?_)
  obtain ⟨g, ⟨⟩⟩ := r1
  have hg : okG g = true := hg
  obtain ⟨g0, g8, g16, ge⟩ := okG_un hg
  obtain ⟨r, x, s1, h1, h3, h4⟩ := sSched_eq (n := n) (g := g) hg hn
  simp only
  rw [iNetworkOf_spec (by omega) hn', sNetworkOf_spec (by omega) hn', s1]
  simp only [bind_unit, Option.bind_some, decide_true, Bool.not_true, br_false]
  obtain ⟨xq, xb, ⟨⟩⟩ := x
  obtain ⟨rl, rb, ⟨⟩⟩ := r
  simp only at h1 h3 h4
  by_cases hok : okN (netG g) = true
  rotate_left
  · have e : netOf g = (([], []), (false, ())) := by unfold netOf; rw [if_neg (by simp [hok])]
    rw [e]
    simp only [Bool.not_false, br_true, cut_inr]
    exact W_some.2 rfl
  have o : OkN (netG g) := of_decide_eq_true hok
  have e : netOf g = (netG g, (true, ())) := by unfold netOf; rw [if_pos (by simp [hg, hok])]
  rw [e]
  simp only [Bool.not_true, br_false]
  cases rb with
  | false =>
    simp only [Bool.not_false, br_true, cut_inr]
    exact W_some.2 rfl
  | true =>
    have xt : xb = true := by
      cases xb with
      | true => rfl
      | false => have := h3 rfl; simp at this
    subst xt
    obtain ⟨-, ql, ha, hb, hle⟩ := h1.resolve_right (fun h => absurd h.1 (by simp))
    simp only at ql ha hb hle
    have h4 := h4 rfl
    have sb := sum_bd (q := xq) (fun i hi => by have := hle i (by omega); omega)
    have len := schedF_len (g := g) xq.sum.toNat xq (toks g) []
    rw [← h4] at len
    simp only [List.length_nil] at len
    obtain ⟨l, e1, e2, e3, t, p, e4, e5, e6, e7⟩ := schedF_run hg xq.sum.toNat xq (toks g) (toks g) [] rl ql (fun i hi => by have := hle i (by omega); omega) (by omega) (by simp [toks]) (by simp [toks]) h4.symm
    simp only [List.nil_append] at e1
    subst e1
    obtain ⟨f1, f2, f3⟩ := runP_pre rl _ _ e4
    have hsm := netG_small hg
    have nl := netG_len (g := g)
    simp only [Bool.not_true, br_false]
    rw [sIsNetwork_spec hsm hn', hok]
    simp only [bind_unit, Option.bind_some, Bool.not_true, br_false]
    rw [decide_eq_true (show (((netG g).1.length : Nat) : Int) = g.1 by rw [nl.1]; omega), decide_eq_true (show (((netG g).2.length : Nat) : Int) = (g.2.length : Int) by rw [nl.2])]
    simp only [Bool.not_true, br_false, cut_inr]
    have mB : (maxB : Int) = 140737488355328 := rfl
    have mBn : maxB = 140737488355328 := rfl
    rw [chk_true (by refine ⟨?_, g0, ?_⟩ <;> first | trivial | omega)]
    refine W_up (fun i (s : List Int) => ((i : Int), (s, ()))) rl.length (fun i s => s.length = g.1.toNat ∧ ∀ j : Nat, j < g.1.toNat → qf s j = ((rl.take i).count (j : Int) : Int)) (s0 := List.replicate g.1.toNat 0) rfl
      ⟨by simp, fun j hj => by unfold qf; rw [getD_lt (by simpa using hj)]; simp⟩ (by omega) (fun ih c hI => ?_) (fun ih i c hi hI hS => ?_)
    rotate_left
    · obtain ⟨cl, cc⟩ := hI
      simp only [br_yes (show (i : Int) < (rl.length : Int) by omega), Int.toNat_natCast, getD_lt hi]
      have hk := e2 _ (List.getElem_mem hi)
      have htk : rl.take (i + 1) = rl.take i ++ [rl[i]] := List.take_succ_eq_append_getElem hi
      generalize rl[i] = k at *
      rw [chk_true (by omega), chk_true (by omega), chk_true (by omega), w64_succ (by omega)]
      have ck := cc k.toNat (by omega)
      have cle := List.count_le_length (a := ((k.toNat : Nat) : Int)) (l := rl.take i)
      rw [List.length_take] at cle
      rw [show c.getD k.toNat 0 = qf c k.toNat from rfl, ck, w64_id (by omega) (by omega)]
      refine hS _ ⟨by simpa using cl, fun j hj => ?_⟩
      rw [qf_set (by omega), htk, List.count_append, List.count_singleton]
      by_cases e : j = k.toNat
      · have : (k == (j : Int)) = true := by simp; omega
        rw [if_pos e, if_pos this, e]; omega
      · have : ¬ (k == (j : Int)) = true := by simp; omega
        rw [if_neg e, if_neg this, cc j hj]; omega
    obtain ⟨cl, cc⟩ := hI
    rw [List.take_length] at cc
    have cx : c = xq := by
      refine List.ext_getElem (by omega) (fun j h1 h2 => ?_)
      have a := cc j (by omega)
      have b := e3 j (by omega)
      unfold qf at a b
      rw [getD_lt h1] at a
      rw [getD_lt h2] at b
      omega
    subst cx
    simp only [br_no (Int.lt_irrefl _)]
    refine W_chkloop g.2.length (fun i => decide (¬ (400 < (g.2.getD i zEdge).2.2.2.2 + qf c (g.2.getD i zEdge).1.toNat * (g.2.getD i zEdge).2.2.1))) (bad := some (true, ())) (fun ih i hi => ?_) (fun ih => br_no (Int.lt_irrefl _)) (by omega) (fun hfew => ?_) (fun _ _ _ => W_some.2 rfl)
    · obtain ⟨⟨a1, a2⟩, ⟨t1, t2⟩, ⟨m1, m2⟩, ⟨k1, k2⟩, ⟨u1, u2⟩⟩ := ge _ (List.getElem_mem hi)
      simp only [br_yes (show (i : Int) < (g.2.length : Int) by omega), Int.toNat_natCast, getD_lt hi]
      generalize g.2[i] = e at *
      have ba := hle e.1.toNat (by omega)
      have ma : qf c e.1.toNat * e.2.2.1 ≤ qf c e.1.toNat * 5 := Int.mul_le_mul_of_nonneg_left m2 (by omega)
      have na : 0 ≤ qf c e.1.toNat * e.2.2.1 := Int.mul_nonneg (by omega) (by omega)
      rw [chk_true (by omega), chk_true (by omega), show c.getD e.1.toNat 0 = qf c e.1.toNat from rfl, w64_id (n := qf c e.1.toNat * e.2.2.1) (by omega) (by omega), w64_id (n := e.2.2.2.2 + qf c e.1.toNat * e.2.2.1) (by omega) (by omega), w64_succ (by omega)]
      by_cases hc : 400 < e.2.2.2.2 + qf c e.1.toNat * e.2.2.1
      · rw [br_yes hc, if_neg (by simp only [decide_eq_true_eq]; omega)]
      · rw [br_no hc, if_pos (by simp only [decide_eq_true_eq]; omega)]
    rw [iStartState_spec hsm o hn']
    simp only [bind_unit, Option.bind_some]
    rw [W_bind]
    refine W_and (lawAt_W hl hcode (by omega)) (fun r43 ⟨v0, v1⟩ => ?_)
    obtain ⟨v, ⟨⟩⟩ := r43
    simp only at v0 v1
    simp only
    rw [w64_id (n := (rl.length : Int) + 1) (by omega) (by omega), if_neg (by omega)]
    have ct0 := Int.tmod_nonneg (a := v) ((rl.length : Int) + 1) v0
    have ct1 := Int.tmod_lt_of_pos v (b := (rl.length : Int) + 1) (by omega)
    generalize v.tmod ((rl.length : Int) + 1) = ct at *
    have cnt_le : ∀ (i : Nat) (j : Nat), j < g.2.length → i ≤ rl.length → sntI g rl i j ≤ 400 := by
      intro i j hj hi
      have := hfew j hj
      simp only [decide_eq_true_eq] at this
      obtain ⟨⟨a1, a2⟩, ⟨t1, t2⟩, ⟨m1, m2⟩, -⟩ := ge _ (List.getElem_mem hj)
      unfold sntI
      rw [getD_lt hj] at *
      generalize g.2[j] = e at *
      have q := e3 e.1.toNat (by omega)
      rw [show ((e.1.toNat : Nat) : Int) = e.1 by omega] at q
      have sub := (List.take_sublist i rl).count_le (a := e.1)
      have mm : (((rl.take i).count e.1 : Nat) : Int) * e.2.2.1 ≤ qf c e.1.toNat * e.2.2.1 := Int.mul_le_mul_of_nonneg_right (by omega) (by omega)
      omega
    have snt_succ : ∀ (i : Nat) (hi : i < rl.length) (j : Nat), j < g.2.length → sntI g rl i j + makes rl[i] (g.2.getD j zEdge) = sntI g rl (i + 1) j := by
      intro i hi j hj
      unfold sntI makes
      rw [List.take_succ_eq_append_getElem hi, List.count_append, List.count_singleton]
      by_cases e : (g.2.getD j zEdge).1 = rl[i]
      · rw [if_pos e, if_pos (by simpa using e.symm), Int.natCast_add, Int.add_mul]; simp; omega
      · rw [if_neg e, if_neg (by simpa using fun h => e h.symm)]; simp
    refine W_up (fun i (s : State) => ((i : Int), (s.2.2.2, (s.1, (s.2.1, (s.2.2.1, ())))))) rl.length (fun i s => ∃ st0, Bas g (tokI g rl i) (sntI g rl i) st0 s) (s0 := start (netG g)) rfl ⟨0, start_bas hg o rl⟩ (by omega) (fun ih s hI => ?_) (fun ih i s hi hI hS => ?_)
    · -- the end
      obtain ⟨st0, B⟩ := hI
      have sms := small_of_ok B.ok
      have na := B.ok.na
      have nq := B.ok.nq
      simp only [br_no (Int.lt_irrefl _)]
      rw [show (s.1, (s.2.1, (s.2.2.1, s.2.2.2))) = s from rfl, sIsState_spec hsm sms hn', okSt_true B.ok]
      simp only [bind_unit, Option.bind_some, Bool.not_true, br_false]
      have tE : tokI g rl rl.length = t := by unfold tokI; rw [List.take_length]; exact f1.symm
      refine W_chkloop g.2.length (fun _ => true) (bad := some (false, ())) (fun ih i hi => ?_) (fun ih => br_no (Int.lt_irrefl _)) (by omega) (fun _ => ?_) (fun i hi h => by simp at h)
      · obtain ⟨a1, a2⟩ := e7 i hi
        have tg : (toks g).getD i 0 = (g.2.getD i zEdge).2.2.2.2 := by
          rw [getD_lt hi, getD_lt (by simpa [toks] using hi)]; simp [toks]
        have bal := hb _ (List.getElem_mem hi)
        have qu := B.que i hi
        rw [tE] at qu
        rw [getD_lt hi] at a1 tg
        simp only [br_yes (show (i : Int) < (g.2.length : Int) by omega), Int.toNat_natCast, getD_lt hi, if_true]
        rw [chk_true (by omega), chk_true (by rw [nq, nl.2]; omega)]
        rw [decide_eq_true (show (((s.2.1.getD i []).length : Nat) : Int) = g.2[i].2.2.2.2 by omega)]
        simp only [Bool.not_true, br_false]
        rw [w64_succ (by omega)]
      · refine W_chkloop s.1.length (fun _ => true) (bad := some (false, ())) (fun ih i hi => ?_) (fun ih => br_no (Int.lt_irrefl _)) (by omega) (fun _ => W_some.2 rfl) (fun i hi h => by simp at h)
        have hiN : i < (netG g).1.length := by omega
        have ac := B.act i (by rw [← nl.1]; exact hiN)
        unfold actor at ac
        simp only [br_yes (show (i : Int) < (s.1.length : Int) by omega), Int.toNat_natCast, if_true]
        rw [chk_true (by omega), chk_true (by omega), getD_lt hiN, sNewActor_spec (hsm.prog _ (List.getElem_mem hiN)) (o.prog i hiN) hn']
        simp only [ac, bind_unit, Option.bind_some, newA, decide_true, Bool.not_true, br_false]
        rw [intsF_spec (by simp) hn']
        simp only [bind_unit, Option.bind_some, Bool.not_true, br_false]
        rw [w64_succ (by omega)]
    · -- a firing
      obtain ⟨st0, B⟩ := hI
      have sms := small_of_ok B.ok
      have nq := B.ok.nq
      have hk := e2 _ (List.getElem_mem hi)
      obtain ⟨-, hcan⟩ := f2 i hi
      have hcan : ∀ j, j < (tokI g rl i).length → canAt g (tokI g rl i) rl[i] j = true := hcan
      have ss := snt_succ i hi
      have ts := tokI_succ (g := g) hi
      simp only [br_yes (show (i : Int) < (rl.length : Int) by omega), Int.toNat_natCast, getD_lt hi]
      rw [chk_true (by omega)]
      refine W_cut_of () ?_ ?_
      · by_cases ec : (i : Int) = ct
        · rw [br_yes ec, chk_true (by omega)]
          have et : (rl.drop 0).take (ct.toNat - 0) = rl.take i := by simp; congr 1; omega
          obtain ⟨p', ep⟩ := f3 i
          rw [et, iRunFirings_spec hg (by rw [List.length_take]; omega) hn', ep]
          have tl : ((rl.take i).foldl (after g) (toks g)).length = s.2.1.length := by rw [nq, nl.2]; exact tokI_len (g := g) (l := rl) (i := i)
          simp only [res, bind_unit, Option.bind_some, Bool.not_true, br_false, tl, decide_true, cut_inr]
          refine (chk_loop s.2.1.length (fun _ => true) (some (Sum.inl (false, ())) : Option (Sum (Bool × Unit) Unit)) (some (Sum.inr ())) (fun ih j hj => ?_) (fun ih => br_no (Int.lt_irrefl _)) (by rw [nq, nl.2]; omega)).1 (fun _ _ => rfl)
          have qu := B.que j (by rw [← nl.2]; omega)
          simp only [br_yes (show (j : Int) < (s.2.1.length : Int) by omega), Int.toNat_natCast, if_true]
          rw [chk_true (by omega), chk_true (by omega)]
          rw [decide_eq_true (show (((s.2.1.getD j []).length : Nat) : Int) = ((rl.take i).foldl (after g) (toks g)).getD j 0 from qu)]
          simp only [Bool.not_true, br_false]
          rw [w64_succ (by omega)]
        · rw [br_no ec]
      generalize rl[i] = k0 at *
      obtain ⟨k, rfl⟩ : ∃ k : Nat, k0 = (k : Int) := ⟨k0.toNat, by omega⟩
      have hkN : k < g.1.toNat := by omega
      have hkl : k < (netG g).1.length := by rw [nl.1]; exact hkN
      rw [chk_true (by omega)]
      simp only [Int.toNat_natCast]
      have hcd : ((netG g).1.getD k zProgram).2.2 = codeK g (k : Int) := by
        have := netG_prog (g := g) hkN
        unfold prog at this
        rw [this]; rfl
      simp only [hcd]
      have cl := codeK_len g (k : Int)
      have cl24 : (codeK g (k : Int)).length ≤ 24 := by
        have := (okP_n (o.prog k hkl)).2.2.2.2
        rw [← hcd, getD_lt hkl]; exact this
      refine W_up (fun j (t : List Int) => ((j : Int), (t, ()))) (codeK g (k : Int)).length (fun j t => t = List.replicate j (k : Int)) (s0 := []) rfl rfl (by omega) (fun ih2 t ht => ?_) (fun ih2 j t hj ht hS2 => ?_)
      rotate_left
      · simp only [br_yes (show (j : Int) < (((codeK g (k : Int)).length : Nat) : Int) by omega)]
        rw [chk_true (by rw [mBn, ht]; simp only [List.length_replicate, List.length_singleton]; omega), w64_succ (by omega)]
        refine hS2 _ ?_
        rw [ht, List.replicate_succ']
      subst ht
      simp only [br_no (Int.lt_irrefl _)]
      rw [show (s.1, (s.2.1, (s.2.2.1, s.2.2.2))) = s from rfl, iRunSchedule_spec hsm sms (by simp; omega) hn']
      simp only [bind_unit, Option.bind_some]
      unfold runSchedule
      rw [if_pos (okSt_true B.ok)]
      obtain ⟨os, hor⟩ := fire_run hg B hkN tokI_len hcan (fun j hj e => by
        have := ss j hj
        unfold makes at this
        rw [if_pos e] at this
        have := cnt_le (i + 1) j hj (by omega)
        omega)
      generalize schP (netG g) s (List.replicate (codeK g (k : Int)).length (k : Int)) = y at *
      obtain ⟨made, s'⟩ := y
      simp only at os hor
      simp only [List.length_replicate]
      have sms' := small_of_ok os
      by_cases hbig : 20000 ≤ s'.2.2.2
      · rw [W_cut]
        refine W_and (P := fun z => z = .inr (true, ())) ?_ (fun z hz => ?_)
        · by_cases hm : made = (((codeK g (k : Int)).length : Nat) : Int)
          · rw [decide_eq_true hm]
            simp only [Bool.not_true, br_false, br_yes hbig]
            exact W_some.2 rfl
          · rw [decide_eq_false hm]
            simp only [Bool.not_false, br_true]
            exact W_some.2 rfl
        · subst hz
          simp only [br_true, decide_eq_true hbig]
          exact W_some.2 rfl
      · obtain ⟨hm, B'⟩ := hor.resolve_left hbig
        rw [decide_eq_true hm]
        simp only [Bool.not_true, br_false, br_no hbig]
        rw [sIsState_spec hsm sms' hn', okSt_true os]
        simp only [bind_unit, Option.bind_some, Bool.not_true, cut_inr, br_false]
        rw [w64_succ (by omega)]
        refine hS s' ⟨st0 + (codeK g (k : Int)).length, ?_⟩
        rw [ts]
        exact B'.congr ss
end Go.AmT
