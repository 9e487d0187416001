/- A state that grows with its network, in plain Lean: what the reference makes of it. -/
import Derived.Test.YtkgknijpmcagmaaGreatLExSt
import Derived.Test.YtkgknijpmcagmaaGreatPExp0
import Derived.Test.YtkgknijpmcagmaaGreatPMarkS
import Derived.Test.YtkgknijpmcagmaaGreatPRun
namespace Go.AmT
open Go Go.Am
set_option linter.unusedVariables false
set_option linter.unusedSimpArgs false

abbrev nA : Actor := (0, [0, 0, 0, 0])
def innT (m : Network) : List (List Int) := (m.2.filter innerL).map (fun l => l.2.2.2.2)
def grown (s : State) (k : Nat) (m : Network) : State := (rem k s.1 ++ m.1.map (fun _ => nA), (s.2.1 ++ innT m, (s.2.2.1 ++ innT m, s.2.2.2)))
noncomputable def expS (nt : Network) (s : State) (k : Int) (m : Network) : State × (Bool × Unit) :=
  if (expd nt k m).2.1 = true ∧ okSt nt s = true ∧ s.1.getD k.toNat zActor = nA then
    (if okSt (expd nt k m).1 (grown s k.toNat m) = true then (grown s k.toNat m, (true, ())) else (([], ([], ([], 0))), (false, ())))
  else (([], ([], ([], 0))), (false, ()))
theorem expd_tm {nt m : Network} {k : Int} (h : (expd nt k m).2.1 = true) : ∃ j : Nat, k = (j : Int) ∧ Tm nt j m := by
  unfold expd at h
  split at h
  · rename_i ht; exact tmpl_of ht
  · cases h
theorem grown_small {nt m : Network} {s : State} {k : Nat} (hs : SmallSt s) (o : OkSt nt s) (om : OkN m) (hm : SmallN m) : SmallSt (grown s k m) := by
  have h1 := o.na; have h2 := o.nq; have h3 := o.ns
  have p1 := o.net.progs; have p2 := o.net.links; have p3 := om.progs; have p4 := om.links
  have hf := List.length_filter_le innerL m.2
  have hi : (innT m).length ≤ m.2.length := by unfold innT; rw [List.length_map]; exact hf
  have hit : ∀ q ∈ innT m, q.length ≤ 1048576 := by
    intro q hq
    obtain ⟨l, hl, rfl⟩ := List.mem_map.1 hq
    exact (hm.link l (List.mem_filter.1 hl).1).tokens
  refine ⟨?_, fun a ha => ?_, ?_, fun q hq => ?_, ?_, fun q hq => ?_⟩
  · show (rem k s.1 ++ _ : List Actor).length ≤ _
    simp [rem]; omega
  · rcases List.mem_append.1 ha with ha | ha
    · rcases List.mem_append.1 ha with ha | ha
      · exact hs.actor a (List.mem_of_mem_take ha)
      · exact hs.actor a (List.mem_of_mem_drop ha)
    · obtain ⟨p, hp, rfl⟩ := List.mem_map.1 ha
      show (4 : Nat) ≤ 1048576; omega
  · show (_ ++ _ : List (List Int)).length ≤ _
    rw [List.length_append]; omega
  · rcases List.mem_append.1 hq with hq | hq
    · exact hs.queue q hq
    · exact hit q hq
  · show (_ ++ _ : List (List Int)).length ≤ _
    rw [List.length_append]; omega
  · rcases List.mem_append.1 hq with hq | hq
    · exact hs.sent q hq
    · exact hit q hq
theorem rem_erase {α : Type} (k : Nat) (a : List α) : a.eraseIdx k = rem k a := by
  rw [List.eraseIdx_eq_take_drop_succ]; rfl
theorem sL1CopyR_spec {n : Nat} {a : List Int} (h : a.length ≤ 1048576) : sL1CopyR.f n a = some (a, ()) := by
  unfold sL1CopyR.f
  rw [small_chk (by simp; omega)]; rfl
theorem sNewActorR_spec {n : Nat} {p : Program} (hp : SmallP p) (h : okP p = true) (hn : 1048576 < n) : sNewActorR.f n p = some (nA, ()) := by
  unfold sNewActorR.f
  rw [sIsProgram_spec hp hn, h]; rfl
theorem iNewActor_specE {n : Nat} {p : Program} (hp : SmallP p) (h : okP p = true) (hn : 1048576 < n) : iNewActor.f n p = some (nA, ()) := by
  unfold iNewActor.f
  rw [iIsProgram_spec hp hn, h]
  simp only [Option.bind_some, Bool.not_true, br_false]
  rw [chk_true (by have := maxB_eq; refine ⟨by trivial, ?_⟩; omega)]; rfl
theorem toNetworkR_spec {n : Nat} {nt : Network} (h : SmallN nt) (hn : 1048576 < n) : toNetworkR.f n nt = some (nt, ()) := toNetwork_spec h hn
theorem toStateR_spec {n : Nat} {s : State} (h : SmallSt s) (hn : 1048576 < n) : toStateR.f n s = some (s, ()) := toState_spec h hn
theorem sL5CopyF_spec {n : Nat} {s : State} (h : SmallSt s) (hn : 1048576 < n) : sL5CopyF.f n s.1 s.2.1 s.2.2.1 s.2.2.2 = some (s.2.2.2, (s.1, (s.2.1, (s.2.2.1, ())))) := by
  have ha := h.actors
  have hq := h.queues
  have hs := h.sents
  unfold sL5CopyF.f
  refine push_loopE s.1 id (fun i ps => (i, (s.2.2.2, (ps, ())))) (fun ih i hi ps hps => ?_) (fun ih => ?_) (by omega)
  · have c1 : (i : Int) < (s.1.length : Int) := by omega
    have e1 : s.1.getD i zActor = s.1[i] := getD_lt hi _
    show br (decide ((i : Int) < (s.1.length : Int))) _ _ = _
    rw [br_yes c1, chk_true ⟨Int.natCast_nonneg i, c1⟩]
    simp only [Int.toNat_natCast, e1]
    rw [sL1CopyR_spec (h.actor _ (List.getElem_mem hi)), Option.bind_some, small_chk (by simp; omega), w64_succ (by omega)]; rfl
  · show br (decide ((s.1.length : Int) < (s.1.length : Int))) _ _ = _
    rw [br_no (Int.lt_irrefl _), List.map_id]
    refine push_loopE s.2.1 id (fun i ps => (i, (s.2.2.2, (s.1, (ps, ()))))) (fun ih i hi ps hps => ?_) (fun ih => ?_) (by omega)
    · have c1 : (i : Int) < (s.2.1.length : Int) := by omega
      have e1 : s.2.1.getD i [] = s.2.1[i] := getD_lt hi _
      show br (decide ((i : Int) < (s.2.1.length : Int))) _ _ = _
      rw [br_yes c1, chk_true ⟨Int.natCast_nonneg i, c1⟩]
      simp only [Int.toNat_natCast, e1]
      rw [sL1Copy_spec (h.queue _ (List.getElem_mem hi)), Option.bind_some, small_chk (by simp; omega), w64_succ (by omega)]; rfl
    · show br (decide ((s.2.1.length : Int) < (s.2.1.length : Int))) _ _ = _
      rw [br_no (Int.lt_irrefl _), List.map_id]
      refine push_loopE s.2.2.1 id (fun i ps => (i, (s.2.2.2, (s.1, (s.2.1, (ps, ())))))) (fun ih i hi ps hps => ?_) (fun ih => ?_) (by omega)
      · have c1 : (i : Int) < (s.2.2.1.length : Int) := by omega
        have e1 : s.2.2.1.getD i [] = s.2.2.1[i] := getD_lt hi _
        show br (decide ((i : Int) < (s.2.2.1.length : Int))) _ _ = _
        rw [br_yes c1, chk_true ⟨Int.natCast_nonneg i, c1⟩]
        simp only [Int.toNat_natCast, e1]
        rw [sL1Copy_spec (h.sent _ (List.getElem_mem hi)), Option.bind_some, small_chk (by simp; omega), w64_succ (by omega)]; rfl
      · show br (decide ((s.2.2.1.length : Int) < (s.2.2.1.length : Int))) _ _ = _
        rw [br_no (Int.lt_irrefl _), List.map_id]
theorem all_loopR {α : Type} (a : List α) (ok : α → Bool) {R : Bool} {F : (Int × Unit → Option (Bool × Unit)) → Int × Unit → Option (Bool × Unit)}
    (hF : ∀ ih (i : Nat) (hi : i < a.length), F ih ((i : Int), ()) = if ok a[i] = true then ih (((i + 1 : Nat) : Int), ()) else some (false, ()))
    (hE : ∀ ih, F ih ((a.length : Int), ()) = some (R, ())) {n : Nat} (hn : a.length < n) : iter n F (0, ()) = some (a.all ok && R, ()) := by
  have := iter_up (F := F) a.length (fun i _ o => o = some ((a.drop i).all ok && R, ())) (fun ih s => by rw [hE]; simp) (fun ih i s hi h => by
    rw [hF ih i hi]
    have hd : a.drop i = a[i] :: a.drop (i + 1) := List.drop_eq_getElem_cons hi
    rw [hd, List.all_cons]
    split
    · rename_i hk; rw [h ()]; simp [hk]
    · rename_i hk; simp [hk]) n 0 () (Nat.zero_le _) (by omega)
  simpa using this
theorem sL8New_spec {n : Nat} {a : Actor} (ha : a.2.length = 4) (hn : 1048576 < n) : sL8New.f n a = some (decide (a = nA), ()) := by
  obtain ⟨pc, l⟩ := a
  have ha : l.length = 4 := ha
  unfold sL8New.f
  refine Eq.trans (all_loopR l (fun v => decide (v = 0)) (R := decide (pc = 0)) (fun ih i hi => ?_) (fun ih => ?_) (by omega)) ?_
  · have c1 : (i : Int) < (l.length : Int) := by omega
    have e1 : l.getD i 0 = l[i] := getD_lt hi _
    show br (decide ((i : Int) < (l.length : Int))) _ _ = _
    rw [br_yes c1, chk_true ⟨Int.natCast_nonneg i, c1⟩]
    simp only [Int.toNat_natCast, e1]
    rw [w64_succ (by omega)]
    by_cases h : l[i] = 0
    · rw [decide_eq_true h]; rfl
    · rw [decide_eq_false h]; rfl
  · exact br_no (Int.lt_irrefl _)
  · match l, ha with
    | [x, y, z, t], _ =>
      congr 2
      apply Bool.eq_iff_iff.2
      simp [nA, Prod.mk.injEq]
      constructor
      · rintro ⟨⟨rfl, rfl, rfl, rfl⟩, rfl⟩; simp
      · rintro ⟨rfl, rfl, rfl, rfl, rfl⟩; simp
theorem sExpandState_spec {n : Nat} {nt m : Network} {s : State} {k : Int} (h : SmallN nt) (hs : SmallSt s) (h' : SmallN m) (hn : 1048576 < n) : sExpandState.f n nt s k m = some (expS nt s k m) := by
  unfold sExpandState.f expS
  rw [sExpandNetwork_spec h h' hn]
  have hu : ∀ x : Network × Bool × Unit, ∀ f : (Network × Bool × Unit) → Option (State × (Bool × Unit)), (some x).bind f = f x := fun _ _ => rfl
  rw [hu]
  cases h1 : (expd nt k m).2.1
  · rw [if_neg (by simp)]; rfl
  · obtain ⟨k, rfl, T⟩ := expd_tm h1
    simp only [Bool.not_true, br_false]
    rw [sIsState_spec h hs hn]
    cases h2 : okSt nt s
    · rw [if_neg (by simp)]; rfl
    · have o : OkSt nt s := of_decide_eq_true h2
      have hk := T.lt
      have hna := o.na
      have ha4 : (s.1.getD k zActor).2.length = 4 := by
        have := o.act k hk
        unfold okA at this
        simp only [Bool.and_eq_true, decide_eq_true_eq] at this
        omega
      simp only [Option.bind_some, Bool.not_true, br_false, Int.toNat_natCast]
      rw [chk_true (by omega), sL8New_spec ha4 hn]
      by_cases h3 : s.1.getD k zActor = nA
      rotate_left
      · rw [if_neg (fun h => h3 h.2.2), decide_eq_false h3]; rfl
      · rw [if_pos ⟨trivial, trivial, h3⟩, decide_eq_true h3]
        simp only [Option.bind_some, Bool.not_true, cut_inr, br_false]
        rw [sL5CopyF_spec hs hn]
        simp only [Option.bind_some]
        have hp := T.net.progs
        have hl := T.net.links
        have hp' := T.tn.progs
        have hl' := T.tn.links
        have hst : ((0 : Int), (s.2.2.2, (([] : List Actor), (s.2.1, (s.2.2.1, ()))))) = (fun (i : Nat) => ((i : Int), (s.2.2.2, (rem k (s.1.take i), (s.2.1, (s.2.2.1, ())))))) 0 := by simp [rem]
        rw [hst]
        refine iter_line (fun i => ((i : Int), (s.2.2.2, (rem k (s.1.take i), (s.2.1, (s.2.2.1, ())))))) s.1.length (fun ih i hi => ?_) (fun ih => ?_) (by omega)
        · have c1 : (i : Int) < (s.1.length : Int) := by omega
          have e1 : s.1.getD i zActor = s.1[i] := getD_lt hi _
          have e2 : (s.1.take i).length = i := by simp; omega
          have hr : (rem k (s.1.take i)).length ≤ 24 := by simp [rem]; omega
          show br (decide ((i : Int) < (s.1.length : Int))) _ _ = _
          rw [br_yes c1, chk_true ⟨by omega, c1⟩]
          simp only [Int.toNat_natCast, e1]
          rw [w64_succ (by omega), List.take_succ_eq_append_getElem hi, rem_snoc, e2]
          by_cases hik : i = k
          · subst hik; simp [br]
          · rw [if_neg hik, show decide ((i : Int) = (k : Int)) = false from decide_eq_false (by omega)]
            simp only [Bool.not_false, br_true]
            rw [small_chk (by simp; omega)]
        · show br (decide ((s.1.length : Int) < (s.1.length : Int))) _ _ = _
          rw [br_no (Int.lt_irrefl _), List.take_length]
          have hrl : (rem k s.1).length ≤ 24 := by simp [rem]; omega
          refine push_loopE m.1 (fun _ => nA) (fun i t => (i, (s.2.2.2, (rem k s.1 ++ t, (s.2.1, (s.2.2.1, ())))))) (fun ih i hi t ht => ?_) (fun ih => ?_) (by omega) |> fun e => Eq.trans (by rw [List.append_nil]) e
          · have c1 : (i : Int) < (m.1.length : Int) := by omega
            have e1 : m.1.getD i zProgram = m.1[i] := getD_lt hi _
            show br (decide ((i : Int) < (m.1.length : Int))) _ _ = _
            rw [br_yes c1, chk_true ⟨by omega, c1⟩]
            simp only [Int.toNat_natCast, e1]
            rw [sNewActorR_spec (h'.prog _ (List.getElem_mem hi)) (T.tn.prog i hi) hn, Option.bind_some, small_chk (by simp; omega), w64_succ (by omega), List.append_assoc]
          · show br (decide ((m.1.length : Int) < (m.1.length : Int))) _ _ = _
            rw [br_no (Int.lt_irrefl _)]
            have hnq := o.nq; have hns := o.ns
            have hG := expd_small (k := (k : Int)) h h'
            have hS := sIsState_spec (n := n) hG (grown_small (k := k) hs o T.tn h') hn
            unfold grown at hS ⊢
            refine Eq.trans (pushif_loop m.2.length (fun i => innerL (m.2.getD i zLink)) (fun i => (m.2.getD i zLink).2.2.2.2) (fun (i : Int) (t : List (List Int)) => (i, (s.2.2.2, (rem k s.1 ++ m.1.map (fun _ => nA), (s.2.1 ++ t, (s.2.2.1 ++ t, ())))))) (R := fun t => (sIsState.f n (expd nt k m).1 (rem k s.1 ++ m.1.map (fun _ => nA), (s.2.1 ++ t, (s.2.2.1 ++ t, s.2.2.2)))).bind fun r87 => br (!r87.1) (some (([], ([], ([], 0))), (false, ()))) (some ((rem k s.1 ++ m.1.map (fun _ => nA), (s.2.1 ++ t, (s.2.2.1 ++ t, s.2.2.2))), (true, ())))) (fun ih i hi t ht => ?_) (fun ih t => br_no (Int.lt_irrefl _)) (by omega)) ?_ |> fun e => Eq.trans (by rw [List.append_nil, List.append_nil]) e
            · have c1 : (i : Int) < (m.2.length : Int) := by omega
              have e1 : m.2.getD i zLink = m.2[i] := getD_lt hi _
              have hm := List.getElem_mem hi
              show br (decide ((i : Int) < (m.2.length : Int))) _ _ = _
              rw [br_yes c1, chk_true ⟨by omega, c1⟩]
              simp only [Int.toNat_natCast, e1]
              rw [w64_succ (by omega), sL1Copy_spec (h'.link _ hm).tokens]
              simp only [Option.bind_some, innerL]
              by_cases f1 : 0 ≤ m.2[i].1
              · rw [br_yes f1]
                simp only [cut_inr, f1, decide_true, Bool.true_and]
                by_cases f2 : 0 ≤ m.2[i].2.2.1
                · rw [br_yes f2, if_pos (decide_eq_true f2), small_chk (by simp; omega), small_chk (by simp; omega), List.append_assoc, List.append_assoc]
                · rw [br_no f2, if_neg (by simp [f2])]
              · rw [br_no f1]
                simp only [cut_inr, f1, decide_false, Bool.false_and, br_false]; rfl
            · rw [range_fm m.2 innerL (fun l => l.2.2.2.2) zLink]
              unfold innT at hS ⊢
              rw [hS]
              simp only [Option.bind_some]
              cases okSt _ _ <;> rfl
end Go.AmT
