/- Networks that are drawn, in plain Lean: they are valid. -/
import Derived.Test.YtfcehikkpoeebaaGreatPGen
namespace Go.AmT
open Go Go.Am
set_option linter.unusedVariables false
set_option linter.unusedSimpArgs false

/-- ports that are free yet -/
def Free (m : Int) (l : List (List Int)) : Prop := (l.length : Int) ≤ m ∧ ∀ x ∈ l, x.length = 2
theorem Free.le {m m' : Int} {l : List (List Int)} (h : Free m l) (hm : m ≤ m') : Free m' l := ⟨Int.le_trans h.1 hm, h.2⟩
theorem Free.add {m : Int} {l : List (List Int)} {a b : Int} (h : Free m l) : Free (m + 1) (l ++ [[a, b]]) := by
  refine ⟨by rw [List.length_append, List.length_singleton]; have := h.1; omega, fun y hy => ?_⟩
  rcases List.mem_append.1 hy with hy | hy
  · exact h.2 y hy
  · rw [List.mem_singleton.1 hy]; rfl
/-- links that were drawn -/
def LkSm (m : Int) (l : List Link) : Prop := (l.length : Int) ≤ m ∧ ∀ x ∈ l, Toks 8 x.2.2.2.2
theorem LkSm.le {m m' : Int} {l : List Link} (h : LkSm m l) (hm : m ≤ m') : LkSm m' l := ⟨Int.le_trans h.1 hm, h.2⟩
theorem LkSm.add {m : Int} {l : List Link} {x : Link} (h : LkSm m l) (hx : Toks 8 x.2.2.2.2) : LkSm (m + 1) (l ++ [x]) := by
  refine ⟨by rw [List.length_append, List.length_singleton]; have := h.1; omega, fun y hy => ?_⟩
  rcases List.mem_append.1 hy with hy | hy
  · exact h.2 y hy
  · rw [List.mem_singleton.1 hy]; exact hx
theorem wire_W {n : Nat} {b : List Int} (hb : b.length ≤ 1048576) {ps : List Program} (hl : ps.length ≤ 100) (hp : ∀ p ∈ ps, PrSm p) {loops : Int} (hn : 1048576 < n) {c : List Int × (Int × (Int × Unit))} (hc : CurR b c) :
    W (l3Wire.f n loops c.1 c.2.1 c.2.2.1 ps) (fun r => r.1 = ps ∧ LkSm 600 r.2.1 ∧ CurR b r.2.2) := by
  unfold l3Wire.f
  refine W_up (fun i (f : List (List Int)) => ((i : Int), (f, ()))) ps.length (fun i f => Free (3 * i) f) (s0 := []) rfl ⟨by simp, by simp⟩ (by omega) (fun ih f hI => ?_) (fun ih i f hi hI hS => ?_)
  rotate_left
  · have e1 : ps.getD i zProgram = ps[i] := getD_lt hi _
    have hpi := hp _ (List.getElem_mem hi)
    have h0 := hpi.ins
    simp only [br_yes (show (i : Int) < (ps.length : Int) by omega), Int.toNat_natCast, e1]
    rw [chk_true (by omega)]
    refine W_up (fun k (f : List (List Int)) => ((k : Int), (f, ()))) ps[i].1.toNat (fun k f => Free (3 * i + k) f) (s0 := f) rfl (hI.le (by omega)) (by omega) (fun ih2 g hJ => ?_) (fun ih2 k g hk hJ hS2 => ?_)
    · simp only [br_no (show ¬ ((ps[i].1.toNat : Nat) : Int) < ps[i].1 by omega)]
      rw [w64_succ (by omega)]
      exact hS g (hJ.le (by omega))
    · have := hJ.1
      simp only [br_yes (show (k : Int) < ps[i].1 by omega)]
      rw [small_chk (by simp only [List.length_singleton]; omega), w64_succ (by omega)]
      exact hS2 _ (hJ.add.le (by omega))
  simp only [br_no (Int.lt_irrefl _)]
  have hF : Free 300 f := hI.le (by omega)
  refine W_up (fun i (x : (List Int × (Int × (Int × Unit))) × List Link × List (List Int)) => ((i : Int), (x.1.1, (x.1.2.1, (x.1.2.2.1, (ps, (x.2.1, (x.2.2, ())))))))) ps.length (fun i x => CurR b x.1 ∧ LkSm (3 * i) x.2.1 ∧ Free 300 x.2.2) (s0 := (c, [], f)) rfl ⟨hc, ⟨by simp, by simp⟩, hF⟩ (by omega) (fun ih x hI => ?_) (fun ih i x hi hI hS => ?_)
  · obtain ⟨c1, l1, f1⟩ := hI
    simp only [br_no (Int.lt_irrefl _)]
    have l1 : LkSm 300 x.2.1 := l1.le (by omega)
    refine W_up (fun i (y : (List Int × (Int × (Int × Unit))) × List Link) => ((i : Int), (y.1.1, (y.1.2.1, (y.1.2.2.1, (ps, (y.2, ()))))))) x.2.2.length (fun i y => CurR b y.1 ∧ LkSm (300 + i) y.2) (s0 := (x.1, x.2.1)) rfl ⟨c1, l1.le (by omega)⟩ (by have := f1.1; omega) (fun ih y hI => ?_) (fun ih i y hi hI hS => ?_)
    · simp only [br_no (Int.lt_irrefl _)]
      rw [W_some]
      exact ⟨rfl, hI.2.le (by have := f1.1; omega), hI.1⟩
    · have e1 : x.2.2.getD i [] = x.2.2[i] := getD_lt hi _
      have e2 := f1.2 _ (List.getElem_mem hi)
      have hlen := hI.2.1
      have hfl := f1.1
      simp only [br_yes (show (i : Int) < (x.2.2.length : Int) by omega), Int.toNat_natCast, e1, e2]
      rw [chk_true (by omega), chk_true (by omega), chk_true (by omega), W_bind]
      refine W_and (tokens_W (m := 8) hb (by omega) hn hI.1) (fun r ⟨ht, hcr⟩ => ?_)
      rw [small_chk (by simp only [List.length_singleton]; omega), w64_succ (by omega)]
      exact hS (r.2, _) ⟨hcr, (hI.2.add (x := ((-1), (0, (_, (_, r.1))))) ht).le (by omega)⟩
  · obtain ⟨c1, l1, f1⟩ := hI
    have e1 : ps.getD i zProgram = ps[i] := getD_lt hi _
    have hpi := hp _ (List.getElem_mem hi)
    have h0 := hpi.outs
    simp only [br_yes (show (i : Int) < (ps.length : Int) by omega), Int.toNat_natCast, e1]
    rw [chk_true (by omega)]
    refine W_up (fun k (x : (List Int × (Int × (Int × Unit))) × List Link × List (List Int)) => ((k : Int), (x.1.1, (x.1.2.1, (x.1.2.2.1, (ps, (x.2.1, (x.2.2, ())))))))) ps[i].2.1.toNat (fun k x => CurR b x.1 ∧ LkSm (3 * i + k) x.2.1 ∧ Free 300 x.2.2) (s0 := x) rfl ⟨c1, l1.le (by omega), f1⟩ (by omega) (fun ih2 y hJ => ?_) (fun ih2 k y hk hJ hS2 => ?_)
    · simp only [br_no (show ¬ ((ps[i].2.1.toNat : Nat) : Int) < ps[i].2.1 by omega)]
      rw [w64_succ (by omega)]
      exact hS y ⟨hJ.1, hJ.2.1.le (by omega), hJ.2.2⟩
    · obtain ⟨c2, l2, f2⟩ := hJ
      have hfl := f2.1
      have hll := l2.1
      simp only [br_yes (show (k : Int) < ps[i].2.1 by omega)]
      rw [w64_id (n := (y.2.2.length : Int) + 1) (by omega) (by omega), W_bind]
      refine W_and (below_W hb c2) (fun r255 ⟨⟨a0, a1, _⟩, c3⟩ => ?_)
      have a1 := a1 (by omega)
      refine W_cut.2 (W_and (P := fun s => ∃ z : Bool × (List Int × (Int × (Int × Unit))), s = Sum.inr z ∧ CurR b z.2 ∧ (z.1 = true → r255.1 < (y.2.2.length : Int))) ?_ (fun s hs => ?_))
      · rw [W_brd]
        refine ⟨fun hlt => ?_, fun _ => ?_⟩
        · have e3 : y.2.2.getD r255.1.toNat [] = y.2.2[r255.1.toNat]'(by omega) := getD_lt (by omega) _
          have e2 := f2.2 _ (List.getElem_mem (show r255.1.toNat < y.2.2.length by omega))
          simp only [e3, e2]
          rw [chk_true (by omega), chk_true (by omega), W_brd]
          refine ⟨fun _ => ?_, fun _ => ?_⟩
          · rw [W_some]; exact ⟨_, rfl, c3, fun _ => hlt⟩
          · rw [W_bind]
            refine W_and (once_W hb c3) (fun r258 c4 => ?_)
            rw [W_some]; exact ⟨_, rfl, c4, fun _ => hlt⟩
        · rw [W_some]; exact ⟨_, rfl, c3, fun h => by cases h⟩
      · obtain ⟨z, rfl, c4, hz⟩ := hs
        simp only
        refine W_cut.2 (W_and (P := fun s => ∃ z : List Int × (Int × (Int × (List (List Int) × (Int × (Int × (Int × (Int × (List Int × Unit)))))))), s = Sum.inr z ∧ CurR b (z.1, (z.2.1, (z.2.2.1, ()))) ∧ Free 300 z.2.2.2.1 ∧ Toks 8 z.2.2.2.2.2.2.2.2.1) ?_ (fun s hs => ?_))
        · rw [W_br]
          refine ⟨fun hzt => ?_, fun _ => ?_⟩
          · have hlt := hz hzt
            have e3 : y.2.2.getD r255.1.toNat [] = y.2.2[r255.1.toNat]'(by omega) := getD_lt (by omega) _
            have e2 := f2.2 _ (List.getElem_mem (show r255.1.toNat < y.2.2.length by omega))
            simp only [e3, e2]
            rw [chk_true (by omega), chk_true (by omega), chk_true (by omega), chk_true (by omega), chk_true (by omega), chk_true (by omega)]
            refine W_cut.2 (W_and (P := fun s => ∃ z : List Int × (Int × (Int × (Int × (Int × (Int × (Int × (List Int × Unit))))))), s = Sum.inr z ∧ CurR b (z.1, (z.2.1, (z.2.2.1, ()))) ∧ Toks 8 z.2.2.2.2.2.2.2.1) ?_ (fun s hs => ?_))
            · rw [W_brd]
              refine ⟨fun _ => ?_, fun _ => ?_⟩
              · rw [W_bind]
                refine W_and (tokens_W (m := 3) hb (by omega) hn c4) (fun r ⟨ht, hcr⟩ => ?_)
                rw [W_some]; exact ⟨_, rfl, hcr, Nat.le_trans ht.1 (by omega), ht.2⟩
              · rw [W_some]; exact ⟨_, rfl, c4, by simp, by simp⟩
            · obtain ⟨w, rfl, c5, t5⟩ := hs
              simp only
              rw [w64_id (n := r255.1 + 1) (by omega) (by omega), chk_true (by omega), small_chk (by simp; omega), chk_true (by omega), small_chk (by simp; omega), W_some]
              refine ⟨_, rfl, c5, ⟨?_, fun u hu => ?_⟩, t5⟩
              · simp; omega
              · rcases List.mem_append.1 hu with hu | hu
                · exact f2.2 u (List.mem_of_mem_drop (List.mem_of_mem_take hu))
                · exact f2.2 u (List.mem_of_mem_drop (List.mem_of_mem_take hu))
          · rw [W_some]; exact ⟨_, rfl, c4, f2, by simp, by simp⟩
        · obtain ⟨w, rfl, c5, f5, t5⟩ := hs
          simp only
          rw [small_chk (by simp only [List.length_singleton]; omega), w64_succ (by omega)]
          exact hS2 ((w.1, (w.2.1, (w.2.2.1, ()))), (_, w.2.2.2.1)) ⟨c5, (l2.add (x := (w.2.2.2.2.1, (w.2.2.2.2.2.1, (w.2.2.2.2.2.2.1, (w.2.2.2.2.2.2.2.1, w.2.2.2.2.2.2.2.2.1))))) t5).le (by omega), f5⟩
/-- a network that was drawn -/
structure NetSm (m : Nat) (nt : Network) : Prop where
  ok : OkN nt
  progs : nt.1.length ≤ m
  toks : ∀ l ∈ nt.2, Toks 8 l.2.2.2.2
  drawn : ∀ p ∈ nt.1, PrSm p
theorem okN_nil : OkN (([], []) : Network) := ⟨by simp, by simp, fun i hi => absurd hi (by simp), fun i hi => absurd hi (by simp), fun i hi => absurd hi (by simp), fun i hi => absurd hi (by simp), fun i hi => absurd hi (by simp)⟩
theorem network_W {n : Nat} {b : List Int} (hb : b.length ≤ 1048576) {m : Nat} (hm : m ≤ 12) {loops : Int} (hn : 1048576 < n) {c : List Int × (Int × (Int × Unit))} (hc : CurR b c) :
    W (l3Network.f n (m : Int) loops c.1 c.2.1 c.2.2.1) (fun r => NetSm m (r.1, r.2.1)) := by
  unfold l3Network.f
  rw [w64_id (n := (m : Int) + 1) (by omega) (by omega), W_bind]
  refine W_and (below_W hb hc) (fun r1 ⟨⟨a0, a1, _⟩, c1⟩ => ?_)
  have a1 := a1 (by omega)
  refine W_iter (fun x => 0 ≤ x.1 ∧ x.1 + (x.2.2.2.2.1.length : Int) ≤ (m : Int) ∧ (∀ p ∈ x.2.2.2.2.1, PrSm p) ∧ CurR b (x.2.1, (x.2.2.1, (x.2.2.2.1, ())))) (fun x => x.1.toNat) (fun ih x hx hS => ?_) ⟨a0, by simp only [List.length_nil]; omega, by simp, c1⟩ (by show r1.1.toNat < n; omega)
  obtain ⟨k, cb, ci, ch, ps, ⟨⟩⟩ := x
  obtain ⟨k0, k1, k2, k3⟩ := hx
  simp only at k0 k1 k2 k3
  by_cases hk : 0 < k
  · simp only [br_yes hk]
    rw [W_bind]
    refine W_and (pick_W (c := (cb, (ci, (ch, ())))) hb (by simp) k3) (fun r32 ⟨_, c32⟩ => ?_)
    rw [W_bind]
    refine W_and (sample_W hn) (fun r33 p33 => ?_)
    rw [W_bind]
    refine W_and (once_W hb c32) (fun r34 c34 => ?_)
    refine W_cut.2 (W_and (P := fun s => ∃ z : List Int × (Int × (Int × (Int × (Int × (List Instr × Unit))))), s = Sum.inr z ∧ CurR b (z.1, (z.2.1, (z.2.2.1, ()))) ∧ PrSm (z.2.2.2.1, (z.2.2.2.2.1, z.2.2.2.2.2.1))) ?_ (fun s hs => ?_))
    · rw [W_br]
      refine ⟨fun _ => ?_, fun _ => ?_⟩
      · rw [W_bind]
        refine W_and (below_W hb c34) (fun r36 ⟨⟨b0, b1, _⟩, c36⟩ => ?_)
        rw [W_bind]
        refine W_and (below_W hb c36) (fun r37 ⟨⟨d0, d1, _⟩, c37⟩ => ?_)
        have b1 := b1 (by omega)
        have d1 := d1 (by omega)
        rw [w64_id (n := 1 + r36.1) (by omega) (by omega), W_bind]
        refine W_and (program_W hb (by omega) (by omega) (by omega) hn c37) (fun r38 ⟨p38, c38⟩ => ?_)
        rw [W_some]; exact ⟨_, rfl, c38, p38⟩
      · rw [W_some]; exact ⟨_, rfl, c34, p33⟩
    · obtain ⟨z, rfl, c5, p5⟩ := hs
      simp only
      rw [small_chk (by simp only [List.length_singleton]; omega), w64_id (n := k - 1) (by omega) (by omega)]
      refine hS _ ⟨by simp only; omega, by simp only [List.length_append, List.length_singleton]; omega, fun p hp => ?_, c5⟩ (by simp only; omega)
      rcases List.mem_append.1 hp with hp | hp
      · exact k2 p hp
      · rw [List.mem_singleton.1 hp]; exact p5
  · simp only [br_no hk]
    rw [W_bind]
    refine W_and (wire_W (c := (cb, (ci, (ch, ())))) hb (by omega) k2 hn k3) (fun r39 ⟨e39, l39, c39⟩ => ?_)
    have hS : SmallN (r39.1, r39.2.1) := by
      refine ⟨by rw [e39]; show ps.length ≤ 1048576; omega, fun p hp => ?_, by have := l39.1; show r39.2.1.length ≤ 1048576; omega, fun l hl => ?_⟩
      · rw [e39] at hp
        have := (k2 p hp).code
        exact ⟨by omega⟩
      · have := (l39.2 l hl).1
        exact ⟨by omega⟩
    rw [W_bind, sIsNetwork_spec hS hn, W_some, W_brn]
    refine ⟨fun _ => ?_, fun ho => ?_⟩
    · rw [W_some]; exact ⟨okN_nil, by simp, by simp, by simp⟩
    · rw [W_some]
      exact ⟨of_decide_eq_true ho, by show r39.1.length ≤ m; rw [e39]; omega, l39.2, fun p hp => k2 p (by have hp : p ∈ r39.1 := hp; rw [e39] at hp; exact hp)⟩
theorem makeNetwork_W {n : Nat} {code : List Int} (hb : code.length ≤ 1048576) {m : Nat} (hm : m ≤ 8) (hn : 1048576 < n) : W (makeNetwork.f n code (m : Int)) (fun r => NetSm m r.1) := by
  unfold makeNetwork.f
  rw [W_bind]
  refine W_and (curNew_W hb hn) (fun r1 c1 => ?_)
  rw [W_bind]
  refine W_and (int_W hb (by simp) c1) (fun r2 ⟨_, c2⟩ => ?_)
  rw [show max (0 : Int) (min (m : Int) 8) = (m : Int) by omega, W_bind]
  refine W_and (network_W hb (by omega) hn c2) (fun r3 h3 => ?_)
  rw [W_some]; exact h3
theorem NetSm.small {m : Nat} {nt : Network} (h : NetSm m nt) : SmallN nt := by
  have o := h.ok
  have h1 := o.progs
  have h2 := o.links
  refine ⟨by omega, fun p hp => ?_, by omega, fun l hl => ?_⟩
  · obtain ⟨i, hi, rfl⟩ := List.mem_iff_getElem.1 hp
    have := o.prog i hi
    unfold okP at this
    simp only [Bool.and_eq_true, decide_eq_true_eq] at this
    exact ⟨by omega⟩
  · have := (h.toks l hl).1
    exact ⟨by omega⟩
end Go.AmT
