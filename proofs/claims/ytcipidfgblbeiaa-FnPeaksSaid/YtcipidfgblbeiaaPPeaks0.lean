/- The peaks of a run, in plain Lean: both programs tell the same. -/
import Derived.Test.YtcipidfgblbeiaaLPeaks0
namespace Go.AmT
open Go Go.Am
set_option linter.unusedVariables false
set_option linter.unusedSimpArgs false

/-! ### the peaks, as far as an index -/
def pkAt (q : List (List Int)) (pk : List Int) (i : Nat) : List Int := (List.range pk.length).map fun j => if j < i then max (pk.getD j 0) ((q.getD j []).length : Int) else pk.getD j 0
def pkP (q : List (List Int)) (pk : List Int) : List Int := (List.range pk.length).map fun j => max (pk.getD j 0) ((q.getD j []).length : Int)
theorem pkAt_zero (q : List (List Int)) (pk : List Int) : pkAt q pk 0 = pk := by
  apply List.ext_getElem
  · simp [pkAt]
  · intro i h1 h2; simp [pkAt, h2]
theorem pkAt_end {q : List (List Int)} {pk : List Int} : pkAt q pk pk.length = pkP q pk := by
  unfold pkAt pkP
  refine List.map_congr_left (fun j hj => ?_)
  rw [if_pos (List.mem_range.1 hj)]
theorem pkAt_len {q : List (List Int)} {pk : List Int} {i : Nat} : (pkAt q pk i).length = pk.length := by simp [pkAt]
theorem pkAt_get {q : List (List Int)} {pk : List Int} {i : Nat} (hi : i < pk.length) : (pkAt q pk i).getD i 0 = pk.getD i 0 := by simp [pkAt, hi]
theorem pkAt_succ {q : List (List Int)} {pk : List Int} {i : Nat} (hi : i < pk.length) : (pkAt q pk i).set i (max (pk.getD i 0) ((q.getD i []).length : Int)) = pkAt q pk (i + 1) := by
  apply List.ext_getElem
  · simp [pkAt]
  · intro j h1 h2
    rw [List.getElem_set]
    simp only [pkAt, List.getElem_map, List.getElem_range]
    by_cases h : i = j
    · subst h; rw [if_pos rfl, if_pos (by omega)]
    · rw [if_neg h]
      by_cases h3 : j < i
      · rw [if_pos h3, if_pos (by omega)]
      · rw [if_neg h3, if_neg (by omega)]
theorem pk_loop {ρ : Type} {G : Int × (List Int) × Unit → Option ρ} (q : List (List Int)) (pk : List Int) {F : (Int × (List Int) × Unit → Option ρ) → Int × (List Int) × Unit → Option ρ} {R : Option ρ} (hl : pk.length = q.length) (hs : q.length ≤ 1048576)
    (h1 : ∀ ih x, F ih x = br (decide (x.1 < (q.length : Int))) (chk (0 ≤ x.1 ∧ x.1 < (q.length : Int)) (chk (0 ≤ x.1 ∧ x.1 < (x.2.1.length : Int)) (chk (0 ≤ x.1 ∧ x.1 < (x.2.1.length : Int)) (ih ((w64 (x.1 + 1)), ((x.2.1.set x.1.toNat (max (x.2.1.getD x.1.toNat 0) ((q.getD x.1.toNat []).length : Int))), ())))))) (G x))
    (h2 : G ((q.length : Int), (pkP q pk, ())) = R) {n : Nat} (hn : q.length < n) : iter n F (0, (pk, ())) = R := by
  have := iter_line (F := F) (fun i => ((i : Int), (pkAt q pk i, ()))) q.length (R := R) (fun ih i hi => by
    show F ih ((i : Int), (pkAt q pk i, ())) = _
    rw [h1]
    have c1 : (i : Int) < (q.length : Int) := by omega
    have x1 : 0 ≤ (i : Int) ∧ (i : Int) < (q.length : Int) := by omega
    have x2 : 0 ≤ (i : Int) ∧ (i : Int) < ((pkAt q pk i).length : Int) := by rw [pkAt_len]; omega
    show br (decide ((i : Int) < (q.length : Int))) (chk (0 ≤ (i : Int) ∧ (i : Int) < (q.length : Int)) (chk (0 ≤ (i : Int) ∧ (i : Int) < ((pkAt q pk i).length : Int)) (chk (0 ≤ (i : Int) ∧ (i : Int) < ((pkAt q pk i).length : Int)) _))) _ = _
    rw [br_yes c1, chk_true x1, chk_true x2, chk_true x2]
    simp only [Int.toNat_natCast]
    rw [pkAt_get (by omega), pkAt_succ (by omega), w64_succ (by omega)]) (fun ih => by
    show F ih ((q.length : Int), (pkAt q pk q.length, ())) = _
    rw [h1, ← hl, pkAt_end, hl]
    show br (decide ((q.length : Int) < (q.length : Int))) _ _ = _
    rw [br_no (Int.lt_irrefl _)]; exact h2) hn
  rw [pkAt_zero] at this
  exact this
theorem look_spec {n : Nat} {a0 : List Program} {a1 : List Link} {a2 : Int} {a3 : Option (List Int)} {a4 : List Actor} {q a6 a7 a8 : List (List Int)} {pk : List Int} (hl : pk.length = q.length) (hs : q.length ≤ 1048576) (hn : 1048576 < n) :
    look.f n a0 a1 a2 a3 a4 q a6 a7 a8 pk = some (a0, (a1, (a2, (a3, (a4, (q, (a6, (a7, (a8, (pkP q pk, ())))))))))) := by
  unfold look.f
  exact pk_loop q pk (G := fun x => some (a0, (a1, (a2, (a3, (a4, (q, (a6, (a7, (a8, (x.2.1, ()))))))))))) hl hs (fun ih x => rfl) rfl (by omega)

abbrev PkS : Type := State × List Int
def pkG (nt : Network) (x : PkS) (k : Nat) : Bool := canP nt x.1 k
def pkS (nt : Network) (x : PkS) (k : Nat) : PkS := (stepP nt x.1 k, pkP (stepP nt x.1 k).2.1 x.2)
def pkJ (nt : Network) (x : Int × PkS) : Prop := JS nt (x.1, x.2.1) ∧ x.2.2.length = nt.2.length
def pkM (x : Int × PkS) : Nat := muS (x.1, x.2.1)
theorem pkP_len {q : List (List Int)} {pk : List Int} : (pkP q pk).length = pk.length := by simp [pkP]
theorem pk_good {nt : Network} {most : Int} : Good (pkG nt) (pkS nt) most nt.1.length (pkJ nt) pkM := by
  rintro ⟨m, s, pk⟩ k ⟨hx, hl⟩ hk hm hg
  have := good_can (most := most) (m, s) k hx hk hm hg
  exact ⟨⟨this.1, by show (pkP _ pk).length = _; rw [pkP_len]; exact hl⟩, this.2⟩
def pk0 (nt : Network) : List Int := nt.2.map fun l => (l.2.2.2.2.length : Int)
theorem pk0_look (nt : Network) : pkP (start nt).2.1 (List.replicate nt.2.length 0) = pk0 nt := by
  apply List.ext_getElem
  · simp [pkP, pk0]
  · intro i h1 h2
    have hi : i < nt.2.length := by simpa [pk0] using h2
    have e1 : (start nt).2.1.getD i [] = nt.2[i].2.2.2.2 := by simp [start, hi]
    have e2 : (List.replicate nt.2.length (0 : Int)).getD i 0 = 0 := by simp [hi]
    simp only [pkP, pk0, List.getElem_map, List.getElem_range, e1, e2]
    omega
def peaksT (nt : Network) (most : Int) : PkS := (turnsP (pkG nt) (pkS nt) most nt.1.length (0, (start nt, pk0 nt))).2
theorem pk_start {nt : Network} (o : OkN nt) : pkJ nt (0, (start nt, pk0 nt)) := ⟨⟨start_ok o, Int.le_refl _, Int.le_refl _⟩, by simp [pk0]⟩
theorem peaksT_ok {nt : Network} {most : Int} (o : OkN nt) : OkSt nt (peaksT nt most).1 ∧ (peaksT nt most).2.length = nt.2.length := by
  have := turnsP_good (pk_good (most := most)) (pk_start o)
  exact ⟨this.1.1, this.2⟩
noncomputable def peaks (nt : Network) (most : Int) : List Int × Bool := if okN nt = true then ((peaksT nt most).2, !anyCan nt (peaksT nt most).1) else ([], false)
theorem turnsPk_spec {n : Nat} {nt : Network} {s : State} {to fr : List (List Int)} {pk : List Int} {most : Int} (R : IsRun nt s (nt, (s, (to, (fr, none))))) (o : OkSt nt s) (hs0 : s.2.2.2 = 0 ∨ 0 ≤ s.2.2.2) (hl : pk.length = nt.2.length) (hn : 1048576 < n) :
    turnsP.f n most nt.1 nt.2 s.2.2.2 none s.1 s.2.1 s.2.2.1 to fr pk =
      some (nt.1, (nt.2, ((turnsP (pkG nt) (pkS nt) most nt.1.length (0, (s, pk))).2.1.2.2.2, (none, ((turnsP (pkG nt) (pkS nt) most nt.1.length (0, (s, pk))).2.1.1, ((turnsP (pkG nt) (pkS nt) most nt.1.length (0, (s, pk))).2.1.2.1, ((turnsP (pkG nt) (pkS nt) most nt.1.length (0, (s, pk))).2.1.2.2.1, (to, (fr, ((turnsP (pkG nt) (pkS nt) most nt.1.length (0, (s, pk))).2.2, ())))))))))) := by
  have hp := o.net.progs
  have hL := o.net.links
  unfold turnsP.f
  refine turnsI_loop (g := pkG nt) (st := pkS nt) (most := most) (K := nt.1.length) (J := pkJ nt) (μ := pkM) pk_good (fun _ hx => muS_le hx.1)
    (fun made again x => (made, (again, (nt.1, (nt.2, (x.1.2.2.2, ((none : Option (List Int)), (x.1.1, (x.1.2.1, (x.1.2.2.1, (to, (fr, (x.2, ()))))))))))))) (fun made again k x => (made, (again, ((k : Int), (nt.1, (nt.2, (x.1.2.2.2, ((none : Option (List Int)), (x.1.1, (x.1.2.1, (x.1.2.2.1, (to, (fr, (x.2, ()))))))))))))))
    (G := fun x => some (nt.1, (nt.2, (x.1.2.2.2, ((none : Option (List Int)), (x.1.1, (x.1.2.1, (x.1.2.2.1, (to, (fr, (x.2, ()))))))))))) (fun ih made x h => ⟨_, br_true, fun ihi made again k x h hk => ?_, fun ihi made again x h => ?_⟩) (fun ih made x h => br_false) (by omega) (by omega) (x := (0, (s, pk))) ⟨⟨o, Int.le_refl _, o.steps.1⟩, hl⟩
  · obtain ⟨s, pk⟩ := x
    obtain ⟨h, hlk⟩ := h
    have h : JS nt (made, s) := h
    have hlk : pk.length = nt.2.length := hlk
    have c1 : (k : Int) < (nt.1.length : Int) := by omega
    have R' : IsRun nt s (nt, (s, (to, (fr, none)))) := R.step
    have hm : may.f n ((nt.1, nt.2), ((s.1, (s.2.1, (s.2.2.1, s.2.2.2))), (to, (fr, none)))) (k : Int) = some (canP nt s k, ()) := mayO_spec R' h.1 (fun _ h => by cases h) hk
    have hle := h.le
    simp only [br_yes c1, hm, Option.bind_some, brd]
    split
    · rfl
    · rename_i hmo
      show _ = if canP nt s k = true then _ else _
      cases hg : canP nt s k
      · simp only [br_false, Bool.false_eq_true, if_false]
        rw [w64_succ (by omega)]
      · simp only [br_true, if_true]
        have hs := runStep_spec (n := n) R' h.1 (small_of_ok h.1) hk hg hn
        simp only at hs
        rw [hs]
        have o2 := stepP_ok h.1 hk hg
        have hq : (stepP nt s k).2.1.length = nt.2.length := o2.nq
        simp only [Option.bind_some]
        rw [look_spec (by rw [hq]; exact hlk) (by omega) hn]
        simp only [Option.bind_some]
        rw [w64_succ (by omega), w64_id (n := made + 1) (by simp only at hle; omega) (by simp only at hle; omega)]
        rfl
  · simp only [br_no (Int.lt_irrefl _)]
theorem iPeaks_spec {n : Nat} {nt : Network} {most : Int} (h : SmallN nt) (hn : 1048576 < n) : iPeaks.f n nt most = some ((peaks nt most).1, ((peaks nt most).2, ())) := by
  have hb := maxB_eq
  unfold iPeaks.f peaks
  rw [iIsNetwork_spec h hn]
  cases e : okN nt
  · rfl
  · have o : OkN nt := of_decide_eq_true e
    have hL := o.links
    have o0 := start_ok o
    simp only [Option.bind_some, Bool.not_true, br_false, if_true]
    rw [iStartState_spec h o hn]
    simp only [Option.bind_some]
    refine W_eq.1 (W_bind.2 (W_and (newRun_spec (caps := none) o (small_of_ok o0) hn) (fun r ⟨to, fr, e, T, F⟩ => W_eq.2 ?_)))
    subst e
    have R : IsRun nt (start nt) (nt, (start nt, (to, (fr, none)))) := ⟨rfl, rfl, T, F⟩
    simp only
    rw [chk_true ⟨trivial, by omega, by rw [hb]; omega⟩, look_spec (by rw [o0.nq]; simp) (by rw [o0.nq]; omega) hn]
    simp only [Option.bind_some]
    rw [show ((nt.2.length : Int)).toNat = nt.2.length from rfl, pk0_look]
    rw [turnsPk_spec (most := most) R o0 (.inl rfl) (by simp [pk0]) hn]
    simp only [Option.bind_some]
    obtain ⟨oT, -⟩ := peaksT_ok (most := most) o
    have hq : quiet.f n ((nt.1, nt.2), (((peaksT nt most).1.1, ((peaksT nt most).1.2.1, ((peaksT nt most).1.2.2.1, (peaksT nt most).1.2.2.2))), (to, (fr, none)))) = some (!anyCan nt (peaksT nt most).1, ()) := quiet_spec (IsRun.step R) oT hn
    unfold peaksT at hq ⊢
    rw [hq]; rfl
end Go.AmT
