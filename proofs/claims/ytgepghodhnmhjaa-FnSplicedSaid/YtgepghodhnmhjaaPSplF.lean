/- A process put into a link changes no streams: the law. -/
import Derived.Test.YtgepghodhnmhjaaLSplF
import Derived.Test.YtgepghodhnmhjaaPBel
import Derived.Test.YtgepghodhnmhjaaPPorts
import Derived.Test.YtgepghodhnmhjaaPSplS
namespace Go.AmT
open Go Go.Am
set_option linter.unusedVariables false
set_option linter.unusedSimpArgs false

theorem intsF_spec {n : Nat} {a : List Int} (hl : a.length ≤ 1048576) (hn : 1048576 < n) : intsF.f n a a = some (true, ()) := by
  unfold intsF.f
  rw [show (!decide ((a.length : Int) = (a.length : Int))) = false by simp, br_false]
  refine iter_line (fun i => ((i : Int), ())) a.length (fun ih i hi => ?_) (fun ih => br_no (Int.lt_irrefl _)) (by omega)
  simp only [br_yes (show (i : Int) < (a.length : Int) by omega)]
  rw [chk_true (by omega), chk_true (by omega)]
  simp only [decide_true, Bool.not_true, br_false]
  rw [w64_succ (by omega)]
theorem law_true (code : List Int) (hcode : InR (.sl U8) code) : ∃ n, law.f n code = some (true, ()) := by
  refine ⟨1048577, ?_⟩
  have hn : 1048576 < 1048577 := by omega
  unfold law.f
  by_cases hl : code.length ≤ 1048576
  rotate_left
  · rw [br_yes (by omega)]
  rw [br_no (show ¬ (1048576 < (code.length : Int)) by omega)]
  refine W_eq.1 ?_
  rw [W_bind]
  refine W_and (makeNetwork_W (m := 5) hl (by omega) hn) (fun r1 hN => ?_)
  rw [W_brd]
  refine ⟨fun _ => W_some.2 rfl, fun hne => ?_⟩
  rw [W_bind]
  refine W_and (lawAt_W hl hcode (by omega)) (fun r2 h2 => ?_)
  rw [if_neg hne]
  obtain ⟨nt, ⟨⟩⟩ := r1
  have hS := hN.small
  have o : OkN nt := hN.ok
  have hpr : nt.1.length ≤ 5 := hN.progs
  have hli := links_le o (fun p hp => (hN.drawn p hp).io)
  have hne : ¬ ((nt.2.length : Int) = 0) := hne
  simp only
  have hk1 := Int.tmod_nonneg (a := r2.1) (nt.2.length : Int) h2.1
  have hk2 := Int.tmod_lt_of_pos r2.1 (b := (nt.2.length : Int)) (by omega)
  generalize r2.1.tmod (nt.2.length : Int) = k0 at hk1 hk2
  obtain ⟨k, rfl⟩ : ∃ l : Nat, k0 = (l : Int) := ⟨k0.toNat, by omega⟩
  have hk : k < nt.2.length := by omega
  have om := splice_ok o hk (by omega) (by omega)
  have hSm := splice_small hS (okN_true o) hk
  have hspl : spl nt (k : Int) = (splice nt k, (true, ())) := by
    unfold spl
    rw [okN_true o, decide_eq_true (show 0 ≤ (k : Int) ∧ (k : Int) < (nt.2.length : Int) by omega)]
    simp only [Bool.and_self, if_true, Int.toNat_natCast]
    rw [if_pos (okN_true om)]
  rw [W_eq, iSpliceThrough_spec hS hn, bind_unit, hspl, sLeast_spec hS o hn, bind_unit]
  simp only
  rw [iLeast_spec hSm om hn, bind_unit]
  unfold leastR
  cases e : leastF nt 300 1 (tokL nt) with
  | none => rfl
  | some gr =>
    obtain ⟨g, r⟩ := gr
    have e : leastP nt = some (g, r) := e
    simp only [Bool.not_true, br_false, cut_inr]
    rw [sLeast_spec hSm om hn, bind_unit]
    unfold leastR
    cases e' : leastF (splice nt k) 300 1 (tokL (splice nt k)) with
    | none => rfl
    | some hr =>
      obtain ⟨h, r'⟩ := hr
      have e' : leastP (splice nt k) = some (h, r') := e'
      obtain ⟨s1, s2⟩ := spl_least o om hk e e'
      have lg := least_len e
      have lh := least_len e'
      rw [splL_len] at lh
      have hok : ∀ j, okS (atL g j) = true := fun j => by
        by_cases hj : j < nt.2.length
        · exact least_okS e hj
        · unfold atL; rw [List.getD_eq_getElem?_getD, List.getElem?_eq_none (by omega)]; decide
      have hg2 : ∀ j, (atL g j).length ≤ 1048576 := fun j => by have := (okS_len (hok j)).1; omega
      simp only [decide_true, Bool.not_true, br_false, br_true]
      rw [w64_id (n := (g.length : Int) + 1) (by omega) (by omega), decide_eq_true (show (h.length : Int) = (g.length : Int) + 1 by omega), Bool.not_true, cut_inr, br_false, chk_true (by omega)]
      have ht : (h.drop 0).take ((g.length : Int).toNat - 0) = g := by
        rw [List.drop_zero, Int.toNat_natCast, Nat.sub_zero]
        refine eq_of_atL (by simp; omega) (fun j hj => ?_)
        have hj : j < nt.2.length := by simp at hj; omega
        rw [← s1 j hj]
        unfold atL
        rw [getD_lt (by simp; omega), getD_lt (by omega), List.getElem_take]
      rw [ht, makeEqual_spec (by omega) hg2 hn, bind_unit, decide_eq_true rfl, br_true, chk_true (by omega), chk_true (by omega)]
      have hL : h.getD (g.length : Int).toNat [] = g.getD (k : Int).toNat [] := by
        rw [Int.toNat_natCast, Int.toNat_natCast, lg]; exact s2
      rw [hL, Int.toNat_natCast]
      have := intsF_spec (n := 1048577) (a := g.getD k []) (hg2 k) hn
      rw [this]; rfl
end Go.AmT
