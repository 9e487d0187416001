/- The law AreCapacities, in plain Lean. -/
import Derived.Test.YtmbapapploiimaaLAre
namespace Go.AmT
open Go Go.Am
set_option linter.unusedVariables false
set_option linter.unusedSimpArgs false

/-- are these capacities of the network? -/
def okC (ls : List Link) (caps : List Int) : Bool := decide (caps.length = ls.length) && (List.range caps.length).all fun i => decide (((ls.getD i zLink).2.2.2.2.length : Int) ≤ caps.getD i 0) && decide (caps.getD i 0 ≤ 400)

theorem lt_lt {α : Type} (v m k : Int) {x y : Option α} : br (decide (v < m)) x (br (decide (k < v)) x y) = if (decide (m ≤ v) && decide (v ≤ k)) = true then y else x := by
  by_cases a : m ≤ v <;> by_cases b : v ≤ k
  · simp [br, a, b, show ¬ v < m by omega, show ¬ k < v by omega]
  · simp [br, a, b, show ¬ v < m by omega, show k < v by omega]
  · simp [br, a, b, show v < m by omega]
  · simp [br, a, b, show v < m by omega]

theorem sAre_spec {n : Nat} {nt : Network} {caps : List Int} (h : SmallN nt) (hc : caps.length ≤ 1048576) (hn : 1048576 < n) : sAre.f n nt caps = some (okN nt && okC nt.2 caps, ()) := by
  have hl := h.links
  unfold sAre.f
  rw [sIsNetwork_spec h hn, Option.bind_some]
  cases hok : okN nt with
  | false => simp [br, cut]
  | true =>
    by_cases hlen : caps.length = nt.2.length
    · have hle : (caps.length : Int) = (nt.2.length : Int) := by omega
      simp only [Bool.not_true, br_false, hle, decide_true, cut_inr, Bool.true_and, okC, hlen]
      refine W_eq.1 (W_chkloop (bad := some (false, ())) nt.2.length (fun i => decide (((nt.2.getD i zLink).2.2.2.2.length : Int) ≤ caps.getD i 0) && decide (caps.getD i 0 ≤ 400)) (fun ih i hi => ?_) (fun ih => br_no (Int.lt_irrefl _)) (by omega) (fun hok => ?_) (fun i hi hb => ?_))
      · have h1 : (i : Int) < (nt.2.length : Int) := by omega
        simp only [h1, decide_true, br_true, Int.toNat_natCast, sL1In_spec, Option.bind_some]
        rw [chk_true (by simp), chk_true (by simp), w64_succ (by omega), br_nif]
      · rw [W_some]
        have : ((List.range nt.2.length).all fun i => decide (((nt.2.getD i zLink).2.2.2.2.length : Int) ≤ caps.getD i 0) && decide (caps.getD i 0 ≤ 400)) = true := List.all_eq_true.2 (fun i hi => hok i (List.mem_range.1 hi))
        rw [this]
      · rw [W_some]
        have : ((List.range nt.2.length).all fun i => decide (((nt.2.getD i zLink).2.2.2.2.length : Int) ≤ caps.getD i 0) && decide (caps.getD i 0 ≤ 400)) = false := by
          rw [List.all_eq_false]; exact ⟨i, List.mem_range.2 hi, by rw [hb]; simp⟩
        rw [this]
    · have hle : ¬ ((caps.length : Int) = (nt.2.length : Int)) := by omega
      simp [hle, okC, hlen, br, cut]

theorem iAre_spec {n : Nat} {nt : Network} {caps : List Int} (h : SmallN nt) (hc : caps.length ≤ 1048576) (hn : 1048576 < n) : iAre.f n nt caps = some (okN nt && okC nt.2 caps, ()) := by
  have hl := h.links
  unfold iAre.f
  rw [iIsNetwork_spec h hn, Option.bind_some]
  cases hok : okN nt with
  | false => simp [br, cut]
  | true =>
    by_cases hlen : caps.length = nt.2.length
    · have hle : (caps.length : Int) = (nt.2.length : Int) := by omega
      simp only [Bool.not_true, br_false, hle, decide_true, cut_inr, Bool.true_and, okC, hlen]
      refine W_eq.1 (W_chkloop (bad := some (false, ())) nt.2.length (fun i => decide (((nt.2.getD i zLink).2.2.2.2.length : Int) ≤ caps.getD i 0) && decide (caps.getD i 0 ≤ 400)) (fun ih i hi => ?_) (fun ih => br_no (Int.lt_irrefl _)) (by omega) (fun hok => ?_) (fun i hi hb => ?_))
      · have h1 : (i : Int) < (nt.2.length : Int) := by omega
        simp only [h1, decide_true, br_true, Int.toNat_natCast]
        rw [chk_true (by simp), chk_true (by simp), w64_succ (by omega)]
        exact lt_lt _ _ _
      · rw [W_some]
        have : ((List.range nt.2.length).all fun i => decide (((nt.2.getD i zLink).2.2.2.2.length : Int) ≤ caps.getD i 0) && decide (caps.getD i 0 ≤ 400)) = true := List.all_eq_true.2 (fun i hi => hok i (List.mem_range.1 hi))
        rw [this]
      · rw [W_some]
        have : ((List.range nt.2.length).all fun i => decide (((nt.2.getD i zLink).2.2.2.2.length : Int) ≤ caps.getD i 0) && decide (caps.getD i 0 ≤ 400)) = false := by
          rw [List.all_eq_false]; exact ⟨i, List.mem_range.2 hi, by rw [hb]; simp⟩
        rw [this]
    · have hle : ¬ ((caps.length : Int) = (nt.2.length : Int)) := by omega
      simp [hle, okC, hlen, br, cut]
theorem law_true (nt : Network) (caps : List Int) (h : InR tNetwork nt) : ∃ n, law.f n nt caps = some (true, ()) := by
  refine ⟨1048577, ?_⟩
  by_cases hc : caps.length ≤ 1048576
  · have hc' : ¬ (1048576 < (caps.length : Int)) := by omega
    obtain ⟨r, e, r1, r2⟩ := szNetwork_spec (n := 1048577) (left := 1048576) (by omega) h (by omega) (by omega)
    unfold law.f
    simp only [hc', decide_false, br_false, e, Option.bind_some]
    by_cases hr : r < 0
    · simp [hr, br]
    · have hS := r2 (by omega)
      simp only [hr, decide_false, br_false, toNetwork_spec hS (show 1048576 < 1048577 by omega), toIntS_spec hc (show 1048576 < 1048577 by omega), sAre_spec hS hc (show 1048576 < 1048577 by omega), iAre_spec hS hc (show 1048576 < 1048577 by omega),
        eqNetwork_refl hS (show 1048576 < 1048577 by omega), eqIntS_refl hc (show 1048576 < 1048577 by omega), Option.bind_some, decide_true, Bool.not_true]
  · unfold law.f
    simp [show 1048576 < (caps.length : Int) by omega, br]

end Go.AmT
