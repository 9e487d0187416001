/- Capacities, in plain Lean. -/
import Derived.Test.YtfcehikkpoeebaaGreatLCap
namespace Go.AmT
open Go Go.Am
set_option linter.unusedVariables false
set_option linter.unusedSimpArgs false

/-- are these capacities of the network? -/
def okC (ls : List Link) (caps : List Int) : Bool := decide (caps.length = ls.length) && (List.range caps.length).all fun i => decide (((ls.getD i zLink).2.2.2.2.length : Int) ≤ caps.getD i 0) && decide (caps.getD i 0 ≤ 400)

theorem lt_lt {α : Type} (v m k : Int) {x y : Option α} : br (decide (v < m)) x (br (decide (k < v)) x y) = if (decide (m ≤ v) && decide (v ≤ k)) = true then y else x := by
  by_cases a : m ≤ v <;> by_cases b : v ≤ k
  · simp [br, a, b, show ¬ v < m by omega, show ¬ k < v by omega]
  · simp [br, a, b, show ¬ v < m by omega, show k < v by omega]
  · simp [br, a, b, show v < m by omega]
  · simp [br, a, b, show v < m by omega]

theorem iAre_spec {n : Nat} {nt : Network} {caps : List Int} (h : SmallN nt) (hc : caps.length ≤ 1048576) (hn : 1048576 < n) : iAre.f n nt caps = some (okN nt && okC nt.2 caps, ()) := by
  have hl := h.links
  unfold iAre.f
  rw [iIsNetwork_spec h hn, Option.bind_some]
  cases hok : okN nt with
  | false => simp [br, cut]
  | true =>
    by_cases hlen : caps.length = nt.2.length
    · have hle : (caps.length : Int) = (nt.2.length : Int) := by omega
      simp only [Bool.not_true, br_false, hle, decide_true, cut_inr, Bool.true_and, okC, hlen]
      refine W_eq.1 (W_chkloop (bad := some (false, ())) nt.2.length (fun i => decide (((nt.2.getD i zLink).2.2.2.2.length : Int) ≤ caps.getD i 0) && decide (caps.getD i 0 ≤ 400)) (fun ih i hi => ?_) (fun ih => br_no (Int.lt_irrefl _)) (by omega) (fun hok => ?_) (fun i hi hb => ?_))
      · have h1 : (i : Int) < (nt.2.length : Int) := by omega
        simp only [h1, decide_true, br_true, Int.toNat_natCast]
        rw [chk_true (by simp), chk_true (by simp), w64_succ (by omega)]
        exact lt_lt _ _ _
      · rw [W_some]
        have : ((List.range nt.2.length).all fun i => decide (((nt.2.getD i zLink).2.2.2.2.length : Int) ≤ caps.getD i 0) && decide (caps.getD i 0 ≤ 400)) = true := List.all_eq_true.2 (fun i hi => hok i (List.mem_range.1 hi))
        rw [this]
      · rw [W_some]
        have : ((List.range nt.2.length).all fun i => decide (((nt.2.getD i zLink).2.2.2.2.length : Int) ≤ caps.getD i 0) && decide (caps.getD i 0 ≤ 400)) = false := by
          rw [List.all_eq_false]; exact ⟨i, List.mem_range.2 hi, by rw [hb]; simp⟩
        rw [this]
    · have hle : ¬ ((caps.length : Int) = (nt.2.length : Int)) := by omega
      simp [hle, okC, hlen, br, cut]
end Go.AmT
