/- Networks at work with capacities, in plain Lean. -/
import Derived.Test.YtgepghodhnmhjaaLBnd
namespace Go.AmT
open Go Go.Am
set_option linter.unusedVariables false
set_option linter.unusedSimpArgs false

theorem okSt_true {nt : Network} {s : State} (o : OkSt nt s) : okSt nt s = true := decide_eq_true o
theorem okSt_of {nt : Network} {s : State} (h : okSt nt s = true) : OkSt nt s := of_decide_eq_true h
def mayP (nt : Network) (s : State) (caps : List Int) (k : Nat) : Bool :=
  canP nt s k && (!decide ((wantOf nt s k).1 = 3) || (decide ((nt.2.getD (linkOf nt s k).toNat zLink).2.2.1 < 0) || decide (((s.2.1.getD (linkOf nt s k).toNat []).length : Int) < caps.getD (linkOf nt s k).toNat 0)))

theorem may_spec {n : Nat} {nt : Network} {s : State} {caps : List Int} {r : Run} (R : IsRun nt s r) (o : OkSt nt s) (hc : caps.length = nt.2.length) (e : r.2.2.2.2 = some caps) {k : Nat} (hk : k < nt.1.length) : may.f n r (k : Int) = some (mayP nt s caps k, ()) := by
  unfold may.f mayP
  rw [can_spec R o hk, wants_spec R o hk, e, R.st, R.net]
  simp only [Option.bind_some, Option.isNone_some, Option.getD_some]
  have hq := o.nq
  cases hcan : canP nt s k
  · rfl
  · simp only [Bool.not_true, br_false, cut_inr, Bool.true_and]
    by_cases c3 : (wantOf nt s k).1 = 3
    · obtain ⟨j, hj, e, -⟩ := linkOf_from o hk c3
      rw [e]
      simp only [c3, decide_true, Bool.not_true, br_false, Int.toNat_natCast, Bool.false_or]
      rw [chk_true (by omega), chk_true (by omega), chk_true (by omega)]
      cases decide ((nt.2.getD j zLink).2.2.1 < 0) <;> rfl
    · simp [c3, br]
end Go.AmT
