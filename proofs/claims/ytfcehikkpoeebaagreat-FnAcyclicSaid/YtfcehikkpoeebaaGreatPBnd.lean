/- Networks at work with capacities, in plain Lean. -/
import Derived.Test.YtfcehikkpoeebaaGreatLBnd
namespace Go.AmT
open Go Go.Am
set_option linter.unusedVariables false
set_option linter.unusedSimpArgs false

theorem okSt_true {nt : Network} {s : State} (o : OkSt nt s) : okSt nt s = true := decide_eq_true o
theorem okSt_of {nt : Network} {s : State} (h : okSt nt s = true) : OkSt nt s := of_decide_eq_true h
theorem okN_of {nt : Network} {s : State} (h : okSt nt s = true) : okN nt = true := by
  have := (okSt_of h).net
  simp [okN, this]
theorem iBounded_spec {n : Nat} {nt : Network} {s : State} {caps : List Int} (h : SmallN nt) (hs : SmallSt s) (hc : caps.length ≤ 1048576) (hn : 1048576 < n) : iBounded.f n nt s caps = some (okSt nt s && okC nt.2 caps, ()) := by
  unfold iBounded.f
  rw [iIsState_spec h hs hn, iAre_spec h hc hn]
  cases e : okSt nt s
  · rfl
  · simp [okN_of e, br]
theorem okC_len {ls : List Link} {caps : List Int} (h : okC ls caps = true) : caps.length = ls.length := by
  unfold okC at h
  simp only [Bool.and_eq_true, decide_eq_true_eq] at h
  exact h.1

def mayP (nt : Network) (s : State) (caps : List Int) (k : Nat) : Bool :=
  canP nt s k && (!decide ((wantOf nt s k).1 = 3) || (decide ((nt.2.getD (linkOf nt s k).toNat zLink).2.2.1 < 0) || decide (((s.2.1.getD (linkOf nt s k).toNat []).length : Int) < caps.getD (linkOf nt s k).toNat 0)))

theorem boundedRun_spec {n : Nat} {nt : Network} {s : State} {caps : List Int} (o : OkSt nt s) (h : SmallSt s) (hc : caps.length ≤ 1048576) (hn : 1048576 < n) :
    W (boundedRun.f n nt.1 nt.2 s.1 s.2.1 s.2.2.1 s.2.2.2 caps) (fun r => IsRun nt s ((r.1, r.2.1), ((r.2.2.2.2.1, (r.2.2.2.2.2.1, (r.2.2.2.2.2.2.1, r.2.2.1))), (r.2.2.2.2.2.2.2.1, (r.2.2.2.2.2.2.2.2.1, r.2.2.2.1)))) ∧ r.2.2.2.1 = some caps) := by
  unfold boundedRun.f
  rw [small_chk (by omega), W_bind]
  refine W_and (newRun_spec o.net h hn) (fun r ⟨to, fr, e, T, F⟩ => ?_)
  subst e
  rw [W_some]
  exact ⟨⟨rfl, rfl, T, F⟩, rfl⟩
theorem may_spec {n : Nat} {nt : Network} {s : State} {caps : List Int} {r : Run} (R : IsRun nt s r) (o : OkSt nt s) (hc : caps.length = nt.2.length) (e : r.2.2.2.2 = some caps) {k : Nat} (hk : k < nt.1.length) : may.f n r (k : Int) = some (mayP nt s caps k, ()) := by
  unfold may.f mayP
  rw [can_spec R o hk, wants_spec R o hk, e, R.st, R.net]
  simp only [Option.bind_some, Option.isNone_some, Option.getD_some]
  have hq := o.nq
  cases hcan : canP nt s k
  · rfl
  · simp only [Bool.not_true, br_false, cut_inr, Bool.true_and]
    by_cases c3 : (wantOf nt s k).1 = 3
    · obtain ⟨j, hj, e, -⟩ := linkOf_from o hk c3
      rw [e]
      simp only [c3, decide_true, Bool.not_true, br_false, Int.toNat_natCast, Bool.false_or]
      rw [chk_true (by omega), chk_true (by omega), chk_true (by omega)]
      cases decide ((nt.2.getD j zLink).2.2.1 < 0) <;> rfl
    · simp [c3, br]
def anyMay (nt : Network) (s : State) (caps : List Int) : Bool := (List.range nt.1.length).any (mayP nt s caps)
end Go.AmT
