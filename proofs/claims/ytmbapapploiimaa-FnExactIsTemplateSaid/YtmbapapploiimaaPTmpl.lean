/- Templates, in plain Lean: the law is true of all networks. -/
import Derived.Test.YtmbapapploiimaaLTmpl
namespace Go.AmT
open Go Go.Am
set_option linter.unusedSimpArgs false
theorem law_true (nt : Network) (k : Int) (m : Network) (h : InR tNetwork nt) (h' : InR tNetwork m) : ∃ n, law.f n nt k m = some (true, ()) := by
  refine ⟨1048577, ?_⟩
  have hn : 1048576 < 1048577 := by omega
  unfold law.f
  obtain ⟨r, e, r1, r2⟩ := szNetwork_spec (n := 1048577) (left := 1048576) (by omega) h (by omega) (by omega)
  simp only [e, Option.bind_some]
  by_cases hr : r < 0
  · simp [hr, br]
  · rw [br_no hr]
    have hS := r2 (by omega)
    obtain ⟨q, e, q1, q2⟩ := szNetwork_spec (n := 1048577) (left := r) (by omega) h' (by omega) (by omega)
    simp only [e, Option.bind_some]
    by_cases hq : q < 0
    · simp [hq, br]
    · rw [br_no hq]
      have hT := q2 (by omega)
      simp only [toNetwork_spec hS hn, toNetwork_spec hT hn, sIsTemplate_spec hS hT hn, iIsTemplate_spec hS hT hn, eqNetwork_refl hS hn, eqNetwork_refl hT hn, Option.bind_some, decide_true, Bool.not_true, br_false]
end Go.AmT
