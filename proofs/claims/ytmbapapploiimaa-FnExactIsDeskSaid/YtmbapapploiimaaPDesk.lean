/- Desks, in plain Lean: the law is true of each. -/
import Derived.Test.YtmbapapploiimaaLDesk
set_option maxRecDepth 100000
set_option Elab.async false
namespace Go.AmT
open Go Go.Am
structure SmallD (d : Desk) : Prop where
  net : SmallN d.1
  st : SmallSt d.2.1
  caps : d.2.2.length ≤ 1048576
theorem szDesk_spec {n : Nat} {d : Desk} {left : Int} (hn : 1048576 < n) (hx : InR tDesk d) (h0 : 0 ≤ left) (h1 : left ≤ 1048576) : Left left (szDesk.f n d left) (SmallD d) := by
  obtain ⟨x1, x2, x3, -⟩ := hx
  unfold szDesk.f
  refine Left.next (szNetwork_spec hn x1 h0 h1) h0 h1 (fun b1 r r0 r1 rl => Left.mono ?_ rl)
  refine Left.next (szState_spec hn x2 r0 r1) r0 r1 (fun b2 r' r0 r1 rl => Left.mono ?_ rl)
  refine Left.next (szIntS_spec n x3 r0 r1) r0 r1 (fun b3 r' r0 r1 rl => .done rl ⟨b1, b2, b3⟩)
theorem toDesk_spec {n : Nat} {d : Desk} (h : SmallD d) (hn : 1048576 < n) : toDesk.f n d = some (d, ()) := by
  unfold toDesk.f
  rw [toNetwork_spec h.net hn, toState_spec h.st hn, toIntS_spec h.caps hn]; rfl
theorem eqDesk_refl {n : Nat} {d : Desk} (h : SmallD d) (hn : 1048576 < n) : eqDesk.f n d d = some (true, ()) := by
  unfold eqDesk.f
  rw [eqNetwork_refl h.net hn, eqState_refl h.st hn, eqIntS_refl h.caps hn]; rfl
theorem okSt_net {nt : Network} {s : State} (h : okSt nt s = true) : okN nt = true := by
  have : OkSt nt s := of_decide_eq_true h
  simp [okN, this.net]
theorem sIsDesk_spec {n : Nat} {d : Desk} (h : SmallD d) (hn : 1048576 < n) : sIsDesk.f n d = some (okSt d.1 d.2.1 && okC d.1.2 d.2.2, ()) := by
  unfold sIsDesk.f
  rw [sL6Valid_spec h.net h.st h.caps hn]; rfl
theorem iIsDesk_spec {n : Nat} {d : Desk} (h : SmallD d) (hn : 1048576 < n) : iIsDesk.f n d = some (okSt d.1 d.2.1 && okC d.1.2 d.2.2, ()) := by
  unfold iIsDesk.f
  rw [iIsState_spec h.net h.st hn, iAre_spec h.net h.caps hn]
  cases e : okSt d.1 d.2.1
  · rfl
  · simp [okSt_net e, br]
theorem law_true (d : Desk) (h : InR tDesk d) : ∃ n, law.f n d = some (true, ()) := by
  refine ⟨1048577, ?_⟩
  have hn : 1048576 < 1048577 := by omega
  obtain ⟨r, e, r1, r2⟩ := szDesk_spec (n := 1048577) (left := 1048576) (by omega) h (by omega) (by omega)
  unfold law.f
  simp only [e, Option.bind_some]
  by_cases hr : r < 0
  · simp [hr, br]
  · have hS := r2 (by omega)
    simp only [hr, decide_false, br_false, toDesk_spec hS hn, sIsDesk_spec hS hn, iIsDesk_spec hS hn, eqDesk_refl hS hn, Option.bind_some, decide_true, Bool.not_true]
end Go.AmT
