/- A network that is fed twice: the law. -/
import Derived.Test.YtgepghodhnmhjaaLFed
import Derived.Test.YtgepghodhnmhjaaPFeed
import Derived.Test.YtgepghodhnmhjaaPFmtN
import Derived.Test.YtgepghodhnmhjaaPGenS
namespace Go.AmT
open Go Go.Am
set_option linter.unusedVariables false
set_option linter.unusedSimpArgs false

theorem makeStream_W {n : Nat} {code : List Int} (hb : code.length ≤ 1048576) (hn : 1048576 < n) : W (makeStream.f n code 6) (fun r => Toks 6 r.1) := by
  unfold makeStream.f
  rw [W_bind]
  refine W_and (curNew_W hb hn) (fun r1 c1 => ?_)
  rw [W_bind]
  have e : max (0 : Int) (min 6 100) = ((6 : Nat) : Int) := by decide
  rw [e]
  refine W_and (tokens_W hb (m := 6) (by omega) hn c1) (fun r2 h2 => ?_)
  exact W_some.2 h2.1

theorem toks_okS {m : Nat} {l : List Int} (h : Toks m l) (hm : m ≤ 400) : okS l = true := by
  unfold okS
  rw [decide_eq_true (by have := h.1; omega)]
  simp only [Bool.true_and, List.all_eq_true]
  exact h.2
theorem Toks.app {a b : Nat} {l m : List Int} (h : Toks a l) (h' : Toks b m) : Toks (a + b) (l ++ m) := by
  refine ⟨by rw [List.length_append]; have := h.1; have := h'.1; omega, fun x hx => ?_⟩
  rcases List.mem_append.1 hx with hx | hx
  · exact h.2 x hx
  · exact h'.2 x hx
theorem feed_twice {nt : Network} {k : Nat} {a b : List Int} (hk : k < nt.2.length) : feedN (feedN nt k a) k b = feedN nt k (a ++ b) := by
  have g : (feedN nt k a).2.getD k zLink = moreL (nt.2.getD k zLink) a := by rw [feed_get hk, if_pos rfl]
  unfold feedN at g ⊢
  simp only at g ⊢
  rw [g, List.set_set]
  unfold moreL
  simp only [List.append_assoc]

theorem w64_s2 {A B : Nat} (h1 : A ≤ 400) (h2 : B ≤ 400) : w64 ((A : Int) + (B : Int)) = (A : Int) + (B : Int) := w64_id (by omega) (by omega)
theorem w64_s3 {X A B : Nat} (h : X ≤ 400) (h1 : A ≤ 400) (h2 : B ≤ 400) : w64 ((X : Int) + ((A : Int) + (B : Int))) = (X : Int) + ((A : Int) + (B : Int)) := w64_id (by omega) (by omega)
theorem w64_s0 {X : Nat} (h : X ≤ 400) : w64 ((X : Int) + 0) = (X : Int) + 0 := w64_id (by omega) (by omega)
theorem law_true (code : List Int) (hcode : InR (.sl U8) code) : ∃ n, law.f n code = some (true, ()) := by
  obtain ⟨n, hn⟩ : ∃ n : Nat, 1048576 < n := ⟨1048577, by omega⟩
  refine ⟨n, ?_⟩
  unfold law.f
  by_cases hl : code.length ≤ 1048576
  rotate_left
  · rw [br_yes (by omega)]
  rw [br_no (show ¬ (1048576 < (code.length : Int)) by omega)]
  refine W_eq.1 ?_
  rw [W_bind]
  refine W_and (makeNetwork_W (m := 6) hl (by omega) hn) (fun r1 hN => ?_)
  rw [W_brd]
  refine ⟨fun _ => W_some.2 rfl, fun hne => ?_⟩
  rw [W_bind]
  refine W_and (lawAt_W hl hcode (by omega)) (fun r2 h2 => ?_)
  rw [if_neg hne]
  obtain ⟨nt, ⟨⟩⟩ := r1
  have hS := hN.small
  have o : OkN nt := hN.ok
  have hlk := o.links
  have hne : ¬ ((nt.2.length : Int) = 0) := hne
  simp only
  have hk1 := Int.tmod_nonneg (a := r2.1) (nt.2.length : Int) h2.1
  have hk2 := Int.tmod_lt_of_pos r2.1 (b := (nt.2.length : Int)) (by omega)
  generalize r2.1.tmod (nt.2.length : Int) = k0 at hk1 hk2
  obtain ⟨k, rfl⟩ : ∃ l : Nat, k0 = (l : Int) := ⟨k0.toNat, by omega⟩
  have hk : k < nt.2.length := by omega
  rw [W_bind]
  refine W_and (fresh_W hl hn) (fun r3 h3 => ?_)
  rw [W_bind]
  refine W_and (makeStream_W h3 hn) (fun r4 h4 => ?_)
  rw [W_bind]
  refine W_and (fresh_W hl hn) (fun r5 h5 => ?_)
  rw [W_bind]
  refine W_and (makeStream_W h5 hn) (fun r6 h6 => ?_)
  obtain ⟨a, ⟨⟩⟩ := r4
  obtain ⟨b, ⟨⟩⟩ := r6
  have ta : Toks 6 a := h4
  have tb : Toks 6 b := h6
  have t0 : Toks 8 (nt.2.getD k zLink).2.2.2.2 := hN.toks _ (by rw [getD_lt hk]; exact List.getElem_mem hk)
  have la := ta.1
  have lb := tb.1
  have l0 := t0.1
  have okA := toks_okS (t0.app ta) (by omega)
  have okAB := toks_okS (t0.app (ta.app tb)) (by omega)
  have ox := feed_ok o hk okA
  have sx : SmallN (feedN nt k a) := feed_small hS hk (by omega)
  have hkx : k < (feedN nt k a).2.length := by simp [feedN]; exact hk
  have gx : ((feedN nt k a).2.getD k zLink).2.2.2.2 = (nt.2.getD k zLink).2.2.2.2 ++ a := by rw [feed_get hk, if_pos rfl]; rfl
  have okB : okS (((feedN nt k a).2.getD k zLink).2.2.2.2 ++ b) = true := by rw [gx, List.append_assoc]; exact okAB
  have oz := feed_ok o hk okAB
  have sz : SmallN (feedN nt k (a ++ b)) := feed_small hS hk (by rw [List.length_append]; omega)
  simp only
  rw [iFeed_spec hS o hk okA hn]
  simp only [bind_unit, Option.bind_some]
  rw [iFeed_spec sx ox hkx okB hn]
  simp only [bind_unit, Option.bind_some, List.nil_append, List.length_nil]
  have mB : maxB = 140737488355328 := rfl
  rw [chk_true (by rw [mB]; omega), chk_true (by rw [mB]; omega), iFeed_spec hS o hk okAB hn, feed_twice hk]
  simp only [bind_unit, Option.bind_some, Bool.not_true, br_false]
  obtain ⟨t, e4, -⟩ := fmtNetwork_W sz oz hn
  rw [e4]
  have len : (feedN nt k (a ++ b)).2.length = nt.2.length := by simp [feedN]
  simp only [bind_unit, Option.bind_some, decide_true, Bool.not_true, br_false, len, cut_inr]
  clear hkx gx okB ox sx len
  refine W_chkloop nt.2.length (fun _ => true) (bad := some (false, ())) (fun ih i hi => ?_) (fun ih => br_no (Int.lt_irrefl _)) (by omega) (fun _ => W_some.2 rfl) (fun i hi h => by simp at h)
  simp only [br_yes (show (i : Int) < (nt.2.length : Int) by omega), Int.toNat_natCast, if_true]
  rw [chk_true (by omega)]
  have gi := feed_get (ts := a ++ b) hk i
  have ts := hN.toks _ (show nt.2.getD i zLink ∈ nt.2 by rw [getD_lt hi]; exact List.getElem_mem hi)
  have li := ts.1
  by_cases e : (i : Int) = (k : Int)
  · have e' : i = k := by omega
    subst e'
    rw [if_pos rfl] at gi
    rw [br_yes rfl]
    simp only [cut_inr]
    have e1 := w64_s2 (Nat.le_trans la (by decide : 6 ≤ 400)) (Nat.le_trans lb (by decide : 6 ≤ 400))
    have e2 := w64_s3 (Nat.le_trans li (by decide : 8 ≤ 400)) (Nat.le_trans la (by decide : 6 ≤ 400)) (Nat.le_trans lb (by decide : 6 ≤ 400))
    rw [chk_true (by omega), w64_succ (i := i) (by omega)]
    simp only [e1, e2]
    rw [decide_eq_true (show ((((feedN nt i (a ++ b)).2.getD i zLink).2.2.2.2.length : Nat) : Int) = ((nt.2.getD i zLink).2.2.2.2.length : Int) + ((a.length : Int) + (b.length : Int)) by
      rw [gi]; simp only [moreL, List.length_append]; omega)]
    simp only [Bool.not_true, br_false]
  · rw [if_neg (by omega)] at gi
    rw [br_no e]
    simp only [cut_inr]
    have e2 := w64_s0 (Nat.le_trans li (by decide : 8 ≤ 400))
    rw [chk_true (by omega), w64_succ (i := i) (by omega)]
    simp only [e2]
    rw [decide_eq_true (show ((((feedN nt k (a ++ b)).2.getD i zLink).2.2.2.2.length : Nat) : Int) = ((nt.2.getD i zLink).2.2.2.2.length : Int) + 0 by rw [gi]; omega)]
    simp only [Bool.not_true, br_false]
end Go.AmT
