/- Networks that are fed, in plain Lean. -/
import Derived.Test.YtgepghodhnmhjaaLFeed
import Derived.Test.YtgepghodhnmhjaaPOut
import Derived.Test.YtgepghodhnmhjaaPCopy
namespace Go.AmT
open Go Go.Am
set_option linter.unusedVariables false
set_option linter.unusedSimpArgs false

def moreL (l : Link) (ts : List Int) : Link := (l.1, l.2.1, l.2.2.1, l.2.2.2.1, l.2.2.2.2 ++ ts)
def feedN (nt : Network) (k : Nat) (ts : List Int) : Network := (nt.1, nt.2.set k (moreL (nt.2.getD k zLink) ts))
theorem feed_get {nt : Network} {k : Nat} {ts : List Int} (hk : k < nt.2.length) (i : Nat) : (feedN nt k ts).2.getD i zLink = if i = k then moreL (nt.2.getD k zLink) ts else nt.2.getD i zLink := by
  unfold feedN
  simp only
  rw [List.getD_eq_getElem?_getD, List.getElem?_set, List.getD_eq_getElem?_getD]
  by_cases h : k = i
  · subst h; rw [if_pos rfl, if_pos hk, if_pos rfl]; rfl
  · rw [if_neg h, if_neg (fun e => h e.symm), ← List.getD_eq_getElem?_getD]

def bare (l : Link) : Link := (l.1, l.2.1, l.2.2.1, l.2.2.2.1, [])
theorem feed_bare {nt : Network} {k : Nat} {ts : List Int} (hk : k < nt.2.length) : (feedN nt k ts).2.map bare = nt.2.map bare := by
  unfold feedN
  simp only
  rw [List.map_set]
  have : bare (moreL (nt.2.getD k zLink) ts) = (nt.2.map bare)[k]'(by simpa using hk) := by
    rw [List.getElem_map, getD_lt hk]; rfl
  rw [this, List.set_getElem_self]
theorem count_bare {p : Link → Bool} (hp : ∀ l, p (bare l) = p l) (ls : List Link) : ls.countP p = (ls.map bare).countP p := by
  rw [List.countP_map]
  exact List.countP_congr (fun l _ => by simp only [Function.comp]; rw [hp])

theorem feed_ok {nt : Network} {k : Nat} {ts : List Int} (o : OkN nt) (hk : k < nt.2.length) (hs : okS ((nt.2.getD k zLink).2.2.2.2 ++ ts) = true) : OkN (feedN nt k ts) := by
  have len : (feedN nt k ts).2.length = nt.2.length := by simp [feedN]
  have get : ∀ (i : Nat) (hi : i < (feedN nt k ts).2.length), (feedN nt k ts).2[i] = if i = k then moreL (nt.2.getD k zLink) ts else nt.2.getD i zLink := fun i hi => by rw [← feed_get hk, getD_lt hi]
  refine ⟨o.progs, by rw [len]; exact o.links, o.prog, fun i hi => ?_, fun i hi => ?_, fun i hi q hq => ?_, fun i hi q hq => ?_⟩
  · rw [get i hi]
    split
    · have E := o.ends k hk
      rw [← getD_lt hk zLink] at E
      exact ⟨E.out, E.inn, E.one⟩
    · rw [getD_lt (by omega)]
      exact ⟨(o.ends i (by omega)).out, (o.ends i (by omega)).inn, (o.ends i (by omega)).one⟩
  · rw [get i hi]
    split
    · exact hs
    · rw [getD_lt (by omega)]; exact o.toks i (by omega)
  · rw [count_bare (fun l => rfl), feed_bare hk, ← count_bare (fun l => rfl)]
    exact o.ins i hi q hq
  · rw [count_bare (fun l => rfl), feed_bare hk, ← count_bare (fun l => rfl)]
    exact o.outs i hi q hq

theorem feed_small {nt : Network} {k : Nat} {ts : List Int} (h : SmallN nt) (hk : k < nt.2.length) (hl : (nt.2.getD k zLink).2.2.2.2.length + ts.length ≤ 1048576) : SmallN (feedN nt k ts) := by
  refine ⟨h.progs, h.prog, by simp [feedN]; exact h.links, fun l hl' => ?_⟩
  rcases List.mem_or_eq_of_mem_set hl' with h' | rfl
  · exact h.link l h'
  · exact ⟨by simp only [moreL, List.length_append]; exact hl⟩

theorem iFeed_spec {n : Nat} {nt : Network} {k : Nat} {ts : List Int} (h : SmallN nt) (o : OkN nt) (hk : k < nt.2.length) (hs : okS ((nt.2.getD k zLink).2.2.2.2 ++ ts) = true) (hn : 1048576 < n) : iFeed.f n nt (k : Int) ts = some (feedN nt k ts, (true, ())) := by
  have hl : (nt.2.getD k zLink).2.2.2.2.length + ts.length ≤ 400 := by
    have := (okS_len hs).1
    rw [List.length_append] at this; exact this
  unfold iFeed.f
  rw [iIsNetwork_spec h hn, okN_true o]
  simp only [bind_unit, Option.bind_some, Bool.not_true, br_false]
  rw [br_no (by omega), decide_eq_false (by omega)]
  simp only [cut_inr, br_false]
  rw [iCopyNetwork_spec h hn]
  simp only [bind_unit, Option.bind_some, Int.toNat_natCast]
  rw [chk_true (by omega), concatI_spec (by omega) (by omega) hn]
  simp only [bind_unit, Option.bind_some]
  rw [chk_true (by omega)]
  have e : (nt.1, nt.2.set k ((nt.2.getD k zLink).1, (nt.2.getD k zLink).2.1, (nt.2.getD k zLink).2.2.1, (nt.2.getD k zLink).2.2.2.1, (nt.2.getD k zLink).2.2.2.2 ++ ts)) = feedN nt k ts := rfl
  rw [e, iChecked_spec (feed_small h hk (by omega)) hn, if_pos (okN_true (feed_ok o hk hs))]
  rfl
end Go.AmT
