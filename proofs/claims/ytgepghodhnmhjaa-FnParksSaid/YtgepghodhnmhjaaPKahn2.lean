/- Runs of a network, in plain Lean: how far each process has come tells the state; what can be done goes on being possible. -/
import Derived.Test.YtgepghodhnmhjaaPKahn
namespace Go.AmT
open Go Go.Am
set_option linter.unusedVariables false
set_option linter.unusedSimpArgs false

/-- steps that were made, each by a process that might make it; and how many each process made -/
inductive Steps (nt : Network) (g : State → Nat → Bool) (s0 : State) : State → (Nat → Nat) → Prop
  | refl : Steps nt g s0 s0 (fun _ => 0)
  | step {s : State} {m : Nat → Nat} {k : Nat} : Steps nt g s0 s m → k < nt.1.length → g s k = true → canP nt s k = true → Steps nt g s0 (stepP nt s k) (upd m k (m k + 1))

section
variable {nt : Network} {g : State → Nat → Bool} {s0 s t : State} {m mt : Nat → Nat}
theorem Steps.ok (o : OkSt nt s0) (S : Steps nt g s0 s m) : OkSt nt s := by
  induction S with
  | refl => exact o
  | step _ hk _ hc ih => exact stepP_ok ih hk hc
theorem Steps.sub (o : OkSt nt s0) (S : Steps nt g s0 s m) : Sub (sent s0) (sent s) := by
  induction S with
  | refl => exact Sub.refl _
  | step S hk _ hc ih => exact ih.trans (sent_grows (S.ok o) hk)
theorem Steps.run (o : OkSt nt s0) (S : Steps nt g s0 s m) : ∀ k, k < nt.1.length → lrun (prog nt k) (inF nt (sent s) k) (m k) (lc nt s0 k) = some (lc nt s k) := by
  induction S with
  | refl => intro k hk; rfl
  | @step s m k S hk _ hc ih =>
    intro j hj
    have os := S.ok o
    have hg := sent_grows os hk
    have h1 := lrun_mono (inF_mono (nt := nt) (k := j) hg) (ih j hj)
    by_cases h : j = k
    · subst h
      rw [upd_same]
      show (lrun _ _ _ _).bind _ = _
      rw [h1]
      exact lstep_mono (inF_mono hg) (step_own os hj hc)
    · rw [upd_ne h, step_other os hk hj hc h]
      exact h1
def total (m : Nat → Nat) : Nat → Nat
  | 0 => 0
  | K + 1 => total m K + m K
theorem total_upd {m : Nat → Nat} {k : Nat} : ∀ {K : Nat}, total (upd m k (m k + 1)) K = total m K + if k < K then 1 else 0
  | 0 => by simp [total]
  | K + 1 => by
    show total _ K + upd m k (m k + 1) K = total m K + m K + _
    rw [total_upd]
    by_cases h : K = k
    · subst h; rw [upd_same]
      simp; omega
    · rw [upd_ne h]
      by_cases h1 : k < K
      · rw [if_pos h1, if_pos (by omega)]; omega
      · rw [if_neg h1, if_neg (by omega)]; omega
theorem total_le {m m' : Nat → Nat} : ∀ {K : Nat}, (∀ k, k < K → m k ≤ m' k) → total m K ≤ total m' K
  | 0, _ => Nat.le_refl _
  | K + 1, h => by
    have h1 := total_le (K := K) (fun k hk => h k (by omega))
    have h2 := h K (by omega)
    show total m K + m K ≤ total m' K + m' K
    omega
theorem Steps.count (S : Steps nt g s0 s m) : s.2.2.2 = s0.2.2.2 + (total m nt.1.length : Int) := by
  induction S with
  | refl =>
    have : ∀ K, total (fun _ => 0) K = 0 := by
      intro K
      induction K with
      | zero => rfl
      | succ K ih => show total (fun _ => 0) K + 0 = 0; omega
    rw [this]; simp
  | @step s m k S hk _ hc ih =>
    rw [total_upd, if_pos hk]
    show s.2.2.2 + 1 = _
    rw [ih]; omega
theorem Steps.mono {g' : State → Nat → Bool} (h : ∀ s k, g s k = true → g' s k = true) (S : Steps nt g s0 s m) : Steps nt g' s0 s m := by
  induction S with
  | refl => exact .refl
  | step S hk hg hc ih => exact .step ih hk (h _ _ hg) hc
theorem Steps.trans (A : Steps nt g s0 s m) (B : Steps nt g s t mt) : Steps nt g s0 t (fun k => m k + mt k) := by
  induction B with
  | refl => exact A
  | @step u mu k B hk hg hc ih =>
    have := Steps.step ih hk hg hc
    have e : upd (fun j => m j + mu j) k ((fun j => m j + mu j) k + 1) = fun j => m j + upd mu k (mu k + 1) j := by
      funext j
      by_cases h : j = k
      · subst h; rw [upd_same, upd_same]; simp only; omega
      · rw [upd_ne h, upd_ne h]
    rw [e] at this
    exact this

/-! ### links, seen from processes -/
theorem link_cases (o : OkN nt) {j : Nat} (hj : j < nt.2.length) : (lnk nt j).1 = -1 ∨ ∃ k b : Nat, k < nt.1.length ∧ (b : Int) < (prog nt k).2.1 ∧ lfr nt k b = j := by
  have E := (o.ends j hj).out
  have e : lnk nt j = nt.2[j] := by unfold lnk; rw [getD_lt hj]
  rw [e]
  rcases E with h | ⟨h1, h2, h3, h4⟩
  · exact .inl h.1
  · refine .inr ⟨nt.2[j].1.toNat, nt.2[j].2.1.toNat, by omega, ?_, ?_⟩
    · unfold prog; omega
    · refine lfr_uniq o hj (by omega) (by unfold prog; omega) ?_ ?_
      · rw [e]; omega
      · rw [e]; omega
theorem link_cases' (o : OkN nt) {j : Nat} (hj : j < nt.2.length) : (lnk nt j).2.2.1 = -1 ∨ ∃ k b : Nat, k < nt.1.length ∧ (b : Int) < (prog nt k).1 ∧ lto nt k b = j := by
  have E := (o.ends j hj).inn
  have e : lnk nt j = nt.2[j] := by unfold lnk; rw [getD_lt hj]
  rw [e]
  rcases E with h | ⟨h1, h2, h3, h4⟩
  · exact .inl h.1
  · refine .inr ⟨nt.2[j].2.2.1.toNat, nt.2[j].2.2.2.1.toNat, by omega, ?_, ?_⟩
    · unfold prog; omega
    · refine lto_uniq o hj (by omega) (by unfold prog; omega) ?_ ?_
      · rw [e]; omega
      · rw [e]; omega
theorem sent_in (o : OkSt nt s) {j : Nat} (hj : j < nt.2.length) (h : (lnk nt j).1 = -1) : sent s j = toks nt j :=
  ((toks_le o hj).eq_of_length ((o.lnk j hj).inp h).symm).symm
theorem used_out (o : OkSt nt s) {j : Nat} (hj : j < nt.2.length) (h : (lnk nt j).2.2.1 = -1) : used s j = 0 := by
  have h1 : (sent s j).length = (queue s j).length := (o.lnk j hj).out h
  unfold used; omega
theorem sent_from (o : OkSt nt s) {k b : Nat} (hk : k < nt.1.length) (hb : (b : Int) < (prog nt k).2.1) : sent s (lfr nt k b) = toks nt (lfr nt k b) ++ (lc nt s k).2.1 b := by
  have hj := (lfr_spec o.net hk hb).1
  show _ = _ ++ outF nt (sent s) k b
  unfold outF
  rw [if_pos hb]
  obtain ⟨r, e⟩ := toks_le o hj
  rw [← e, List.drop_left]
theorem used_to (o : OkSt nt s) {k b : Nat} (hk : k < nt.1.length) (hb : (b : Int) < (prog nt k).1) : used s (lto nt k b) = (lc nt s k).2.2 b := by
  show _ = useF nt (used s) k b
  unfold useF
  rw [if_pos hb]
theorem sent_big (o : OkSt nt s) {j : Nat} (hj : nt.2.length ≤ j) : sent s j = [] := by
  unfold sent
  rw [List.getD_eq_getElem?_getD, List.getElem?_eq_none (by rw [o.ns]; exact hj)]; rfl
theorem sub_of_outs (o : OkSt nt s) {h : Nat → List Int} (hi : ∀ j, j < nt.2.length → (lnk nt j).1 = -1 → toks nt j <+: h j) (hh : ∀ k b : Nat, k < nt.1.length → (b : Int) < (prog nt k).2.1 → toks nt (lfr nt k b) ++ (lc nt s k).2.1 b <+: h (lfr nt k b)) : Sub (sent s) h := by
  intro j
  rcases Nat.lt_or_ge j nt.2.length with hj | hj
  · rcases link_cases o.net hj with h1 | ⟨k, b, hk, hb, rfl⟩
    · rw [sent_in o hj h1]; exact hi j hj h1
    · rw [sent_from o hk hb]; exact hh k b hk hb
  · rw [sent_big o hj]; exact List.nil_prefix
theorem st_of_lc (o : OkSt nt s) (o' : OkSt nt t) (h : ∀ k, k < nt.1.length → lc nt s k = lc nt t k) (hn : s.2.2.2 = t.2.2.2) : s = t := by
  refine st_ext o o' (fun k hk => congrArg Prod.fst (h k hk)) (fun j hj => ?_) (fun j hj => ?_) hn
  · rcases link_cases o.net hj with h1 | ⟨k, b, hk, hb, rfl⟩
    · rw [sent_in o hj h1, sent_in o' hj h1]
    · rw [sent_from o hk hb, sent_from o' hk hb, h k hk]
  · rcases link_cases' o.net hj with h1 | ⟨k, b, hk, hb, rfl⟩
    · rw [used_out o hj h1, used_out o' hj h1]
    · rw [used_to o hk hb, used_to o' hk hb, h k hk]

/-! ### what can be done goes on being possible -/
theorem can_iff (o : OkSt nt s) {k : Nat} (hk : k < nt.1.length) : canP nt s k = true ↔ (wantOf nt s k).1 ≠ 0 ∧ s.2.2.2 < 20000 ∧
    ((wantOf nt s k).1 = 2 → used s (lto nt k (wantOf nt s k).2.toNat) < (sent s (lto nt k (wantOf nt s k).2.toNat)).length) ∧ ((wantOf nt s k).1 = 3 → (sent s (lfr nt k (wantOf nt s k).2.toNat)).length < 400) := by
  obtain ⟨b, eb, hb2, hb3⟩ := port_nat o hk
  have ep : nt.1[k] = prog nt k := by unfold prog; rw [getD_lt hk]
  rw [ep] at hb2 hb3
  have hlink2 : (wantOf nt s k).1 = 2 → (linkOf nt s k).toNat = lto nt k b := fun c2 => by unfold linkOf lto; rw [if_pos c2, eb]
  have hlink3 : (wantOf nt s k).1 = 3 → (linkOf nt s k).toNat = lfr nt k b := fun c3 => by unfold linkOf lfr; rw [if_neg (by omega), if_pos c3, eb]
  rw [eb, Int.toNat_natCast]
  have hq2 : (wantOf nt s k).1 = 2 → (used s (lto nt k b) < (sent s (lto nt k b)).length ↔ 0 < (s.2.1.getD (lto nt k b) []).length) := fun c2 => by
    have hl := (lto_spec o.net hk (hb2 c2)).1
    have h1 := queue_suf o hl
    have h2 := congrArg List.length h1
    rw [List.length_drop] at h2
    have h3 := (o.lnk _ hl).suf.length_le
    show _ ↔ 0 < (queue s (lto nt k b)).length
    omega
  constructor
  · intro h
    obtain ⟨w0, w20, w2, w3⟩ := canP_facts h
    refine ⟨w0, w20, fun c2 => ?_, fun c3 => ?_⟩
    · have := w2 c2
      rw [hlink2 c2] at this
      exact (hq2 c2).2 this
    · have := w3 c3
      rw [hlink3 c3] at this
      exact this
  · rintro ⟨w0, w20, w2, w3⟩
    unfold canP
    rw [if_neg (by rintro (h | h); exact w0 h; omega)]
    split
    · rename_i c2
      have := (hq2 c2).1 (w2 c2)
      rw [hlink2 c2, decide_eq_true_eq]; omega
    · split
      · rename_i c3
        have := w3 c3
        rw [hlink3 c3, decide_eq_true_eq]
        have : (s.2.2.1.getD (lfr nt k b) []).length < 400 := this
        omega
      · rfl
theorem want_of_lc {k : Nat} (h : lc nt s k = lc nt t k) : wantOf nt s k = wantOf nt t k := by
  unfold wantOf
  rw [show actor s k = actor t k from congrArg Prod.fst h]
/-- what a process can do it can do later, as long as it has not done it -/
theorem can_later (o : OkSt nt s) (o' : OkSt nt t) {k : Nat} (hk : k < nt.1.length) (h : lc nt s k = lc nt t k) (S : Sub (sent s) (sent t)) (hc : canP nt s k = true) (ht : t.2.2.2 < 20000) : canP nt t k = true := by
  have hw := want_of_lc h
  obtain ⟨b, eb, hb2, hb3⟩ := port_nat o hk
  have ep : nt.1[k] = prog nt k := by unfold prog; rw [getD_lt hk]
  rw [ep] at hb2 hb3
  obtain ⟨w0, w20, w2, w3⟩ := (can_iff o hk).1 hc
  refine (can_iff o' hk).2 ?_
  rw [← hw]
  rw [eb, Int.toNat_natCast] at *
  refine ⟨w0, ht, fun c2 => ?_, fun c3 => ?_⟩
  · have h1 := w2 c2
    rw [used_to o hk (hb2 c2), h, ← used_to o' hk (hb2 c2)] at h1
    exact Nat.lt_of_lt_of_le h1 (S _).length_le
  · have h1 := w3 c3
    rw [sent_from o hk (hb3 c3), h, ← sent_from o' hk (hb3 c3)] at h1
    exact h1

/-- a state whose processes have come as far as is told -/
structure Acc (nt : Network) (s0 t : State) (mt : Nat → Nat) : Prop where
  ok : OkSt nt t
  run : ∀ k, k < nt.1.length → lrun (prog nt k) (inF nt (sent t) k) (mt k) (lc nt s0 k) = some (lc nt t k)
theorem Steps.acc (o : OkSt nt s0) (S : Steps nt g s0 s m) : Acc nt s0 s m := ⟨S.ok o, S.run o⟩
theorem acc_outs (A : Acc nt s0 s m) (B : Acc nt s0 t mt) (S : Sub (sent s) (sent t)) {k : Nat} (hk : k < nt.1.length) (h : m k ≤ mt k) : lrun (prog nt k) (inF nt (sent t) k) (mt k - m k) (lc nt s k) = some (lc nt t k) := by
  have h1 := lrun_mono (inF_mono (nt := nt) (k := k) S) (A.run k hk)
  have h2 := B.run k hk
  rw [show mt k = m k + (mt k - m k) by omega, lrun_add, h1, Option.bind_some] at h2
  exact h2
/-- nobody comes further than where nobody can go on -/
theorem Steps.ahead (o : OkSt nt s0) (T : Acc nt s0 t mt)
    (H : ∀ s m k, Steps nt g s0 s m → k < nt.1.length → (∀ j, j < nt.1.length → m j ≤ mt j) → m k = mt k → lc nt s k = lc nt t k → Sub (sent s) (sent t) → g s k = true → canP nt s k = true → False)
    (h0 : Sub (sent s0) (sent t)) (S : Steps nt g s0 s m) : (∀ k, k < nt.1.length → m k ≤ mt k) ∧ Sub (sent s) (sent t) := by
  induction S with
  | refl => exact ⟨fun k _ => Nat.zero_le _, h0⟩
  | @step s m k S hk hg hc ih =>
    obtain ⟨hm, hS⟩ := ih
    have os := S.ok o
    have A := S.acc o
    have hlt : m k < mt k := by
      rcases Nat.lt_or_eq_of_le (hm k hk) with h | h
      · exact h
      · refine absurd (H s m k S hk hm h ?_ hS hg hc) id
        have := acc_outs A T hS hk (hm k hk)
        rw [h, Nat.sub_self] at this
        exact Option.some.inj this
    have hm' : ∀ j, j < nt.1.length → upd m k (m k + 1) j ≤ mt j := by
      intro j hj
      by_cases h : j = k
      · subst h; rw [upd_same]; omega
      · rw [upd_ne h]; exact hm j hj
    refine ⟨hm', sub_of_outs (stepP_ok os hk hc) (fun j hj h => ?_) (fun j b hj hb => ?_)⟩
    · rw [sent_in T.ok hj h]; exact List.prefix_rfl
    · rw [sent_from T.ok hj hb, List.prefix_append_right_inj]
      by_cases h : j = k
      · subst h
        have h1 := acc_outs A T hS hj (hm j hj)
        rw [show mt j - m j = 1 + (mt j - m j - 1) by omega, lrun_add] at h1
        have h2 : lrun (prog nt j) (inF nt (sent t) j) 1 (lc nt s j) = some (lc nt (stepP nt s j) j) := by
          show (some (lc nt s j)).bind _ = _
          rw [Option.bind_some]
          exact lstep_mono (inF_mono hS) (step_own os hj hc)
        rw [h2, Option.bind_some] at h1
        exact lrun_outs h1 b
      · rw [step_other os hk hj hc h]
        exact lrun_outs (acc_outs A T hS hj (hm j hj)) b
/-- all ways lead to the one end, if there is one -/
theorem Steps.one_end (o : OkSt nt s0) (S : Steps nt g s0 s m) {g' : State → Nat → Bool} (T : Steps nt g' s0 t mt) (hq : anyCan nt t = false) (ht : t.2.2.2 < 20000) : (∀ k, k < nt.1.length → m k ≤ mt k) ∧ Sub (sent s) (sent t) ∧ s.2.2.2 ≤ t.2.2.2 := by
  have ot := T.ok o
  have h := Steps.ahead o (T.acc o) (fun s m k S hk _ _ e hS _ hc => by
    have := can_later (S.ok o) ot hk e hS hc ht
    have h2 : anyCan nt t = true := any_of hk this
    rw [hq] at h2; cases h2) (T.sub o) S
  refine ⟨h.1, h.2, ?_⟩
  rw [S.count, T.count]
  have := total_le h.1
  omega
theorem Steps.same_end (o : OkSt nt s0) (S : Steps nt g s0 s m) {g' : State → Nat → Bool} (T : Steps nt g' s0 t mt) (hs : anyCan nt s = false) (hs2 : s.2.2.2 < 20000) (hq : anyCan nt t = false) (ht : t.2.2.2 < 20000) : s = t := by
  have h1 := S.one_end o T hq ht
  have h2 := T.one_end o S hs hs2
  refine st_of_lc (S.ok o) (T.ok o) (fun k hk => ?_) (by omega)
  have := acc_outs (S.acc o) (T.acc o) h1.2.1 hk (h1.1 k hk)
  have e : mt k = m k := Nat.le_antisymm (h2.1 k hk) (h1.1 k hk)
  rw [e, Nat.sub_self] at this
  exact Option.some.inj this
end
end Go.AmT
