/- A process that is dropped, in whose place its streams come from outside, is not missed: least streams. -/
import Derived.Test.YtgepghodhnmhjaaPDropK
import Derived.Test.YtgepghodhnmhjaaPFeed
namespace Go.AmT
open Go Go.Am
set_option linter.unusedVariables false
set_option linter.unusedSimpArgs false

def keepI (nt : Network) (k : Nat) : List Nat := (List.range nt.2.length).filter (fun i => keepL (k : Int) (nt.2.getD i zLink))
theorem keepI_mem {nt : Network} {k i : Nat} : i ∈ keepI nt k ↔ i < nt.2.length ∧ keepL (k : Int) (lnk nt i) = true := by
  unfold keepI; rw [List.mem_filter, List.mem_range]; exact Iff.rfl
/-- a link of the network without the process, fed -/
def fdL (nt : Network) (k : Nat) (H : Nat → List Int) (i : Nat) : Link :=
  ((dropL (k : Int) (lnk nt i)).1, (dropL (k : Int) (lnk nt i)).2.1, (dropL (k : Int) (lnk nt i)).2.2.1, (dropL (k : Int) (lnk nt i)).2.2.2.1, if (lnk nt i).1 = (k : Int) then H i else toks nt i)
def fedTo (nt : Network) (k : Nat) (H : Nat → List Int) (m : Nat) : Network := (rem k nt.1, (keepI nt k).map (fun i => if i < m then fdL nt k H i else dropL (k : Int) (lnk nt i)))
def fedD (nt : Network) (k : Nat) (H : Nat → List Int) : Network := fedTo nt k H nt.2.length

theorem dropN_eq (nt : Network) (k : Nat) (H : Nat → List Int) : dropN nt k = fedTo nt k H 0 := by
  unfold dropN fedTo keepI
  rw [← range_fm nt.2 (keepL (k : Int)) (dropL (k : Int)) zLink]
  simp only [Nat.not_lt_zero, if_false]
  rfl
theorem okN_bare {n1 n2 : Network} (o : OkN n1) (hp : n2.1 = n1.1) (hb : n2.2.map bare = n1.2.map bare) (ht : ∀ l ∈ n2.2, okS l.2.2.2.2 = true) : OkN n2 := by
  obtain ⟨p2, l2⟩ := n2
  simp only at hp hb ht
  subst hp
  have len : l2.length = n1.2.length := by have := congrArg List.length hb; simpa using this
  have get : ∀ (i : Nat) (hi : i < l2.length), bare l2[i] = bare (n1.2[i]'(by omega)) := fun i hi => by
    have := congrArg (fun l => l[i]?) hb
    simpa [hi, show i < n1.2.length by omega] using this
  refine ⟨o.progs, by simp only [len]; exact o.links, o.prog, fun i hi => ?_, fun i hi => ht _ (List.getElem_mem hi), fun i hi q hq => ?_, fun i hi q hq => ?_⟩
  · have E := o.ends i (by simp only at hi; omega)
    have g := get i hi
    unfold bare at g
    simp only [Prod.mk.injEq, and_true] at g
    obtain ⟨g1, g2, g3, g4⟩ := g
    simp only
    generalize n1.2[i]'(by simp only at hi; omega) = l at *
    refine ⟨?_, ?_, ?_⟩
    · rw [g1, g2]
      rcases E.out with h | h
      · exact Or.inl h
      · refine Or.inr ?_
        unfold OutOk at h ⊢
        simp only [g1, g2]; exact h
    · rw [g3, g4]
      rcases E.inn with h | h
      · exact Or.inl h
      · refine Or.inr ?_
        unfold InOk at h ⊢
        simp only [g3, g4]; exact h
    · rw [g1, g3]; exact E.one
  · simp only
    rw [count_bare (fun l => rfl), hb, ← count_bare (fun l => rfl)]
    exact o.ins i hi q hq
  · simp only
    rw [count_bare (fun l => rfl), hb, ← count_bare (fun l => rfl)]
    exact o.outs i hi q hq

theorem fedTo_ok {nt : Network} {k : Nat} (o : OkN nt) (hk : k < nt.1.length) {H : Nat → List Int} (hH : ∀ i, i < nt.2.length → okS (H i) = true) (m : Nat) : OkN (fedTo nt k H m) := by
  have od := dropN_ok o hk
  rw [dropN_eq nt k H] at od
  refine okN_bare od rfl ?_ (fun l hl => ?_)
  · unfold fedTo
    simp only [List.map_map]
    refine List.map_congr_left (fun i _ => ?_)
    simp only [Function.comp, Nat.not_lt_zero, if_false]
    split <;> rfl
  · obtain ⟨i, hi, rfl⟩ := List.mem_map.1 hl
    obtain ⟨h1, h2⟩ := keepI_mem.1 hi
    have ht : okS (toks nt i) = true := by
      have := o.toks i h1
      unfold toks lnk
      rw [getD_lt h1]; exact this
    split
    · unfold fdL
      simp only
      split
      · exact hH i h1
      · exact ht
    · exact ht

def lsN (k p : Nat) : Nat := if k < p then p - 1 else p
theorem lessI_nat {k p : Nat} : lessI (k : Int) (p : Int) = (lsN k p : Int) := by
  unfold lessI lsN
  by_cases h : k < p
  · rw [if_pos (by omega), if_pos h]; omega
  · rw [if_neg (by omega), if_neg h]

section
variable {nt : Network} {k : Nat} {H G : Nat → List Int}
theorem fedD_len : (fedD nt k H).2.length = (keepI nt k).length := by simp [fedD, fedTo]
theorem fedD_lnk {j : Nat} (hj : j < (keepI nt k).length) : lnk (fedD nt k H) j = fdL nt k H (keepI nt k)[j] := by
  unfold lnk fedD fedTo
  have hm := (keepI_mem.1 (List.getElem_mem hj)).1
  simp only
  rw [getD_lt (by simpa using hj), List.getElem_map, if_pos hm]
theorem fedD_prog (hk : k < nt.1.length) {p : Nat} (hp : p < nt.1.length) (hne : p ≠ k) : prog (fedD nt k H) (lsN k p) = prog nt p := by
  unfold prog
  have := rem_getD hk hp hne zProgram
  rw [lessI_nat, Int.toNat_natCast] at this
  exact this
theorem lsN_lt (hk : k < nt.1.length) {p : Nat} (hp : p < nt.1.length) (hne : p ≠ k) : lsN k p < (fedD nt k H).1.length := by
  have := rem_len hk
  show lsN k p < (rem k nt.1).length
  unfold lsN; split <;> omega
theorem atL_keep {j : Nat} (hj : j < (keepI nt k).length) : atL ((keepI nt k).map G) j = G (keepI nt k)[j] := by
  unfold atL; rw [getD_lt (by simpa using hj), List.getElem_map]

theorem inF_D (o : OkN nt) (om : OkN (fedD nt k H)) (hk : k < nt.1.length) {p : Nat} (hp : p < nt.1.length) (hne : p ≠ k) : inF (fedD nt k H) (atL ((keepI nt k).map G)) (lsN k p) = inF nt G p := by
  have hpr := fedD_prog (H := H) hk hp hne
  funext b
  unfold inF
  rw [hpr]
  split
  · rename_i hb
    obtain ⟨h1, h2, h3⟩ := lto_spec o hp hb
    have hkeep : keepL (k : Int) (lnk nt (lto nt p b)) = true := by
      unfold keepL dropL
      simp only [Bool.or_eq_true, decide_eq_true_eq]
      refine Or.inr ?_
      rw [h2, if_neg (by omega), lessI_nat]; omega
    obtain ⟨j, hj, ej⟩ := List.getElem_of_mem (keepI_mem.2 ⟨h1, hkeep⟩)
    have hl := fedD_lnk (H := H) hj
    rw [ej] at hl
    have e : lto (fedD nt k H) (lsN k p) b = j := by
      refine lto_uniq om (by rw [fedD_len]; exact hj) (lsN_lt hk hp hne) (by rw [hpr]; exact hb) ?_ ?_
      · rw [hl]; unfold fdL dropL; simp only; rw [h2, if_neg (by omega), lessI_nat]
      · rw [hl]; unfold fdL dropL; simp only; rw [h2, if_neg (by omega)]; exact h3
    rw [e, atL_keep hj, ej]
  · rfl
theorem runK_D (o : OkN nt) (om : OkN (fedD nt k H)) (hk : k < nt.1.length) {p : Nat} (hp : p < nt.1.length) (hne : p ≠ k) : runK (fedD nt k H) (atL ((keepI nt k).map G)) (lsN k p) = runK nt G p := by
  unfold runK
  rw [fedD_prog hk hp hne, inF_D o om hk hp hne]

theorem newS_D (o : OkN nt) (om : OkN (fedD nt k H)) (hk : k < nt.1.length) {j : Nat} (hj : j < (keepI nt k).length) : newS (fedD nt k H) (atL ((keepI nt k).map G)) j = rndD nt k H G (keepI nt k)[j] := by
  obtain ⟨hi, hkeep⟩ := keepI_mem.1 (List.getElem_mem hj)
  have hl := fedD_lnk (H := H) hj
  generalize (keepI nt k)[j] = i at *
  have E := o.ends i hi
  rw [← getD_lt hi zLink] at E
  have E : EndOk nt (lnk nt i) := E
  unfold newS toks rndD
  rw [hl]
  by_cases c : (lnk nt i).1 = (k : Int)
  · rw [if_neg (fun h : Liv nt k i => h.2.2 c)]
    unfold fdL dropL
    simp only
    rw [if_pos c, if_pos c, if_neg (by omega), List.append_nil]
  · rw [if_pos (show Liv nt k i from ⟨hi, hkeep, c⟩)]
    unfold newS fdL dropL
    simp only
    rw [if_neg c, if_neg c, if_neg c]
    rcases E.out with ⟨h1, h2⟩ | ⟨h1, h2, h3, h4⟩
    · rw [h1]
      have : ¬ (0 : Int) ≤ lessI (k : Int) (-1) := by unfold lessI; rw [if_neg (by omega)]; omega
      rw [if_neg this, if_neg (by omega)]
    · obtain ⟨p, hp⟩ : ∃ p : Nat, (lnk nt i).1 = (p : Int) := ⟨(lnk nt i).1.toNat, by omega⟩
      rw [hp, lessI_nat, if_pos (by omega), if_pos (by omega), Int.toNat_natCast, Int.toNat_natCast, runK_D o om hk (by omega) (fun e => c (by rw [hp, e]))]

theorem rndP_D (o : OkN nt) (om : OkN (fedD nt k H)) (hk : k < nt.1.length) {hL : List (List Int)} (hH : H = atL hL) (L : Lst nt hL) (hok : ∀ i, i < nt.2.length → okS (H i) = true) (S : Sub G H) :
    rndP (fedD nt k H) ((keepI nt k).map G) = some ((keepI nt k).map (rndD nt k H G)) := by
  subst hH
  have hok' : rndOk (fedD nt k (atL hL)) (atL ((keepI nt k).map G)) = true := by
    unfold rndOk
    rw [Bool.and_eq_true, List.all_eq_true, List.all_eq_true]
    refine ⟨fun p' hp' => ?_, fun j hj => ?_⟩
    · have hp' := List.mem_range.1 hp'
      have rl := rem_len hk
      have hp2 : p' < (rem k nt.1).length := hp'
      obtain ⟨p, h1, h2, h3⟩ : ∃ p, p < nt.1.length ∧ p ≠ k ∧ lsN k p = p' := by
        by_cases c : p' < k
        · exact ⟨p', by omega, by omega, by unfold lsN; rw [if_neg (by omega)]⟩
        · exact ⟨p' + 1, by omega, by omega, by unfold lsN; rw [if_pos (by omega)]; omega⟩
      rw [← h3, runK_D o om hk h1 h2]
      obtain ⟨r1, r3⟩ := rndOk_run L.ok h1
      obtain ⟨q1, q3⟩ := runK_less S r1 r3
      simp [q1, q3]
    · have hj := List.mem_range.1 hj
      rw [fedD_len] at hj
      rw [newS_D o om hk hj]
      exact okS_pre (rndD_sub o L S _) (hok _ (keepI_mem.1 (List.getElem_mem hj)).1)
  unfold rndP
  rw [if_pos hok']
  congr 1
  refine List.ext_getElem (by simp [fedD_len]) (fun j h1 h2 => ?_)
  have hj : j < (keepI nt k).length := by simpa using h2
  simp only [List.getElem_map, List.getElem_range]
  exact newS_D o om hk hj

theorem tokL_D : tokL (fedD nt k H) = (keepI nt k).map (stD nt k H) := by
  unfold tokL fedD fedTo
  simp only [List.map_map]
  refine List.map_congr_left (fun i hi => ?_)
  obtain ⟨h1, h2⟩ := keepI_mem.1 hi
  simp only [Function.comp]
  rw [if_pos h1]
  unfold fdL stD
  simp only
  by_cases c : (lnk nt i).1 = (k : Int)
  · rw [if_pos c, if_neg (fun h : Liv nt k i => h.2.2 c)]
  · rw [if_neg c, if_pos (show Liv nt k i from ⟨h1, h2, c⟩)]

theorem not_liv {t : Nat} {i : Nat} (h : ¬ Liv nt k i) : chD nt k H t i = H i := by
  cases t with
  | zero => unfold chD stD; rw [if_neg h]
  | succ t => show rndD nt k H _ i = _; unfold rndD; rw [if_neg h]

/-- the streams that the process sent come from outside: the others are what they were -/
theorem least_D (o : OkN nt) (hk : k < nt.1.length) {hL : List (List Int)} {r : Int} (e : leastP nt = some (hL, r)) : ∃ r', leastP (fedD nt k (atL hL)) = some ((keepI nt k).map (atL hL), r') := by
  have L := lst_of o e
  have hok : ∀ i, i < nt.2.length → okS (atL hL i) = true := fun i hi => least_okS e hi
  have om : OkN (fedD nt k (atL hL)) := fedTo_ok o hk hok _
  obtain ⟨J, hJ, -, C, -⟩ := leastP_chain e
  have top : chD nt k (atL hL) J = atL hL := (sub_antisymm (chD_over o e L C) (chD_sub o L J)).symm
  have key : ∀ s t : Nat, t + s = J → ∃ r', leastF (fedD nt k (atL hL)) (300 - t) ((t : Int) + 1) ((keepI nt k).map (chD nt k (atL hL) t)) = some ((keepI nt k).map (atL hL), r') := by
    intro s
    induction s with
    | zero =>
      intro t ht
      have : t = J := by omega
      subst this
      obtain ⟨m, hm⟩ : ∃ m, 300 - t = m + 1 := ⟨299 - t, by omega⟩
      rw [hm]
      unfold leastF
      rw [rndP_D o om hk rfl L hok (chD_sub o L t)]
      simp only
      rw [top, chD_fix o L, if_pos rfl]
      exact ⟨_, rfl⟩
    | succ s ih =>
      intro t ht
      obtain ⟨m, hm⟩ : ∃ m, 300 - t = m + 1 := ⟨299 - t, by omega⟩
      rw [hm]
      unfold leastF
      rw [rndP_D o om hk rfl L hok (chD_sub o L t)]
      simp only
      by_cases c : (keepI nt k).map (rndD nt k (atL hL) (chD nt k (atL hL) t)) = (keepI nt k).map (chD nt k (atL hL) t)
      · rw [if_pos c]
        have st : chD nt k (atL hL) (t + 1) = chD nt k (atL hL) t := by
          funext i
          by_cases hl : Liv nt k i
          · have hm := keepI_mem.2 ⟨hl.1, hl.2.1⟩
            have := List.map_inj_left.1 c i hm
            exact this
          · rw [not_liv hl, not_liv hl]
        have := chD_stay st (s + 1)
        rw [show t + (s + 1) = J by omega, top] at this
        rw [← this]
        exact ⟨_, rfl⟩
      · rw [if_neg c]
        obtain ⟨r', e'⟩ := ih (t + 1) (by omega)
        refine ⟨r', ?_⟩
        have hm2 : m = 300 - (t + 1) := by omega
        rw [hm2, show ((t : Int) + 1 + 1) = (((t + 1 : Nat) : Int) + 1) by omega]
        exact e'
  obtain ⟨r', e'⟩ := key J 0 (by omega)
  refine ⟨r', ?_⟩
  unfold leastP
  rw [tokL_D]
  exact e'
end
end Go.AmT
