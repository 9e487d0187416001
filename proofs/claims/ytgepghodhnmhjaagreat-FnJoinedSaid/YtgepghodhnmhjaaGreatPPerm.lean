/- Networks whose processes are numbered anew, in plain Lean. -/
import Derived.Test.YtgepghodhnmhjaaGreatLPerm
import Derived.Test.YtgepghodhnmhjaaGreatPCopy
namespace Go.AmT
open Go Go.Am
set_option linter.unusedVariables false
set_option linter.unusedSimpArgs false

def idxI (a : List Int) (x : Int) : Int := match (List.range a.length).find? (fun i => decide (x = a.getD i 0)) with | some i => (i : Int) | none => -1

theorem indexI_spec {n : Nat} {a : List Int} {x : Int} (hl : a.length ≤ 1048576) (hn : 1048576 < n) : indexI.f n a x = some (idxI a x, ()) := by
  unfold indexI.f
  rw [first_loop a.length (fun i => decide (x = a.getD i 0)) (yes := fun i => some ((i : Int), ())) (no := some (-1, ())) (fun ih i hi => ?_) (fun ih => br_no (Int.lt_irrefl _)) (by omega)]
  · unfold idxI
    cases (List.range a.length).find? (fun i => decide (x = a.getD i 0)) <;> rfl
  · simp only [br_yes (show (i : Int) < (a.length : Int) by omega), Int.toNat_natCast]
    rw [chk_true (by omega), w64_succ (by omega), br_if]

theorem idxI_at {a : List Int} (hd : a.Nodup) {i : Nat} (hi : i < a.length) : idxI a (a.getD i 0) = (i : Int) := by
  unfold idxI
  have : (List.range a.length).find? (fun j => decide (a.getD i 0 = a.getD j 0)) = some i := by
    rw [List.find?_range_eq_some]
    refine ⟨by simp, List.mem_range.2 hi, fun j hj => ?_⟩
    rw [getD_lt hi, getD_lt (show j < a.length by omega)]
    have := (List.pairwise_iff_getElem.1 hd) j i (by omega) hi hj
    simp only [Bool.not_eq_true', decide_eq_false_iff_not]
    exact fun e => this e.symm
  rw [this]

/-- an order of so many -/
structure Ord (order : List Int) (N : Nat) : Prop where
  len : order.length = N
  all : ∀ k : Nat, k < N → (k : Int) ∈ order

theorem Ord.perm {order : List Int} {N : Nat} (h : Ord order N) : ((List.range N).map (fun i : Nat => (i : Int))).Perm order := by
  refine perm_of_sub ?_ (fun x hx => ?_) (by simp [h.len])
  · rw [List.nodup_iff_pairwise_ne, List.pairwise_map]
    refine List.Pairwise.imp ?_ List.nodup_range
    intro a b hab; omega
  · obtain ⟨k, hk, rfl⟩ := List.mem_map.1 hx
    exact h.all k (List.mem_range.1 hk)
theorem Ord.nodup {order : List Int} {N : Nat} (h : Ord order N) : order.Nodup := by
  refine h.perm.nodup ?_
  rw [List.nodup_iff_pairwise_ne, List.pairwise_map]
  refine List.Pairwise.imp ?_ List.nodup_range
  intro a b hab; omega
theorem Ord.rng {order : List Int} {N : Nat} (h : Ord order N) : ∀ x ∈ order, 0 ≤ x ∧ x < (N : Int) := by
  intro x hx
  obtain ⟨k, hk, rfl⟩ := List.mem_map.1 (h.perm.mem_iff.2 hx)
  have := List.mem_range.1 hk
  omega
theorem Ord.get {order : List Int} {N : Nat} (h : Ord order N) {i : Nat} (hi : i < N) : 0 ≤ order.getD i 0 ∧ order.getD i 0 < (N : Int) := by
  have hl := h.len
  rw [getD_lt (by omega)]
  exact h.rng _ (List.getElem_mem _)
theorem Ord.at {order : List Int} {N : Nat} (h : Ord order N) {x : Int} (hx : 0 ≤ x ∧ x < (N : Int)) : ∃ i : Nat, i < N ∧ order.getD i 0 = x ∧ idxI order x = (i : Int) := by
  have hl := h.len
  have := h.all x.toNat (by omega)
  rw [show ((x.toNat : Nat) : Int) = x by omega] at this
  obtain ⟨i, hi, e⟩ := List.getElem_of_mem this
  have e2 : order.getD i 0 = x := by rw [getD_lt hi]; exact e
  refine ⟨i, by omega, e2, ?_⟩
  rw [← e2]; exact idxI_at h.nodup hi

theorem containsI_spec {n : Nat} {a : List Int} {x : Int} (hl : a.length ≤ 1048576) (hn : 1048576 < n) : containsI.f n a x = some (decide (0 ≤ idxI a x), ()) := by
  unfold containsI.f
  rw [indexI_spec hl hn]; rfl

/-- an end of a link, after the processes are numbered anew -/
def pe (order : List Int) (x : Int) : Int := if 0 ≤ x then idxI order x else x
def permL (order : List Int) (l : Link) : Link := (pe order l.1, l.2.1, pe order l.2.2.1, l.2.2.2.1, l.2.2.2.2)
def permN (nt : Network) (order : List Int) : Network := (order.map (fun k => nt.1.getD k.toNat zProgram), nt.2.map (permL order))

theorem pe_rng {order : List Int} {N : Nat} (h : Ord order N) {x : Int} (hx : 0 ≤ x ∧ x < (N : Int)) : 0 ≤ pe order x ∧ pe order x < (N : Int) ∧ order.getD (pe order x).toNat 0 = x := by
  obtain ⟨i, hi, e1, e2⟩ := h.at hx
  unfold pe
  rw [if_pos hx.1, e2, Int.toNat_natCast]
  exact ⟨by omega, by omega, e1⟩
theorem pe_out {order : List Int} {x : Int} (hx : x = -1) : pe order x = -1 := by
  subst hx; rfl
theorem pe_iff {order : List Int} {N : Nat} (h : Ord order N) {x : Int} (hx : x = -1 ∨ (0 ≤ x ∧ x < (N : Int))) {i : Nat} (hi : i < N) : pe order x = (i : Int) ↔ x = order.getD i 0 := by
  rcases hx with hx | hx
  · rw [pe_out hx]
    have := h.get hi
    constructor <;> intro e <;> omega
  · have := pe_rng h hx
    constructor
    · intro e
      have t := this.2.2
      rw [e, Int.toNat_natCast] at t
      exact t.symm
    · intro e
      have hl := h.len
      rw [e]; unfold pe
      rw [if_pos (h.get hi).1]
      exact idxI_at h.nodup (by omega)

theorem iPermute_spec {n : Nat} {nt : Network} {order : List Int} (h : SmallN nt) (o : OkN nt) (hO : Ord order nt.1.length) (hn : 1048576 < n) : iPermute.f n nt order = some (permN nt order, (true, ())) := by
  have hp := o.progs
  have hlk := o.links
  have hl := hO.len
  unfold iPermute.f
  rw [iIsNetwork_spec h hn, show okN nt = true by simp [okN, o]]
  simp only [bind_unit, Option.bind_some, Bool.not_true, br_false, cut_inr]
  rw [decide_eq_true (show (order.length : Int) = (nt.1.length : Int) by omega)]
  simp only [Bool.not_true, br_false]
  rw [iCopyNetwork_spec h hn]
  simp only [bind_unit, Option.bind_some]
  refine iter_line (fun i => ((i : Int), ())) nt.1.length (fun ih i hi => ?_) (fun ih => ?_) (by omega)
  · simp only [br_yes (show (i : Int) < (nt.1.length : Int) by omega)]
    obtain ⟨j, hj, e1, e2⟩ := hO.at (x := (i : Int)) (by omega)
    rw [containsI_spec (by omega) hn, e2, decide_eq_true (show (0 : Int) ≤ (j : Int) by omega)]
    simp only [bind_unit, Option.bind_some, Bool.not_true, br_false]
    rw [w64_succ (by omega)]
  · simp only [br_no (Int.lt_irrefl _)]
    refine W_eq.1 ?_
    refine W_up (fun i (s : List Program) => ((i : Int), (s, (nt.2, ())))) order.length (fun i s => s.length = nt.1.length ∧ ∀ j, j < i → s.getD j zProgram = nt.1.getD (order.getD j 0).toNat zProgram) (s0 := nt.1) rfl ⟨rfl, fun j hj => absurd hj (Nat.not_lt_zero _)⟩ (by omega) (fun ih2 s hI => ?_) (fun ih2 i s hi hI hS => ?_)
    rotate_left
    · obtain ⟨sl, sg⟩ := hI
      have r := hO.get (i := i) (by omega)
      simp only [br_yes (show (i : Int) < (order.length : Int) by omega), Int.toNat_natCast]
      rw [chk_true (by omega), chk_true (by omega), iCopyProgram_spec (h.prog _ (by rw [getD_lt (by omega)]; exact List.getElem_mem _))]
      simp only [bind_unit, Option.bind_some]
      rw [chk_true (by omega), w64_succ (by omega)]
      refine hS _ ⟨by simpa using sl, fun j hj => ?_⟩
      rw [List.getD_eq_getElem?_getD, List.getElem?_set, List.getD_eq_getElem?_getD]
      by_cases e : i = j
      · subst e; rw [if_pos rfl, if_pos (by omega)]; simp
      · rw [if_neg e]
        have := sg j (by omega)
        rw [List.getD_eq_getElem?_getD, List.getD_eq_getElem?_getD] at this
        exact this
    · obtain ⟨sl, sg⟩ := hI
      have es : s = (permN nt order).1 := by
        refine List.ext_getElem (by simp [permN]; omega) (fun j h1 h2 => ?_)
        have := sg j (by simpa [permN] using h2)
        rw [getD_lt h1] at this
        rw [this]
        have hj : j < order.length := by simpa [permN] using h2
        simp only [permN, List.getElem_map]
        rw [getD_lt hj]
      subst es
      simp only [br_no (Int.lt_irrefl _)]
      refine W_up (fun i (s : List Link) => ((i : Int), ((permN nt order).1, (s, ())))) nt.2.length (fun i s => s.length = nt.2.length ∧ ∀ j, j < nt.2.length → s.getD j zLink = if j < i then permL order (nt.2.getD j zLink) else nt.2.getD j zLink) (s0 := nt.2) rfl ⟨rfl, fun j hj => by rw [if_neg (by omega)]⟩ (by omega) (fun ih3 s hI => ?_) (fun ih3 i s hi hI hS => ?_)
      rotate_left
      · obtain ⟨sl, sg⟩ := hI
        have gi := sg i hi
        rw [if_neg (by omega)] at gi
        have E := o.ends i hi
        rw [← getD_lt hi zLink] at E
        simp only [br_yes (show (i : Int) < (nt.2.length : Int) by omega), Int.toNat_natCast]
        rw [chk_true (by omega)]
        simp only [gi]
        generalize nt.2.getD i zLink = l at *
        have fin : ∀ s' : List Link, s'.length = nt.2.length → (∀ j, j < nt.2.length → s'.getD j zLink = if j = i then permL order l else s.getD j zLink) → W (ih3 (((i + 1 : Nat) : Int), ((permN nt order).1, (s', ())))) (fun x => x = (permN nt order, (true, ()))) := by
          intro s' hl' hg'
          refine hS s' ⟨hl', fun j hj => ?_⟩
          rw [hg' j hj]
          by_cases e : j = i
          · subst e; rw [if_pos rfl, if_pos (by omega)]
            simp_all
          · rw [if_neg e, sg j hj]
            by_cases e2 : j < i
            · rw [if_pos e2, if_pos (by omega)]
            · rw [if_neg e2, if_neg (by omega)]
        have gset : ∀ (s : List Link), s.length = nt.2.length → ∀ (v : Link) (j : Nat), j < nt.2.length → (s.set i v).getD j zLink = if j = i then v else s.getD j zLink := by
          intro s hs v j hj
          rw [List.getD_eq_getElem?_getD, List.getElem?_set, List.getD_eq_getElem?_getD]
          by_cases e : i = j
          · subst e; rw [if_pos rfl, if_pos (by omega), if_pos rfl]; rfl
          · rw [if_neg e, if_neg (fun h => e h.symm)]
        rw [w64_succ (by omega)]
        by_cases h1 : 0 ≤ l.1
        · rw [br_yes h1, indexI_spec (by omega) hn]
          simp only [bind_unit, Option.bind_some, cut_inr]
          rw [getD_set_same (by omega)]
          by_cases h2 : 0 ≤ l.2.2.1
          · rw [br_yes h2, indexI_spec (by omega) hn]
            simp only [bind_unit, Option.bind_some, List.set_set]
            refine fin _ (by simpa using sl) (fun j hj => ?_)
            rw [gset s sl _ j hj]
            by_cases e : j = i
            · rw [if_pos e, if_pos e]; unfold permL pe; rw [if_pos h1, if_pos h2]
            · rw [if_neg e, if_neg e]
          · rw [br_no h2]
            refine fin _ (by simpa using sl) (fun j hj => ?_)
            rw [gset s sl _ j hj]
            by_cases e : j = i
            · rw [if_pos e, if_pos e]; unfold permL pe; rw [if_pos h1, if_neg h2]
            · rw [if_neg e, if_neg e]
        · rw [br_no h1]
          simp only [cut_inr, gi]
          by_cases h2 : 0 ≤ l.2.2.1
          · rw [br_yes h2, indexI_spec (by omega) hn]
            simp only [bind_unit, Option.bind_some]
            refine fin _ (by simpa using sl) (fun j hj => ?_)
            rw [gset s sl _ j hj]
            by_cases e : j = i
            · rw [if_pos e, if_pos e]; unfold permL pe; rw [if_neg h1, if_pos h2]
            · rw [if_neg e, if_neg e]
          · rw [br_no h2]
            refine fin _ sl (fun j hj => ?_)
            by_cases e : j = i
            · rw [if_pos e, e, gi]; unfold permL pe; rw [if_neg h1, if_neg h2]
            · rw [if_neg e]
      · obtain ⟨sl, sg⟩ := hI
        simp only [br_no (Int.lt_irrefl _)]
        refine W_some.2 ?_
        have es : s = (permN nt order).2 := by
          refine List.ext_getElem (by simp [permN]; omega) (fun j h1 h2 => ?_)
          have hj : j < nt.2.length := by simpa [permN] using h2
          have := sg j hj
          rw [if_pos hj, getD_lt h1, getD_lt hj] at this
          rw [this]
          simp only [permN, List.getElem_map]
        rw [es]

theorem perm_small {nt : Network} {order : List Int} (h : SmallN nt) (o : OkN nt) (hO : Ord order nt.1.length) : SmallN (permN nt order) := by
  have hl := hO.len
  refine ⟨by simp [permN, hl]; exact h.progs, fun p hp => ?_, by simp [permN]; exact h.links, fun l hl => ?_⟩
  · obtain ⟨k, hk, rfl⟩ := List.mem_map.1 hp
    have := hO.rng k hk
    refine h.prog _ ?_
    rw [getD_lt (by omega)]; exact List.getElem_mem _
  · obtain ⟨l', hl', rfl⟩ := List.mem_map.1 hl
    exact ⟨(h.link l' hl').tokens⟩

theorem perm_prog {nt : Network} {order : List Int} (hO : Ord order nt.1.length) {i : Nat} (hi : i < nt.1.length) : (permN nt order).1.getD i zProgram = nt.1.getD (order.getD i 0).toNat zProgram := by
  have hl := hO.len
  simp only [permN]
  rw [getD_lt (by simp; omega), List.getElem_map, getD_lt (show i < order.length by omega)]

theorem isTo_iff {p k : Int} {l : Link} : isTo p k l = true ↔ l.2.2.1 = p ∧ l.2.2.2.1 = k := by unfold isTo; simp
theorem isFrom_iff {p k : Int} {l : Link} : isFrom p k l = true ↔ l.1 = p ∧ l.2.1 = k := by unfold isFrom; simp

/-- numbered anew, a network is as valid -/
theorem perm_ok {nt : Network} {order : List Int} (o : OkN nt) (hO : Ord order nt.1.length) : OkN (permN nt order) := by
  have hl := hO.len
  have hp := o.progs
  have len1 : (permN nt order).1.length = nt.1.length := by simp [permN, hl]
  have len2 : (permN nt order).2.length = nt.2.length := by simp [permN]
  have pg : ∀ (i : Nat) (hi : i < (permN nt order).1.length), ∃ hj : (order.getD i 0).toNat < nt.1.length, (permN nt order).1[i] = nt.1[(order.getD i 0).toNat] := by
    intro i hi
    have r := hO.get (i := i) (by omega)
    refine ⟨by omega, ?_⟩
    have := perm_prog hO (i := i) (by omega)
    rw [getD_lt hi, getD_lt (by omega)] at this
    exact this
  have eo : ∀ {l : Link}, EndOk nt l → (l.1 = -1 ∨ (0 ≤ l.1 ∧ l.1 < (nt.1.length : Int))) := fun E => E.out.elim (fun h => Or.inl h.1) (fun h => Or.inr ⟨h.1, h.2.1⟩)
  have ei : ∀ {l : Link}, EndOk nt l → (l.2.2.1 = -1 ∨ (0 ≤ l.2.2.1 ∧ l.2.2.1 < (nt.1.length : Int))) := fun E => E.inn.elim (fun h => Or.inl h.1) (fun h => Or.inr ⟨h.1, h.2.1⟩)
  have mem : ∀ l ∈ nt.2, EndOk nt l := fun l hl => by obtain ⟨i, hi, rfl⟩ := List.getElem_of_mem hl; exact o.ends i hi
  refine ⟨by omega, by rw [len2]; exact o.links, fun i hi => ?_, fun i hi => ?_, fun i hi => ?_, fun i hi k hk => ?_, fun i hi k hk => ?_⟩
  · obtain ⟨hj, e⟩ := pg i hi
    rw [e]; exact o.prog _ hj
  · have E := o.ends i (by omega)
    have e : (permN nt order).2[i] = permL order (nt.2[i]'(by omega)) := by simp [permN]
    rw [e]
    generalize nt.2[i]'(by omega) = l at E
    refine ⟨?_, ?_, ?_⟩
    · rcases E.out with ⟨h1, h2⟩ | ⟨h1, h2, h3, h4⟩
      · exact Or.inl ⟨pe_out h1, h2⟩
      · have r := pe_rng hO ⟨h1, h2⟩
        refine Or.inr ⟨r.1, by rw [len1]; exact r.2.1, h3, ?_⟩
        simp only [permL]
        rw [perm_prog hO (by omega), r.2.2]; exact h4
    · rcases E.inn with ⟨h1, h2⟩ | ⟨h1, h2, h3, h4⟩
      · exact Or.inl ⟨pe_out h1, h2⟩
      · have r := pe_rng hO ⟨h1, h2⟩
        refine Or.inr ⟨r.1, by rw [len1]; exact r.2.1, h3, ?_⟩
        simp only [permL]
        rw [perm_prog hO (by omega), r.2.2]; exact h4
    · rintro ⟨h1, h2⟩
      simp only [permL] at h1 h2
      refine E.one ⟨?_, ?_⟩
      · rcases eo E with h | h
        · exact h
        · have := pe_rng hO h; omega
      · rcases ei E with h | h
        · exact h
        · have := pe_rng hO h; omega
  · have e : (permN nt order).2[i] = permL order (nt.2[i]'(by omega)) := by simp [permN]
    rw [e]; exact o.toks i (by omega)
  · obtain ⟨hj, e⟩ := pg i hi
    rw [e] at hk
    have r := hO.get (i := i) (by omega)
    rw [← o.ins _ hj k hk]
    simp only [permN, List.countP_map]
    refine List.countP_congr (fun l hl => ?_)
    have := pe_iff hO (ei (mem l hl)) (i := i) (by omega)
    rw [show (((order.getD i 0).toNat : Nat) : Int) = order.getD i 0 by omega]
    exact isTo_iff.trans ((and_congr this Iff.rfl).trans isTo_iff.symm)
  · obtain ⟨hj, e⟩ := pg i hi
    rw [e] at hk
    have r := hO.get (i := i) (by omega)
    rw [← o.outs _ hj k hk]
    simp only [permN, List.countP_map]
    refine List.countP_congr (fun l hl => ?_)
    have := pe_iff hO (eo (mem l hl)) (i := i) (by omega)
    rw [show (((order.getD i 0).toNat : Nat) : Int) = order.getD i 0 by omega]
    exact isFrom_iff.trans ((and_congr this Iff.rfl).trans isFrom_iff.symm)
end Go.AmT
