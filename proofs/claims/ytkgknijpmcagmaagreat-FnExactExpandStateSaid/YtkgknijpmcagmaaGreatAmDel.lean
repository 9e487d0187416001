/- The abstract machine: slices.Delete of one element of a row of pairs of an integer and a row. -/
import Derived.Test.YtkgknijpmcagmaaGreatAmD
import Derived.Below
import Derived.Deep.Draws
namespace Go.Am
open Go
set_option linter.unusedVariables false
set_option linter.unusedSimpArgs false

theorem fr_drew (F : Nat → Nat → Prop) (w : World) : Fr F w w.drew := ⟨rfl, rfl, rfl, Nat.le_refl _, fun k c e f h => ⟨c, h, rfl, fun _ _ => rfl⟩, fun _ _ _ => rfl, fun _ _ h _ => h⟩
abbrev tA : Ty := .pair (.int .i64) (.sl (.int .i64))
/-- behind the call: the cells of element k are gone -/
structure DelW (b o n k : Nat) (c : Nat → Value) (w w' : World) : Prop where
  cell : ∀ i, i < (n - 1) * 2 → w'.cell? (ad b (o + i)) = some (if i < k * 2 then c i else c (i + 2))
  tail : ∀ i, i < n * 2 → (w'.cell? (ad b (o + i))).isSome = true
  out : ∀ b' o', ¬ (b' = b ∧ o ≤ o' ∧ o' < o + n * 2) → w'.cell? (ad b' o') = w.cell? (ad b' o')
  frz : ∀ a, w'.frozen? a = w.frozen? a
  fr : Fr (fun b' o' => b' = b ∧ o ≤ o' ∧ o' < o + n * 2) w w'

def delR (xs : List tA.T) (i j : Int) : Option (List tA.T × Unit) := if 0 ≤ i ∧ j = i + 1 ∧ j ≤ (xs.length : Int) then some (xs.eraseIdx i.toNat, ()) else none
def delM : LMng := ⟨⟨[(0, .own 0 tA), (1, .int .i64), (2, .int .i64)], [(0, .row true tA)], [], []⟩, ⟨[(0, .own 1000 tA)], [(1000, .row true tA)], [], []⟩, fun x => delR x.2.2.1 x.1 x.2.1⟩

def delHd (g : Gh) (k : Nat) : Path → Hd
  | [] => ⟨(g.hd 0 0 []).addr, (g.hd 0 0 []).len - 1, (g.hd 0 0 []).cap⟩
  | (i, j) :: q => g.hd 0 0 ((if i < k then i else i + 1, j) :: q)
def delLab (k : Nat) : Option (Nat × Path) → Option (Nat × Path)
  | some (0, []) => some (20480, [])
  | some (0, (i, j) :: q) => if i < k then some (20480, (i, j) :: q) else if i = k then some (0, (i, j) :: q) else some (20480, (i - 1, j) :: q)
  | x => x
def delGh (g : Gh) (k : Nat) : Gh := ⟨fun id ver p => if id = 20480 then delHd g k p else g.hd id ver p, fun b o => delLab k (g.lab b o)⟩

theorem delLab_some {k : Nat} {l : Option (Nat × Path)} {q : Nat × Path} (h : delLab k l = some q) : ∃ q', l = some q' := by
  cases l with
  | none => simp [delLab] at h
  | some q' => exact ⟨q', rfl⟩
theorem delLab_other {k id : Nat} {p : Path} (h : id ≠ 0) : delLab k (some (id, p)) = some (id, p) := by
  unfold delLab
  split
  · rename_i e; simp at e; exact absurd e.1 h
  · rename_i e; simp at e; exact absurd e.1 h
  · rfl

theorem del_sound {P : Program} {f : FuncId}
    (K : ∀ (b o cap n k : Nat) (c : Nat → Value) (w : World), n ≤ cap → k < n →
      (∀ i, i < n * 2 → w.cell? ⟨b, o + i, none⟩ = some (c i) ∧ w.frozen? ⟨b, o + i, none⟩ = false ∧ (c i).oneCell' = true) →
      Calls P f #[.slice (some ⟨b, o, none⟩) n cap, .int .i64 k, .int .i64 ((k + 1 : Nat) : Int)] w fun e w' => e = .returned (.slice (some ⟨b, o, none⟩) (n - 1) cap) ∧ DelW b o n k c w w') : LSound P f delM := by
  intro x y hy g w args hln henv hobjs hlabs hG
  obtain ⟨i, j, xs, M⟩ := x
  replace hy : delR xs i j = some y := hy
  unfold delR at hy
  by_cases hc : 0 ≤ i ∧ j = i + 1 ∧ j ≤ (xs.length : Int)
  case neg => rw [if_neg hc] at hy; simp at hy
  rw [if_pos hc] at hy
  obtain ⟨h0, h1, h2⟩ := hc
  obtain rfl := Option.some.inj hy
  obtain ⟨k, rfl⟩ : ∃ k : Nat, i = (k : Int) := ⟨i.toNat, by omega⟩
  subst h1
  have hk : k < xs.length := by omega
  obtain ⟨v0, a0, r0⟩ := henv 0 (.own 0 0 [] tA) rfl
  obtain ⟨v1, a1, r1⟩ := henv 1 (.int .i64 k) rfl
  obtain ⟨v2, a2, r2⟩ := henv 2 (.int .i64 (k + 1)) rfl
  obtain ⟨-, -, -, -, -, rfl⟩ := r0
  obtain rfl : v1 = .int .i64 k := r1
  obtain rfl : v2 = .int .i64 (k + 1) := r2
  obtain ⟨-, -, -, hlen, hcap, hnone, hrow⟩ := hobjs 0 (.row true tA 0 xs) rfl
  cases had : (g.hd 0 0 []).addr with
  | none => have := hnone had; omega
  | some q =>
  obtain ⟨b, o⟩ := q
  obtain ⟨hmem, hel⟩ := hrow b o had
  have hhd : (g.hd 0 0 []).val = .slice (some ⟨b, o, none⟩) xs.length (g.hd 0 0 []).cap := by
    unfold Hd.val; rw [had, hlen]; rfl
  have hrow2 : ∀ i (hi : i < xs.length), w.cell? (ad b (o + i * 2)) = some (.int .i64 xs[i].1) ∧ w.cell? (ad b (o + i * 2 + 1)) = some (g.hd 0 0 [(i, 1)]).val ∧
      rowR w g.lab 1 (0, [(i, 1)]) (g.hd 0 0 [(i, 1)]) (fun k x b o => w.cell? (ad b o) = some (.int .i64 x)) xs[i].2 := by
    intro i hi
    obtain ⟨e1, e2⟩ := hel i hi
    refine ⟨e1, ?_⟩
    rcases e2 with e2 | e2
    · simp [noSk] at e2
    · exact e2
  let c : Nat → Value := fun i => match xs[i / 2]? with | some x => if i % 2 = 0 then .int .i64 x.1 else (g.hd 0 0 [(i / 2, 1)]).val | none => .int .i64 0
  have hcells : ∀ i, i < xs.length * 2 → w.cell? ⟨b, o + i, none⟩ = some (c i) ∧ w.frozen? ⟨b, o + i, none⟩ = false ∧ (c i).oneCell' = true := by
    intro i hi
    have hlt : i / 2 < xs.length := by omega
    obtain ⟨e1, e2, -⟩ := hrow2 (i / 2) hlt
    have hm := hmem i (by show i < (g.hd 0 0 []).cap * 2; omega)
    have hci : c i = if i % 2 = 0 then .int .i64 xs[i / 2].1 else (g.hd 0 0 [(i / 2, 1)]).val := by
      show (match xs[i / 2]? with | some x => if i % 2 = 0 then Value.int .i64 x.1 else (g.hd 0 0 [(i / 2, 1)]).val | none => .int .i64 0) = _
      rw [List.getElem?_eq_getElem hlt]
    rw [hci]
    refine ⟨?_, hm.2.2, ?_⟩
    · by_cases hp : i % 2 = 0
      · rw [if_pos hp, show o + i = o + i / 2 * 2 by omega]
        exact e1
      · rw [if_neg hp, show o + i = o + i / 2 * 2 + 1 by omega]
        exact e2
    · split
      · rfl
      · unfold Hd.val; rfl
  have hargs : args = [.slice (some ⟨b, o, none⟩) xs.length (g.hd 0 0 []).cap, .int .i64 k, .int .i64 ((k + 1 : Nat) : Int)] := by
    rw [hhd] at a0
    have hln : args.length = 3 := hln
    match args, hln, a0, a1, a2 with
    | [x0, x1, x2], _, a0, a1, a2 =>
      simp only [List.getElem?_cons_zero, List.getElem?_cons_succ, Option.some.injEq] at a0 a1 a2
      subst a0 a1 a2
      rfl
  subst hargs
  have hcl : xs.length ≤ (g.hd 0 0 []).cap := by omega
  refine (K b o (g.hd 0 0 []).cap xs.length k c w hcl hk hcells).mono fun e w' he => ?_
  obtain ⟨rfl, D⟩ := he
  have hin : ∀ b' o' p, g.lab b' o' = some p → p ≠ (0, []) → w'.cell? (ad b' o') = w.cell? (ad b' o') := by
    intro b' o' p hl hp
    refine D.out b' o' fun ⟨e1, e2, e3⟩ => hp ?_
    subst e1
    have := (hmem (o' - o) (by show o' - o < (g.hd 0 0 []).cap * 2; omega)).1
    rw [show o + (o' - o) = o' by omega, hl] at this
    exact Option.some.inj this
  have hsz : w.heap.size ≤ w'.heap.size := D.fr.size
  have hrt : ∀ j, j < (g.hd 0 0 []).cap * 2 → (w'.cell? (ad b (o + j))).isSome = true := by
    intro j hj
    by_cases hjn : j < xs.length * 2
    · exact D.tail j hjn
    · rw [D.out b (o + j) (by omega)]; exact (hmem j hj).2.1
  refine ⟨[.slice (some ⟨b, o, none⟩) (xs.length - 1) (g.hd 0 0 []).cap], delGh g k, fun s => s < 21, { env := [(0, .own 20480 0 [] tA)], heap := [(20480, some (.row true tA 0 (xs.eraseIdx k)))], nxt := 21 }, rfl, ⟨fun id ob h => ?_, fun t v h => ?_, rfl, ?_, fun id h => ?_, fun b' o' hl v hv => ?_, fun b' o' id p hl h19 => ?_, fun b' o' q h => ?_, fun b' o' q hb h => ?_, ?_, fun id h => ?_⟩⟩
  · replace h : (match look [(20480, some (AObj.row true tA 0 (xs.eraseIdx k)))] id with | some (some o) => some o | _ => none) = some ob := h
    rw [look_cons] at h
    by_cases hid : 20480 = id
    case neg => rw [if_neg hid] at h; simp [look] at h
    rw [if_pos hid] at h
    subst hid
    obtain rfl := Option.some.inj h
    refine ⟨by show 20480 / 1024 < 21; decide, by show 0 < 21; decide, by show 0 < 21; decide, ?_⟩
    have hl1 : (xs.eraseIdx k).length = xs.length - 1 := List.length_eraseIdx_of_lt hk
    have hd0 : (delGh g k).hd 20480 0 [] = ⟨some (b, o), xs.length - 1, (g.hd 0 0 []).cap⟩ := by
      show Hd.mk (g.hd 0 0 []).addr ((g.hd 0 0 []).len - 1) (g.hd 0 0 []).cap = _
      rw [had, hlen]
    refine ⟨by rw [hd0, hl1], by rw [hd0]; show xs.length - 1 ≤ (g.hd 0 0 []).cap; omega, by rw [hd0]; simp, fun b' o' hb => ?_⟩
    rw [hd0] at hb ⊢
    simp only [Option.some.injEq, Prod.mk.injEq] at hb
    obtain ⟨rfl, rfl⟩ := hb
    refine ⟨fun j hj => ⟨?_, hrt j hj, by rw [D.frz]; exact (hmem j hj).2.2⟩, fun i hi => ?_⟩
    · show delLab k (g.lab b (o + j)) = _
      rw [(hmem j hj).1]; rfl
    · have hi1 : i < xs.length - 1 := by rw [hl1] at hi; exact hi
      let i' := if i < k then i else i + 1
      have hi' : i' < xs.length := by show (if i < k then i else i + 1) < _; split <;> omega
      have hx : (xs.eraseIdx k)[i] = xs[i'] := by
        rw [List.getElem_eraseIdx]
        show _ = xs[if i < k then i else i + 1]
        split <;> simp_all
      rw [hx]
      obtain ⟨e1, e2, e3⟩ := hrow2 i' hi'
      have hcx : ∀ d, d < 2 → w'.cell? (ad b (o + i * 2 + d)) = w.cell? (ad b (o + i' * 2 + d)) := by
        intro d hd
        have h1 := D.cell (i * 2 + d) (by omega)
        rw [show o + i * 2 + d = o + (i * 2 + d) by omega, h1]
        show _ = w.cell? (ad b (o + (if i < k then i else i + 1) * 2 + d))
        by_cases hik : i < k
        · rw [if_pos (by omega), if_pos hik, show o + i * 2 + d = o + (i * 2 + d) by omega]
          exact (hcells (i * 2 + d) (by omega)).1.symm
        · rw [if_neg (by omega), if_neg hik, show o + (i + 1) * 2 + d = o + (i * 2 + d + 2) by omega]
          exact (hcells (i * 2 + d + 2) (by omega)).1.symm
      refine ⟨?_, .inr ⟨?_, ?_⟩⟩
      · have := hcx 0 (by omega)
        rw [Nat.add_zero, Nat.add_zero] at this
        show w'.cell? (ad b (o + i * 2)) = _
        rw [this]; exact e1
      · show w'.cell? (ad b (o + i * 2 + 1)) = some (delHd g k [(i, 1)]).val
        rw [hcx 1 (by omega)]
        exact e2
      · obtain ⟨f1, f2, f3, f4⟩ := e3
        refine ⟨f1, f2, f3, fun b2 o2 hb2 => ?_⟩
        obtain ⟨m1, m2⟩ := f4 b2 o2 hb2
        refine ⟨fun q hq => ?_, fun q hq => ?_⟩
        · obtain ⟨l1, l2, l3⟩ := m1 q hq
          refine ⟨?_, ?_, by rw [D.frz]; exact l3⟩
          · show delLab k (g.lab b2 (o2 + q)) = some (20480, [(i, 1)])
            rw [l1]
            show (if i' < k then some (20480, [(i', 1)]) else if i' = k then some (0, [(i', 1)]) else some (20480, [(i' - 1, 1)])) = _
            show (if (if i < k then i else i + 1) < k then some (20480, [((if i < k then i else i + 1), 1)]) else if (if i < k then i else i + 1) = k then some (0, [((if i < k then i else i + 1), 1)]) else some (20480, [((if i < k then i else i + 1) - 1, 1)])) = _
            by_cases hik : i < k
            · rw [if_pos hik, if_pos hik]
            · rw [if_neg hik, if_neg (by omega), if_neg (by omega)]; rfl
          · rw [hin _ _ _ l1 (by simp)]; exact l2
        · show w'.cell? (ad b2 (o2 + q * 1)) = _
          have hq1 : q < xs[i'].2.length := hq
          have hf1 : (g.hd 0 0 [(i', 1)]).len = xs[i'].2.length := f1
          have hq2 : q < (g.hd 0 0 [(i', 1)]).cap * 1 := by omega
          have hl2 : g.lab b2 (o2 + q * 1) = some (0, [(i', 1)]) := by rw [Nat.mul_one]; exact (m1 q hq2).1
          rw [hin _ _ _ hl2 (by simp)]
          exact m2 q hq
  · replace h : look [(0, AVal.own 20480 0 [] tA)] t = some v := h
    rw [look_cons] at h
    by_cases ht : 0 = t
    case neg => rw [if_neg ht] at h; simp [look] at h
    rw [if_pos ht] at h
    subst ht
    obtain rfl := Option.some.inj h
    refine ⟨by show 20480 / 1024 < 21; decide, by show 0 < 21; decide, by show 0 < 21; decide, trivial, fun _ => rfl, ?_⟩
    show (actOf [_]).eval (.tmp 0) = (Hd.mk (g.hd 0 0 []).addr ((g.hd 0 0 []).len - 1) (g.hd 0 0 []).cap).val
    rw [actOf_eval, had, hlen]
    rfl
  · rfl
  · show (if id = 20480 then delHd g k [] else g.hd id 0 []) = _
    rw [if_neg (by omega)]
  · have hm : ∀ p, g.lab b' o' ≠ some (0, p) := fun p e => by rw [hl] at e; simp at e
    refine ⟨?_, by show delLab k (g.lab b' o') = none; rw [hl]; rfl⟩
    rw [D.out b' o' (fun ⟨e1, e2, e3⟩ => ?_)]; exact hv
    subst e1
    have := (hmem (o' - o) (by show o' - o < (g.hd 0 0 []).cap * 2; omega)).1
    rw [show o + (o' - o) = o' by omega, hl] at this
    simp at this
  · show delLab k (g.lab b' o') = some (id, p)
    rw [hl, delLab_other (by omega)]
  · obtain ⟨q', hq⟩ := delLab_some h
    have := hlabs _ _ _ hq
    omega
  · obtain ⟨q', hq⟩ := delLab_some h
    rw [hq]; simp
  · refine D.fr.mono fun b' o' _ ⟨e1, e2, e3⟩ => ?_
    subst e1
    have := (hmem (o' - o) (by show o' - o < (g.hd 0 0 []).cap * 2; omega)).1
    rw [show o + (o' - o) = o' by omega] at this
    exact ⟨_, _, this, by decide⟩
  · intro h19
    refine h ?_
    show (match look [(20480, some (AObj.row true tA 0 (xs.eraseIdx k)))] id with | some (some o) => some o | _ => none) = none
    rw [look_cons, if_neg (by omega)]
    rfl

def delNews (c : Nat → Value) (n k : Nat) : List Value := (List.range ((n - (k + 1)) * 2)).map fun t => c ((k + 1) * 2 + t)
theorem delNews_len (c : Nat → Value) (n k : Nat) : (delNews c n k).length = (n - (k + 1)) * 2 := by simp [delNews]
theorem delNews_get (c : Nat → Value) {n k t : Nat} (h : t < (n - (k + 1)) * 2) : (delNews c n k)[t]? = some (c ((k + 1) * 2 + t)) := by
  rw [delNews, List.getElem?_map, List.getElem?_range h]; rfl
section
variable {b o n k : Nat} {c : Nat → Value} {w : World}
theorem del_w1 (hk : k < n) (hH : ∀ i, i < n * 2 → w.cell? ⟨b, o + i, none⟩ = some (c i)) {t : Nat} (ht : t < n * 2) :
    (w.drew.setCells b (o + k * 2) (delNews c n k)).cell? (ad b (o + t)) = some (if k * 2 ≤ t ∧ t < (n - 1) * 2 then c (t + 2) else c t) := by
  have hl := delNews_len c n k
  by_cases h : k * 2 ≤ t ∧ t < (n - 1) * 2
  · rw [if_pos h]
    have h1 := World.cell?_setCells_in b (delNews c n k) (o + k * 2) w.drew (fun j hj => by
      rw [hl] at hj
      show (w.cell? ⟨b, o + k * 2 + j, none⟩).isSome = true
      rw [Nat.add_assoc, hH (k * 2 + j) (by omega)]; rfl) (t - k * 2) (by rw [hl]; omega)
    rw [show o + k * 2 + (t - k * 2) = o + t by omega] at h1
    rw [show ad b (o + t) = ⟨b, o + t, none⟩ from rfl, h1, ← List.getElem?_eq_getElem, delNews_get c (by omega)]
    rw [show (k + 1) * 2 + (t - k * 2) = t + 2 by omega]
  · rw [if_neg h, World.cell?_setCells_out b _ _ w.drew _ (fun _ _ => by rw [hl]; show o + t < o + k * 2 ∨ o + k * 2 + (n - (k + 1)) * 2 ≤ o + t; omega)]
    exact hH t ht
theorem delW_of (hk : k < n) (hH : ∀ i, i < n * 2 → w.cell? ⟨b, o + i, none⟩ = some (c i)) :
    DelW b o n k c w ((w.drew.setCells b (o + k * 2) (delNews c n k)).setCells b (o + (n - 1) * 2) [.int .i64 0, .slice none 0 0]) := by
  have hl := delNews_len c n k
  have hs2 : ∀ j, j < 2 → ((w.drew.setCells b (o + k * 2) (delNews c n k)).cell? (ad b (o + (n - 1) * 2 + j))).isSome = true := by
    intro j hj
    rw [Nat.add_assoc, del_w1 hk hH (by omega)]; rfl
  refine ⟨fun i hi => ?_, fun i hi => ?_, fun b' o' h => ?_, fun a => ?_, ?_⟩
  · rw [World.cell?_setCells_out b _ _ _ _ (fun _ _ => .inl (by show o + i < o + (n - 1) * 2; omega)), del_w1 hk hH (by omega)]
    by_cases h : i < k * 2
    · rw [if_neg (by omega), if_pos h]
    · rw [if_pos (by omega), if_neg h]
  · by_cases h : i < (n - 1) * 2
    · rw [World.cell?_setCells_out b _ _ _ _ (fun _ _ => .inl (by show o + i < o + (n - 1) * 2; omega)), del_w1 hk hH hi]; rfl
    · have h1 := World.cell?_setCells_in b [.int .i64 0, .slice none 0 0] (o + (n - 1) * 2) _ hs2 (i - (n - 1) * 2) (by show _ < 2; omega)
      rw [show o + (n - 1) * 2 + (i - (n - 1) * 2) = o + i by omega] at h1
      rw [show ad b (o + i) = ⟨b, o + i, none⟩ from rfl, h1]; rfl
  · have e1 : ∀ (vs : List Value) (o1 : Nat) (w1 : World), (∀ j, j < vs.length → o ≤ o1 + j ∧ o1 + j < o + n * 2) → (w1.setCells b o1 vs).cell? (ad b' o') = w1.cell? (ad b' o') := by
      intro vs o1 w1 hv
      refine World.cell?_setCells_out b vs o1 w1 _ (fun e _ => ?_)
      have e : b' = b := e
      show o' < o1 ∨ o1 + vs.length ≤ o'
      rcases Nat.lt_or_ge o' o1 with h1 | h1
      · exact .inl h1
      · rcases Nat.lt_or_ge o' (o1 + vs.length) with h2 | h2
        · have := hv (o' - o1) (by omega)
          exact absurd ⟨e, by omega, by omega⟩ h
        · exact .inr h2
    rw [e1 _ _ _ (fun j hj => by have hj : j < 2 := hj; omega), e1 _ _ _ (fun j hj => by rw [hl] at hj; omega)]
    rfl
  · rw [World.frozen?_setCells, World.frozen?_setCells]; rfl
  · have f0 := fr_drew (fun b' o' => b' = b ∧ o ≤ o' ∧ o' < o + n * 2) w
    refine (f0.trans (Fr_setCells b _ _ _ (fun j hj => ?_))).trans (Fr_setCells b _ _ _ (fun j hj => ?_))
    · rw [hl] at hj; exact ⟨rfl, by omega, by omega⟩
    · have hj : j < 2 := hj
      exact ⟨rfl, by omega, by omega⟩
end
end Go.Am
