/- Library functions by the contracts of the shelf, for the abstract machine. No condition. -/
import Derived.Test.YtgddbcdkhfdojaaDoorAmD
import Derived.Below
import Derived.Sort.Grow
import Derived.Lib.ItoaNum
import Derived.Lib.LaidTab
import Derived.Lib.Join
import Derived.Deep.Draws
set_option linter.unusedVariables false
set_option linter.unusedSimpArgs false
/- The abstract machine: library functions whose contracts are the kit's. -/
namespace Go.Am
open Go
open Go.RowKit

theorem heap_lt {w : World} {k : Nat} {o : Obj} (h : w.heap[k]? = some o) : k < w.heap.size := by
  rcases Nat.lt_or_ge k w.heap.size with hh | hh
  · exact hh
  · rw [Array.getElem?_eq_none hh] at h; simp at h

theorem fr_below {F : Nat → Nat → Prop} {w w' : World} (h : Below w.heap.size w w') : Fr F w w' where
  os := h.os
  tape := h.tape
  output := h.output
  size := h.size
  cells k c e f hk := ⟨c, by rw [h.block k (heap_lt hk)]; exact hk, rfl, fun o _ => rfl⟩
  block k hk _ := h.block k hk
  kind k b hk _ := by rw [h.block k (heap_lt hk)]; exact hk

theorem cell_lt' {w : World} {a : Addr} {v : Value} (h : w.cell? a = some v) : a.block < w.heap.size := by
  rcases Nat.lt_or_ge a.block w.heap.size with hh | hh
  · exact hh
  · exfalso
    unfold World.cell? at h
    rw [Array.getElem?_eq_none hh] at h
    simp at h

theorem below_cell {w w' : World} (h : Below w.heap.size w w') {a : Addr} {v : Value} (hv : w.cell? a = some v) : w'.cell? a = some v := by
  rw [h.cell (cell_lt' hv)]; exact hv

/-- a call that only makes new blocks, and whose result owns nothing -/
theorem exit_below {g : Gh} {w w' : World} {site : Nat} {m : Mng} {y : OTs (RK.tys m.rs ++ PK.outs m.ps)} {v : Value} (hb : Below w.heap.size w w')
    (hl : ∀ b o q, g.lab b o = some q → b < w.heap.size)
    (hval : VRel g w' (U' U20 site) (match (resVals site 0 m.rs (PK.outs m.ps) y).1 with | [v] => v | vs => .tup vs) v)
    (hobjs : (resVals site 0 m.rs (PK.outs m.ps) y).2.1 = [])
    (houts : OutOK g w' 0 m.ps (resVals site 0 m.rs (PK.outs m.ps) y).2.2) : ExitOK g w site m y v g w' where
  val := hval
  objs id o h := by rw [hobjs] at h; simp [look] at h
  outs := houts
  par _ _ := rfl
  shr b o hn v hv := ⟨below_cell hb hv, hn⟩
  frn _ _ _ _ h _ := h
  labs b o q h := Nat.lt_of_lt_of_le (hl b o q h) hb.size
  old b o q _ h e := by rw [e] at h; simp at h
  fr := fr_below hb

theorem below_drewN (w : World) (n : Nat) : Below w.heap.size w (w.drewN n) := ⟨rfl, rfl, rfl, Nat.le_refl _, fun _ _ => rfl⟩
theorem below_grow (w : World) (n : Nat) (os : Array Obj) : Below w.heap.size w (Sort.grow (w.drewN n) os) := by
  refine ⟨rfl, rfl, rfl, by simp [Sort.grow], fun k hk => ?_⟩
  show (w.heap ++ os)[k]? = w.heap[k]?
  rw [Array.getElem?_append_left hk]

theorem gl_pow10 {P : Program} {l : Lab} {w : World} (hG : Gl P l w) {b : Nat} (hb : P.globalNamed "internal/strconv.uint64pow10" = some b) : Lib.TabIs P w "internal/strconv.uint64pow10" .u64 Lib.pow10Tab := by
  obtain ⟨⟨vs, h3, h4⟩, _⟩ := hG "internal/strconv.uint64pow10" (fun vs => vs = ((List.range 20).map fun i => Value.int .u64 ((10 ^ i : Nat) : Int)).toArray) (by unfold pins; exact List.mem_cons_self) b hb
  unfold Lib.TabIs
  rw [h3, h4]
  simp [Lib.pow10Tab]
theorem gl_of {P : Program} {w : World} (h : ∀ nm pr, (nm, pr) ∈ pins → (P.globalNamed nm).isSome = true → ∃ vs, w.var? P nm = some vs ∧ pr vs) : Gl P L0 w :=
  fun nm pr hm b hb => ⟨h nm pr hm (by rw [hb]; rfl), fun o => rfl⟩

/-! ### strconv.Itoa -/
def itoaR (n : Int) : Option (OTs [Ty.str]) := if -9223372036854775808 ≤ n ∧ n ≤ 9223372036854775807 then some (Lib.itoa n, ()) else none
abbrev itoaM : Mng := ⟨[.val (.int .i64)], [.val .str], fun x => itoaR x.1⟩
theorem itoa_sound {P : Program} {f : FuncId} (hg : (P.globalNamed "internal/strconv.uint64pow10").isSome = true)
    (K : ∀ n : Int, -9223372036854775808 ≤ n → n ≤ 9223372036854775807 → ∀ w : World, Lib.TabIs P w "internal/strconv.uint64pow10" .u64 Lib.pow10Tab →
      Calls P f #[.int .i64 n] w fun e w' => e = .returned (.string ⟨(Lib.itoa n).toArray⟩) ∧ ∃ k os, w' = Sort.grow (w.drewN k) os) : Sound P f itoaM := by
  intro x y hm _ site hs g w args E hG
  obtain ⟨v1, r, ha, h1, h2⟩ := E.vals
  obtain rfl : r = [] := h2
  obtain rfl : v1 = .int .i64 x.1 := h1
  subst ha
  replace hm : itoaR x.1 = some y := hm
  unfold itoaR at hm
  split at hm
  · rename_i hr
    obtain rfl := Option.some.inj hm
    obtain ⟨b, hb⟩ := Option.isSome_iff_exists.1 hg
    have ht := gl_pow10 hG hb
    refine (K x.1 hr.1 hr.2 w ht).mono fun e w' he => ?_
    obtain ⟨he, k, os, hw⟩ := he
    subst hw
    exact ⟨_, g, he, exit_below (m := itoaM) (below_grow w k os) E.labs rfl rfl trivial⟩
  · simp at hm

/-! ### strings.Join -/
def joinR (xs : List (List UInt8)) (sep : List UInt8) : Option (OTs [Ty.str]) :=
  if xs.length ≤ 140737488355328 ∧ (Lib.join xs sep).length ≤ 140737488355328 then some (Lib.join xs sep, ()) else none
abbrev joinM : Mng := ⟨[.val (.sl .str), .val .str], [.val .str], fun x => joinR x.1 x.2.1⟩
theorem join_core {P : Program} {f : FuncId} {g : Gh} {w : World} {xs : List (List UInt8)} {sep : List UInt8} {v1 : Value} {Q : Ending → World → Prop}
    (K0 : ∀ (a : Option Addr) (c : Nat) (sep : ByteArray) (w : World), Calls P f #[.slice a 0 c, .string sep] w fun e w' => e = .returned (.string ⟨#[]⟩) ∧ w' = w)
    (K : ∀ (bk o c : Nat) (xs : List ByteArray) (sep : ByteArray) (w : World), (∀ (j : Nat) x, xs[j]? = some x → w.cell? ⟨bk, o + j, none⟩ = some (.string x)) → bk < w.heap.size → xs.length ≤ 140737488355328 → xs.length ≤ c →
      (Lib.join (xs.map (·.data.toList)) sep.data.toList).length ≤ 140737488355328 →
      Calls P f #[.slice (some ⟨bk, o, none⟩) xs.length c, .string sep] w fun e w' => e = .returned (.string ⟨(Lib.join (xs.map (·.data.toList)) sep.data.toList).toArray⟩) ∧ Below w.heap.size w w')
    (h1 : shV (α := List UInt8) 1 (Sh g.lab w .str) xs v1) (hr : xs.length ≤ 140737488355328 ∧ (Lib.join xs sep).length ≤ 140737488355328)
    (fin : ∀ w', Below w.heap.size w w' → Q (.returned (.string ⟨(Lib.join xs sep).toArray⟩)) w') : Calls P f #[v1, .string ⟨sep.toArray⟩] w Q := by
  obtain ⟨a, len, cap, e, hl, hc, hn, hx⟩ := h1
  subst e
  by_cases hne : xs = []
  · subst hne
    simp only [List.length_nil] at hl
    subst hl
    refine (K0 a cap _ w).mono fun e w' he => ?_
    obtain ⟨rfl, rfl⟩ := he
    exact fin _ (Below.refl _ _)
  · obtain ⟨b, o, rfl, hi⟩ := hx hne
    have hcell : ∀ (j : Nat) x, (xs.map fun s => (⟨s.toArray⟩ : ByteArray))[j]? = some x → w.cell? ⟨b, o + j, none⟩ = some (.string x) := by
      intro j x hj
      simp only [List.getElem?_map, Option.map_eq_some_iff] at hj
      obtain ⟨s, hs, rfl⟩ := hj
      obtain ⟨hlt, rfl⟩ := List.getElem?_eq_some_iff.1 hs
      have := (hi j hlt).1
      rw [Nat.mul_one] at this
      exact this
    have hj : Lib.join ((xs.map fun s => (⟨s.toArray⟩ : ByteArray)).map (·.data.toList)) (⟨sep.toArray⟩ : ByteArray).data.toList = Lib.join xs sep := by
      simp [List.map_map, Function.comp_def]
    have hb : b < w.heap.size := by
      obtain ⟨s, r, rfl⟩ := List.exists_cons_of_ne_nil hne
      have := cell_lt' (hcell 0 ⟨s.toArray⟩ (by simp))
      exact this
    have := K b o cap (xs.map fun s => (⟨s.toArray⟩ : ByteArray)) ⟨sep.toArray⟩ w hcell hb (by simpa using hr.1) (by simp; omega) (by rw [hj]; exact hr.2)
    rw [hj, List.length_map] at this
    subst hl
    refine this.mono fun e w' he => ?_
    obtain ⟨rfl, hb⟩ := he
    exact fin _ hb
theorem join_sound {P : Program} {f : FuncId}
    (K0 : ∀ (a : Option Addr) (c : Nat) (sep : ByteArray) (w : World), Calls P f #[.slice a 0 c, .string sep] w fun e w' => e = .returned (.string ⟨#[]⟩) ∧ w' = w)
    (K : ∀ (bk o c : Nat) (xs : List ByteArray) (sep : ByteArray) (w : World), (∀ (j : Nat) x, xs[j]? = some x → w.cell? ⟨bk, o + j, none⟩ = some (.string x)) → bk < w.heap.size → xs.length ≤ 140737488355328 → xs.length ≤ c →
      (Lib.join (xs.map (·.data.toList)) sep.data.toList).length ≤ 140737488355328 →
      Calls P f #[.slice (some ⟨bk, o, none⟩) xs.length c, .string sep] w fun e w' => e = .returned (.string ⟨(Lib.join (xs.map (·.data.toList)) sep.data.toList).toArray⟩) ∧ Below w.heap.size w w') : Sound P f joinM := by
  intro x y hm _ site hs g w args E hG
  obtain ⟨v1, r, ha, h1, v2, r2, hr2, h2, h3⟩ := E.vals
  obtain rfl : r2 = [] := h3
  obtain rfl : v2 = .string ⟨(x.2.1 : List UInt8).toArray⟩ := h2
  subst hr2
  subst ha
  replace hm : joinR x.1 x.2.1 = some y := hm
  unfold joinR at hm
  split at hm
  · rename_i hr
    obtain rfl := Option.some.inj hm
    exact join_core (g := g) K0 K h1 hr (fun w' hb => ⟨_, g, rfl, exit_below (m := joinM) hb E.labs rfl rfl trivial⟩)
  · simp at hm

end Go.Am
