/- Library functions by the contracts of the shelf, for the abstract machine. No condition. -/
import Derived.Test.YtgddbcdkhfdojaaDoorAmD
import Derived.Below
import Derived.Sort.Grow
import Derived.Lib.ItoaNum
import Derived.Lib.LaidTab
import Derived.Lib.Join
import Derived.Deep.Draws
import Derived.Lib.AtoiErrMem
import Derived.Lib.AtoiAll
import Derived.Lib.SplitLaws
import Derived.Lib.Strings
import Derived.Handed
set_option linter.unusedVariables false
set_option linter.unusedSimpArgs false
/- The abstract machine: library functions whose contracts are the kit's. -/
namespace Go.Am
open Go
open Go.RowKit

theorem heap_lt {w : World} {k : Nat} {o : Obj} (h : w.heap[k]? = some o) : k < w.heap.size := by
  rcases Nat.lt_or_ge k w.heap.size with hh | hh
  · exact hh
  · rw [Array.getElem?_eq_none hh] at h; simp at h

theorem fr_below {F : Nat → Nat → Prop} {w w' : World} (h : Below w.heap.size w w') : Fr F w w' where
  os := h.os
  tape := h.tape
  output := h.output
  size := h.size
  cells k c e f hk := ⟨c, by rw [h.block k (heap_lt hk)]; exact hk, rfl, fun o _ => rfl⟩
  block k hk _ := h.block k hk
  kind k b hk _ := by rw [h.block k (heap_lt hk)]; exact hk

theorem cell_lt' {w : World} {a : Addr} {v : Value} (h : w.cell? a = some v) : a.block < w.heap.size := by
  rcases Nat.lt_or_ge a.block w.heap.size with hh | hh
  · exact hh
  · exfalso
    unfold World.cell? at h
    rw [Array.getElem?_eq_none hh] at h
    simp at h

theorem below_cell {w w' : World} (h : Below w.heap.size w w') {a : Addr} {v : Value} (hv : w.cell? a = some v) : w'.cell? a = some v := by
  rw [h.cell (cell_lt' hv)]; exact hv

/-- a call that only makes new blocks, and whose result owns nothing -/
theorem exit_below {g : Gh} {w w' : World} {site : Nat} {m : Mng} {y : OTs (RK.tys m.rs ++ PK.outs m.ps)} {v : Value} (hb : Below w.heap.size w w')
    (hl : ∀ b o q, g.lab b o = some q → b < w.heap.size)
    (hval : VRel g w' (U' U20 site) (match (resVals site 0 m.rs (PK.outs m.ps) y).1 with | [v] => v | vs => .tup vs) v)
    (hobjs : (resVals site 0 m.rs (PK.outs m.ps) y).2.1 = [])
    (houts : OutOK g w' 0 m.ps (resVals site 0 m.rs (PK.outs m.ps) y).2.2) : ExitOK g w site m y v g w' where
  val := hval
  objs id o h := by rw [hobjs] at h; simp [look] at h
  outs := houts
  par _ _ := rfl
  shr b o hn v hv := ⟨below_cell hb hv, hn⟩
  frn _ _ _ _ h _ := h
  labs b o q h := Nat.lt_of_lt_of_le (hl b o q h) hb.size
  old b o q _ h e := by rw [e] at h; simp at h
  fr := fr_below hb

theorem below_drewN (w : World) (n : Nat) : Below w.heap.size w (w.drewN n) := ⟨rfl, rfl, rfl, Nat.le_refl _, fun _ _ => rfl⟩
theorem below_grow (w : World) (n : Nat) (os : Array Obj) : Below w.heap.size w (Sort.grow (w.drewN n) os) := by
  refine ⟨rfl, rfl, rfl, by simp [Sort.grow], fun k hk => ?_⟩
  show (w.heap ++ os)[k]? = w.heap[k]?
  rw [Array.getElem?_append_left hk]

theorem gl_pow10 {P : Program} {l : Lab} {w : World} (hG : Gl P l w) {b : Nat} (hb : P.globalNamed "internal/strconv.uint64pow10" = some b) : Lib.TabIs P w "internal/strconv.uint64pow10" .u64 Lib.pow10Tab := by
  obtain ⟨⟨vs, h3, h4⟩, _⟩ := hG "internal/strconv.uint64pow10" (fun vs => vs = ((List.range 20).map fun i => Value.int .u64 ((10 ^ i : Nat) : Int)).toArray) (by unfold pins; exact List.mem_cons_self) b hb
  unfold Lib.TabIs
  rw [h3, h4]
  simp [Lib.pow10Tab]
theorem gl_of {P : Program} {w : World} (h : ∀ nm pr, (nm, pr) ∈ pins → (P.globalNamed nm).isSome = true → ∃ vs, w.var? P nm = some vs ∧ pr vs) : Gl P L0 w :=
  fun nm pr hm b hb => ⟨h nm pr hm (by rw [hb]; rfl), fun o => rfl⟩

/-! ### strconv.Itoa -/
def itoaR (n : Int) : Option (OTs [Ty.str]) := if -9223372036854775808 ≤ n ∧ n ≤ 9223372036854775807 then some (Lib.itoa n, ()) else none
abbrev itoaM : Mng := ⟨[.val (.int .i64)], [.val .str], fun x => itoaR x.1⟩
theorem itoa_sound {P : Program} {f : FuncId} (hg : (P.globalNamed "internal/strconv.uint64pow10").isSome = true)
    (K : ∀ n : Int, -9223372036854775808 ≤ n → n ≤ 9223372036854775807 → ∀ w : World, Lib.TabIs P w "internal/strconv.uint64pow10" .u64 Lib.pow10Tab →
      Calls P f #[.int .i64 n] w fun e w' => e = .returned (.string ⟨(Lib.itoa n).toArray⟩) ∧ ∃ k os, w' = Sort.grow (w.drewN k) os) : Sound P f itoaM := by
  intro x y hm _ site hs g w args E hG
  obtain ⟨v1, r, ha, h1, h2⟩ := E.vals
  obtain rfl : r = [] := h2
  obtain rfl : v1 = .int .i64 x.1 := h1
  subst ha
  replace hm : itoaR x.1 = some y := hm
  unfold itoaR at hm
  split at hm
  · rename_i hr
    obtain rfl := Option.some.inj hm
    obtain ⟨b, hb⟩ := Option.isSome_iff_exists.1 hg
    have ht := gl_pow10 hG hb
    refine (K x.1 hr.1 hr.2 w ht).mono fun e w' he => ?_
    obtain ⟨he, k, os, hw⟩ := he
    subst hw
    exact ⟨_, g, he, exit_below (m := itoaM) (below_grow w k os) E.labs rfl rfl trivial⟩
  · simp at hm

/-! ### strings.Join -/
def joinR (xs : List (List UInt8)) (sep : List UInt8) : Option (OTs [Ty.str]) :=
  if xs.length ≤ 140737488355328 ∧ (Lib.join xs sep).length ≤ 140737488355328 then some (Lib.join xs sep, ()) else none
abbrev joinM : Mng := ⟨[.val (.sl .str), .val .str], [.val .str], fun x => joinR x.1 x.2.1⟩
theorem join_core {P : Program} {f : FuncId} {g : Gh} {w : World} {xs : List (List UInt8)} {sep : List UInt8} {v1 : Value} {Q : Ending → World → Prop}
    (K0 : ∀ (a : Option Addr) (c : Nat) (sep : ByteArray) (w : World), Calls P f #[.slice a 0 c, .string sep] w fun e w' => e = .returned (.string ⟨#[]⟩) ∧ w' = w)
    (K : ∀ (bk o c : Nat) (xs : List ByteArray) (sep : ByteArray) (w : World), (∀ (j : Nat) x, xs[j]? = some x → w.cell? ⟨bk, o + j, none⟩ = some (.string x)) → bk < w.heap.size → xs.length ≤ 140737488355328 → xs.length ≤ c →
      (Lib.join (xs.map (·.data.toList)) sep.data.toList).length ≤ 140737488355328 →
      Calls P f #[.slice (some ⟨bk, o, none⟩) xs.length c, .string sep] w fun e w' => e = .returned (.string ⟨(Lib.join (xs.map (·.data.toList)) sep.data.toList).toArray⟩) ∧ Below w.heap.size w w')
    (h1 : shV (α := List UInt8) 1 (Sh g.lab w .str) xs v1) (hr : xs.length ≤ 140737488355328 ∧ (Lib.join xs sep).length ≤ 140737488355328)
    (fin : ∀ w', Below w.heap.size w w' → Q (.returned (.string ⟨(Lib.join xs sep).toArray⟩)) w') : Calls P f #[v1, .string ⟨sep.toArray⟩] w Q := by
  obtain ⟨a, len, cap, e, hl, hc, hn, hx⟩ := h1
  subst e
  by_cases hne : xs = []
  · subst hne
    simp only [List.length_nil] at hl
    subst hl
    refine (K0 a cap _ w).mono fun e w' he => ?_
    obtain ⟨rfl, rfl⟩ := he
    exact fin _ (Below.refl _ _)
  · obtain ⟨b, o, rfl, hi⟩ := hx hne
    have hcell : ∀ (j : Nat) x, (xs.map fun s => (⟨s.toArray⟩ : ByteArray))[j]? = some x → w.cell? ⟨b, o + j, none⟩ = some (.string x) := by
      intro j x hj
      simp only [List.getElem?_map, Option.map_eq_some_iff] at hj
      obtain ⟨s, hs, rfl⟩ := hj
      obtain ⟨hlt, rfl⟩ := List.getElem?_eq_some_iff.1 hs
      have := (hi j hlt).1
      rw [Nat.mul_one] at this
      exact this
    have hj : Lib.join ((xs.map fun s => (⟨s.toArray⟩ : ByteArray)).map (·.data.toList)) (⟨sep.toArray⟩ : ByteArray).data.toList = Lib.join xs sep := by
      simp [List.map_map, Function.comp_def]
    have hb : b < w.heap.size := by
      obtain ⟨s, r, rfl⟩ := List.exists_cons_of_ne_nil hne
      have := cell_lt' (hcell 0 ⟨s.toArray⟩ (by simp))
      exact this
    have := K b o cap (xs.map fun s => (⟨s.toArray⟩ : ByteArray)) ⟨sep.toArray⟩ w hcell hb (by simpa using hr.1) (by simp; omega) (by rw [hj]; exact hr.2)
    rw [hj, List.length_map] at this
    subst hl
    refine this.mono fun e w' he => ?_
    obtain ⟨rfl, hb⟩ := he
    exact fin _ hb
theorem join_sound {P : Program} {f : FuncId}
    (K0 : ∀ (a : Option Addr) (c : Nat) (sep : ByteArray) (w : World), Calls P f #[.slice a 0 c, .string sep] w fun e w' => e = .returned (.string ⟨#[]⟩) ∧ w' = w)
    (K : ∀ (bk o c : Nat) (xs : List ByteArray) (sep : ByteArray) (w : World), (∀ (j : Nat) x, xs[j]? = some x → w.cell? ⟨bk, o + j, none⟩ = some (.string x)) → bk < w.heap.size → xs.length ≤ 140737488355328 → xs.length ≤ c →
      (Lib.join (xs.map (·.data.toList)) sep.data.toList).length ≤ 140737488355328 →
      Calls P f #[.slice (some ⟨bk, o, none⟩) xs.length c, .string sep] w fun e w' => e = .returned (.string ⟨(Lib.join (xs.map (·.data.toList)) sep.data.toList).toArray⟩) ∧ Below w.heap.size w w') : Sound P f joinM := by
  intro x y hm _ site hs g w args E hG
  obtain ⟨v1, r, ha, h1, v2, r2, hr2, h2, h3⟩ := E.vals
  obtain rfl : r2 = [] := h3
  obtain rfl : v2 = .string ⟨(x.2.1 : List UInt8).toArray⟩ := h2
  subst hr2
  subst ha
  replace hm : joinR x.1 x.2.1 = some y := hm
  unfold joinR at hm
  split at hm
  · rename_i hr
    obtain rfl := Option.some.inj hm
    exact join_core (g := g) K0 K h1 hr (fun w' hb => ⟨_, g, rfl, exit_below (m := joinM) hb E.labs rfl rfl trivial⟩)
  · simp at hm

end Go.Am

/- The abstract machine: library functions that read texts, by the kit's contracts. -/
namespace Go.Am
open Go
open Go.RowKit

theorem ba_size (s : List UInt8) : (⟨s.toArray⟩ : ByteArray).size = s.length := by simp [ByteArray.size]

/-! ### a text in pieces, at one byte -/
def consH (x : UInt8) : List (List UInt8) → List (List UInt8)
  | [] => [[x]]
  | h :: t => (x :: h) :: t
def splitR (c : UInt8) : List UInt8 → List (List UInt8)
  | [] => [[]]
  | x :: xs => if x = c then [] :: splitR c xs else consH x (splitR c xs)

theorem splitK_eq (c : UInt8) : ∀ s : List UInt8, Lib.splitK [c] 0 (Lib.count s [c]) s = splitR c s
  | [] => by rw [Lib.count_miss (by simp [Lib.index])]; rfl
  | x :: xs => by
    by_cases h : x = c
    · subst h
      have hix : Lib.index (x :: xs) [x] = ((0 : Nat) : Int) := by rw [Lib.index]; simp [List.isPrefixOf]
      rw [Lib.count_cons_eq, Nat.add_comm, splitR, if_pos rfl, ← splitK_eq x xs]
      rw [Lib.splitK, hix]
      simp
    · rw [Lib.count_cons_ne x c xs h, splitR, if_neg h, ← splitK_eq c xs]
      have hp : ([c] : List UInt8).isPrefixOf (x :: xs) = false := by simp [List.isPrefixOf, Ne.symm h]
      have hix : Lib.index (x :: xs) [c] = if Lib.index xs [c] == -1 then -1 else Lib.index xs [c] + 1 := by rw [Lib.index, hp]; simp
      by_cases hm : Lib.index xs [c] = -1
      · rw [Lib.count_miss hm]; rfl
      · have hge := Lib.index_ge xs [c]
        obtain ⟨j, hj⟩ : ∃ j : Nat, Lib.index xs [c] = j := ⟨(Lib.index xs [c]).toNat, by omega⟩
        have hix' : Lib.index (x :: xs) [c] = ((j + 1 : Nat) : Int) := by rw [hix, if_neg (fun e => hm (beq_iff_eq.1 e)), hj]; omega
        rw [Lib.count_hit (by simp) hj, Nat.add_comm, Lib.splitK, Lib.splitK, hj, hix']
        have n1 : (((j : Nat) : Int) == -1) = false := by simp
        have n2 : (((j + 1 : Nat) : Int) == -1) = false := beq_eq_false_iff_ne.2 (by omega)
        rw [n1, n2]
        simp only [Bool.false_eq_true, if_false, Int.toNat_natCast, consH]
        simp

theorem splitR_ne (c : UInt8) (s : List UInt8) : splitR c s ≠ [] := by
  cases s with
  | nil => simp [splitR]
  | cons x xs =>
    unfold splitR
    split
    · simp
    · cases splitR c xs <;> simp [consH]

def splitF (s sep : List UInt8) : Option (OTs [Ty.sl .str]) := match sep with | [c] => if s.length < 4294967281 then some (splitR c s, ()) else none | _ => none
abbrev splitM : Mng := ⟨[.val .str, .val .str], [.sh (.sl .str)], fun x => splitF x.1 x.2.1⟩

theorem gl_maxLen {P : Program} {l : Lab} {w : World} (hG : Gl P l w) {b : Nat} (hb : P.globalNamed "internal/bytealg.MaxLen" = some b) : ∃ m, w.cell? ⟨b, 0, none⟩ = some (.int .i64 m) := by
  obtain ⟨⟨vs, h3, m, h4⟩, _⟩ := hG "internal/bytealg.MaxLen" (fun vs => ∃ m, vs[0]? = some (.int .i64 m)) (by unfold pins; exact List.mem_cons_of_mem _ List.mem_cons_self) b hb
  exact ⟨m, by rw [World.var?_cell hb h3 0]; exact h4⟩
theorem var_of_cell {P : Program} {n : String} {w : World} {g : Nat} {v : Value} (hg : P.globalNamed n = some g) (h : w.cell? ⟨g, 0, none⟩ = some v) : ∃ vs, w.var? P n = some vs ∧ vs[0]? = some v := by
  unfold World.var?
  rw [hg]
  simp only [Option.bind_some]
  unfold World.cell? at h
  simp only at h
  split at h
  · rename_i cs t fz he
    rw [he]
    exact ⟨cs, rfl, by simpa using h⟩
  all_goals simp at h
theorem gl_errSyntax {P : Program} {l : Lab} {w : World} (hG : Gl P l w) {b : Nat} (hb : P.globalNamed "strconv.ErrSyntax" = some b) : ∃ t p, w.var? P "strconv.ErrSyntax" = some #[.iface t p] := by
  obtain ⟨⟨vs, h3, t, p, h4⟩, _⟩ := hG "strconv.ErrSyntax" (fun vs => ∃ t p, vs = #[.iface t p]) (by unfold pins; exact List.mem_cons_of_mem _ (List.mem_cons_of_mem _ List.mem_cons_self)) b hb
  exact ⟨t, p, by rw [h3, h4]⟩
theorem gl_errRange {P : Program} {l : Lab} {w : World} (hG : Gl P l w) {b : Nat} (hb : P.globalNamed "strconv.ErrRange" = some b) : ∃ t p, w.var? P "strconv.ErrRange" = some #[.iface t p] := by
  obtain ⟨⟨vs, h3, t, p, h4⟩, _⟩ := hG "strconv.ErrRange" (fun vs => ∃ t p, vs = #[.iface t p]) (by unfold pins; exact List.mem_cons_of_mem _ (List.mem_cons_of_mem _ (List.mem_cons_of_mem _ List.mem_cons_self))) b hb
  exact ⟨t, p, by rw [h3, h4]⟩

theorem below_alloc (w : World) (o : Obj) : Below w.heap.size w (w.alloc o) := (Below.refl _ w).alloc (Nat.le_refl _) o

/-- the slice of texts that a call has made, as one that is read -/
theorem shV_new {g : Gh} {w : World} {e : TypeId} {xs : List ByteArray} {n : Nat} (hn : n = xs.length) (hl : ∀ b o q, g.lab b o = some q → b < w.heap.size) :
    shV (α := List UInt8) 1 (Sh g.lab (w.alloc (.cells (xs.map Value.string).toArray e)) .str) (xs.map (·.data.toList)) (.slice (some ⟨w.heap.size, 0, none⟩) n n) := by
  refine ⟨_, _, _, rfl, (by simpa using hn), Nat.le_refl _, (fun h => by cases h), fun _ => ⟨w.heap.size, 0, rfl, fun i hi => ?_⟩⟩
  have hi' : i < xs.length := by simpa using hi
  refine ⟨?_, ?_⟩
  · have : (w.alloc (.cells (xs.map Value.string).toArray e)).cell? ⟨w.heap.size, 0 + i * 1, none⟩ = (xs.map Value.string).toArray[0 + i * 1]? := NewB.new (NewB_alloc w (xs.map Value.string).toArray e) (0 + i * 1)
    show (w.alloc (.cells (xs.map Value.string).toArray e)).cell? ⟨w.heap.size, 0 + i * 1, none⟩ = _
    rw [this]
    simp [hi']
  · show g.lab w.heap.size _ = none
    cases h : g.lab w.heap.size (0 + i * 1) with
    | none => rfl
    | some q => exact absurd (hl _ _ _ h) (Nat.lt_irrefl _)

theorem split_sound {P : Program} {f : FuncId} {b : Nat} {e : TypeId} (hg : P.globalNamed "internal/bytealg.MaxLen" = some b)
    (K : ∀ (s sep : ByteArray) (m : Int) (w : World), s.size < 4294967281 → w.cell? ⟨b, 0, none⟩ = some (.int .i64 m) → 1 ≤ sep.size →
      Calls P f #[.string s, .string sep] w fun ed w' => ed = .returned (.slice (some ⟨w.heap.size, 0, none⟩) (Lib.countB s sep + 1) (Lib.countB s sep + 1)) ∧ w' = w.alloc (.cells ((Lib.splitB sep 0 (Lib.countB s sep) s).map Value.string).toArray e)) : Sound P f splitM := by
  intro x y hm _ site hs g w args E hG
  obtain ⟨v1, r, ha, h1, v2, r2, hr2, h2, h3⟩ := E.vals
  obtain rfl : r2 = [] := h3
  obtain rfl : v2 = .string ⟨(x.2.1 : List UInt8).toArray⟩ := h2
  obtain rfl : v1 = .string ⟨(x.1 : List UInt8).toArray⟩ := h1
  subst hr2
  subst ha
  obtain ⟨s, sep, ⟨⟩⟩ := x
  replace hm : splitF s sep = some y := hm
  have hone : ∃ c, sep = [c] := by
    match sep, hm with
    | [c], _ => exact ⟨c, rfl⟩
    | [], hm => cases hm
    | _ :: _ :: _, hm => cases hm
  obtain ⟨c, rfl⟩ := hone
  replace hm : (if (s : List UInt8).length < 4294967281 then some (splitR c s, ()) else none) = some y := hm
  split at hm
  · rename_i hlen
    obtain rfl := Option.some.inj hm
    obtain ⟨m, hmc⟩ := gl_maxLen hG hg
    have hsz : (⟨(s : List UInt8).toArray⟩ : ByteArray).size < 4294967281 := Nat.lt_of_le_of_lt (Nat.le_of_eq (ba_size s)) hlen
    have h1 : 1 ≤ (⟨#[c]⟩ : ByteArray).size := Nat.le_refl 1
    refine (K ⟨(s : List UInt8).toArray⟩ ⟨#[c]⟩ m w hsz hmc h1).mono fun ed w' he => ?_
    obtain ⟨rfl, rfl⟩ := he
    have hc : Lib.countB (⟨(s : List UInt8).toArray⟩ : ByteArray) ⟨#[c]⟩ = Lib.count s [c] := by simp [Lib.countB]
    have hl := Lib.splitB_all ⟨#[c]⟩ h1 0 _ ⟨(s : List UInt8).toArray⟩ rfl
    have hd := Lib.splitB_data ⟨#[c]⟩ 0 (Lib.countB (⟨(s : List UInt8).toArray⟩ : ByteArray) ⟨#[c]⟩) ⟨(s : List UInt8).toArray⟩
    have hd2 : (Lib.splitB ⟨#[c]⟩ 0 (Lib.countB (⟨(s : List UInt8).toArray⟩ : ByteArray) ⟨#[c]⟩) ⟨(s : List UInt8).toArray⟩).map (·.data.toList) = splitR c s := by
      rw [hd, hc]; exact splitK_eq c s
    refine ⟨_, g, rfl, exit_below (m := splitM) (below_alloc w _) E.labs ?_ rfl trivial⟩
    show shV (α := List UInt8) 1 (Sh g.lab _ .str) (splitR c s) _
    rw [← hd2]
    exact shV_new hl.symm E.labs
  · cases hm

/-! ### numbers -/
def atoiF (s : List UInt8) : Option (OTs [Ty.int .i64, Ty.err]) :=
  if s.length ≤ 281474976710656 then (match Lib.atoiAll s with | .ok v => some (v, (true, ())) | .«syntax» => some ((0 : Int), (false, ())) | .range => some (Lib.atoiSat s, (false, ()))) else none
abbrev atoiM : Mng := ⟨[.val .str], [.val (.int .i64), .val .err], fun x => atoiF x.1⟩
theorem atoi_sound {P : Program} {f : FuncId} {e5 : TypeId} (hg1 : (P.globalNamed "strconv.ErrSyntax").isSome = true) (hg2 : (P.globalNamed "strconv.ErrRange").isSome = true)
    (K1 : ∀ (s : ByteArray), s.size ≤ 9223372036854775806 → ∀ (v : Int), Lib.atoiAll s.data.toList = .ok v → ∀ w, Calls P f #[.string s] w fun e w' => e = .returned (.tuple #[.int .i64 v, .nilIface]) ∧ (w' = w ∨ ∃ t, w' = Lib.bytesWorld w e5 t))
    (K2 : ∀ (s : ByteArray), s.size ≤ 281474976710656 → Lib.atoiAll s.data.toList = .«syntax» → ∀ (tp : TypeId) (p : Value) (w : World), w.var? P "strconv.ErrSyntax" = some #[.iface tp p] →
      Calls P f #[.string s] w fun e w' => ∃ t p, e = .returned (.tuple #[.int .i64 0, .iface t p]) ∧ Below w.heap.size w w')
    (K3 : ∀ (s : ByteArray), s.size ≤ 281474976710656 → Lib.atoiAll s.data.toList = .range → ∀ (tp : TypeId) (p : Value) (w : World), w.var? P "strconv.ErrRange" = some #[.iface tp p] →
      Calls P f #[.string s] w fun e w' => ∃ t p, e = .returned (.tuple #[.int .i64 (Lib.atoiSat s.data.toList), .iface t p]) ∧ Below w.heap.size w w') : Sound P f atoiM := by
  intro x y hm _ site hs g w args E hG
  obtain ⟨b1, hg1⟩ := Option.isSome_iff_exists.1 hg1
  obtain ⟨b2, hg2⟩ := Option.isSome_iff_exists.1 hg2
  obtain ⟨v1, r, ha, h1, h2⟩ := E.vals
  obtain rfl : r = [] := h2
  obtain rfl : v1 = .string ⟨(x.1 : List UInt8).toArray⟩ := h1
  subst ha
  obtain ⟨s, ⟨⟩⟩ := x
  replace hm : atoiF s = some y := hm
  unfold atoiF at hm
  split at hm
  · rename_i hlen
    have hsz : (⟨(s : List UInt8).toArray⟩ : ByteArray).size ≤ 281474976710656 := Nat.le_trans (Nat.le_of_eq (ba_size s)) hlen
    have fin : ∀ (n : Int) (eb : Bool) (v : Value) (w' : World), ErrV eb v → Below w.heap.size w w' → ExitOK g w site atoiM (n, (eb, ())) (.tuple #[.int .i64 n, v]) g w' := fun n eb v w' hv hb =>
      exit_below (m := atoiM) hb E.labs ⟨[.int .i64 n, v], rfl, _, _, rfl, rfl, _, _, rfl, hv, rfl⟩ rfl trivial
    split at hm
    · rename_i v hv
      obtain rfl := Option.some.inj hm
      refine (K1 ⟨(s : List UInt8).toArray⟩ (by omega) v hv w).mono fun e w' he => ?_
      obtain ⟨rfl, hw⟩ := he
      refine ⟨_, g, rfl, fin v true _ w' rfl ?_⟩
      rcases hw with rfl | ⟨t, rfl⟩
      · exact Below.refl _ _
      · exact Lib.bytesWorld_below w e5 t
    · rename_i hv
      obtain rfl := Option.some.inj hm
      obtain ⟨t, p, hvar⟩ := gl_errSyntax hG hg1
      refine (K2 ⟨(s : List UInt8).toArray⟩ hsz hv t p w hvar).mono fun e w' he => ?_
      obtain ⟨t', p', rfl, hw⟩ := he
      exact ⟨_, g, rfl, fin 0 false _ w' ⟨t', p', rfl⟩ hw⟩
    · rename_i hv
      obtain rfl := Option.some.inj hm
      obtain ⟨t, p, hvar⟩ := gl_errRange hG hg2
      refine (K3 ⟨(s : List UInt8).toArray⟩ hsz hv t p w hvar).mono fun e w' he => ?_
      obtain ⟨t', p', rfl, hw⟩ := he
      exact ⟨_, g, rfl, fin _ false _ w' ⟨t', p', rfl⟩ hw⟩
  · simp at hm

/-! ### ends of texts -/
def hasSufF (s p : List UInt8) : Option (OTs [Ty.bool]) := if s.length ≤ 9223372036854775807 then some (Lib.hasSuffix s p, ()) else none
abbrev hasSufM : Mng := ⟨[.val .str, .val .str], [.val .bool], fun x => hasSufF x.1 x.2.1⟩
theorem hasSuf_sound {P : Program} {f : FuncId}
    (K : ∀ (s p : ByteArray) (w : World), s.size ≤ 9223372036854775807 → Calls P f #[.string s, .string p] w fun e w' => e = .returned (.bool (Lib.hasSuffix s.data.toList p.data.toList)) ∧ w' = w) : Sound P f hasSufM := by
  intro x y hm _ site hs g w args E hG
  obtain ⟨v1, r, ha, h1, v2, r2, hr2, h2, h3⟩ := E.vals
  obtain rfl : r2 = [] := h3
  obtain rfl : v2 = .string ⟨(x.2.1 : List UInt8).toArray⟩ := h2
  obtain rfl : v1 = .string ⟨(x.1 : List UInt8).toArray⟩ := h1
  subst hr2
  subst ha
  obtain ⟨s, sep, ⟨⟩⟩ := x
  replace hm : hasSufF s sep = some y := hm
  unfold hasSufF at hm
  split at hm
  · rename_i hlen
    obtain rfl := Option.some.inj hm
    refine (K ⟨(s : List UInt8).toArray⟩ ⟨(sep : List UInt8).toArray⟩ w (Nat.le_trans (Nat.le_of_eq (ba_size s)) hlen)).mono fun e w' he => ?_
    obtain ⟨rfl, rfl⟩ := he
    exact ⟨_, g, rfl, exit_below (m := hasSufM) (Below.refl _ _) E.labs rfl rfl trivial⟩
  · simp at hm
def trimSufF (s p : List UInt8) : Option (OTs [Ty.str]) := if s.length ≤ 9223372036854775807 then some (Lib.trimSuffix s p, ()) else none
abbrev trimSufM : Mng := ⟨[.val .str, .val .str], [.val .str], fun x => trimSufF x.1 x.2.1⟩
theorem trimSuf_sound {P : Program} {f : FuncId}
    (K : ∀ (s p : ByteArray) (w : World), s.size ≤ 9223372036854775807 → Calls P f #[.string s, .string p] w fun e w' => e = .returned (.string ⟨(Lib.trimSuffix s.data.toList p.data.toList).toArray⟩) ∧ w' = w) : Sound P f trimSufM := by
  intro x y hm _ site hs g w args E hG
  obtain ⟨v1, r, ha, h1, v2, r2, hr2, h2, h3⟩ := E.vals
  obtain rfl : r2 = [] := h3
  obtain rfl : v2 = .string ⟨(x.2.1 : List UInt8).toArray⟩ := h2
  obtain rfl : v1 = .string ⟨(x.1 : List UInt8).toArray⟩ := h1
  subst hr2
  subst ha
  obtain ⟨s, sep, ⟨⟩⟩ := x
  replace hm : trimSufF s sep = some y := hm
  unfold trimSufF at hm
  split at hm
  · rename_i hlen
    obtain rfl := Option.some.inj hm
    refine (K ⟨(s : List UInt8).toArray⟩ ⟨(sep : List UInt8).toArray⟩ w (Nat.le_trans (Nat.le_of_eq (ba_size s)) hlen)).mono fun e w' he => ?_
    obtain ⟨rfl, rfl⟩ := he
    exact ⟨_, g, rfl, exit_below (m := trimSufM) (Below.refl _ _) E.labs rfl rfl trivial⟩
  · simp at hm
def cutF (s p : List UInt8) : Option (OTs [Ty.str, Ty.str, Ty.bool]) := if s.length < 4294967281 then some ((Lib.cut s p).1, ((Lib.cut s p).2.1, ((Lib.cut s p).2.2, ()))) else none
abbrev cutM : Mng := ⟨[.val .str, .val .str], [.val .str, .val .str, .val .bool], fun x => cutF x.1 x.2.1⟩
theorem cut_sound {P : Program} {f : FuncId} {b : Nat} (hg : P.globalNamed "internal/bytealg.MaxLen" = some b)
    (K : ∀ (s sep : ByteArray) (m : Int) (w : World), s.size < 4294967281 → w.cell? ⟨b, 0, none⟩ = some (.int .i64 m) →
      Calls P f #[.string s, .string sep] w fun e w' => e = .returned (.tuple #[.string ⟨(Lib.cut s.data.toList sep.data.toList).1.toArray⟩, .string ⟨(Lib.cut s.data.toList sep.data.toList).2.1.toArray⟩, .bool (Lib.cut s.data.toList sep.data.toList).2.2]) ∧ ∃ n, w' = w.drewN n) : Sound P f cutM := by
  intro x y hm _ site hs g w args E hG
  obtain ⟨v1, r, ha, h1, v2, r2, hr2, h2, h3⟩ := E.vals
  obtain rfl : r2 = [] := h3
  obtain rfl : v2 = .string ⟨(x.2.1 : List UInt8).toArray⟩ := h2
  obtain rfl : v1 = .string ⟨(x.1 : List UInt8).toArray⟩ := h1
  subst hr2
  subst ha
  obtain ⟨s, sep, ⟨⟩⟩ := x
  replace hm : cutF s sep = some y := hm
  unfold cutF at hm
  split at hm
  · rename_i hlen
    obtain rfl := Option.some.inj hm
    obtain ⟨m, hmc⟩ := gl_maxLen hG hg
    refine (K ⟨(s : List UInt8).toArray⟩ ⟨(sep : List UInt8).toArray⟩ m w (Nat.lt_of_le_of_lt (Nat.le_of_eq (ba_size s)) hlen) hmc).mono fun e w' he => ?_
    obtain ⟨rfl, n, rfl⟩ := he
    exact ⟨_, g, rfl, exit_below (m := cutM) (below_drewN w n) E.labs ⟨_, rfl, _, _, rfl, rfl, _, _, rfl, rfl, _, _, rfl, rfl, rfl⟩ rfl trivial⟩
  · simp at hm

/-! ### a row that lists variables, with the shape of the world at hand -/
theorem returns_shaped_and {H : Type} {enc : TypeId × Value → H} {a : Assume} {C : Checked} {os : Os} {f : FuncId} {fn : Func} {s : ChangeSpec} {conds : List PathCond} {apart fresh handsOn again : Bool} {X : World → Array Value → Prop}
    (hX : ∀ (w w' : World) (args : Array Value), w.heap = w'.heap → X w args → X w' args)
    (own : ownKnob C.prog.godebug = none) (started : os.Started) (noInit : C.prog.inits.idxOf? f = none) (hfn : C.prog.funcs[f]? = some fn)
    (witness : ∃ (w : World) (tape : Tape) (i : Input), w.os = os ∧ (w.forCall tape i).Shaped C.prog ∧ i.vars = [] ∧ Input.okWide C.prog (w.forCall tape i) .any w.heap.size f i ∧
      ((s.pre enc C.prog fn conds apart (w.forCall tape i).memory i.args ∧ X (w.forCall tape i).memory i.args) ∧ sizedMet enc C.prog fn (OpenSpec.ofChange s) apart (w.forCall tape i).memory i.args) ∧ a.holds C.prog (lone (Frame.enter C.prog f i.args .normal) [] (w.forCall tape i)))
    (contract : ∀ (W : World) (base : Nat) (args : Array Value) (ds gs : List (DataW H)) (before : List MemPlace),
      (∀ (j : Nat) t v, fn.params[j]? = some t → args[j]? = some v → Value.okWide C.prog W .any base t v) →
      DataW.Whole enc C.prog fn.params.toList s.vars apart W args.toList ds gs before →
      W.ShapedOpen C.prog → X W args →
      Calls C.prog f args W fun e W' => ∃ v, e = .returned v ∧ s.post enc C.prog fn apart fresh handsOn again W args v W') :
    ReturnsInHanded a C os f .any (fun w args => (s.pre enc C.prog fn conds apart w args ∧ X w args) ∧ sizedMet enc C.prog fn (OpenSpec.ofChange s) apart w args) (s.post enc C.prog fn apart fresh handsOn again) := by
  refine returnsInHanded_of_calls own started noInit witness ?_
  intro w tape i _ hsh _ hok hpre hholds
  obtain ⟨_, _, _, fn', hfn', _, _, _, _, hval⟩ := hok
  have e : fn' = fn := Option.some.inj (hfn'.symm.trans hfn)
  subst e
  obtain ⟨⟨⟨ds, gs, before, hw, hc⟩, hx⟩, hz⟩ := hpre
  have hw' := DataW.Whole.of_heap (w' := w.forCall tape i) (by rfl) hw
  refine (contract (w.forCall tape i) w.heap.size i.args ds gs before hval hw' hsh (hX _ _ _ (by rfl) hx)).mono fun e W' ⟨v, he, hp⟩ => ?_
  subst he
  exact ChangeSpec.post_blind hp

end Go.Am
