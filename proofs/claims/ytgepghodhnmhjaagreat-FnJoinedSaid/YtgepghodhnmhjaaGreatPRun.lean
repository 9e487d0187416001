/- Networks at work, in plain Lean: the tables of links, what a process wants, and whether it can. -/
import Derived.Test.YtgepghodhnmhjaaGreatLRun
namespace Go.AmT
open Go Go.Am
set_option linter.unusedVariables false
set_option linter.unusedSimpArgs false

/-! ### what a process wants -/
def wantP (p : Program) (a : Actor) : Int × Int :=
  if a.1 = (p.2.2.length : Int) then (0, 0) else if (p.2.2.getD a.1.toNat zInstr).1 = 11 then (0, 0) else if (p.2.2.getD a.1.toNat zInstr).1 = 1 then (2, (p.2.2.getD a.1.toNat zInstr).2.2.1)
  else if (p.2.2.getD a.1.toNat zInstr).1 = 2 then (3, (p.2.2.getD a.1.toNat zInstr).2.2.1) else (1, 0)
theorem okA_pc {p : Program} {a : Actor} (h : okA p a = true) : 0 ≤ a.1 ∧ a.1 ≤ (p.2.2.length : Int) := by
  unfold okA at h
  simp only [Bool.and_eq_true, decide_eq_true_eq] at h
  exact ⟨h.1, h.2.1⟩
theorem brd {α : Type} {c : Prop} [Decidable c] {x y : Option α} : br (decide c) x y = if c then x else y := by by_cases h : c <;> simp [h, br]
theorem want_spec {n : Nat} {p : Program} {a : Actor} (h : okA p a = true) : want.f n p a = some ((wantP p a).1, ((wantP p a).2, ())) := by
  have hp := okA_pc h
  unfold want.f wantP
  simp only [brd]
  split
  · rfl
  · rw [chk_true (by omega)]
    split
    · rfl
    · split
      · rfl
      · split <;> rfl
theorem sL2Want_spec {n : Nat} {p : Program} {a : Actor} (h : okA p a = true) : sL2Want.f n p a = some ((wantP p a).1, ((wantP p a).2, ())) := want_spec (n := n) h
theorem wantP_cases (p : Program) (a : Actor) : (wantP p a).1 = 0 ∨ (wantP p a).1 = 1 ∨ (wantP p a).1 = 2 ∨ (wantP p a).1 = 3 := by
  unfold wantP
  repeat' (first | (simp; done) | split)
theorem wantP_port {p : Program} {a : Actor} (hp : okP p = true) (h : okA p a = true) : 0 ≤ (wantP p a).2 ∧ ((wantP p a).1 = 2 → (wantP p a).2 < p.1) ∧ ((wantP p a).1 = 3 → (wantP p a).2 < p.2.1) := by
  have hpc := okA_pc h
  unfold okP at hp
  simp only [Bool.and_eq_true, List.all_eq_true] at hp
  have hI := hp.2
  unfold wantP
  split
  · simp
  · rename_i hne
    have hlt : a.1.toNat < p.2.2.length := by omega
    have hx := hI _ (List.getElem_mem hlt)
    rw [getD_lt hlt]
    split
    · simp
    · split
      · rename_i h1
        unfold okI at hx
        rw [if_pos h1] at hx
        simp only [Bool.and_eq_true, decide_eq_true_eq] at hx
        exact ⟨hx.2.1.1, fun _ => hx.2.1.2, fun h => by simp at h⟩
      · rename_i h1
        split
        · rename_i h2
          unfold okI at hx
          rw [if_neg h1, if_pos h2] at hx
          simp only [Bool.and_eq_true, decide_eq_true_eq] at hx
          exact ⟨hx.2.1.1, fun h => by simp at h, fun _ => hx.2.1.2⟩
        · simp

/-! ### one link for each port -/
theorem count_uniq {α : Type} {f : α → Bool} : ∀ {ls : List α} {i j : Nat} (hi : i < ls.length) (hj : j < ls.length), ls.countP f ≤ 1 → f ls[i] = true → f ls[j] = true → i = j
  | [], i, j, hi, _, _, _, _ => by simp at hi
  | x :: ls, i, j, hi, hj, hc, h1, h2 => by
    have z : ∀ (k : Nat) (hk : k < ls.length), f x = true → f ls[k] = true → False := by
      intro k hk hx hl
      rw [List.countP_cons_of_pos hx] at hc
      have : ls.countP f = 0 := by omega
      rw [List.countP_eq_zero] at this
      exact this _ (List.getElem_mem hk) hl
    cases i with
    | zero =>
      cases j with
      | zero => rfl
      | succ j => exact (z j (by simpa using hj) (by simpa using h1) (by simpa using h2)).elim
    | succ i =>
      cases j with
      | zero => exact (z i (by simpa using hi) (by simpa using h2) (by simpa using h1)).elim
      | succ j =>
        have hc' : ls.countP f ≤ 1 := Nat.le_trans (List.countP_le_countP_cons) hc
        rw [count_uniq (ls := ls) (i := i) (j := j) (by simpa using hi) (by simpa using hj) hc' (by simpa using h1) (by simpa using h2)]
  where
  List.countP_le_countP_cons {α : Type} {f : α → Bool} {x : α} {ls : List α} : ls.countP f ≤ (x :: ls).countP f := by
    rw [List.countP_cons]; omega
theorem onlyIx_at {α : Type} {f : α → Bool} {ls : List α} {j : Nat} (hj : j < ls.length) (hc : ls.countP f = 1) (hf : f ls[j] = true) : onlyIx f ls = (j : Int) := by
  unfold onlyIx
  rw [if_neg (by omega), if_pos hc]
  have h1 : ls.findIdx f < ls.length := List.findIdx_lt_length_of_exists ⟨_, List.getElem_mem hj, hf⟩
  have h2 : f ls[ls.findIdx f] = true := List.findIdx_getElem (w := h1)
  rw [count_uniq h1 hj (by omega) h2 hf]
theorem onlyIx_ex {α : Type} {f : α → Bool} {ls : List α} (hc : ls.countP f = 1) : ∃ j, ∃ hj : j < ls.length, f ls[j] = true ∧ onlyIx f ls = (j : Int) := by
  have h0 : 0 < ls.countP f := by omega
  obtain ⟨x, hx, hf⟩ := List.countP_pos_iff.1 h0
  obtain ⟨j, hj, rfl⟩ := List.mem_iff_getElem.1 hx
  exact ⟨j, hj, hf, onlyIx_at hj hc hf⟩

/-- a table of links: for each port the link that is there -/
structure Tab (nt : Network) (pl ql : Link → Int) (wd : Program → Int) (t : List (List Int)) (i : Nat) : Prop where
  len : t.length = nt.1.length
  row : ∀ (k : Nat) (hk : k < nt.1.length), (t.getD k []).length = (wd nt.1[k]).toNat
  at' : ∀ (k b j : Nat) (hk : k < nt.1.length) (hj : j < nt.2.length), j < i → (b : Int) < wd nt.1[k] → pl nt.2[j] = (k : Int) → ql nt.2[j] = (b : Int) → (t.getD k []).getD b 0 = (j : Int)
def Uniq (nt : Network) (pl ql : Link → Int) (wd : Program → Int) : Prop := ∀ (k b : Nat) (hk : k < nt.1.length), (b : Int) < wd nt.1[k] → nt.2.countP (fun l => decide (pl l = (k : Int)) && decide (ql l = (b : Int))) = 1

theorem Tab.skip {nt : Network} {pl ql : Link → Int} {wd : Program → Int} {t : List (List Int)} {i : Nat} (T : Tab nt pl ql wd t i) (hi : i < nt.2.length) (hn : ¬ 0 ≤ pl nt.2[i]) : Tab nt pl ql wd t (i + 1) := by
  refine ⟨T.len, T.row, fun k b j hk hj hlt hb h1 h2 => ?_⟩
  rcases Nat.lt_or_ge j i with h | h
  · exact T.at' k b j hk hj h hb h1 h2
  · obtain rfl : j = i := by omega
    omega
theorem getD_set_ne {α : Type} {l : List α} {i j : Nat} (h : i ≠ j) (x z : α) : (l.set i x).getD j z = l.getD j z := by simp [List.getElem?_set_ne h]
theorem Tab.get {nt : Network} {pl ql : Link → Int} {wd : Program → Int} {t : List (List Int)} (T : Tab nt pl ql wd t nt.2.length) (U : Uniq nt pl ql wd) {k b : Nat} (hk : k < nt.1.length) (hb : (b : Int) < wd nt.1[k]) :
    (t.getD k []).getD b 0 = onlyIx (fun l => decide (pl l = (k : Int)) && decide (ql l = (b : Int))) nt.2 := by
  obtain ⟨j, hj, hf, e⟩ := onlyIx_ex (U k b hk hb)
  simp only [Bool.and_eq_true, decide_eq_true_eq] at hf
  rw [e]; exact T.at' k b j hk hj hj hb hf.1 hf.2

def toP (l : Link) : Int := l.2.2.1
def toQ (l : Link) : Int := l.2.2.2.1
def frP (l : Link) : Int := l.1
def frQ (l : Link) : Int := l.2.1
/-- a network at work: its state, and its tables -/
structure IsRun (nt : Network) (s : State) (r : Run) : Prop where
  net : r.1 = nt
  st : r.2.1 = s
  to : Tab nt toP toQ (fun p => p.1) r.2.2.1 nt.2.length
  fr : Tab nt frP frQ (fun p => p.2.1) r.2.2.2.1 nt.2.length

/-! ### how it is made -/
theorem cloneI_run {n : Nat} {a : List Int} (h : a.length ≤ 1048576) : cloneI.f n a = some (a, ()) := by
  unfold cloneI.f
  rw [small_chk (by simp; omega)]; rfl
/-! ### what it wants, and whether it can -/
def prog (nt : Network) (k : Nat) : Program := nt.1.getD k zProgram
def actor (s : State) (k : Nat) : Actor := s.1.getD k zActor
def wantOf (nt : Network) (s : State) (k : Nat) : Int × Int := wantP (prog nt k) (actor s k)
def linkOf (nt : Network) (s : State) (k : Nat) : Int :=
  if (wantOf nt s k).1 = 2 then onlyIx (isTo (k : Int) (wantOf nt s k).2) nt.2 else if (wantOf nt s k).1 = 3 then onlyIx (isFrom (k : Int) (wantOf nt s k).2) nt.2 else -1
def canP (nt : Network) (s : State) (k : Nat) : Bool :=
  if (wantOf nt s k).1 = 0 ∨ 20000 ≤ s.2.2.2 then false
  else if (wantOf nt s k).1 = 2 then decide (0 < ((s.2.1.getD (linkOf nt s k).toNat []).length : Int))
  else if (wantOf nt s k).1 = 3 then decide (((s.2.2.1.getD (linkOf nt s k).toNat []).length : Int) < 400) else true

theorem port_nat {nt : Network} {s : State} (o : OkSt nt s) {k : Nat} (hk : k < nt.1.length) : ∃ b : Nat, (wantOf nt s k).2 = (b : Int) ∧ ((wantOf nt s k).1 = 2 → (b : Int) < nt.1[k].1) ∧ ((wantOf nt s k).1 = 3 → (b : Int) < nt.1[k].2.1) := by
  have ha := o.act k hk
  have hp := o.net.prog k hk
  rw [getD_lt hk] at ha
  have h := wantP_port hp ha
  have e : wantOf nt s k = wantP nt.1[k] (s.1.getD k zActor) := by unfold wantOf prog actor; rw [getD_lt hk]
  rw [e]
  refine ⟨(wantP nt.1[k] (s.1.getD k zActor)).2.toNat, by omega, fun h2 => ?_, fun h3 => ?_⟩
  · have := h.2.1 h2; omega
  · have := h.2.2 h3; omega
theorem linkOf_to {nt : Network} {s : State} (o : OkSt nt s) {k : Nat} (hk : k < nt.1.length) (h : (wantOf nt s k).1 = 2) : ∃ j, ∃ hj : j < nt.2.length, linkOf nt s k = (j : Int) ∧ nt.2[j].2.2.1 = (k : Int) ∧ nt.2[j].2.2.2.1 = (wantOf nt s k).2 := by
  obtain ⟨b, e, h2, -⟩ := port_nat o hk
  obtain ⟨j, hj, hf, e2⟩ := onlyIx_ex (o.net.ins k hk b (h2 h))
  refine ⟨j, hj, ?_, ?_⟩
  · unfold linkOf; rw [if_pos h, e]; exact e2
  · unfold isTo at hf
    simp only [Bool.and_eq_true, decide_eq_true_eq] at hf
    rw [e]; exact hf
theorem linkOf_from {nt : Network} {s : State} (o : OkSt nt s) {k : Nat} (hk : k < nt.1.length) (h : (wantOf nt s k).1 = 3) : ∃ j, ∃ hj : j < nt.2.length, linkOf nt s k = (j : Int) ∧ nt.2[j].1 = (k : Int) ∧ nt.2[j].2.1 = (wantOf nt s k).2 := by
  obtain ⟨b, e, -, h2⟩ := port_nat o hk
  obtain ⟨j, hj, hf, e2⟩ := onlyIx_ex (o.net.outs k hk b (h2 h))
  refine ⟨j, hj, ?_, ?_⟩
  · unfold linkOf; rw [if_neg (by omega), if_pos h, e]; exact e2
  · unfold isFrom at hf
    simp only [Bool.and_eq_true, decide_eq_true_eq] at hf
    rw [e]; exact hf
def newA : Actor := (0, [0, 0, 0, 0])
def start (nt : Network) : State := (nt.1.map fun _ => newA, nt.2.map (fun l => l.2.2.2.2), nt.2.map (fun l => l.2.2.2.2), 0)
theorem start_ok {nt : Network} (o : OkN nt) : OkSt nt (start nt) := by
  refine ⟨o, by simp [start], by simp [start], by simp [start], by simp [start], fun i hi => ?_, fun i hi => ?_⟩
  · show okA _ ((nt.1.map fun _ => newA).getD i zActor) = true
    have : (nt.1.map fun _ => newA).getD i zActor = newA := by simp [hi]
    rw [this]
    unfold okA newA
    simp [okS, tok]
  · have e : (nt.2.map (fun l => l.2.2.2.2)).getD i [] = nt.2[i].2.2.2.2 := by simp [hi]
    show LinkSt _ ((nt.2.map (fun l => l.2.2.2.2)).getD i []) ((nt.2.map (fun l => l.2.2.2.2)).getD i [])
    rw [e, getD_lt hi]
    exact ⟨o.toks i hi, o.toks i hi, List.prefix_rfl, List.suffix_rfl, fun _ => rfl, fun _ => rfl⟩
end Go.AmT
