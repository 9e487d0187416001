/- The network of a graph of rates, in plain Lean: both programs make the same. -/
import Derived.Test.YtfcehikkpoeebaaLNetOf
namespace Go.AmT
open Go Go.Am
set_option linter.unusedVariables false
set_option linter.unusedSimpArgs false

def cnt (f : Edge → Int) (k : Int) (es : List Edge) : Int := (es.countP fun e => decide (f e = k) : Nat)
/-- the instructions of a node's ports, in the order of the edges -/
def rdA {β : Type} (f g : Edge → Int) (h : Int → β) (k : Int) : Int → List Edge → List β
  | _, [] => []
  | c, e :: es => if f e = k then List.replicate (g e).toNat (h c) ++ rdA f g h k (c + 1) es else rdA f g h k c es
theorem cnt_snoc {f : Edge → Int} {k : Int} {es : List Edge} {e : Edge} : cnt f k (es ++ [e]) = cnt f k es + if f e = k then 1 else 0 := by
  unfold cnt
  rw [List.countP_append, List.countP_singleton]
  by_cases h : f e = k <;> simp [h]
theorem cnt_cons {f : Edge → Int} {k : Int} {es : List Edge} {e : Edge} : cnt f k (e :: es) = cnt f k es + if f e = k then 1 else 0 := by
  unfold cnt
  rw [List.countP_cons]
  by_cases h : f e = k <;> simp [h]
theorem rdA_snoc {β : Type} {f g : Edge → Int} {h : Int → β} {k : Int} {e : Edge} : ∀ {es : List Edge} {c : Int}, rdA f g h k c (es ++ [e]) = rdA f g h k c es ++ if f e = k then List.replicate (g e).toNat (h (c + cnt f k es)) else []
  | [], c => by by_cases he : f e = k <;> simp [rdA, he, cnt]
  | x :: es, c => by
    have ih := fun c => rdA_snoc (β := β) (f := f) (g := g) (h := h) (k := k) (e := e) (es := es) (c := c)
    rw [cnt_cons]
    by_cases hx : f x = k
    · simp only [List.cons_append, rdA, hx, if_true, ih, List.append_assoc]
      rw [show c + 1 + cnt f k es = c + (cnt f k es + 1) by omega]
    · simp only [List.cons_append, rdA, hx, if_false, ih, Int.add_zero]
theorem rdA_map {β γ : Type} {f g : Edge → Int} {h : Int → β} {k : Int} (m : β → γ) : ∀ {es : List Edge} {c : Int}, (rdA f g h k c es).map m = rdA f g (fun c => m (h c)) k c es
  | [], c => rfl
  | x :: es, c => by
    have ih := fun c => rdA_map (f := f) (g := g) (h := h) (k := k) m (es := es) (c := c)
    by_cases hx : f x = k
    · simp only [rdA, hx, if_true, List.map_append, List.map_replicate, ih]
    · simp only [rdA, hx, if_false, ih]
theorem rdA_len {β : Type} {f g : Edge → Int} {h : Int → β} {k : Int} : ∀ {es : List Edge} {c : Int}, (∀ e ∈ es, g e ≤ 5) → (rdA f g h k c es).length ≤ 5 * es.length
  | [], c, _ => by simp [rdA]
  | x :: es, c, hg => by
    have ih := fun c => rdA_len (f := f) (g := g) (h := h) (k := k) (es := es) (c := c) (fun e he => hg e (by simp [he]))
    have hx5 := hg x (by simp)
    by_cases hx : f x = k
    · simp only [rdA, hx, if_true, List.length_append, List.length_replicate, List.length_cons]
      have := ih (c + 1); omega
    · simp only [rdA, hx, if_false, List.length_cons]
      have := ih c; omega
theorem cnt_le {f : Edge → Int} {k : Int} {es : List Edge} : 0 ≤ cnt f k es ∧ cnt f k es ≤ es.length := by
  unfold cnt
  have := List.countP_le_length (p := fun e => decide (f e = k)) (l := es)
  omega
def eF (e : Edge) : Int := e.1
def eT (e : Edge) : Int := e.2.1
def eMk (e : Edge) : Int := e.2.2.1
def eTk (e : Edge) : Int := e.2.2.2.1
theorem okE_of {nodes : Int} {e : Edge} (h : okE nodes e = true) : 0 ≤ e.1 ∧ e.1 < nodes ∧ 0 ≤ e.2.1 ∧ e.2.1 < nodes ∧ 1 ≤ e.2.2.1 ∧ e.2.2.1 ≤ 5 ∧ 1 ≤ e.2.2.2.1 ∧ e.2.2.2.1 ≤ 5 ∧ 0 ≤ e.2.2.2.2 ∧ e.2.2.2.2 ≤ 50 := by
  unfold okE at h
  simp only [Bool.and_eq_true, decide_eq_true_eq] at h
  omega

/-- a loop that pushes the same, so many times -/
theorem rep_loop {β γ ρ : Type} (x : β) (m : Int) (s0 : List β) (st : Int → List β → γ) {F : (γ → Option ρ) → γ → Option ρ} {R : Option ρ}
    (h1 : ∀ ih (i : Nat), (i : Int) < m → F ih (st i (s0 ++ List.replicate i x)) = ih (st ((i + 1 : Nat) : Int) (s0 ++ List.replicate i x ++ [x])))
    (h2 : ∀ ih, F ih (st m (s0 ++ List.replicate m.toNat x)) = R) (hm : 0 ≤ m) {n : Nat} (hn : m.toNat < n) : iter n F (st 0 s0) = R := by
  have := iter_line (F := F) (fun i => st (i : Int) (s0 ++ List.replicate i x)) m.toNat (R := R) (fun ih i hi => by
    show F ih (st (i : Int) (s0 ++ List.replicate i x)) = _
    rw [h1 ih i (by omega), List.append_assoc, ← List.replicate_succ']) (fun ih => by
    show F ih (st (m.toNat : Int) _) = _
    rw [Int.toNat_of_nonneg hm]; exact h2 ih) hn
  simpa using this

def mkI (x : List Int) : Instr := ((x ++ [0, 0, 0]).getD 0 0, (x ++ [0, 0, 0]).getD 1 0, (x ++ [0, 0, 0]).getD 2 0, (x ++ [0, 0, 0]).getD 3 0)
theorem sL2Make_spec {n : Nat} {a b : Int} {cs : List (List Int)} (hl : cs.length ≤ 1048576) (hc : ∀ x ∈ cs, 1 ≤ x.length ∧ x.length ≤ 1048576) (hn : 1048576 < n) : sL2Make.f n a b cs = some ((a, (b, cs.map mkI ++ [(8, (0, (0, 0)))])), ()) := by
  unfold sL2Make.f
  refine push_loopE cs mkI (fun i s => (i, (a, (b, (s, ()))))) (fun ih i hi s hs => ?_) (fun ih => ?_) (by omega)
  · have c1 : (i : Int) < (cs.length : Int) := by omega
    have e1 : cs.getD i [] = cs[i] := getD_lt hi _
    obtain ⟨x1, x2⟩ := hc _ (List.getElem_mem hi)
    show br (decide ((i : Int) < (cs.length : Int))) _ _ = _
    rw [br_yes c1, chk_true ⟨Int.natCast_nonneg i, c1⟩]
    simp only [Int.toNat_natCast, e1]
    rw [sL1Copy_spec x2, Option.bind_some]
    simp only
    rw [small_chk (by simp; omega), chk_true (by simp; omega), chk_true (by simp; omega), chk_true (by simp; omega), chk_true (by simp; omega), small_chk (by simp; omega), w64_succ (by omega)]
    rfl
  · rw [br_no (Int.lt_irrefl _), small_chk (by simp; omega)]

/-- the reading, and the writing of a node, as the reference has it -/
def cdT (k : Int) (es : List Edge) : List (List Int) := rdA eT eTk (fun c => [1, 0, c]) k 0 es
def cdF (k : Int) (es : List Edge) : List (List Int) := rdA eF eMk (fun c => [2, 0, c]) k 0 es
def rdT (k : Int) (es : List Edge) : List Instr := rdA eT eTk (fun c => (1, 0, c, 0)) k 0 es
def rdF (k : Int) (es : List Edge) : List Instr := rdA eF eMk (fun c => (2, 0, c, 0)) k 0 es
theorem cdT_map (k : Int) (es : List Edge) : (cdT k es).map mkI = rdT k es := by unfold cdT rdT; rw [rdA_map]; rfl
theorem cdF_map (k : Int) (es : List Edge) : (cdF k es).map mkI = rdF k es := by unfold cdF rdF; rw [rdA_map]; rfl
theorem rdA_mem {β : Type} {f g : Edge → Int} {h : Int → β} {k : Int} {x : β} : ∀ {es : List Edge} {c : Int}, x ∈ rdA f g h k c es → ∃ c, x = h c
  | [], c, hx => by simp [rdA] at hx
  | e :: es, c, hx => by
    by_cases he : f e = k
    · simp only [rdA, he, if_true, List.mem_append] at hx
      rcases hx with hx | hx
      · exact ⟨c, (List.mem_replicate.1 hx).2⟩
      · exact rdA_mem hx
    · simp only [rdA, he, if_false] at hx
      exact rdA_mem hx
def progK (g : Graph) (k : Int) : Program := (cnt eT k g.2, cnt eF k g.2, rdT k g.2 ++ rdF k g.2 ++ [(8, 0, 0, 0)])
theorem sL7Program_spec {n : Nat} {g : Graph} {k : Int} (hg : okG g = true) (hn : 1048576 < n) : sL7Program.f n g k = some (progK g k, ()) := by
  obtain ⟨g0, g8, gl, ge⟩ := okG_e hg
  have h5 : ∀ (es : List Edge), (∀ e ∈ es, e ∈ g.2) → (∀ e ∈ es, eTk e ≤ 5) ∧ ∀ e ∈ es, eMk e ≤ 5 := fun es h => ⟨fun e he => (okE_of (ge e (h e he))).2.2.2.2.2.2.2.1, fun e he => (okE_of (ge e (h e he))).2.2.2.2.2.1⟩
  unfold sL7Program.f
  have hst : ((0 : Int), ((0 : Int), (([] : List (List Int)), ()))) = (fun (i : Nat) => (cnt eT k (g.2.take i), ((i : Int), (cdT k (g.2.take i), ())))) 0 := by simp [cnt, cdT, rdA]
  rw [hst]
  refine iter_line (fun i => (cnt eT k (g.2.take i), ((i : Int), (cdT k (g.2.take i), ())))) g.2.length (fun ih i hi => ?_) (fun ih => ?_) (by omega)
  · have c1 : (i : Int) < (g.2.length : Int) := by omega
    have e1 : g.2.getD i zEdge = g.2[i] := getD_lt hi _
    have hE := okE_of (ge _ (List.getElem_mem hi))
    have hcl := rdA_len (f := eT) (g := eTk) (h := fun c => ([1, 0, c] : List Int)) (k := k) (es := g.2.take i) (c := 0) (h5 _ (fun e he => List.mem_of_mem_take he)).1
    have hcn := cnt_le (f := eT) (k := k) (es := g.2.take i)
    have htl : (g.2.take i).length = i := by simp; omega
    show br (decide ((i : Int) < (g.2.length : Int))) _ _ = _
    rw [br_yes c1, chk_true ⟨Int.natCast_nonneg i, c1⟩]
    simp only [Int.toNat_natCast, e1]
    rw [List.take_succ_eq_append_getElem hi]
    have hs := rdA_snoc (f := eT) (g := eTk) (h := fun c => ([1, 0, c] : List Int)) (k := k) (e := g.2[i]) (es := g.2.take i) (c := 0)
    by_cases hk : g.2[i].2.1 = k
    · rw [br_yes hk]
      show iter n _ ((0 : Int), (cdT k (g.2.take i), ())) = _
      refine rep_loop [1, 0, cnt eT k (g.2.take i)] g.2[i].2.2.2.1 (cdT k (g.2.take i)) (fun (j : Int) (s : List (List Int)) => (j, (s, ()))) (fun ih j hj => ?_) (fun ih => ?_) (by omega) (by omega)
      · show br (decide ((j : Int) < g.2[i].2.2.2.1)) _ _ = _
        rw [br_yes hj, small_chk (by have : (cdT k (g.2.take i)).length ≤ 5 * (g.2.take i).length := hcl; simp; omega), w64_succ (by omega)]
      · show br (decide (g.2[i].2.2.2.1 < g.2[i].2.2.2.1)) _ _ = _
        rw [br_no (Int.lt_irrefl _), w64_succ (by omega), w64_id (by omega) (by omega), cnt_snoc, if_pos (show eT g.2[i] = k from hk)]
        unfold cdT at *
        rw [hs, if_pos (show eT g.2[i] = k from hk), Int.zero_add]; rfl
    · rw [br_no hk, w64_succ (by omega), cnt_snoc, if_neg (show ¬ eT g.2[i] = k from hk), Int.add_zero]
      unfold cdT
      rw [hs, if_neg (show ¬ eT g.2[i] = k from hk), List.append_nil]
  · show br (decide ((g.2.length : Int) < (g.2.length : Int))) _ _ = _
    rw [br_no (Int.lt_irrefl _)]
    simp only [List.take_length]
    have hcl := rdA_len (f := eT) (g := eTk) (h := fun c => ([1, 0, c] : List Int)) (k := k) (es := g.2) (c := 0) (h5 _ (fun e he => he)).1
    have hA : (cdT k g.2).length ≤ 5 * g.2.length := hcl
    have hA1 : ∀ x ∈ cdT k g.2, 1 ≤ x.length ∧ x.length ≤ 1048576 := fun x hx => by obtain ⟨c, rfl⟩ := rdA_mem hx; exact ⟨by simp, by simp⟩
    have hAm := cdT_map k g.2
    have hcn0 := cnt_le (f := eT) (k := k) (es := g.2)
    unfold progK
    rw [← hAm]
    generalize cdT k g.2 = A at hA hA1 ⊢
    have hst : ((0 : Int), ((0 : Int), (A, ()))) = (fun (i : Nat) => (cnt eF k (g.2.take i), ((i : Int), (A ++ cdF k (g.2.take i), ())))) 0 := by simp [cnt, cdF, rdA]
    show iter n _ ((0 : Int), ((0 : Int), (A, ()))) = _
    rw [hst]
    refine iter_line (fun i => (cnt eF k (g.2.take i), ((i : Int), (A ++ cdF k (g.2.take i), ())))) g.2.length (fun ih i hi => ?_) (fun ih => ?_) (by omega)
    · have c1 : (i : Int) < (g.2.length : Int) := by omega
      have e1 : g.2.getD i zEdge = g.2[i] := getD_lt hi _
      have hE := okE_of (ge _ (List.getElem_mem hi))
      have hcl := rdA_len (f := eF) (g := eMk) (h := fun c => ([2, 0, c] : List Int)) (k := k) (es := g.2.take i) (c := 0) (h5 _ (fun e he => List.mem_of_mem_take he)).2
      have hcn := cnt_le (f := eF) (k := k) (es := g.2.take i)
      have htl : (g.2.take i).length = i := by simp; omega
      show br (decide ((i : Int) < (g.2.length : Int))) _ _ = _
      rw [br_yes c1, chk_true ⟨Int.natCast_nonneg i, c1⟩]
      simp only [Int.toNat_natCast, e1]
      rw [List.take_succ_eq_append_getElem hi]
      have hs := rdA_snoc (f := eF) (g := eMk) (h := fun c => ([2, 0, c] : List Int)) (k := k) (e := g.2[i]) (es := g.2.take i) (c := 0)
      by_cases hk : g.2[i].1 = k
      · rw [br_yes hk]
        show iter n _ ((0 : Int), (A ++ cdF k (g.2.take i), ())) = _
        refine rep_loop [2, 0, cnt eF k (g.2.take i)] g.2[i].2.2.1 (A ++ cdF k (g.2.take i)) (fun (j : Int) (s : List (List Int)) => (j, (s, ()))) (fun ih j hj => ?_) (fun ih => ?_) (by omega) (by omega)
        · show br (decide ((j : Int) < g.2[i].2.2.1)) _ _ = _
          rw [br_yes hj, small_chk (by have : (cdF k (g.2.take i)).length ≤ 5 * (g.2.take i).length := hcl; simp; omega), w64_succ (by omega)]
        · show br (decide (g.2[i].2.2.1 < g.2[i].2.2.1)) _ _ = _
          rw [br_no (Int.lt_irrefl _), w64_succ (by omega), w64_id (by omega) (by omega), cnt_snoc, if_pos (show eF g.2[i] = k from hk)]
          unfold cdF at *
          rw [hs, if_pos (show eF g.2[i] = k from hk), Int.zero_add, List.append_assoc]; rfl
      · rw [br_no hk, w64_succ (by omega), cnt_snoc, if_neg (show ¬ eF g.2[i] = k from hk), Int.add_zero]
        unfold cdF
        rw [hs, if_neg (show ¬ eF g.2[i] = k from hk), List.append_nil]
    · show br (decide ((g.2.length : Int) < (g.2.length : Int))) _ _ = _
      rw [br_no (Int.lt_irrefl _)]
      simp only [List.take_length]
      have hcl := rdA_len (f := eF) (g := eMk) (h := fun c => ([2, 0, c] : List Int)) (k := k) (es := g.2) (c := 0) (h5 _ (fun e he => he)).2
      have hB : (cdF k g.2).length ≤ 5 * g.2.length := hcl
      rw [sL2Make_spec (by simp; omega) (fun x hx => by
        rcases List.mem_append.1 hx with hx | hx
        · exact hA1 x hx
        · obtain ⟨c, rfl⟩ := rdA_mem hx; exact ⟨by simp, by simp⟩) hn, List.map_append, cdF_map]
      rfl
theorem concatInG_spec {n : Nat} {a : Int} (h0 : 0 ≤ a) (h1 : a ≤ 4194304) : concatInG.f n a = some ([], ()) := by
  have hm := maxB_eq
  unfold concatInG.f
  rw [br_no (by omega), w64_id (by omega) (by omega)]
  by_cases h : 0 < a - 0
  · rw [br_yes h, chk_true (by omega), chk_true (by omega), chk_true (by simp; omega)]
  · rw [br_no h]
theorem flat_takeIn {α : Type} (ls : List (List α)) (i : Nat) : (ls.take i).flatten.length ≤ ls.flatten.length := by
  conv => rhs; rw [← List.take_append_drop i ls]
  rw [List.flatten_append, List.length_append]; omega
theorem concatIn_all {n : Nat} {ls : List (List Instr)} (hl : ls.length ≤ 1048576) (ht : ls.flatten.length ≤ 4194304) (hn : 1048576 < n) : concatIn.f n ls = some (ls.flatten, ()) := by
  unfold concatIn.f
  have hst : ((0 : Int), ((0 : Int), ())) = (fun (i : Nat) => (((ls.take i).flatten.length : Int), ((i : Int), ()))) 0 := by simp
  rw [hst]
  refine iter_line (fun i => (((ls.take i).flatten.length : Int), ((i : Int), ()))) ls.length (fun ih i hi => ?_) (fun ih => ?_) (by omega)
  · have c0 : 0 ≤ (i : Int) := by omega
    have c1 : (i : Int) < (ls.length : Int) := by omega
    have e1 : ls.getD i [] = ls[i] := getD_lt hi _
    have h1 := flat_takeIn ls (i + 1)
    have e2 : (ls.take (i + 1)).flatten = (ls.take i).flatten ++ ls[i] := by rw [List.take_succ_eq_append_getElem hi, List.flatten_append]; simp
    rw [e2, List.length_append] at h1
    show br (decide ((i : Int) < (ls.length : Int))) _ _ = _
    rw [br_yes c1, chk_true ⟨c0, c1⟩]
    simp only [Int.toNat_natCast, e1]
    rw [w64_id (by omega) (by omega), br_no (by omega), w64_succ (by omega), e2, List.length_append, Int.natCast_add (List.take i ls).flatten.length]
  · simp only [List.take_length]
    rw [br_no (Int.lt_irrefl _), concatInG_spec (by omega) (by omega)]
    simp only [Option.bind_some]
    refine Eq.trans (iter_line (fun i => ((i : Int), ((ls.take i).flatten, ()))) ls.length (R := some (ls.flatten, ())) (fun ih i hi => ?_) (fun ih => ?_) (by omega)) rfl
    · have c0 : 0 ≤ (i : Int) := by omega
      have c1 : (i : Int) < (ls.length : Int) := by omega
      have e1 : ls.getD i [] = ls[i] := getD_lt hi _
      have h1 := flat_takeIn ls (i + 1)
      have e2 : (ls.take (i + 1)).flatten = (ls.take i).flatten ++ ls[i] := by rw [List.take_succ_eq_append_getElem hi, List.flatten_append]; simp
      rw [e2, List.length_append] at h1
      show br (decide ((i : Int) < (ls.length : Int))) _ _ = _
      rw [br_yes c1, chk_true ⟨c0, c1⟩]
      simp only [Int.toNat_natCast, e1]
      rw [small_chk (by omega), w64_succ (by omega), e2]
    · simp only [List.take_length]
      exact br_no (Int.lt_irrefl _)

theorem mask_u64 {t : Int} (h0 : 0 ≤ t) (h1 : t < 4294967296) : bitsF .and .u64 t 4294967295 = t := by
  obtain ⟨m, rfl⟩ := Int.eq_ofNat_of_zero_le h0
  have hm : m < 4294967296 := by omega
  have e : (BitVec.ofInt 64 (m : Int) &&& BitVec.ofInt 64 4294967295).toNat = m := by
    rw [BitVec.toNat_and]
    have e1 : (BitVec.ofInt 64 (m : Int)).toNat = m := by rw [BitVec.toNat_ofInt]; omega
    have e2 : (BitVec.ofInt 64 (4294967295 : Int)).toNat = 2 ^ 32 - 1 := by decide
    rw [e1, e2, Nat.and_two_pow_sub_one_eq_mod, Nat.mod_eq_of_lt hm]
  show IntKind.u64.wrap (((BitVec.ofInt 64 (m : Int) &&& BitVec.ofInt 64 4294967295).toNat : Nat) : Int) = (m : Int)
  rw [e]
  have : IntKind.u64.wrap (m : Int) = (m : Int) % 18446744073709551616 := rfl
  rw [this]; omega

theorem wrap_u64 {t : Int} (h0 : 0 ≤ t) (h1 : t < 18446744073709551616) : IntKind.wrap .u64 t = t := by
  have : IntKind.u64.wrap t = t % 18446744073709551616 := rfl
  rw [this]; omega

theorem mul_spec {n : Nat} {t : Int} (h0 : 0 ≤ t) (h1 : t < 4294967296) : mul.f n 1 t = some (0, (t, ())) := by
  unfold mul.f mul64.f
  have hb : (2 : Int) ^ (min 32 IntKind.u64.bits) = 4294967296 := by decide
  have f1 : Int.fdiv 1 4294967296 = 0 := by decide
  have f0 : Int.fdiv 0 4294967296 = 0 := by decide
  have ft : Int.fdiv t 4294967296 = 0 := by rw [Int.fdiv_eq_ediv_of_nonneg _ (by omega)]; omega
  have z : IntKind.wrap .u64 0 = 0 := by decide
  have m0 : bitsF .and .u64 0 4294967295 = 0 := mask_u64 (by omega) (by omega)
  have m1 : bitsF .and .u64 1 4294967295 = 1 := mask_u64 (by omega) (by omega)
  have c : ¬ ((32 : Nat) < 0) := by omega
  simp only [hb, f1, ft, mask_u64 h0 h1, m1, Int.zero_mul, Int.one_mul, Int.mul_zero, Int.add_zero, Int.zero_add, z, wrap_u64 h0 (by omega), f0, m0, c, if_false, Option.bind_some]

theorem repeatIn_spec {n : Nat} {x : Instr} {t : Int} (h0 : 0 ≤ t) (h1 : t ≤ 1600) (hn : 1600 < n) : repeatIn.f n [x] t = some (List.replicate t.toNat x, ()) := by
  unfold repeatIn.f
  have a1 : ¬ (t < 0) := by omega
  have a2 : ¬ ((0 : Int) < 0) := by omega
  have a3 : ¬ (9223372036854775807 < t) := by omega
  have a4 : w64 t = t := w64_id (by omega) (by omega)
  have a5 : IntKind.wrap .u64 (([x] : List Instr).length : Int) = 1 := by simp only [List.length_singleton]; decide
  have hm : (maxB : Int) = 140737488355328 := rfl
  simp only [a1, a5, wrap_u64 h0 (by omega), mul_spec h0 (show t < 4294967296 by omega), Option.bind_some, a2, a3, decide_false, br_false, a4, cut_inr]
  generalize ((0, (0, (0, 0))) : Instr) = z0
  rw [chk_true ⟨trivial, h0, by omega⟩]
  obtain ⟨m, rfl⟩ := Int.eq_ofNat_of_zero_le h0
  simp only [Int.toNat_natCast, List.length_replicate, List.take_zero, List.nil_append, List.length_singleton, Nat.zero_add]
  have hs : ([x] : List Instr).take m ++ (List.replicate m z0).drop (min 1 m) = List.replicate (min 1 m) x ++ List.replicate (m - min 1 m) z0 := by
    have hx : ([x] : List Instr).take m = List.replicate (min 1 m) x := by
      rcases Nat.eq_zero_or_pos m with h | h
      · rw [h]; rfl
      · rw [show min 1 m = 1 by omega, List.take_of_length_le (by simp; omega)]; rfl
    rw [List.drop_replicate, hx]
  rw [hs]
  refine iter_inv (I := fun y => ∃ k : Nat, k ≤ m ∧ (0 < m → 0 < k) ∧ y = ((k : Int), (List.replicate k x ++ List.replicate (m - k) z0, ()))) (μ := fun y => m - y.1.toNat) (Q := fun _ o => o = some (List.replicate m x, ()))
    (fun ih y hy h => ?_) n _ ⟨min 1 m, by omega, by omega, rfl⟩ (by simp; omega)
  obtain ⟨k, hk, hp, rfl⟩ := hy
  have hlen : (List.replicate k x ++ List.replicate (m - k) z0).length = m := by simp; omega
  simp only [hlen, Int.toNat_natCast]
  by_cases hkm : k < m
  · have b1 : (k : Int) < (m : Int) := by omega
    simp only [b1, decide_true, br_true]
    rw [chk_true (by omega), chk_true (by omega)]
    have v9 : ((List.replicate k x ++ List.replicate (m - k) z0).drop 0).take (k - 0) = List.replicate k x := by simp
    rw [v9]
    have v9l : (List.replicate k x).length = k := by simp
    rw [v9l]
    have z : (List.replicate k x ++ List.replicate (m - k) z0).take k ++ ((List.replicate k x).take (m - k) ++ (List.replicate k x ++ List.replicate (m - k) z0).drop (k + min k (m - k))) =
        List.replicate (k + min k (m - k)) x ++ List.replicate (m - (k + min k (m - k))) z0 := by
      have z1 : (List.replicate k x ++ List.replicate (m - k) z0).drop (k + min k (m - k)) = List.replicate (m - (k + min k (m - k))) z0 := by
        rw [List.drop_append, List.drop_eq_nil_of_le (by simp), List.length_replicate, List.nil_append, List.drop_replicate]
        rw [show m - k - (k + min k (m - k) - k) = m - (k + min k (m - k)) by omega]
      rw [List.take_left' (by simp), List.take_replicate, z1, ← List.append_assoc, List.replicate_append_replicate, Nat.min_comm (m - k) k]
    rw [z]
    have w : w64 ((k : Int) + ((min k (m - k) : Nat) : Int)) = ((k + min k (m - k) : Nat) : Int) := by rw [w64_id (by omega) (by omega)]; omega
    rw [w]
    refine h _ ⟨k + min k (m - k), by omega, by omega, rfl⟩ ?_
    simp only [Int.toNat_natCast]
    have := hp (by omega)
    omega
  · have : k = m := by omega
    subst this
    simp [br]

/-! ### tables of nodes -/
def tb {β : Type} (F : Int → List Edge → β) (nodes : Nat) (es : List Edge) : List β := (List.range nodes).map fun (k : Nat) => F (k : Int) es
theorem tb_len {β : Type} {F : Int → List Edge → β} {nodes : Nat} {es : List Edge} : (tb F nodes es).length = nodes := by simp [tb]
theorem tb_get {β : Type} {F : Int → List Edge → β} {nodes : Nat} {es : List Edge} {k : Nat} (hk : k < nodes) (z : β) : (tb F nodes es).getD k z = F (k : Int) es := by simp [tb, hk]
theorem tb_set {β : Type} {F : Int → List Edge → β} {nodes : Nat} {es es' : List Edge} {k : Nat} (h : ∀ k' : Nat, k' ≠ k → F (k' : Int) es' = F (k' : Int) es) : (tb F nodes es).set k (F (k : Int) es') = tb F nodes es' := by
  apply List.ext_getElem
  · simp [tb]
  · intro i h1 h2
    rw [List.getElem_set]
    by_cases hk : k = i
    · subst hk; simp [tb]
    · rw [if_neg hk]; simp [tb, h i (fun e => hk e.symm)]
theorem cnt_other {f : Edge → Int} {k : Int} {es : List Edge} {e : Edge} (h : f e ≠ k) : cnt f k (es ++ [e]) = cnt f k es := by rw [cnt_snoc, if_neg h, Int.add_zero]
theorem rdT_snoc {k : Int} {es : List Edge} {e : Edge} : rdT k (es ++ [e]) = rdT k es ++ if e.2.1 = k then List.replicate e.2.2.2.1.toNat (1, 0, cnt eT k es, 0) else [] := by
  unfold rdT; rw [rdA_snoc, Int.zero_add]; rfl
theorem rdF_snoc {k : Int} {es : List Edge} {e : Edge} : rdF k (es ++ [e]) = rdF k es ++ if e.1 = k then List.replicate e.2.2.1.toNat (2, 0, cnt eF k es, 0) else [] := by
  unfold rdF; rw [rdA_snoc, Int.zero_add]; rfl
def lnkAt (g : Graph) (i : Nat) : Link := ((g.2.getD i zEdge).1, cnt eF (g.2.getD i zEdge).1 (g.2.take i), (g.2.getD i zEdge).2.1, cnt eT (g.2.getD i zEdge).2.1 (g.2.take i), List.replicate (g.2.getD i zEdge).2.2.2.2.toNat 0)
def netG (g : Graph) : Network := ((List.range g.1.toNat).map (fun (k : Nat) => progK g (k : Int)), (List.range g.2.length).map (lnkAt g))
theorem progK_small {g : Graph} (hg : okG g = true) (k : Int) : SmallP (progK g k) := by
  obtain ⟨g0, g8, gl, ge⟩ := okG_e hg
  have h1 := rdA_len (f := eT) (g := eTk) (h := fun c => ((1, 0, c, 0) : Instr)) (k := k) (es := g.2) (c := 0) (fun e he => (okE_of (ge e he)).2.2.2.2.2.2.2.1)
  have h2 := rdA_len (f := eF) (g := eMk) (h := fun c => ((2, 0, c, 0) : Instr)) (k := k) (es := g.2) (c := 0) (fun e he => (okE_of (ge e he)).2.2.2.2.2.1)
  refine ⟨?_⟩
  show (rdT k g.2 ++ rdF k g.2 ++ [(8, 0, 0, 0)]).length ≤ _
  unfold rdT rdF
  simp only [List.length_append, List.length_singleton]; omega
theorem netG_small {g : Graph} (hg : okG g = true) : SmallN (netG g) := by
  obtain ⟨g0, g8, gl, ge⟩ := okG_e hg
  refine ⟨?_, fun p hp => ?_, ?_, fun l hl => ?_⟩
  · simp [netG]; omega
  · obtain ⟨k, -, rfl⟩ := List.mem_map.1 hp
    exact progK_small hg _
  · simp [netG]; omega
  · obtain ⟨i, hi, rfl⟩ := List.mem_map.1 hl
    have hi : i < g.2.length := by simpa using hi
    have hE := okE_of (ge _ (List.getElem_mem hi))
    refine ⟨?_⟩
    simp only [lnkAt, getD_lt hi, List.length_replicate]; omega

noncomputable def netOf (g : Graph) : Network × Bool × Unit := if (okG g && okN (netG g)) = true then (netG g, (true, ())) else (([], []), (false, ()))
theorem sNetworkOf_spec {n : Nat} {g : Graph} (hl : g.2.length ≤ 1048576) (hn : 1048576 < n) : sNetworkOf.f n g = some (netOf g) := by
  unfold sNetworkOf.f netOf
  rw [sIsGraph_spec hl (by omega)]
  simp only [Option.bind_some]
  cases hg : okG g
  · rfl
  · obtain ⟨g0, g8, gl, ge⟩ := okG_e hg
    have hm := maxB_eq
    simp only [Bool.not_true, br_false, Bool.true_and]
    obtain ⟨N, hN⟩ : ∃ N : Nat, g.1 = (N : Int) := ⟨g.1.toNat, by omega⟩
    have hS := sIsNetwork_spec (netG_small hg) hn
    unfold netG at hS ⊢
    rw [hN] at hS g0 g8 ⊢
    simp only [Int.toNat_natCast] at hS ⊢
    refine iter_line (fun i => ((i : Int), ((List.range i).map (fun (k : Nat) => progK g (k : Int)), ()))) N (fun ih i hi => ?_) (fun ih => ?_) (by omega)
    · show br (decide ((i : Int) < (N : Int))) _ _ = _
      rw [br_yes (by omega), sL7Program_spec hg hn, Option.bind_some]
      simp only
      rw [small_chk (by simp; omega), w64_succ (by omega), List.range_succ, List.map_append]; rfl
    · show br (decide ((N : Int) < (N : Int))) _ _ = _
      rw [br_no (Int.lt_irrefl _), chk_true (by refine ⟨by trivial, ?_⟩; omega), chk_true (by refine ⟨by trivial, ?_⟩; omega)]
      generalize (List.range N).map (fun (k : Nat) => progK g (k : Int)) = ps at hS ⊢
      have hst : ((0 : Int), (ps, (([] : List Link), (List.replicate N (0 : Int), (List.replicate N (0 : Int), ()))))) = (fun (i : Nat) => ((i : Int), (ps, ((List.range i).map (lnkAt g), (tb (cnt eT) N (g.2.take i), (tb (cnt eF) N (g.2.take i), ())))))) 0 := by
        have : ∀ f : Edge → Int, tb (cnt f) N [] = List.replicate N 0 := fun f => by
          apply List.ext_getElem
          · simp [tb]
          · intro i h1 h2; simp [tb, cnt]
        simp [this]
      show iter n _ ((0 : Int), (ps, (([] : List Link), (List.replicate N (0 : Int), (List.replicate N (0 : Int), ()))))) = _
      rw [hst]
      refine iter_line (fun i => ((i : Int), (ps, ((List.range i).map (lnkAt g), (tb (cnt eT) N (g.2.take i), (tb (cnt eF) N (g.2.take i), ())))))) g.2.length (fun ih i hi => ?_) (fun ih => ?_) (by omega)
      · have c1 : (i : Int) < (g.2.length : Int) := by omega
        have e1 : g.2.getD i zEdge = g.2[i] := getD_lt hi _
        have hE := okE_of (ge _ (List.getElem_mem hi))
        rw [hN] at hE
        have hcT := cnt_le (f := eT) (k := g.2[i].2.1) (es := g.2.take i)
        have hcF := cnt_le (f := eF) (k := g.2[i].1) (es := g.2.take i)
        have htl : (g.2.take i).length = i := by simp; omega
        obtain ⟨p, hp⟩ : ∃ p : Nat, g.2[i].1 = (p : Int) := ⟨g.2[i].1.toNat, by omega⟩
        obtain ⟨q, hq⟩ : ∃ q : Nat, g.2[i].2.1 = (q : Int) := ⟨g.2[i].2.1.toNat, by omega⟩
        show br (decide ((i : Int) < (g.2.length : Int))) _ _ = _
        rw [br_yes c1, chk_true ⟨Int.natCast_nonneg i, c1⟩]
        simp only [Int.toNat_natCast, e1, tb_len]
        have x1 : 0 ≤ g.2[i].1 ∧ g.2[i].1 < (N : Int) := by omega
        have x2 : 0 ≤ g.2[i].2.1 ∧ g.2[i].2.1 < (N : Int) := by omega
        rw [chk_true x1, chk_true x2, chk_true (by refine ⟨by trivial, ?_⟩; omega), small_chk (by simp; omega)]
        simp only [chk_true x1, chk_true x2]
        have gT : (tb (cnt eT) N (g.2.take i)).getD g.2[i].2.1.toNat 0 = cnt eT g.2[i].2.1 (g.2.take i) := by rw [hq, Int.toNat_natCast]; exact tb_get (by omega) _
        have gF : (tb (cnt eF) N (g.2.take i)).getD g.2[i].1.toNat 0 = cnt eF g.2[i].1 (g.2.take i) := by rw [hp, Int.toNat_natCast]; exact tb_get (by omega) _
        have sT : (tb (cnt eT) N (g.2.take i)).set g.2[i].2.1.toNat (cnt eT g.2[i].2.1 (g.2.take i) + 1) = tb (cnt eT) N (g.2.take (i + 1)) := by
          rw [← tb_set (F := cnt eT) (nodes := N) (k := q) (es := g.2.take i) (es' := g.2.take (i + 1)) (fun k' hk' => by rw [List.take_succ_eq_append_getElem hi]; exact cnt_other (by show g.2[i].2.1 ≠ _; omega)), List.take_succ_eq_append_getElem hi, cnt_snoc, if_pos (show eT g.2[i] = (q : Int) from hq), hq, Int.toNat_natCast]
        have sF : (tb (cnt eF) N (g.2.take i)).set g.2[i].1.toNat (cnt eF g.2[i].1 (g.2.take i) + 1) = tb (cnt eF) N (g.2.take (i + 1)) := by
          rw [← tb_set (F := cnt eF) (nodes := N) (k := p) (es := g.2.take i) (es' := g.2.take (i + 1)) (fun k' hk' => by rw [List.take_succ_eq_append_getElem hi]; exact cnt_other (by show g.2[i].1 ≠ _; omega)), List.take_succ_eq_append_getElem hi, cnt_snoc, if_pos (show eF g.2[i] = (p : Int) from hp), hp, Int.toNat_natCast]
        rw [gT, gF, w64_id (n := cnt eF g.2[i].1 (g.2.take i) + 1) (by omega) (by omega), w64_id (n := cnt eT g.2[i].2.1 (g.2.take i) + 1) (by omega) (by omega), sT, sF, w64_succ (by omega), List.range_succ, List.map_append]
        simp only [List.map_cons, List.map_nil, lnkAt, e1]
      · show br (decide ((g.2.length : Int) < (g.2.length : Int))) _ _ = _
        rw [br_no (Int.lt_irrefl _)]
        simp only
        rw [hS]
        simp only [Option.bind_some]
        cases okN _ <;> rfl
theorem iNetworkOf_spec {n : Nat} {g : Graph} (hl : g.2.length ≤ 1048576) (hn : 1048576 < n) : iNetworkOf.f n g = some (netOf g) := by
  unfold iNetworkOf.f netOf
  rw [iIsGraph_spec hl (by omega)]
  simp only [Option.bind_some]
  cases hg : okG g
  · rfl
  · obtain ⟨g0, g8, gl, ge⟩ := okG_e hg
    have hm := maxB_eq
    simp only [Bool.not_true, br_false, Bool.true_and]
    obtain ⟨N, hN⟩ : ∃ N : Nat, g.1 = (N : Int) := ⟨g.1.toNat, by omega⟩
    have hS := iChecked_spec (netG_small hg) hn
    unfold netG at hS ⊢
    have h5T : ∀ (es : List Edge), (∀ e ∈ es, e ∈ g.2) → ∀ k, (rdT k es).length ≤ 5 * es.length := fun es h k => rdA_len (fun e he => (okE_of (ge e (h e he))).2.2.2.2.2.2.2.1)
    have h5F : ∀ (es : List Edge), (∀ e ∈ es, e ∈ g.2) → ∀ k, (rdF k es).length ≤ 5 * es.length := fun es h k => rdA_len (fun e he => (okE_of (ge e (h e he))).2.2.2.2.2.1)
    rw [hN] at hS g0 g8 ⊢
    simp only [Int.toNat_natCast] at hS ⊢
    rw [chk_true (by refine ⟨by trivial, ?_⟩; omega), chk_true (by refine ⟨by trivial, ?_⟩; omega), chk_true (by refine ⟨by trivial, ?_⟩; omega), chk_true (by refine ⟨by trivial, ?_⟩; omega)]
    have hst : ((0 : Int), (([] : List Link), (List.replicate N ([] : List Instr), (List.replicate N ([] : List Instr), (List.replicate N (0 : Int), (List.replicate N (0 : Int), ())))))) = (fun (i : Nat) => ((i : Int), ((List.range i).map (lnkAt g), (tb rdT N (g.2.take i), (tb rdF N (g.2.take i), (tb (cnt eT) N (g.2.take i), (tb (cnt eF) N (g.2.take i), ()))))))) 0 := by
      have : ∀ f : Edge → Int, tb (cnt f) N [] = List.replicate N 0 := fun f => by
        apply List.ext_getElem
        · simp [tb]
        · intro i h1 h2; simp [tb, cnt]
      have tT : tb rdT N [] = List.replicate N [] := by
        apply List.ext_getElem
        · simp [tb]
        · intro i h1 h2; simp [tb, rdT, rdA]
      have tF : tb rdF N [] = List.replicate N [] := by
        apply List.ext_getElem
        · simp [tb]
        · intro i h1 h2; simp [tb, rdF, rdA]
      simp [this, tT, tF]
    rw [hst]
    refine iter_line (fun i => ((i : Int), ((List.range i).map (lnkAt g), (tb rdT N (g.2.take i), (tb rdF N (g.2.take i), (tb (cnt eT) N (g.2.take i), (tb (cnt eF) N (g.2.take i), ()))))))) g.2.length (fun ih i hi => ?_) (fun ih => ?_) (by omega)
    · have c1 : (i : Int) < (g.2.length : Int) := by omega
      have e1 : g.2.getD i zEdge = g.2[i] := getD_lt hi _
      have hE := okE_of (ge _ (List.getElem_mem hi))
      rw [hN] at hE
      have hcT := cnt_le (f := eT) (k := g.2[i].2.1) (es := g.2.take i)
      have hcF := cnt_le (f := eF) (k := g.2[i].1) (es := g.2.take i)
      have htl : (g.2.take i).length = i := by simp; omega
      have hlT := h5T (g.2.take i) (fun e he => List.mem_of_mem_take he) g.2[i].2.1
      have hlF := h5F (g.2.take i) (fun e he => List.mem_of_mem_take he) g.2[i].1
      obtain ⟨p, hp⟩ : ∃ p : Nat, g.2[i].1 = (p : Int) := ⟨g.2[i].1.toNat, by omega⟩
      obtain ⟨q, hq⟩ : ∃ q : Nat, g.2[i].2.1 = (q : Int) := ⟨g.2[i].2.1.toNat, by omega⟩
      show br (decide ((i : Int) < (g.2.length : Int))) _ _ = _
      rw [br_yes c1, chk_true ⟨Int.natCast_nonneg i, c1⟩]
      have x1 : 0 ≤ g.2[i].1 ∧ g.2[i].1 < (N : Int) := by omega
      have x2 : 0 ≤ g.2[i].2.1 ∧ g.2[i].2.1 < (N : Int) := by omega
      simp only [Int.toNat_natCast, e1, tb_len, List.length_set, chk_true x1, chk_true x2]
      have gT : (tb (cnt eT) N (g.2.take i)).getD g.2[i].2.1.toNat 0 = cnt eT g.2[i].2.1 (g.2.take i) := by rw [hq, Int.toNat_natCast]; exact tb_get (by omega) _
      have gF : (tb (cnt eF) N (g.2.take i)).getD g.2[i].1.toNat 0 = cnt eF g.2[i].1 (g.2.take i) := by rw [hp, Int.toNat_natCast]; exact tb_get (by omega) _
      have rT : (tb rdT N (g.2.take i)).getD g.2[i].2.1.toNat [] = rdT g.2[i].2.1 (g.2.take i) := by rw [hq, Int.toNat_natCast]; exact tb_get (by omega) _
      have rF : (tb rdF N (g.2.take i)).getD g.2[i].1.toNat [] = rdF g.2[i].1 (g.2.take i) := by rw [hp, Int.toNat_natCast]; exact tb_get (by omega) _
      have sT : (tb (cnt eT) N (g.2.take i)).set g.2[i].2.1.toNat (cnt eT g.2[i].2.1 (g.2.take i) + 1) = tb (cnt eT) N (g.2.take (i + 1)) := by
        rw [← tb_set (F := cnt eT) (nodes := N) (k := q) (es := g.2.take i) (es' := g.2.take (i + 1)) (fun k' hk' => by rw [List.take_succ_eq_append_getElem hi]; exact cnt_other (by show g.2[i].2.1 ≠ _; omega)), List.take_succ_eq_append_getElem hi, cnt_snoc, if_pos (show eT g.2[i] = (q : Int) from hq), hq, Int.toNat_natCast]
      have sF : (tb (cnt eF) N (g.2.take i)).set g.2[i].1.toNat (cnt eF g.2[i].1 (g.2.take i) + 1) = tb (cnt eF) N (g.2.take (i + 1)) := by
        rw [← tb_set (F := cnt eF) (nodes := N) (k := p) (es := g.2.take i) (es' := g.2.take (i + 1)) (fun k' hk' => by rw [List.take_succ_eq_append_getElem hi]; exact cnt_other (by show g.2[i].1 ≠ _; omega)), List.take_succ_eq_append_getElem hi, cnt_snoc, if_pos (show eF g.2[i] = (p : Int) from hp), hp, Int.toNat_natCast]
      have uT : (tb rdT N (g.2.take i)).set g.2[i].2.1.toNat (rdT g.2[i].2.1 (g.2.take i) ++ List.replicate g.2[i].2.2.2.1.toNat (1, 0, cnt eT g.2[i].2.1 (g.2.take i), 0)) = tb rdT N (g.2.take (i + 1)) := by
        rw [← tb_set (F := rdT) (nodes := N) (k := q) (es := g.2.take i) (es' := g.2.take (i + 1)) (fun k' hk' => by rw [List.take_succ_eq_append_getElem hi, rdT_snoc, if_neg (by omega), List.append_nil]), List.take_succ_eq_append_getElem hi, rdT_snoc, if_pos hq, hq, Int.toNat_natCast]
      have uF : (tb rdF N (g.2.take i)).set g.2[i].1.toNat (rdF g.2[i].1 (g.2.take i) ++ List.replicate g.2[i].2.2.1.toNat (2, 0, cnt eF g.2[i].1 (g.2.take i), 0)) = tb rdF N (g.2.take (i + 1)) := by
        rw [← tb_set (F := rdF) (nodes := N) (k := p) (es := g.2.take i) (es' := g.2.take (i + 1)) (fun k' hk' => by rw [List.take_succ_eq_append_getElem hi, rdF_snoc, if_neg (by omega), List.append_nil]), List.take_succ_eq_append_getElem hi, rdF_snoc, if_pos hp, hp, Int.toNat_natCast]
      rw [chk_true (by refine ⟨by trivial, ?_⟩; omega), small_chk (by simp; omega)]
      rw [gT, gF, rT, rF, repeatIn_spec (by omega) (by omega) (by omega), repeatIn_spec (by omega) (by omega) (by omega)]
      simp only [Option.bind_some]
      rw [small_chk (by simp; omega)]
      simp only [chk_T]
      rw [small_chk (by simp; omega)]
      rw [w64_id (n := cnt eF g.2[i].1 (g.2.take i) + 1) (by omega) (by omega), w64_id (n := cnt eT g.2[i].2.1 (g.2.take i) + 1) (by omega) (by omega), sT, sF, uT, uF, w64_succ (by omega), List.range_succ, List.map_append]
      simp only [List.map_cons, List.map_nil, lnkAt, e1]
    · show br (decide ((g.2.length : Int) < (g.2.length : Int))) _ _ = _
      rw [br_no (Int.lt_irrefl _), List.take_length]
      generalize hLL : (List.range g.2.length).map (lnkAt g) = ls at hS ⊢
      have hlT := h5T g.2 (fun e he => he)
      have hlF := h5F g.2 (fun e he => he)
      refine iter_line (fun i => ((i : Int), ((List.range i).map (fun (k : Nat) => progK g (k : Int)), (ls, ())))) N (fun ih i hi => ?_) (fun ih => ?_) (by omega)
      · have x1 : 0 ≤ (i : Int) ∧ (i : Int) < (N : Int) := by omega
        have l1 := hlT (i : Int)
        have l2 := hlF (i : Int)
        show br (decide ((i : Int) < (N : Int))) _ _ = _
        rw [br_yes x1.2]
        simp only [tb_len, chk_true x1, Int.toNat_natCast, tb_get hi]
        rw [concatIn_all (by simp) (by simp; omega) hn]
        simp only [Option.bind_some]
        rw [small_chk (by simp; omega), w64_succ (by omega), List.range_succ, List.map_append]
        simp [progK]
      · show br (decide ((N : Int) < (N : Int))) _ _ = _
        rw [br_no (Int.lt_irrefl _)]
        simp only
        rw [hS]
        simp only [Option.bind_some]
end Go.AmT
