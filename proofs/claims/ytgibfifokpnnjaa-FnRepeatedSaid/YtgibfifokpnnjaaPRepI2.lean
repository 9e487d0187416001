/- All least numbers, as the program finds them. -/
import Derived.Test.YtgibfifokpnnjaaPRepI
namespace Go.AmT
open Go Go.Am
set_option linter.unusedVariables false
set_option linter.unusedSimpArgs false

theorem nodup_ne {l : List Int} (h : l.Nodup) {i j : Nat} (hi : i < l.length) (hj : j < l.length) (hij : i < j) : l[i] ≠ l[j] := by
  intro e
  have := (List.pairwise_iff_getElem.1 h) i j hi hj hij
  exact this e

set_option maxHeartbeats 1600000 in
theorem iRep_W {n : Nat} {g : Graph} (hg : okG g = true) (hn : 1000000000000 < n) : W (iRep.f n g) (fun x => RepOf g.2 g.1.toNat x) := by
  obtain ⟨g0, g8, g16, ge⟩ := okG_un hg
  unfold iRep.f
  rw [iIsGraph_spec (by omega) (by omega), hg, bind_unit]
  simp only [Bool.not_true, br_false]
  have mB : (maxB : Int) = 140737488355328 := rfl
  rw [chk_true (by refine ⟨?_, g0, ?_⟩ <;> first | trivial | omega), chk_true (by refine ⟨?_, g0, ?_⟩ <;> first | trivial | omega)]
  generalize hNN : g.1.toNat = N
  have zeroR : ∀ i, ov (List.replicate N ((0, 0) : Ratio)) i = 0 ∧ un (List.replicate N ((0, 0) : Ratio)) i = 0 := by
    intro i; unfold ov un
    rcases Nat.lt_or_ge i N with h | h
    · rw [getD_lt (by simpa using h)]; simp
    · have : (List.replicate N ((0, 0) : Ratio)).length ≤ i := by simpa using h
      rw [List.getD_eq_getElem?_getD, List.getElem?_eq_none this]; exact ⟨rfl, rfl⟩
  -- what is done: the nodes with a ratio
  refine W_up (fun k (s : List Ratio × List Int) => ((k : Int), (s.1, (s.2, ())))) N
    (fun k s => s.1.length = N ∧ s.2.length = N ∧ (∀ i, i < k → ¬ (ov s.1 i = 0 ∧ un s.1 i = 0)) ∧ Clo g.2 (fun i => ¬ (ov s.1 i = 0 ∧ un s.1 i = 0)) ∧
      (∀ i, ¬ (ov s.1 i = 0 ∧ un s.1 i = 0) → 0 < qf s.2 i ∧ qf s.2 i ≤ 200 ∧ ∃ S, Part g.2 (qf s.2) S ∧ S i ∧ ∀ j, S j → ¬ (ov s.1 j = 0 ∧ un s.1 j = 0)))
    (s0 := (List.replicate N (0, 0), List.replicate N 0)) rfl
    ⟨by simp, by simp, fun i hi => absurd hi (Nat.not_lt_zero _), fun e he => ⟨fun h => absurd (zeroR _) h, fun h => absurd (zeroR _) h⟩, fun i h => absurd (zeroR i) h⟩ (by omega) (fun ih s hI => ?_) (fun ih k s hk hI hS => ?_)
  · obtain ⟨of, out⟩ := s
    obtain ⟨ol, ql, hn0, hcl, hpt⟩ := hI
    simp only at ol ql hn0 hcl hpt
    simp only [br_no (show ¬ ((N : Nat) : Int) < g.1 by omega)]
    have hall : AllP g.2 N (qf out) := fun i hi => let ⟨S, a, b, _⟩ := (hpt i (hn0 i hi)).2.2; ⟨S, a, b⟩
    refine bal_W hg (by omega) (fun i hi => by have := hpt i (hn0 i (by omega)); omega) hn (fun hB => ?_) (fun hB => ?_)
    · refine W_some.2 (Or.inl ⟨rfl, ql, hall, hB, fun i hi => ?_⟩)
      have := hpt i (hn0 i hi)
      exact ⟨this.1, this.2.1⟩
    · refine W_some.2 (Or.inr ⟨rfl, fun q' ha hb hle => hB ?_⟩)
      exact bal_congr hg (fun i hi => all_eq hall ha hb i (by omega)) hb
  · obtain ⟨of0, out0⟩ := s
    obtain ⟨ol, ql, hn0, hcl, hpt⟩ := hI
    simp only at ol ql hn0 hcl hpt
    simp only [br_yes (show (k : Int) < g.1 by omega), isZero, Int.toNat_natCast]
    rw [chk_true (by omega), W_brn]
    refine ⟨fun hz => ?_, fun hz => ?_⟩
    · have hz : ¬ (ov of0 k = 0 ∧ un of0 k = 0) := by simpa using hz
      rw [w64_succ (by omega)]
      refine hS (of0, out0) ⟨ol, ql, fun i hi => ?_, hcl, hpt⟩
      rcases Nat.lt_or_ge i k with h | h
      · exact hn0 i h
      · rw [show i = k by omega]; exact hz
    · have hz : ov of0 k = 0 ∧ un of0 k = 0 := by simpa using hz
      rw [W_bind]
      refine W_and (spread_W hg (of0 := of0) (r := (k : Int)) (by omega) (by omega) hn hcl (fun h => h hz) (fun i _ h => Classical.byContradiction h)) (fun x hx => ?_)
      obtain ⟨part, of, ⟨⟩⟩ := x
      obtain ⟨hI, hclo⟩ := hx
      simp only [Int.toNat_natCast, hNN] at hI hclo
      simp only
      have ple := hI.le
      have pw := pow5 (show part.length ≤ 8 by omega)
      obtain ⟨P, P0, P1, P2⟩ := hI.com
      have ol' := hI.ol
      have inp : ∀ k ∈ part, inP part k.toNat := fun k hk => by have := (hI.rng k hk).1; unfold inP; rw [show ((k.toNat : Nat) : Int) = k by omega]; exact hk
      refine W_up (fun i (s : Int) => (s, ((i : Int), ()))) part.length (fun i s => 0 < s ∧ s ∣ P ∧ ∀ k ∈ part.take i, un of k.toNat ∣ s) (s0 := 1) rfl ⟨by omega, Int.one_dvd P, by simp⟩ (by omega) (fun ih1 U hU => ?_) (fun ih1 i s hi hI' hS1 => ?_)
      rotate_left
      · obtain ⟨s0, sP, sd⟩ := hI'
        have hmem := List.getElem_mem hi
        simp only [br_yes (show (i : Int) < (part.length : Int) by omega), Int.toNat_natCast, getD_lt hi]
        obtain ⟨r0, r1⟩ := hI.rng _ hmem
        have hin := inp _ hmem
        generalize he : part[i] = k at *
        have u0 := (hI.pos _ hin).2.2
        have u1 := P2 _ hin
        rw [chk_true (by omega), chk_true (by omega), show (of.getD k.toNat zRatio).2 = un of k.toNat from rfl]
        have uP := Int.le_of_dvd P0 u1
        have sPl := Int.le_of_dvd P0 sP
        rw [gcd_okI (by omega) (by omega) (by omega), bind_unit]
        have gp := gcd_pos_int (a := s) u0
        have gd : (Int.gcd s (un of k.toNat) : Int) ∣ s := Int.gcd_dvd_left ..
        obtain ⟨l1, l2, l3⟩ := lcm_dvd_int s0 u0 sP u1
        obtain ⟨t1, t2, t3⟩ := tdiv_exact (a := s) (by omega) (by omega) gd
        have t4 := tdiv_pos s0 (by omega) gd
        simp only
        rw [if_neg (by omega), chk_true (by omega), w64_succ (by omega), w64_id (n := s.tdiv _) (by omega) (by omega)]
        have pp := Int.mul_pos t4 u0
        have lP := Int.le_of_dvd P0 l1
        rw [w64_id (by omega) (by omega)]
        refine hS1 _ ⟨pp, l1, fun k' hk' => ?_⟩
        rcases take_succ_mem hi hk' with h | h
        · exact Int.dvd_trans (sd k' h) l2
        · rw [h, he]; exact l3
      obtain ⟨U0, UP, Ud⟩ := hU
      rw [List.take_length] at Ud
      have U1 := Int.le_of_dvd P0 UP
      simp only [br_no (Int.lt_irrefl _)]
      -- the numbers
      have rootm : (k : Int) ∈ part := hI.root
      have val : ∀ i, inP part i → (U.tdiv (un of i)) * un of i = U ∧ 0 < ov of i * U.tdiv (un of i) ∧ ov of i * U.tdiv (un of i) ≤ 390625 * 390625 := by
        intro i hi
        obtain ⟨p1, p2, p3⟩ := hI.pos i hi
        have d := Ud (i : Int) hi
        rw [Int.toNat_natCast] at d
        have t := tdiv_exact (a := U) (by omega) p3 d
        have t4 := tdiv_pos U0 p3 d
        refine ⟨t.1, Int.mul_pos p1 t4, ?_⟩
        have a1 : ov of i * U.tdiv (un of i) ≤ ov of i * 390625 := Int.mul_le_mul_of_nonneg_left (by omega) (by omega)
        have a2 : ov of i * 390625 ≤ 390625 * 390625 := Int.mul_le_mul_of_nonneg_right (by omega) (by omega)
        omega
      let v : Nat → Int := fun i => ov of i * U.tdiv (un of i)
      have vdef : ∀ i, v i = ov of i * U.tdiv (un of i) := fun _ => rfl
      clear_value v
      have hq1 : (390625 : Int) * 390625 = 152587890625 := by decide
      rw [hq1] at val
      refine W_up (fun i (s : Int × List Int) => (s.1, ((i : Int), (s.2, ())))) part.length (fun i s => s.2.length = N ∧ (0 ≤ s.1 ∧ s.1 ≤ 152587890625) ∧ (∀ j : Nat, (j : Int) ∈ part.take i → qf s.2 j = v j ∧ s.1 ∣ v j ∧ 0 < s.1) ∧ (∀ j : Nat, ¬ (j : Int) ∈ part.take i → qf s.2 j = qf out0 j) ∧ PrimTo s.1 v (fun j : Nat => (j : Int) ∈ part.take i))
        (s0 := (0, out0)) rfl ⟨ql, by simp, by simp, by simp, fun d b _ => by simp⟩ (by omega) (fun ih2 s hJ => ?_) (fun ih2 i s hi hJ hS2 => ?_)
      rotate_left
      · obtain ⟨al, out⟩ := s
        obtain ⟨jl, ⟨a0, a1⟩, jd, jo, jp⟩ := hJ
        simp only at jl a0 a1 jd jo jp
        have hmem := List.getElem_mem hi
        have htk : part.take (i + 1) = part.take i ++ [part[i]] := List.take_succ_eq_append_getElem hi
        have hnot : ¬ part[i] ∈ part.take i := by
          intro h
          obtain ⟨j, hj, he⟩ := List.getElem_of_mem h
          rw [List.length_take] at hj
          rw [List.getElem_take] at he
          exact nodup_ne hI.nd (by omega) hi (by omega) he
        simp only [br_yes (show (i : Int) < (part.length : Int) by omega), Int.toNat_natCast, getD_lt hi]
        obtain ⟨r0, r1⟩ := hI.rng _ hmem
        have hin := inp _ hmem
        generalize he : part[i] = m at *
        have mm : ((m.toNat : Nat) : Int) = m := by omega
        obtain ⟨v1, v2, v3⟩ := val _ hin
        obtain ⟨p1, p2, p3⟩ := hI.pos _ hin
        rw [show (of.getD m.toNat zRatio).2 = un of m.toNat from rfl, show (of.getD m.toNat zRatio).1 = ov of m.toNat from rfl]
        have t := tdiv_exact (a := U) (b := un of m.toNat) (by omega) p3 ⟨_, by rw [Int.mul_comm]; exact v1.symm⟩
        rw [chk_true (by omega), chk_true (by omega), chk_true (by omega), if_neg (by omega), chk_true (by omega), w64_id (n := U.tdiv (un of m.toNat)) (by omega) (by omega), ← vdef]
        rw [← vdef] at v2 v3
        rw [w64_id (n := v m.toNat) (by omega) (by omega)]
        simp only [List.length_set]
        have gs : (out.set m.toNat (v m.toNat)).getD m.toNat 0 = v m.toNat := getD_set_same (by omega) _ _
        rw [chk_true (by omega), gs, gcd_okI a0 (by omega) (by omega), bind_unit, w64_succ (by omega)]
        have d1 : (Int.gcd al (v m.toNat) : Int) ∣ al := Int.gcd_dvd_left ..
        have d2 : (Int.gcd al (v m.toNat) : Int) ∣ v m.toNat := Int.gcd_dvd_right ..
        have gp := gcd_pos_int (a := al) v2
        have gle := Int.le_of_dvd v2 d2
        have mem : ∀ j : Nat, (j : Int) ∈ part.take (i + 1) ↔ ((j : Int) ∈ part.take i ∨ j = m.toNat) := by
          intro j; rw [htk, List.mem_append, List.mem_singleton]; exact or_congr Iff.rfl ⟨fun e => by omega, fun e => by omega⟩
        refine hS2 (_, out.set m.toNat (v m.toNat)) ⟨by simpa using jl, ⟨by omega, by omega⟩, fun j hj => ?_, fun j hj => ?_, fun d b hd => ?_⟩
        · simp only
          rcases (mem j).1 hj with h | h
          · have : j ≠ m.toNat := fun e => hnot (by rw [← mm, ← e]; exact h)
            rw [qf_set (by omega), if_neg this]
            have := jd j h
            exact ⟨this.1, Int.dvd_trans d1 this.2.1, by omega⟩
          · subst h
            rw [qf_set (by omega), if_pos rfl]
            exact ⟨rfl, d2, by omega⟩
        · simp only
          have hn' : ¬ ((j : Int) ∈ part.take i) ∧ j ≠ m.toNat := ⟨fun h => hj ((mem j).2 (Or.inl h)), fun h => hj ((mem j).2 (Or.inr h))⟩
          rw [qf_set (by omega), if_neg hn'.2]
          exact jo j hn'.1
        · exact dvd_gcd_mul (jp d b (fun j hj => hd j ((mem j).2 (Or.inl hj)))) (hd m.toNat ((mem _).2 (Or.inr rfl)))
      obtain ⟨al, out⟩ := s
      obtain ⟨jl, ⟨a0, a1⟩, jd, jo, jp⟩ := hJ
      simp only [List.take_length] at jl a0 a1 jd jo jp
      simp only [br_no (Int.lt_irrefl _)]
      have apos : 0 < al := (jd k rootm).2.2
      -- divided by what they have in common
      have div : ∀ i, inP part i → (v i).tdiv al * al = v i ∧ 0 < (v i).tdiv al ∧ (v i).tdiv al ≤ v i ∧ v i ≤ 152587890625 := by
        intro i hi
        obtain ⟨v1, v2, v3⟩ := val i hi
        rw [← vdef] at v2 v3
        have d := (jd i hi).2.1
        have t := tdiv_exact (a := v i) (b := al) (by omega) apos d
        exact ⟨t.1, tdiv_pos v2 apos d, t.2.2, v3⟩
      have hPart : ∀ q : Nat → Int, (∀ i, inP part i → q i = (v i).tdiv al) → Part g.2 q (inP part) := by
        intro q hq
        refine part_mk hI.root hclo hI.near (fun i hi => by rw [hq i hi]; exact (div i hi).2.1) (fun w hw i hi => ?_) (primTo_div (a := al) (by omega) (q := v) jp (fun i hi => by rw [hq i hi]; exact (div i hi).1.symm))
        rw [hq i hi, hq _ hI.root]
        have hr := hI.root
        have t := hI.tied w hw i hi
        have vi := (val i hi).1
        have vk : v k = U := by
          have := (val k hr).1
          rw [hI.one.2] at this
          rw [vdef, hI.one.1, hI.one.2]; omega
        have e1 : v i * w k = v k * w i := by
          rw [vk, vdef]
          calc ov of i * U.tdiv (un of i) * w k = U.tdiv (un of i) * (ov of i * w k) := by simp [Int.mul_assoc, Int.mul_left_comm, Int.mul_comm]
            _ = (U.tdiv (un of i) * un of i) * w i := by rw [t]; simp [Int.mul_assoc, Int.mul_left_comm, Int.mul_comm]
            _ = U * w i := by rw [vi]
        refine Int.eq_of_mul_eq_mul_left (show al ≠ 0 by omega) ?_
        calc al * ((v i).tdiv al * w k) = ((v i).tdiv al * al) * w k := by simp [Int.mul_assoc, Int.mul_left_comm, Int.mul_comm]
          _ = ((v k).tdiv al * al) * w i := by rw [(div i hi).1, (div k hr).1, e1]
          _ = al * ((v k).tdiv al * w i) := by simp [Int.mul_assoc, Int.mul_left_comm, Int.mul_comm]
      have nD : ∀ i, inP part i → (ov of0 i = 0 ∧ un of0 i = 0) := fun i hi => Classical.byContradiction (fun h => hI.near _ hcl.not (fun h => h hz) i hi h)
      have old : ∀ q : Nat → Int, (∀ i, ¬ inP part i → q i = qf out0 i) → ∀ i, ¬ (ov of0 i = 0 ∧ un of0 i = 0) → ∃ S, Part g.2 q S ∧ S i ∧ ∀ j, S j → ¬ (ov of0 j = 0 ∧ un of0 j = 0) := by
        intro q hq i hi
        obtain ⟨S, a, b, c⟩ := (hpt i hi).2.2
        exact ⟨S, a.congr (fun j hj => hq j (fun hj2 => c j hj (nD j hj2))), b, c⟩
      refine W_up (fun i (s : List Int) => ((i : Int), (s, ()))) part.length (fun i s => s.length = N ∧ (∀ j : Nat, (j : Int) ∈ part.take i → qf s j = (v j).tdiv al ∧ qf s j ≤ 200) ∧ (∀ j : Nat, ¬ (j : Int) ∈ part.take i → qf s j = qf out j))
        (s0 := out) rfl ⟨jl, by simp, by simp⟩ (by omega) (fun ih3 s hJ => ?_) (fun ih3 i s hi hJ hS3 => ?_)
      · obtain ⟨sl, sd, so⟩ := hJ
        simp only [List.take_length] at sl sd so
        simp only [br_no (Int.lt_irrefl _)]
        rw [w64_succ (by omega)]
        have off : ∀ i, ¬ inP part i → qf s i = qf out0 i := fun i hi => by rw [so i hi]; exact jo i hi
        have nz : ∀ i, ¬ (ov of i = 0 ∧ un of i = 0) ↔ (inP part i ∨ ¬ (ov of0 i = 0 ∧ un of0 i = 0)) := by
          intro i
          by_cases hi : inP part i
          · exact ⟨fun _ => Or.inl hi, fun _ h => by have := (hI.pos i hi).1; omega⟩
          · rw [(hI.same i hi).1, (hI.same i hi).2]
            exact ⟨Or.inr, fun h => h.elim (fun h => absurd h hi) id⟩
        refine hS (of, s) ⟨ol', sl, fun i hi => ?_, fun e he => ?_, fun i hi => ?_⟩
        · rw [nz]
          rcases Nat.lt_or_ge i k with h | h
          · exact Or.inr (hn0 i h)
          · rw [show i = k by omega]; exact Or.inl hI.root
        · simp only
          rw [nz, nz]
          exact or_congr (hclo e he) (hcl e he)
        · simp only at hi ⊢
          rcases Classical.em (inP part i) with h | h
          · have := sd i h
            refine ⟨by rw [this.1]; exact (div i h).2.1, this.2, inP part, hPart _ (fun j hj => (sd j hj).1), h, fun j hj => (nz j).2 (Or.inl hj)⟩
          · have hi2 := ((nz i).1 hi).resolve_left h
            have := hpt i hi2
            refine ⟨by rw [off i h]; exact this.1, by rw [off i h]; exact this.2.1, ?_⟩
            obtain ⟨S, a, b, c⟩ := old (qf s) off i hi2
            exact ⟨S, a, b, fun j hj => (nz j).2 (Or.inr (c j hj))⟩
      · obtain ⟨sl, sd, so⟩ := hJ
        have hmem := List.getElem_mem hi
        have htk : part.take (i + 1) = part.take i ++ [part[i]] := List.take_succ_eq_append_getElem hi
        have hnot : ¬ part[i] ∈ part.take i := by
          intro h
          obtain ⟨j, hj, he⟩ := List.getElem_of_mem h
          rw [List.length_take] at hj
          rw [List.getElem_take] at he
          exact nodup_ne hI.nd (by omega) hi (by omega) he
        simp only [br_yes (show (i : Int) < (part.length : Int) by omega), Int.toNat_natCast, getD_lt hi]
        obtain ⟨r0, r1⟩ := hI.rng _ hmem
        have hin := inp _ hmem
        generalize he : part[i] = m at *
        have mm : ((m.toNat : Nat) : Int) = m := by omega
        have vm : qf s m.toNat = v m.toNat := by rw [so m.toNat (by rw [mm]; exact hnot)]; exact (jd m.toNat (by rw [mm]; exact hmem)).1
        obtain ⟨x1, x2, x3, x4⟩ := div _ hin
        rw [chk_true (by omega), chk_true (by omega), if_neg (by omega), chk_true (by omega), show s.getD m.toNat 0 = v m.toNat from vm, w64_id (n := (v m.toNat).tdiv al) (by omega) (by omega)]
        simp only [List.length_set]
        have gs : (s.set m.toNat ((v m.toNat).tdiv al)).getD m.toNat 0 = (v m.toNat).tdiv al := getD_set_same (by omega) _ _
        rw [chk_true (by omega), gs, W_brd]
        refine ⟨fun hbig => ?_, fun hbig => ?_⟩
        · refine W_some.2 (Or.inr ⟨rfl, fun q' ha hb hle => ?_⟩)
          obtain ⟨S', hS', hi'⟩ := ha m.toNat r1
          have pe := part_eq (hPart (fun i => (v i).tdiv al) (fun _ _ => rfl)) hS' hb hin hi'
          have := hle m.toNat r1
          omega
        · rw [w64_succ (by omega)]
          have mem : ∀ j : Nat, (j : Int) ∈ part.take (i + 1) ↔ ((j : Int) ∈ part.take i ∨ j = m.toNat) := by
            intro j; rw [htk, List.mem_append, List.mem_singleton]; exact or_congr Iff.rfl ⟨fun e => by omega, fun e => by omega⟩
          refine hS3 (s.set m.toNat ((v m.toNat).tdiv al)) ⟨by simpa using sl, fun j hj => ?_, fun j hj => ?_⟩
          · rcases (mem j).1 hj with h | h
            · have : j ≠ m.toNat := fun e => hnot (by rw [← mm, ← e]; exact h)
              rw [qf_set (by omega), if_neg this]
              exact sd j h
            · subst h
              rw [qf_set (by omega), if_pos rfl]
              exact ⟨rfl, by omega⟩
          · have hn' : ¬ ((j : Int) ∈ part.take i) ∧ j ≠ m.toNat := ⟨fun h => hj ((mem j).2 (Or.inl h)), fun h => hj ((mem j).2 (Or.inr h))⟩
            rw [qf_set (by omega), if_neg hn'.2]
            exact so j hn'.1

theorem rep_same {n : Nat} {g : Graph} (hl : g.2.length ≤ 1048576) (hn : 1000000000000 < n) : ∃ x, sRep.f n g = some x ∧ iRep.f n g = some x ∧ (okG g = true → RepOf g.2 g.1.toNat x) ∧ (okG g = false → x = ([], (false, ()))) := by
  by_cases hg : okG g = true
  · obtain ⟨x, e1, h1⟩ := sRep_W hg hn
    obtain ⟨y, e2, h2⟩ := iRep_W hg hn
    rw [repOf_eq h2 h1] at e2
    exact ⟨x, e1, e2, fun _ => h1, fun h => absurd hg (by simp [h])⟩
  · have hg : okG g = false := by simpa using hg
    refine ⟨([], (false, ())), ?_, ?_, fun h => absurd h (by simp [hg]), fun _ => rfl⟩
    · unfold sRep.f
      rw [sIsGraph_spec hl (by omega), hg]; rfl
    · unfold iRep.f
      rw [iIsGraph_spec hl (by omega), hg]; rfl
end Go.AmT
