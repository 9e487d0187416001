/- States that are marked, in plain Lean: no condition but that they are small. -/
import Derived.Test.YtkgknijpmcagmaaGreatLMarkS
namespace Go.AmT
open Go Go.Am
set_option linter.unusedVariables false
set_option linter.unusedSimpArgs false

def mActor (a : Actor) (k : Int) : Actor × Int := ((k, (mkL mInt a.2 (k + 1)).1), (mkL mInt a.2 (k + 1)).2)
def mQ (q : List Int) (k : Int) : List Int × Int := mkL mInt q k
def mState (s : State) (k : Int) : State × Int :=
  (((mkL mActor s.1 k).1, (mkL mQ s.2.1 (mkL mActor s.1 k).2).1, (mkL mQ s.2.2.1 (mkL mQ s.2.1 (mkL mActor s.1 k).2).2).1, s.2.2.2), (mkL mQ s.2.2.1 (mkL mQ s.2.1 (mkL mActor s.1 k).2).2).2)
theorem mActor_le {l : List Actor} {k : Int} (hl : l.length ≤ 1048576) (hp : ∀ p ∈ l, p.2.length ≤ 1048576) (i : Nat) : k ≤ mkK mActor l k i ∧ mkK mActor l k i ≤ k + 1099512676352 := by
  have := mkK_le (f := mActor) (l := l) (k := k) (B := 1048577) (by omega) (fun x hx k => by
    have := mInt_le (k := k + 1) (hp x hx) x.2.length
    rw [mkK_end] at this
    simp only [mActor]; omega) i
  omega
theorem mQ_le {l : List (List Int)} {k : Int} (hl : l.length ≤ 1048576) (hp : ∀ p ∈ l, p.length ≤ 1048576) (i : Nat) : k ≤ mkK mQ l k i ∧ mkK mQ l k i ≤ k + 1099511627776 := by
  have := mkK_le (f := mQ) (l := l) (k := k) (B := 1048576) (by omega) (fun x hx k => by
    have := mInt_le (k := k) (hp x hx) x.length
    rw [mkK_end] at this
    simp only [mQ]; omega) i
  omega
theorem markIntA_spec {n : Nat} {ls : List Actor} {j : Nat} {k : Int} (hj : j < ls.length) (hl : ls[j].2.length ≤ 1048576) (h0 : 0 ≤ k) (h1 : k ≤ 1125899906842624) (hn : 1048576 < n) :
    markIntA.f n j k ls = some ((mkL mInt ls[j].2 k).2, ls.set j (ls[j].1, (mkL mInt ls[j].2 k).1), ()) := by
  unfold markIntA.f
  refine Eq.trans (congrArg (iter n _) (show _ = (fun (k : Int) (i : Nat) m => (j, (k, ((i : Int), (ls.set j (ls[j].1, m), ()))))) k 0 ls[j].2 from by show _ = (j, (k, (0, (ls.set j ls[j], ())))); rw [List.set_getElem_self hj])) ?_
  refine markL_loop mInt (fun k i m => (j, (k, ((i : Int), (ls.set j (ls[j].1, m), ()))))) (fun ih i hi m hm hg => ?_) (fun ih m hm e => ?_) (by omega)
  · have hk := mInt_le (k := k) hl i
    have c0 : 0 ≤ (i : Int) := by omega
    have c1 : (i : Int) < (m.length : Int) := by omega
    simp only [getD_set_same hj, c1, c0, and_self, chk_T, decide_true, br_true, Int.toNat_natCast, List.set_set]
    rw [w64_succ (by omega), w64_k (k := mkK mInt _ k i) (by omega) (by omega)]
    rfl
  · simp only [getD_set_same hj, br_no (show ¬ (ls[j].2.length : Int) < (m.length : Int) by omega)]
    rw [← e]
theorem markIntQ_spec {n : Nat} {ls : List (List Int)} {j : Nat} {k : Int} (hj : j < ls.length) (hl : ls[j].length ≤ 1048576) (h0 : 0 ≤ k) (h1 : k ≤ 1125899906842624) (hn : 1048576 < n) :
    markIntQ.f n j k ls = some ((mkL mInt ls[j] k).2, ls.set j (mkL mInt ls[j] k).1, ()) := by
  unfold markIntQ.f
  refine Eq.trans (congrArg (iter n _) (show _ = (fun (k : Int) (i : Nat) m => (j, (k, ((i : Int), (ls.set j m, ()))))) k 0 ls[j] from by show _ = (j, (k, (0, (ls.set j ls[j], ())))); rw [List.set_getElem_self hj])) ?_
  refine markL_loop mInt (fun k i m => (j, (k, ((i : Int), (ls.set j m, ()))))) (fun ih i hi m hm hg => ?_) (fun ih m hm e => ?_) (by omega)
  · have hk := mInt_le (k := k) hl i
    have c0 : 0 ≤ (i : Int) := by omega
    have c1 : (i : Int) < (m.length : Int) := by omega
    simp only [getD_set_same hj, c1, c0, and_self, chk_T, decide_true, br_true, Int.toNat_natCast, List.set_set]
    rw [w64_succ (by omega), w64_k (k := mkK mInt _ k i) (by omega) (by omega)]
    rfl
  · simp only [getD_set_same hj, br_no (show ¬ (ls[j].length : Int) < (m.length : Int) by omega)]
    rw [← e]
theorem markActorS_spec {n : Nat} {l : List Actor} {k : Int} (hl : l.length ≤ 1048576) (hp : ∀ p ∈ l, p.2.length ≤ 1048576) (h0 : 0 ≤ k) (h1 : k ≤ 562949953421312) (hn : 1048576 < n) : markActorS.f n l k = some ((mkL mActor l k).2, (mkL mActor l k).1, ()) := by
  unfold markActorS.f
  refine markL_loop mActor (fun k i m => (k, ((i : Int), (m, ())))) (fun ih i hi m hm hg => ?_) (fun ih m hm e => ?_) (by omega)
  · have hk := mActor_le (k := k) hl hp i
    have him : i < m.length := by omega
    have c0 : 0 ≤ (i : Int) := by omega
    have c1 : (i : Int) < (m.length : Int) := by omega
    simp only [c1, c0, and_self, chk_T, decide_true, br_true, Int.toNat_natCast, List.set_set, getD_set_same him, List.length_set, hg]
    rw [w64_succ (by omega)]
    rw [w64_k (k := mkK mActor l k i) (by omega) (by omega)]
    rw [markIntA_spec (by simpa using him) (by simp; exact hp _ (List.getElem_mem hi)) (by omega) (by omega) hn]
    simp [mActor, Int.add_assoc]
  · simp only [br_no (show ¬ (l.length : Int) < (m.length : Int) by omega)]
    rw [← e]
theorem heldActorS_spec {n : Nat} {l : List Actor} {k : Int} (hl : l.length ≤ 1048576) (hp : ∀ p ∈ l, p.2.length ≤ 1048576) (h0 : 0 ≤ k) (h1 : k ≤ 562949953421312) (hn : 1048576 < n) : heldActorS.f n (mkL mActor l k).1 k = some ((mkL mActor l k).2, ()) := by
  unfold heldActorS.f
  refine heldL_loop (l := l) (k := k) mActor (fun k i => (k, ((i : Int), ()))) (fun ih i hi hg => ?_) (fun ih => ?_) (by omega)
  · have hk := mActor_le (k := k) hl hp i
    have hk2 := mInt_le (k := mkK mActor l k i + 1) (hp _ (List.getElem_mem hi)) l[i].2.length
    rw [mkK_end] at hk2
    have c0 : 0 ≤ (i : Int) := by omega
    have c1 : (i : Int) < ((mkL mActor l k).1.length : Int) := by rw [mkL_len]; omega
    simp only [c1, c0, and_self, chk_T, decide_true, br_true, Int.toNat_natCast, hg]
    rw [w64_succ (by omega)]
    rw [w64_k (k := mkK mActor l k i) (by omega) (by omega)]
    have c3 : ¬ (mkL mInt l[i].2 (mkK mActor l k i + 1)).2 < 0 := by omega
    have hh := heldIntS_spec (n := n) (k := mkK mActor l k i + 1) (hp _ (List.getElem_mem hi)) (by omega) (by omega) hn
    simp [mActor, br, hh, c3]
  · simp only [br_no (show ¬ (l.length : Int) < ((mkL mActor l k).1.length : Int) by rw [mkL_len]; omega)]
theorem markIntSS_spec {n : Nat} {l : List (List Int)} {k : Int} (hl : l.length ≤ 1048576) (hp : ∀ p ∈ l, p.length ≤ 1048576) (h0 : 0 ≤ k) (h1 : k ≤ 562949953421312) (hn : 1048576 < n) : markIntSS.f n l k = some ((mkL mQ l k).2, (mkL mQ l k).1, ()) := by
  unfold markIntSS.f
  refine markL_loop mQ (fun k i m => (k, ((i : Int), (m, ())))) (fun ih i hi m hm hg => ?_) (fun ih m hm e => ?_) (by omega)
  · have hk := mQ_le (k := k) hl hp i
    have him : i < m.length := by omega
    have c0 : 0 ≤ (i : Int) := by omega
    have c1 : (i : Int) < (m.length : Int) := by omega
    have hgi : m[i] = l[i] := by have := hg []; rw [getD_lt him] at this; exact this
    simp only [c1, c0, and_self, chk_T, decide_true, br_true, Int.toNat_natCast]
    rw [w64_succ (by omega)]
    rw [markIntQ_spec him (by rw [hgi]; exact hp _ (List.getElem_mem hi)) (by omega) (by omega) hn, hgi]
    simp [mQ]
  · simp only [br_no (show ¬ (l.length : Int) < (m.length : Int) by omega)]
    rw [← e]
theorem heldIntSS_spec {n : Nat} {l : List (List Int)} {k : Int} (hl : l.length ≤ 1048576) (hp : ∀ p ∈ l, p.length ≤ 1048576) (h0 : 0 ≤ k) (h1 : k ≤ 562949953421312) (hn : 1048576 < n) : heldIntSS.f n (mkL mQ l k).1 k = some ((mkL mQ l k).2, ()) := by
  unfold heldIntSS.f
  refine heldL_loop (l := l) (k := k) mQ (fun k i => (k, ((i : Int), ()))) (fun ih i hi hg => ?_) (fun ih => ?_) (by omega)
  · have hk := mQ_le (k := k) hl hp i
    have hk2 := mInt_le (k := mkK mQ l k i) (hp _ (List.getElem_mem hi)) l[i].length
    rw [mkK_end] at hk2
    have c0 : 0 ≤ (i : Int) := by omega
    have c1 : (i : Int) < ((mkL mQ l k).1.length : Int) := by rw [mkL_len]; omega
    simp only [c1, c0, and_self, chk_T, decide_true, br_true, Int.toNat_natCast, hg]
    rw [w64_succ (by omega)]
    have c3 : ¬ (mkL mInt l[i] (mkK mQ l k i)).2 < 0 := by omega
    have hh := heldIntS_spec (n := n) (k := mkK mQ l k i) (hp _ (List.getElem_mem hi)) (by omega) (by omega) hn
    simp [mQ, br, hh, c3]
  · simp only [br_no (show ¬ (l.length : Int) < ((mkL mQ l k).1.length : Int) by rw [mkL_len]; omega)]
theorem mState_le {s : State} {k : Int} (h : SmallSt s) : k ≤ (mkL mActor s.1 k).2 ∧ (mkL mActor s.1 k).2 ≤ k + 1099512676352 ∧ (mkL mActor s.1 k).2 ≤ (mkL mQ s.2.1 (mkL mActor s.1 k).2).2 ∧ (mkL mQ s.2.1 (mkL mActor s.1 k).2).2 ≤ k + 3298534883328 ∧ k ≤ (mState s k).2 ∧ (mState s k).2 ≤ k + 4398046511104 := by
  have a := mActor_le (k := k) h.actors h.actor s.1.length
  have b := mQ_le (k := (mkL mActor s.1 k).2) h.queues h.queue s.2.1.length
  have c := mQ_le (k := (mkL mQ s.2.1 (mkL mActor s.1 k).2).2) h.sents h.sent s.2.2.1.length
  rw [mkK_end] at a b c
  unfold mState
  simp only
  omega
theorem markState_spec {n : Nat} {s : State} {k : Int} (h : SmallSt s) (h0 : 0 ≤ k) (h1 : k ≤ 281474976710656) (hn : 1048576 < n) : markState.f n s k = some ((mState s k).2, (mState s k).1.1, (mState s k).1.2.1, (mState s k).1.2.2.1, ()) := by
  have a := mState_le (k := k) h
  have b1 := markActorS_spec (n := n) (k := k) h.actors h.actor h0 (by omega) hn
  have b2 := markIntSS_spec (n := n) (k := (mkL mActor s.1 k).2) h.queues h.queue (by omega) (by omega) hn
  have b3 := markIntSS_spec (n := n) (k := (mkL mQ s.2.1 (mkL mActor s.1 k).2).2) h.sents h.sent (by omega) (by omega) hn
  unfold markState.f
  rw [b1, Option.bind_some]
  show ((markIntSS.f n s.2.1 (mkL mActor s.1 k).2).bind _) = _
  rw [b2, Option.bind_some]
  show ((markIntSS.f n s.2.2.1 (mkL mQ s.2.1 (mkL mActor s.1 k).2).2).bind _) = _
  rw [b3]
  rfl
theorem heldState_spec {n : Nat} {s : State} {k : Int} (h : SmallSt s) (h0 : 0 ≤ k) (h1 : k ≤ 281474976710656) (hn : 1048576 < n) : heldState.f n (mState s k).1 k = some ((mState s k).2, ()) := by
  have a := mState_le (k := k) h
  have b1 := heldActorS_spec (n := n) (k := k) h.actors h.actor h0 (by omega) hn
  have b2 := heldIntSS_spec (n := n) (k := (mkL mActor s.1 k).2) h.queues h.queue (by omega) (by omega) hn
  have b3 := heldIntSS_spec (n := n) (k := (mkL mQ s.2.1 (mkL mActor s.1 k).2).2) h.sents h.sent (by omega) (by omega) hn
  unfold heldState.f
  show ((heldActorS.f n (mkL mActor s.1 k).1 k).bind _) = _
  rw [b1, Option.bind_some, br_no (by show ¬ (mkL mActor s.1 k).2 < 0; omega)]
  show ((heldIntSS.f n (mkL mQ s.2.1 (mkL mActor s.1 k).2).1 (mkL mActor s.1 k).2).bind _) = _
  rw [b2, Option.bind_some, br_no (by show ¬ (mkL mQ s.2.1 (mkL mActor s.1 k).2).2 < 0; omega)]
  show ((heldIntSS.f n (mkL mQ s.2.2.1 (mkL mQ s.2.1 (mkL mActor s.1 k).2).2).1 (mkL mQ s.2.1 (mkL mActor s.1 k).2).2).bind _) = _
  have a' : 0 ≤ (mkL mQ s.2.2.1 (mkL mQ s.2.1 (mkL mActor s.1 k).2).2).2 := by have := a.2.2.2.2.1; unfold mState at this; simp only at this; omega
  rw [b3, Option.bind_some, br_no (by show ¬ (mkL mQ s.2.2.1 (mkL mQ s.2.1 (mkL mActor s.1 k).2).2).2 < 0; omega)]
  rfl
end Go.AmT
