/- A step of a process, in plain Lean: both programs make the same. -/
import Derived.Test.YtfoamipegmbcgaaGreatDoorMDkF3
import Derived.Test.YtfoamipegmbcgaaGreatDoorAmE
namespace Go.AmT
open Go Go.Am
set_option linter.unusedVariables false
set_option linter.unusedSimpArgs false
def wr (x:Int):Int:=if 999999<x.tmod 1999999 then x.tmod 1999999-1999999 else if x.tmod 1999999 < -999999 then x.tmod 1999999+1999999 else x.tmod 1999999
theorem tmod_lt (x:Int) : -1999999<x.tmod 1999999∧x.tmod 1999999<1999999:=by
 rcases Int.lt_or_le x 0 with h | h
 ·have h1:=Int.tmod_lt_of_pos (-x) (show (0:Int)<1999999 by omega)
  have h2:=Int.tmod_nonneg (1999999:Int) (show 0≤-x by omega)
  rw [Int.neg_tmod] at h1 h2
  omega
 ·have h1:=Int.tmod_lt_of_pos x (show (0:Int)<1999999 by omega)
  have h2:=Int.tmod_nonneg (1999999:Int) h
  omega
theorem wr_tok (x:Int):tok (wr x)=true:=by
 have:=tmod_lt x
 unfold wr tok
 simp only [Bool.and_eq_true,decide_eq_true_eq]
 split
 ·omega
 ·split<;>omega
theorem iWrap_spec (n:Nat) (x:Int):iWrap.f n x=some (wr x,()):=by
 have:=tmod_lt x
 unfold iWrap.f wr
 generalize x.tmod 1999999=r at this
 simp only [brd]
 split
 ·rw [w64_id (by omega) (by omega)]
 ·split
  ·rw [w64_id (by omega) (by omega)]
  ·rfl
theorem sWrapToken_spec (n:Nat) (x:Int):sWrapToken.f n x=some (wr x,()):=by
 have:=tmod_lt x
 unfold sWrapToken.f wr
 generalize x.tmod 1999999=r at this
 by_cases h:999999<r
 ·rw [br_yes h,if_pos h,w64_id (by omega) (by omega)]
  simp only [cut_inr]
  rw [br_no (by omega)]
 ·rw [br_no h,if_neg h]
  simp only [cut_inr,brd]
  split
  ·rw [w64_id (by omega) (by omega)]
  ·rfl
def rs (x c:Int):Int:=if c=0 then 0 else if x.tmod (max c (-c))<0 then x.tmod (max c (-c))+max c (-c) else x.tmod (max c (-c))
theorem tok_of {x:Int} (h:tok x=true) : -999999≤x∧x≤999999:=by
 unfold tok at h
 simpa using h
theorem tmod_ltm (x m:Int) (hm:0<m) : -m<x.tmod m∧x.tmod m<m:=by
 rcases Int.lt_or_le x 0 with h | h
 ·have h1:=Int.tmod_lt_of_pos (-x) hm
  have h2:=Int.tmod_nonneg m (show 0≤-x by omega)
  rw [Int.neg_tmod] at h1 h2
  omega
 ·have h1:=Int.tmod_lt_of_pos x hm
  have h2:=Int.tmod_nonneg m h
  omega
theorem rs_tok {x c:Int} (hc:tok c=true):tok (rs x c)=true:=by
 have hc:=tok_of hc
 unfold rs
 by_cases h:c=0
 ·rw [if_pos h]; decide
 ·rw [if_neg h]
  have:=tmod_ltm x (max c (-c)) (by omega)
  unfold tok
  simp only [Bool.and_eq_true,decide_eq_true_eq]
  split<;>omega
theorem iRest_spec (n:Nat) {x c:Int} (hc:tok c=true):iRest.f n x c=some (rs x c,()):=by
 have hc:=tok_of hc
 unfold iRest.f rs
 rw [w64_id (by omega) (by omega),Int.zero_sub]
 by_cases h:c=0
 ·rw [br_yes h,if_pos h]
 ·have hm:=tmod_ltm x (max c (-c)) (by omega)
  rw [br_no h,if_neg h,if_neg (by omega)]
  simp only [brd]
  split
  ·rw [w64_id (by omega) (by omega)]
  ·rfl
theorem sL2Rest_spec (n:Nat) {x c:Int} (hc:tok c=true):sL2Rest.f n x c=some (rs x c,()):=by
 have hc:=tok_of hc
 unfold sL2Rest.f rs
 rw [w64_id (by omega) (by omega),Int.zero_sub]
 by_cases h:c=0
 ·rw [br_yes (by omega),if_pos h]
 ·have hm:=tmod_ltm x (max c (-c)) (by omega)
  rw [br_no (by omega),if_neg h,if_neg (by omega)]
  simp only [brd]
  split
  ·rw [w64_id (by omega) (by omega)]
  ·rfl
structure OpOk (size:Int) (x:Instr):Prop where
 op:1≤x.1∧x.1≤11
 a:0≤x.2.1∧x.2.1≤3
 bc:x.1=4∨x.1=5∨x.1=6∨x.1=7→(0≤x.2.2.1∧x.2.2.1≤3)∧0≤x.2.2.2∧x.2.2.2≤3
 b:x.1=8∨x.1=9∨x.1=10→0≤x.2.2.1∧x.2.2.1≤size
 t:x.1=3→tok x.2.2.1=true
theorem opOk_of {ins outs size:Int} {x:Instr} (h:okI ins outs size x=true):OpOk size x:=by
 unfold okI at h
 simp only [reg] at h
 split at h
 ·rename_i c
  simp only [Bool.and_eq_true,decide_eq_true_eq] at h
  exact ⟨by omega,by omega,by omega,by omega,by omega⟩
 ·split at h
  ·rename_i c
   simp only [Bool.and_eq_true,decide_eq_true_eq] at h
   exact ⟨by omega,by omega,by omega,by omega,by omega⟩
  ·split at h
   ·rename_i c
    simp only [Bool.and_eq_true,decide_eq_true_eq] at h
    exact ⟨by omega,by omega,by omega,by omega,fun _=>h.2.1⟩
   ·split at h
    ·rename_i c
     simp only [Bool.and_eq_true,decide_eq_true_eq] at h
     exact ⟨by omega,by omega,by omega,by omega,by omega⟩
    ·split at h
     ·rename_i c
      simp only [Bool.and_eq_true,decide_eq_true_eq] at h
      exact ⟨by omega,by omega,by omega,by omega,by omega⟩
     ·split at h
      ·rename_i c
       simp only [Bool.and_eq_true,decide_eq_true_eq] at h
       exact ⟨by omega,by omega,by omega,by omega,by omega⟩
      ·split at h
       ·rename_i c
        simp only [Bool.and_eq_true,decide_eq_true_eq] at h
        exact ⟨by omega,by omega,by omega,by omega,by omega⟩
       ·simp at h
def rg (regs:List Int) (i:Int):Int:=regs.getD i.toNat 0
def valP (x:Instr) (regs:List Int) (token:Int):Int:=
 if x.1=1 then token else if x.1=3 then x.2.2.1 else if x.1=4 then wr (rg regs x.2.2.1+rg regs x.2.2.2) else if x.1=5 then wr (rg regs x.2.2.1-rg regs x.2.2.2)
 else if x.1=6 then wr (rg regs x.2.2.1*rg regs x.2.2.2) else if x.1=7 then rs (rg regs x.2.2.1) (rg regs x.2.2.2) else rg regs x.2.1
def pcP (x:Instr) (a:Actor):Int:=if x.1=8∨(x.1=9∧rg a.2 x.2.1=0)∨(x.1=10∧rg a.2 x.2.1<0) then x.2.2.1 else a.1+1
def outP (x:Instr) (a:Actor):Int:=if x.1=2 then rg a.2 x.2.1 else 0
def instrP (p:Program) (a:Actor):Instr:=p.2.2.getD a.1.toNat zInstr
def stepA (p:Program) (a:Actor) (token:Int):Actor:=(pcP (instrP p a) a,a.2.set (instrP p a).2.1.toNat (valP (instrP p a) a.2 token))
theorem rg_tok {regs:List Int} {i:Int} (h:okS regs=true):tok (rg regs i)=true:=by
 unfold okS at h
 simp only [Bool.and_eq_true,decide_eq_true_eq,List.all_eq_true] at h
 unfold rg
 by_cases hi:i.toNat<regs.length
 ·rw [getD_lt hi]; exact h.2 _ (List.getElem_mem hi)
 ·rw [List.getD_eq_getElem?_getD,List.getElem?_eq_none (by omega)]; decide
theorem mul_bound {x y:Int} (hx : -999999≤x∧x≤999999) (hy : -999999≤y∧y≤999999) : -1000000000000≤x*y∧x*y≤1000000000000:=by
 have h:(x*y).natAbs≤999999*999999:=by
  rw [Int.natAbs_mul]; exact Nat.mul_le_mul (by omega) (by omega)
 omega
theorem sL2Value_spec {n:Nat} {size:Int} {x:Instr} {regs:List Int} {token:Int} (ho:OpOk size x) (hl:regs.length=4) (hr:okS regs=true):sL2Value.f n x regs token=some (valP x regs token,()):=by
 unfold sL2Value.f valP
 have hb:=tok_of (rg_tok (i:=x.2.2.1) hr)
 have hc:=tok_of (rg_tok (i:=x.2.2.2) hr)
 have hm:=mul_bound hb hc
 simp only [brd]
 split
 ·rfl
 ·split
  ·rfl
  ·split
   ·rename_i h; have:=ho.bc (by omega)
    rw [chk_true (by omega),chk_true (by omega)]
    show ((sWrapToken.f n (w64 (rg regs x.2.2.1+rg regs x.2.2.2))).bind _)=_
    rw [w64_id (by omega) (by omega),sWrapToken_spec]; rfl
   ·split
    ·rename_i h; have:=ho.bc (by omega)
     rw [chk_true (by omega),chk_true (by omega)]
     show ((sWrapToken.f n (w64 (rg regs x.2.2.1-rg regs x.2.2.2))).bind _)=_
     rw [w64_id (by omega) (by omega),sWrapToken_spec]; rfl
    ·split
     ·rename_i h; have:=ho.bc (by omega)
      rw [chk_true (by omega),chk_true (by omega)]
      show ((sWrapToken.f n (w64 (rg regs x.2.2.1*rg regs x.2.2.2))).bind _)=_
      rw [w64_id (by omega) (by omega),sWrapToken_spec]; rfl
     ·split
      ·rename_i h; have:=ho.bc (by omega)
       rw [chk_true (by omega),chk_true (by omega)]
       show ((sL2Rest.f n (rg regs x.2.2.1) (rg regs x.2.2.2)).bind _)=_
       rw [sL2Rest_spec n (rg_tok hr)]; rfl
      ·have:=ho.a
       rw [chk_true (by omega)]; rfl
theorem valP_tok {size:Int} {x:Instr} {regs:List Int} {token:Int} (ho:OpOk size x) (hr:okS regs=true) (ht:tok token=true):tok (valP x regs token)=true:=by
 unfold valP
 repeat' split
 ·exact ht
 ·rename_i h; exact ho.t h
 ·exact wr_tok _
 ·exact wr_tok _
 ·exact wr_tok _
 ·exact rs_tok (rg_tok hr)
 ·exact rg_tok hr
theorem instr_ok {p:Program} {a:Actor} (hp:okP p=true) (h0:0≤a.1) (h1:a.1<(p.2.2.length:Int)):OpOk (p.2.2.length:Int) (instrP p a):=by
 unfold okP at hp
 simp only [Bool.and_eq_true,List.all_eq_true] at hp
 have hlt:a.1.toNat<p.2.2.length:=by omega
 unfold instrP
 rw [getD_lt hlt]
 exact opOk_of (hp.2 _ (List.getElem_mem hlt))
theorem okA_regs {p:Program} {a:Actor} (h:okA p a=true):a.2.length=4∧okS a.2=true:=by
 unfold okA at h
 simp only [Bool.and_eq_true,decide_eq_true_eq] at h
 exact ⟨h.2.2.1,h.2.2.2⟩
theorem sL1Copy_run {n:Nat} {a:List Int} (h:a.length≤1048576):sL1Copy.f n a=some (a,()):=by
 unfold sL1Copy.f
 rw [small_chk (by simp; omega)]; rfl
theorem sL2Step_spec {n:Nat} {p:Program} {a:Actor} {token:Int} (hp:okP p=true) (ha:okA p a=true) (h1:a.1<(p.2.2.length:Int)):sL2Step.f n p a token=some (stepA p a token,(outP (instrP p a) a,())):=by
 have hpc:=okA_pc ha
 obtain ⟨hl,hr⟩:=okA_regs ha
 have O:=instr_ok hp hpc.1 h1
 have hlen:p.2.2.length≤24:=by
  unfold okP at hp
  simp only [Bool.and_eq_true,decide_eq_true_eq] at hp
  omega
 unfold sL2Step.f stepA
 rw [chk_true (by omega),sL1Copy_run (by omega)]
 simp only [Option.bind_some]
 rw [show p.2.2.getD a.1.toNat zInstr=instrP p a from rfl]
 generalize instrP p a=x at O
 have hA:=O.a
 have cA:0≤x.2.1∧x.2.1<(a.2.length:Int):=by omega
 simp only [chk_true cA]
 have e1:br (decide (x.1=2)) (some (Sum.inr (α:=Actor×(Int×Unit)) (a.2.getD x.2.1.toNat 0,()))) (some (.inr (0,())))=some (.inr (outP x a,())):=by
  unfold outP rg; by_cases h:x.1=2<;>simp [h,br]
 rw [e1]
 simp only [cut_inr]
 have e2:br (decide (x.1=8)) (some (Sum.inr (α:=Actor×(Int×Unit)) (true,()))) (br (decide (x.1=9)) (br (decide (a.2.getD x.2.1.toNat 0=0)) (some (.inr (true,()))) (br (decide (x.1=10)) (some (.inr ((decide (a.2.getD x.2.1.toNat 0<0)),()))) (some (.inr (false,()))))) (br (decide (x.1=10)) (some (.inr ((decide (a.2.getD x.2.1.toNat 0<0)),()))) (some (.inr (false,()))))) =
   some (.inr (decide (x.1=8∨(x.1=9∧rg a.2 x.2.1=0)∨(x.1=10∧rg a.2 x.2.1<0)),())):=by
  unfold rg
  generalize a.2.getD x.2.1.toNat 0=v
  by_cases h8:x.1=8
  ·simp [h8,br]
  ·by_cases h9:x.1=9
   ·by_cases hz:v=0<;>simp [h9,hz,br]
   ·by_cases h10:x.1=10
    ·simp [h8,h9,h10,br]
    ·simp [h8,h9,h10,br]
 rw [e2]
 simp only [cut_inr]
 have e3:br (decide (x.1=8∨(x.1=9∧rg a.2 x.2.1=0)∨(x.1=10∧rg a.2 x.2.1<0))) (some (Sum.inr (α:=Actor×(Int×Unit)) (x.2.2.1,(a.2,())))) (some (.inr ((w64 (a.1+1)),(a.2,()))))=some (.inr (pcP x a,(a.2,()))):=by
  unfold pcP
  rw [w64_id (by omega) (by omega),brd]
  split<;>rfl
 rw [e3]
 simp only [cut_inr]
 rw [sL2Value_spec O hl hr]
 simp only [Option.bind_some]
 rw [chk_true (by omega)]
theorem set_rg {l:List Int} {i:Int} (h:0≤i∧i<(l.length:Int)):l.set i.toNat (rg l i)=l:=by
 unfold rg
 rw [getD_lt (by omega)]; exact List.set_getElem_self _
theorem stepR_spec {n:Nat} {p:Program} {al:List Actor} {k:Nat} {token:Int} (hk:k<al.length) (hp:okP p=true) (ha:okA p al[k]=true) (h1:al[k].1<(p.2.2.length:Int)) :
  stepR.f n p.1 p.2.1 p.2.2 k token al=some (outP (instrP p al[k]) al[k],(al.set k (stepA p al[k] token),())):=by
 have hpc:=okA_pc ha
 obtain ⟨hl,hr⟩:=okA_regs ha
 have O:=instr_ok hp hpc.1 h1
 have hlen:p.2.2.length≤24:=by
  unfold okP at hp
  simp only [Bool.and_eq_true,decide_eq_true_eq] at hp
  omega
 unfold stepR.f stepA
 rw [getD_lt hk]
 generalize al[k]=a at *
 rw [chk_true (by omega),w64_id (n:=a.1+1) (by omega) (by omega),show p.2.2.getD a.1.toNat zInstr=instrP p a from rfl]
 generalize instrP p a=x at O
 have hA:=O.a
 have cA:0≤x.2.1∧x.2.1<(a.2.length:Int):=by omega
 have hs:=set_rg cA
 have hb:=tok_of (rg_tok (i:=x.2.2.1) hr)
 have hc:=tok_of (rg_tok (i:=x.2.2.2) hr)
 have hm:=mul_bound hb hc
 simp only [getD_set_same hk,List.set_set,chk_true cA]
 have hop:x.1=1∨x.1=2∨x.1=3∨x.1=4∨x.1=5∨x.1=6∨x.1=7∨x.1=8∨x.1=9∨x.1=10∨x.1=11:=by have:=O.op; omega
 have hbc:=O.bc
 unfold pcP outP valP
 have r0:∀ i,a.2.getD (Int.toNat i) 0=rg a.2 i:=fun i=>rfl
 simp only [r0]
 rcases hop with h | h | h | h | h | h | h | h | h | h | h
 ·simp only [h,decide_true,decide_false,br_true,br_false,Int.reduceEq,↓reduceIte,false_or,false_and,or_false]
 ·simp only [h,decide_true,decide_false,br_true,br_false,Int.reduceEq,↓reduceIte,false_or,false_and,or_false,hs]
 ·simp only [h,decide_true,decide_false,br_true,br_false,Int.reduceEq,↓reduceIte,false_or,false_and,or_false]
 ·have:=hbc (by omega)
  simp only [h,decide_true,decide_false,br_true,br_false,Int.reduceEq,↓reduceIte,false_or,false_and,or_false]
  rw [chk_true (by omega),chk_true (by omega),w64_id (by omega) (by omega),iWrap_spec]; rfl
 ·have:=hbc (by omega)
  simp only [h,decide_true,decide_false,br_true,br_false,Int.reduceEq,↓reduceIte,false_or,false_and,or_false]
  rw [chk_true (by omega),chk_true (by omega),w64_id (by omega) (by omega),iWrap_spec]; rfl
 ·have:=hbc (by omega)
  simp only [h,decide_true,decide_false,br_true,br_false,Int.reduceEq,↓reduceIte,false_or,false_and,or_false]
  rw [chk_true (by omega),chk_true (by omega),w64_id (by omega) (by omega),iWrap_spec]; rfl
 ·have:=hbc (by omega)
  simp only [h,decide_true,decide_false,br_true,br_false,Int.reduceEq,↓reduceIte,false_or,false_and,or_false]
  rw [chk_true (by omega),chk_true (by omega),iRest_spec n (rg_tok hr)]; rfl
 ·simp only [h,decide_true,decide_false,br_true,br_false,Int.reduceEq,↓reduceIte,true_or,false_or,false_and,or_false,hs]
 ·simp only [h,decide_true,decide_false,br_true,br_false,Int.reduceEq,↓reduceIte,false_or,false_and,or_false,true_and,hs,brd]
  split<;>rfl
 ·simp only [h,decide_true,decide_false,br_true,br_false,Int.reduceEq,↓reduceIte,false_or,false_and,or_false,true_and,hs,brd]
  split<;>rfl
 ·simp only [h,decide_true,decide_false,br_true,br_false,Int.reduceEq,↓reduceIte,false_or,false_and,or_false,hs]
theorem stepA_ok {p:Program} {a:Actor} {token:Int} (hp:okP p=true) (ha:okA p a=true) (h1:a.1<(p.2.2.length:Int)) (ht:tok token=true):okA p (stepA p a token)=true∧tok (outP (instrP p a) a)=true:=by
 have hpc:=okA_pc ha
 obtain ⟨hl,hr⟩:=okA_regs ha
 have O:=instr_ok hp hpc.1 h1
 have hv:=valP_tok O hr ht
 have hb:=O.b
 refine ⟨?_,?_⟩
 ·unfold okA stepA pcP
  simp only [Bool.and_eq_true,decide_eq_true_eq,List.length_set]
  refine ⟨?_,?_,hl,?_⟩
  ·split<;>omega
  ·split<;>omega
  ·unfold okS at hr ⊢
   simp only [Bool.and_eq_true,decide_eq_true_eq,List.all_eq_true,List.length_set] at hr ⊢
   refine ⟨hr.1,fun y hy=>?_⟩
   rcases List.mem_or_eq_of_mem_set hy with hy | rfl
   ·exact hr.2 y hy
   ·exact hv
 ·unfold outP
  split
  ·exact rg_tok hr
  ·decide
def tokenOf (nt:Network) (s:State) (k:Nat):Int:=if (wantOf nt s k).1=2 then (s.2.1.getD (linkOf nt s k).toNat []).getD 0 0 else 0
def outOf (nt:Network) (s:State) (k:Nat):Int:=outP (instrP (prog nt k) (actor s k)) (actor s k)
def stepP (nt : Network) (s : State) (k : Nat) : State :=
  (s.1.set k (stepA (prog nt k) (actor s k) (tokenOf nt s k)),
   if (wantOf nt s k).1 = 2 then s.2.1.set (linkOf nt s k).toNat ((s.2.1.getD (linkOf nt s k).toNat []).drop 1) else if (wantOf nt s k).1 = 3 then s.2.1.set (linkOf nt s k).toNat (s.2.1.getD (linkOf nt s k).toNat [] ++ [outOf nt s k]) else s.2.1,
   if (wantOf nt s k).1 = 3 then s.2.2.1.set (linkOf nt s k).toNat (s.2.2.1.getD (linkOf nt s k).toNat [] ++ [outOf nt s k]) else s.2.2.1,
   s.2.2.2 + 1)
theorem wantP_pc {p:Program} {a:Actor} (h:(wantP p a).1≠0):a.1≠(p.2.2.length:Int):=by
 intro e
 unfold wantP at h
 rw [if_pos e] at h
 exact h rfl
theorem canP_facts {nt:Network} {s:State} {k:Nat} (h:canP nt s k=true):(wantOf nt s k).1≠0∧s.2.2.2<20000∧((wantOf nt s k).1=2→0<(s.2.1.getD (linkOf nt s k).toNat []).length)∧((wantOf nt s k).1=3→(s.2.2.1.getD (linkOf nt s k).toNat []).length<400):=by
 unfold canP at h
 split at h
 ·simp at h
 ·rename_i h0
  have h0:(wantOf nt s k).1≠0∧¬ 20000≤s.2.2.2:=by
   constructor
   ·exact fun e=>h0 (.inl e)
   ·exact fun e=>h0 (.inr e)
  refine ⟨h0.1,by omega,fun h2=>?_,fun h3=>?_⟩
  ·rw [if_pos h2,decide_eq_true_eq] at h; omega
  ·rw [if_neg (by omega),if_pos h3,decide_eq_true_eq] at h; omega
theorem runStep_spec {n:Nat} {nt:Network} {s:State} {k:Nat} {r:Run} (R:IsRun nt s r) (o:OkSt nt s) (hs:SmallSt s) (hk:k<nt.1.length) (hc:canP nt s k=true) (hn:1048576<n) :
  runStep.f n (k:Int) r.1.1 r.1.2 r.2.1.2.2.2 r.2.2.2.2 r.2.1.1 r.2.1.2.1 r.2.1.2.2.1 r.2.2.1 r.2.2.2.1 =
   some (r.1.1,(r.1.2,((stepP nt s k).2.2.2,(r.2.2.2.2,((stepP nt s k).1,((stepP nt s k).2.1,((stepP nt s k).2.2.1,(r.2.2.1,(r.2.2.2.1,()))))))))):=by
 obtain ⟨w0,w20,w2,w3⟩:=canP_facts hc
 have hks:k<s.1.length:=by rw [o.na]; exact hk
 have ha:=o.act k hk
 have hp:=o.net.prog k hk
 have hst:=o.steps
 have hpc:(s.1.getD k zActor).1<((nt.1.getD k zProgram).2.2.length:Int):=by
  have h1:=(okA_pc ha).2
  have h2:=wantP_pc (p:=nt.1.getD k zProgram) (a:=s.1.getD k zActor) w0
  omega
 have hstep:∀ token,stepR.f n (nt.1.getD k zProgram).1 (nt.1.getD k zProgram).2.1 (nt.1.getD k zProgram).2.2 k token s.1=some (outOf nt s k,(s.1.set k (stepA (prog nt k) (actor s k) token),())):=fun token=>by
  have:=stepR_spec (n:=n) (p:=nt.1.getD k zProgram) (al:=s.1) (token:=token) hks (by rw [getD_lt hk]; exact hp) (by rw [getD_lt hks] at ha; exact ha) (by rw [getD_lt hks] at hpc; exact hpc)
  rw [this,← getD_lt hks zActor]; rfl
 have hq:=o.nq
 have hns:=o.ns
 have hwt:=wants_spec (n:=n) R o hk
 obtain ⟨r1,r2,to,fr,cp⟩:=r
 obtain ⟨e1,e2,-,-⟩:=R
 have e1:r1=nt:=e1
 have e2:r2=s:=e2
 subst e1 e2
 unfold runStep.f stepP tokenOf
 simp only
 have hwt:wants.f n ((r1.1,r1.2),((r2.1,(r2.2.1,(r2.2.2.1,r2.2.2.2))),(to,(fr,cp)))) (k:Int)=some ((wantOf r1 r2 k).1,(linkOf r1 r2 k,())):=hwt
 rw [hwt]
 simp only [Option.bind_some,Int.toNat_natCast]
 by_cases c2:(wantOf r1 r2 k).1=2
 ·obtain ⟨j,hj,e,-⟩:=linkOf_to o hk c2
  have hlen:=w2 c2
  rw [e,Int.toNat_natCast] at hlen ⊢
  have c3:¬ (wantOf r1 r2 k).1=3:=by omega
  rw [br_yes c2,chk_true (by omega),chk_true (by omega),chk_true (by omega),chk_true (by omega),chk_true (by omega),chk_true (by trivial),List.take_of_length_le (by simp)]
  simp only [cut_inr]
  rw [chk_true (by omega),chk_true (by omega),hstep]
  simp only [Option.bind_some]
  rw [br_no c3]
  simp only [cut_inr]
  rw [w64_id (by omega) (by omega),if_pos c2,if_pos c2,if_neg c3]
 ·rw [br_no c2]
  simp only [cut_inr]
  rw [chk_true (by omega),chk_true (by omega),hstep]
  simp only [Option.bind_some]
  by_cases c3:(wantOf r1 r2 k).1=3
  ·obtain ⟨j,hj,e,-⟩:=linkOf_from o hk c3
   have hlen:=w3 c3
   rw [e,Int.toNat_natCast] at hlen ⊢
   have hql:(r2.2.1.getD j []).length≤1048576:=by rw [getD_lt (by omega)]; exact hs.queue _ (List.getElem_mem (by omega))
   rw [br_yes c3,chk_true (by omega),small_chk (by simp only [List.length_singleton]; omega),chk_true (by omega),chk_true (by trivial),chk_true (by omega),small_chk (by simp only [List.length_singleton]; omega),chk_true (by omega),chk_true (by trivial)]
   simp only [cut_inr]
   rw [w64_id (by omega) (by omega),if_neg c2,if_neg c2,if_pos c3,if_pos c3]
  ·rw [br_no c3]
   simp only [cut_inr]
   rw [w64_id (by omega) (by omega),if_neg c2,if_neg c2,if_neg c3,if_neg c3]
theorem IsRun.step {nt:Network} {s s':State} {r:Run} (R:IsRun nt s r):IsRun nt s' (r.1,(s',r.2.2)):=⟨R.net,rfl,R.to,R.fr⟩
theorem okS_len {q:List Int} (h:okS q=true):q.length≤400∧∀ x∈q,tok x=true:=by
 unfold okS at h
 simpa only [Bool.and_eq_true,decide_eq_true_eq,List.all_eq_true] using h
theorem okS_of {q:List Int} (h1:q.length≤400) (h2:∀ x∈q,tok x=true):okS q=true:=by
 unfold okS
 simpa only [Bool.and_eq_true,decide_eq_true_eq,List.all_eq_true] using ⟨h1,h2⟩
theorem small_of_ok {nt:Network} {s:State} (o:OkSt nt s):SmallSt s:=by
 have h1:=o.na
 have h2:=o.nq
 have h3:=o.ns
 have hp:=o.net.progs
 have hl:=o.net.links
 refine ⟨by omega,fun a ha=>?_,by omega,fun q hq=>?_,by omega,fun q hq=>?_⟩
 ·obtain ⟨i,hi,rfl⟩:=List.mem_iff_getElem.1 ha
  have:=o.act i (by omega)
  rw [getD_lt hi] at this
  have:=(okA_regs this).1; omega
 ·obtain ⟨i,hi,rfl⟩:=List.mem_iff_getElem.1 hq
  have:=(o.lnk i (by omega)).qs
  rw [getD_lt hi] at this
  have:=(okS_len this).1; omega
 ·obtain ⟨i,hi,rfl⟩:=List.mem_iff_getElem.1 hq
  have:=(o.lnk i (by omega)).hs
  rw [getD_lt hi] at this
  have:=(okS_len this).1; omega
theorem token_ok {nt:Network} {s:State} {k:Nat} (o:OkSt nt s) (hk:k<nt.1.length):tok (tokenOf nt s k)=true:=by
 unfold tokenOf
 split
 ·rename_i h
  obtain ⟨j,hj,e,-⟩:=linkOf_to o hk h
  rw [e,Int.toNat_natCast]
  have hq:=(okS_len (o.lnk j hj).qs).2
  by_cases h0:0<(s.2.1.getD j []).length
  ·rw [getD_lt h0]; exact hq _ (List.getElem_mem h0)
  ·rw [List.getD_eq_getElem?_getD,List.getElem?_eq_none (by omega)]; decide
 ·decide
theorem stepP_ok {nt:Network} {s:State} {k:Nat} (o:OkSt nt s) (hk:k<nt.1.length) (hc:canP nt s k=true):OkSt nt (stepP nt s k):=by
 obtain ⟨w0,w20,w2,w3⟩:=canP_facts hc
 have hks:k<s.1.length:=by rw [o.na]; exact hk
 have ha:=o.act k hk
 have hp:=o.net.prog k hk
 have hst:=o.steps
 have hpc:(s.1.getD k zActor).1<((nt.1.getD k zProgram).2.2.length:Int):=by
  have h1:=(okA_pc ha).2
  have h2:=wantP_pc (p:=nt.1.getD k zProgram) (a:=s.1.getD k zActor) w0
  omega
 have hA:=stepA_ok (p:=nt.1.getD k zProgram) (a:=s.1.getD k zActor) (by rw [getD_lt hk]; exact hp) ha hpc (token_ok o hk)
 have hO:tok (outOf nt s k)=true:=hA.2
 have hq:=o.nq
 have hns:=o.ns
 refine ⟨o.net,by simp [stepP,o.na],?_,?_,?_,fun i hi=>?_,fun i hi=>?_⟩
 ·unfold stepP; simp only
  split
  ·simp [hq]
  ·split<;>simp [hq]
 ·unfold stepP; simp only
  split<;>simp [hns]
 ·show 0≤s.2.2.2+1∧s.2.2.2+1≤20000
  omega
 ·show okA _ ((s.1.set k _).getD i zActor)=true
  by_cases hik:k=i
  ·subst hik
   rw [getD_set_same hks]; exact hA.1
  ·rw [getD_set_ne hik]; exact o.act i hi
 ·have L:=o.lnk i hi
  show LinkSt _ ((stepP nt s k).2.1.getD i []) ((stepP nt s k).2.2.1.getD i [])
  unfold stepP
  simp only
  by_cases c2:(wantOf nt s k).1=2
  ·obtain ⟨j,hj,e,e2,-⟩:=linkOf_to o hk c2
   rw [if_pos c2,if_neg (show ¬ (wantOf nt s k).1=3 by omega),e,Int.toNat_natCast]
   by_cases hij:j=i
   ·subst hij
    rw [getD_set_same (by omega)]
    have h1:=okS_len L.qs
    refine ⟨okS_of (by rw [List.length_drop]; omega) (fun x hx=>h1.2 x (List.mem_of_mem_drop hx)),L.hs,L.pre,(List.drop_suffix 1 _).trans L.suf,L.inp,fun h=>?_⟩
    rw [getD_lt hj] at h
    omega
   ·rw [getD_set_ne hij]; exact L
  ·rw [if_neg c2]
   by_cases c3:(wantOf nt s k).1=3
   ·obtain ⟨j,hj,e,e2,-⟩:=linkOf_from o hk c3
    have hlen:=w3 c3
    rw [if_pos c3,if_pos c3]
    rw [e,Int.toNat_natCast] at hlen ⊢
    by_cases hij:j=i
    ·subst hij
     rw [getD_set_same (by omega),getD_set_same (by omega)]
     have h1:=okS_len L.qs
     have h2:=okS_len L.hs
     have h3:=L.suf.length_le
     refine ⟨okS_of (by rw [List.length_append,List.length_singleton]; omega) (fun x hx=>?_),okS_of (by rw [List.length_append,List.length_singleton]; omega) (fun x hx=>?_),L.pre.trans (List.prefix_append _ _),?_,fun h=>?_,fun h=>?_⟩
     ·rcases List.mem_append.1 hx with hx | hx
      ·exact h1.2 x hx
      ·rw [List.mem_singleton.1 hx]; exact hO
     ·rcases List.mem_append.1 hx with hx | hx
      ·exact h2.2 x hx
      ·rw [List.mem_singleton.1 hx]; exact hO
     ·obtain ⟨t,ht⟩:=L.suf
      exact ⟨t,by rw [← ht,List.append_assoc]⟩
     ·rw [getD_lt hj] at h; omega
     ·have:=L.out h
      rw [List.length_append,List.length_append,this]
    ·rw [getD_set_ne hij,getD_set_ne hij]; exact L
   ·rw [if_neg c3,if_neg c3]; exact L
theorem okS_get {s:List Int} (h:okS s=true) (i:Nat):tok (s.getD i 0)=true:=rg_tok (i:=(i:Int)) h
theorem okP_n {p:Program} (hp:okP p=true):0≤p.1∧p.1≤3∧0≤p.2.1∧p.2.1≤3∧p.2.2.length≤24:=by
 unfold okP at hp
 simp only [Bool.and_eq_true,decide_eq_true_eq] at hp
 omega
end Go.AmT
namespace Go.AmT
open Go Go.Am Go.Proofs
set_option linter.unusedVariables false
set_option maxRecDepth 100000
def tys7:List (Nat×TInfo):=[(3,⟨false,1,8,[.int .i64 0],.int .i64,0,some I,[],false⟩),
 (26,⟨true,2,48,[.nil,.nil],.struct,0,some tNetwork,[(0,23),(1,24)],false⟩),
 (31,⟨true,4,80,[.nil,.nil,.nil,.int .i64 0],.struct,0,some tState,[(0,28),(1,29),(2,29),(3,3)],false⟩),
 (32,⟨false,1,24,[.nil],.slice,3,some IS,[],false⟩)]
theorem tys7_ok:(tys7.all fun p=>tokB Tryz.prog p.1 p.2)=true:=by kernel_rfl
def iBounded.las:List (Nat×LA):=[]
noncomputable def iBounded.f (n:Nat) (a0:Network) (a1:State) (a2:List Int):Option (Bool×Unit):=(iIsState.f n a0 a1).bind fun r1=>br r1.1 ((iAre.f n a0 a2).bind fun r2=>some (r2.1,())) (some (false,()))
noncomputable def iBounded.mng (n:Nat):Mng:=⟨[.val tNetwork,.val tState,.val IS],[.val .bool],fun x=>iBounded.f n x.1 x.2.1 x.2.2.1⟩
noncomputable def iBounded.cfg (n:Nat):Cfg:=⟨tys7,[(38,iIsState.mng n),(61,iAre.mng n)],[],[]⟩
theorem iBounded.gof:GoF Tryz.prog 43:=⟨_,Tryz.func43,by kernel_rfl,by kernel_rfl⟩
theorem iBounded.sound (n:Nat):Sound Tryz.prog 43 (iBounded.mng n):=sndF (c:=iBounded.cfg n) (n:=n) (an:=annOf Tryz.f43 iBounded.las) ⟨⟨iIsState.sound n,iIsState.gof⟩,⟨⟨iAre.sound n,iAre.gof⟩,trivial⟩⟩ trivial (tysOK tys7_ok) Tryz.func43 (fun x=>by kernel_rfl)
def boundedRun.las:List (Nat×LA):=[]
def boundedRun.la:LA:=⟨[(0,.agg [.sh tProgram,.sh tLink]),(1,.agg [.sh tActor,.sh IS,.sh IS,.int .i64]),(2,.sh I)],[],[],[]⟩
def boundedRun.lb:LA:=⟨[(0,.vptr 1000 0)],[(1000,.cells [] [.sh tProgram,.sh tLink,.own 1001 tActor,.own 1002 IS,.own 1003 IS,.int .i64,.own 1004 IS,.own 1005 IS,.osh I]),(1001,.row true tActor),(1002,.row true IS),(1003,.row true IS),(1004,.row true IS),(1005,.row true IS)],[],[]⟩
noncomputable def boundedRun.f (n:Nat) (a0:List Program) (a1:List Link) (a2:List Actor) (a3:List (List Int)) (a4:List (List Int)) (a5:Int) (a6:List Int):Option ((List Program)×(List Link)×(Int×(Option (List Int))×(List Actor)×(List (List Int))×(List (List Int))×(List (List Int))×(List (List Int))×Unit)):=chk (a6.length*8≤maxB) ((newRun.f n a0 a1 a2 a3 a4 a5 ((some a6):Option (List Int))).bind fun r1=>some (r1.1,(r1.2.1,(r1.2.2.1,(r1.2.2.2.1,(r1.2.2.2.2.1,(r1.2.2.2.2.2.1,(r1.2.2.2.2.2.2.1,(r1.2.2.2.2.2.2.2.1,(r1.2.2.2.2.2.2.2.2.1,()))))))))))
noncomputable def boundedRun.mng (n:Nat):LMng:=⟨boundedRun.la,boundedRun.lb,fun x=>boundedRun.f n x.1 x.2.1 x.2.2.1 x.2.2.2.1 x.2.2.2.2.1 x.2.2.2.2.2.1 x.2.2.2.2.2.2.1⟩
noncomputable def boundedRun.cfg (n:Nat):Cfg:=⟨tys7,[],[(39,newRun.mng n)],[27]⟩
theorem boundedRun.gof:GoF Tryz.prog 44:=⟨_,Tryz.func44,by kernel_rfl,by kernel_rfl⟩
theorem boundedRun.sound (n:Nat):LSound Tryz.prog 44 (boundedRun.mng n):=sndL (c:=boundedRun.cfg n) (n:=n) (an:=annOf Tryz.f44 boundedRun.las) trivial ⟨⟨newRun.sound n,newRun.gof⟩,trivial⟩ (tysOK tys7_ok) Tryz.func44 (fun x=>by kernel_rfl)
end Go.AmT
namespace Go.AmT
open Go Go.Am
set_option linter.unusedVariables false
set_option linter.unusedSimpArgs false
theorem okSt_true {nt:Network} {s:State} (o:OkSt nt s):okSt nt s=true:=decide_eq_true o
theorem okN_true {nt:Network} (o:OkN nt):okN nt=true:=decide_eq_true o
theorem okSt_of {nt:Network} {s:State} (h:okSt nt s=true):OkSt nt s:=of_decide_eq_true h
theorem okN_of {nt:Network} {s:State} (h:okSt nt s=true):okN nt=true:=by
 have:=(okSt_of h).net
 simp [okN,this]
theorem iBounded_spec {n:Nat} {nt:Network} {s:State} {caps:List Int} (h:SmallN nt) (hs:SmallSt s) (hc:caps.length≤1048576) (hn:1048576<n):iBounded.f n nt s caps=some (okSt nt s&&okC nt.2 caps,()):=by
 unfold iBounded.f
 rw [iIsState_spec h hs hn,iAre_spec h hc hn]
 cases e:okSt nt s
 ·rfl
 ·simp [okN_of e,br]
theorem okC_len {ls:List Link} {caps:List Int} (h:okC ls caps=true):caps.length=ls.length:=by
 unfold okC at h
 simp only [Bool.and_eq_true,decide_eq_true_eq] at h
 exact h.1
def mayP (nt:Network) (s:State) (caps:List Int) (k:Nat):Bool:=
 canP nt s k&&(!decide ((wantOf nt s k).1=3)||(decide ((nt.2.getD (linkOf nt s k).toNat zLink).2.2.1<0)||decide (((s.2.1.getD (linkOf nt s k).toNat []).length:Int)<caps.getD (linkOf nt s k).toNat 0)))
theorem boundedRun_spec {n:Nat} {nt:Network} {s:State} {caps:List Int} (o:OkSt nt s) (h:SmallSt s) (hc:caps.length≤1048576) (hn:1048576<n) :
  W (boundedRun.f n nt.1 nt.2 s.1 s.2.1 s.2.2.1 s.2.2.2 caps) (fun r=>IsRun nt s ((r.1,r.2.1),((r.2.2.2.2.1,(r.2.2.2.2.2.1,(r.2.2.2.2.2.2.1,r.2.2.1))),(r.2.2.2.2.2.2.2.1,(r.2.2.2.2.2.2.2.2.1,r.2.2.2.1))))∧r.2.2.2.1=some caps):=by
 unfold boundedRun.f
 rw [small_chk (by omega),W_bind]
 refine W_and (newRun_spec o.net h hn) (fun r ⟨to,fr,e,T,F⟩=>?_)
 subst e
 rw [W_some]
 exact ⟨⟨rfl,rfl,T,F⟩,rfl⟩
theorem may_spec {n:Nat} {nt:Network} {s:State} {caps:List Int} {r:Run} (R:IsRun nt s r) (o:OkSt nt s) (hc:caps.length=nt.2.length) (e:r.2.2.2.2=some caps) {k:Nat} (hk:k<nt.1.length):may.f n r (k:Int)=some (mayP nt s caps k,()):=by
 unfold may.f mayP
 rw [can_spec R o hk,wants_spec R o hk,e,R.st,R.net]
 simp only [Option.bind_some,Option.isNone_some,Option.getD_some]
 have hq:=o.nq
 cases hcan:canP nt s k
 ·rfl
 ·simp only [Bool.not_true,br_false,cut_inr,Bool.true_and]
  by_cases c3:(wantOf nt s k).1=3
  ·obtain ⟨j,hj,e,-⟩:=linkOf_from o hk c3
   rw [e]
   simp only [c3,decide_true,Bool.not_true,br_false,Int.toNat_natCast,Bool.false_or]
   rw [chk_true (by omega),chk_true (by omega),chk_true (by omega)]
   cases decide ((nt.2.getD j zLink).2.2.1<0)<;>rfl
  ·simp [c3,br]
def anyMay (nt:Network) (s:State) (caps:List Int):Bool:=(List.range nt.1.length).any (mayP nt s caps)
end Go.AmT
namespace Go.AmT
open Go Go.Am
set_option linter.unusedVariables false
set_option linter.unusedSimpArgs false
section
variable {σ:Type} (g:σ→Nat→Bool) (st:σ→Nat→σ) (most:Int)
def one (x:Int×σ) (k:Nat):Int×σ:=if x.1<most∧g x.2 k=true then (x.1+1,st x.2 k) else x
def sweep (x:Int×σ):Nat→Int×σ
 | 0=>x
 | i+1=>one g st most (sweep x i) i
def turnsF (K:Nat):Nat→Int×σ→Int×σ
 | 0,x=>x
 | m+1,x=>if (List.range K).any (g x.2)=true∧x.1<most then turnsF K m (sweep g st most x K) else x
variable {g st most} {K:Nat} {J:Int×σ→Prop} {μ:Int×σ→Nat}
def Good (g:σ→Nat→Bool) (st:σ→Nat→σ) (most:Int) (K:Nat) (J:Int×σ→Prop) (μ:Int×σ→Nat):Prop:=
 ∀ x k,J x→k<K→x.1<most→g x.2 k=true→J (x.1+1,st x.2 k)∧μ (x.1+1,st x.2 k)<μ x
theorem one_good (hG:Good g st most K J μ) {x:Int×σ} {k:Nat} (hx:J x) (hk:k<K):J (one g st most x k)∧μ (one g st most x k)≤μ x:=by
 unfold one
 split
 ·rename_i h; have:=hG x k hx hk h.1 h.2; exact ⟨this.1,by omega⟩
 ·exact ⟨hx,Nat.le_refl _⟩
theorem sweep_good (hG:Good g st most K J μ) {x:Int×σ} (hx:J x):∀ i,i≤K→J (sweep g st most x i)∧μ (sweep g st most x i)≤μ x
 | 0,_=>⟨hx,Nat.le_refl _⟩
 | i+1,hi=>by
  have h1:=sweep_good hG hx i (by omega)
  have h2:=one_good hG h1.1 (show i<K by omega)
  exact ⟨h2.1,Nat.le_trans h2.2 h1.2⟩
theorem sweep_or (hG:Good g st most K J μ) {x:Int×σ} (hx:J x):∀ i,i≤K→(sweep g st most x i=x∧(x.1<most→∀ j,j<i→g x.2 j=false))∨μ (sweep g st most x i)<μ x
 | 0,_=>.inl ⟨rfl,fun _ j hj=>by omega⟩
 | i+1,hi=>by
  have hJ:=sweep_good hG hx i (by omega)
  rcases sweep_or hG hx i (by omega) with ⟨h1,h2⟩ | h
  ·show (one g st most (sweep g st most x i) i=x∧_)∨_
   by_cases hc:x.1<most∧g x.2 i=true
   ·refine .inr ?_
    show μ (one g st most (sweep g st most x i) i)<μ x
    rw [h1]
    unfold one
    rw [if_pos hc]
    exact (hG x i hx (by omega) hc.1 hc.2).2
   ·refine .inl ⟨by rw [h1]; unfold one; rw [if_neg hc],fun hm j hj=>?_⟩
    rcases Nat.lt_or_ge j i with h | h
    ·exact h2 hm j h
    ·rw [show j=i by omega]
     cases hg:g x.2 i
     ·rfl
     ·exact absurd ⟨hm,hg⟩ hc
  ·exact .inr (Nat.lt_of_le_of_lt (one_good hG hJ.1 (show i<K by omega)).2 h)
theorem sweep_stop {x:Int×σ} {i:Nat} (h:most≤(sweep g st most x i).1):∀ j,i≤j→sweep g st most x j=sweep g st most x i:=by
 intro j hj
 induction j with
 | zero=>rw [show i=0 by omega]
 | succ j ih=>
  rcases Nat.lt_or_eq_of_le hj with h1 | h1
  ·have:=ih (by omega)
   show one g st most (sweep g st most x j) j=_
   rw [this]
   unfold one
   rw [if_neg (by omega)]
  ·rw [h1]
theorem any_range {p:Nat→Bool} {K:Nat} : (List.range K).any p=true↔∃ k,k<K∧p k=true:=by
 simp [List.any_eq_true]
theorem sweep_lt (hG:Good g st most K J μ) {x:Int×σ} (hx:J x) (ha:(List.range K).any (g x.2)=true) (hm:x.1<most):μ (sweep g st most x K)<μ x:=by
 rcases sweep_or hG hx K (Nat.le_refl _) with ⟨-,h⟩ | h
 ·obtain ⟨k,hk,e⟩:=any_range.1 ha
  rw [h hm k hk] at e; cases e
 ·exact h
theorem sweep_id (x:Int×σ) (h:¬ ((List.range K).any (g x.2)=true∧x.1<most)):∀ i,i≤K→sweep g st most x i=x
 | 0,_=>rfl
 | i+1,hi=>by
  show one g st most (sweep g st most x i) i=x
  rw [sweep_id x h i (by omega)]
  unfold one
  rw [if_neg]
  rintro ⟨h1,h2⟩
  exact h ⟨any_range.2 ⟨i,hi,h2⟩,h1⟩
theorem turnsF_succ (hG:Good g st most K J μ):∀ (m:Nat) (x:Int×σ),J x→μ x<m→turnsF g st most K (m+1) x=turnsF g st most K m x
 | 0,x,_,h=>absurd h (Nat.not_lt_zero _)
 | m+1,x,hx,h=>by
  show (if _ then turnsF g st most K (m+1) (sweep g st most x K) else x)=(if _ then turnsF g st most K m (sweep g st most x K) else x)
  split
  ·rename_i hc
   refine turnsF_succ hG m _ (sweep_good hG hx K (Nat.le_refl _)).1 ?_
   have:=sweep_lt hG hx hc.1 hc.2
   omega
  ·rfl
def turnsP (g:σ→Nat→Bool) (st:σ→Nat→σ) (most:Int) (K:Nat) (x:Int×σ):Int×σ:=turnsF g st most K 20001 x
theorem turnsP_eq (hG:Good g st most K J μ) {x:Int×σ} (hx:J x) (hm:μ x≤20000):turnsP g st most K x=turnsP g st most K (sweep g st most x K):=by
 by_cases hc:(List.range K).any (g x.2)=true∧x.1<most
 ·unfold turnsP
  rw [← turnsF_succ hG 20001 x hx (by omega)]
  show (if _ then turnsF g st most K 20001 (sweep g st most x K) else x)=_
  rw [if_pos hc]
 ·rw [sweep_id x hc K (Nat.le_refl _)]
theorem turnsP_end {x:Int×σ} (hc:¬ ((List.range K).any (g x.2)=true∧x.1<most)):turnsP g st most K x=x:=by
 show (if _ then turnsF g st most K 20000 (sweep g st most x K) else x)=x
 rw [if_neg hc]
theorem turnsF_good (hG:Good g st most K J μ):∀ (m:Nat) (x:Int×σ),J x→J (turnsF g st most K m x)∧μ (turnsF g st most K m x)≤μ x
 | 0,x,hx=>⟨hx,Nat.le_refl _⟩
 | m+1,x,hx=>by
  show J (if _ then turnsF g st most K m (sweep g st most x K) else x)∧μ (if _ then turnsF g st most K m (sweep g st most x K) else x)≤μ x
  split
  ·have h1:=sweep_good hG hx K (Nat.le_refl _)
   have h2:=turnsF_good hG m _ h1.1
   exact ⟨h2.1,Nat.le_trans h2.2 h1.2⟩
  ·exact ⟨hx,Nat.le_refl _⟩
theorem turnsP_good (hG:Good g st most K J μ) {x:Int×σ} (hx:J x):J (turnsP g st most K x):=(turnsF_good hG _ x hx).1
variable {γ δ ρ:Type}
theorem turnsI_loop (hG:Good g st most K J μ) (hμ:∀ x,J x→μ x≤20000) (enc:Int→Bool→σ→γ) (enci:Int→Bool→Nat→σ→δ) {F:(γ→Option ρ)→γ→Option ρ} {G:σ→Option ρ} {n:Nat}
  (hF:∀ ih made s,J (made,s)→∃ Fi:(δ→Option ρ)→δ→Option ρ,F ih (enc made true s)=iter n Fi (enci made false 0 s)∧
   (∀ ihi made again k s,J (made,s)→k<K→Fi ihi (enci made again k s)=if most≤made then G s else if g s k=true then ihi (enci (made+1) true (k+1) (st s k)) else ihi (enci made again (k+1) s))∧
   (∀ ihi made again s,J (made,s)→Fi ihi (enci made again K s)=ih (enc made again s)))
  (hF0:∀ ih made s,J (made,s)→F ih (enc made false s)=G s)
  (hK:K<n) (hn:20001<n) {x:Int×σ} (hx:J x):iter n F (enc x.1 true x.2)=G (turnsP g st most K x).2:=by
 have inner:∀ (ih:γ→Option ρ) (Fi:(δ→Option ρ)→δ→Option ρ),(∀ ihi made again k s,J (made,s)→k<K→Fi ihi (enci made again k s)=if most≤made then G s else if g s k=true then ihi (enci (made+1) true (k+1) (st s k)) else ihi (enci made again (k+1) s))→
   (∀ ihi made again s,J (made,s)→Fi ihi (enci made again K s)=ih (enc made again s))→∀ (x:Int×σ),J x→(∀ again,(again=false→sweep g st most x K=x)→(again=true→μ (sweep g st most x K)<μ x)→ih (enc (sweep g st most x K).1 again (sweep g st most x K).2)=G (turnsP g st most K x).2)→
   iter n Fi (enci x.1 false 0 x.2)=G (turnsP g st most K x).2:=by
  intro ih Fi hi he x hx hih
  have:∀ m k again,k≤K→K-k<m→(again=false→sweep g st most x k=x)→(again=true→μ (sweep g st most x k)<μ x)→iter m Fi (enci (sweep g st most x k).1 again k (sweep g st most x k).2)=G (turnsP g st most K x).2:=by
   intro m
   induction m with
   | zero=>intro k again hk h; omega
   | succ m IH=>
    intro k again hk hm h0 h1
    have hJ:=(sweep_good hG hx k hk).1
    show Fi (iter m Fi) _=_
    rcases Nat.lt_or_eq_of_le hk with hlt | hE
    ·rw [hi _ _ _ _ _ hJ hlt]
     by_cases hmo:most≤(sweep g st most x k).1
     ·rw [if_pos hmo,turnsP_eq hG hx (hμ x hx),sweep_stop hmo K hk,turnsP_end (fun h=>by omega)]
     ·rw [if_neg hmo]
      have e:sweep g st most x (k+1)=one g st most (sweep g st most x k) k:=rfl
      by_cases hg:g (sweep g st most x k).2 k=true
      ·rw [if_pos hg]
       have e2:sweep g st most x (k+1)=((sweep g st most x k).1+1,st (sweep g st most x k).2 k):=by
        rw [e]; unfold one; rw [if_pos ⟨by omega,hg⟩]
       have h3:=(hG _ k hJ hlt (by omega) hg).2
       have h4:=(sweep_good hG hx k hk).2
       have h2:=IH (k+1) true (by omega) (by omega) (fun h=>by cases h) (fun _=>by rw [e2]; omega)
       rw [e2] at h2
       exact h2
      ·rw [if_neg hg]
       have e2:sweep g st most x (k+1)=sweep g st most x k:=by
        rw [e]; unfold one; rw [if_neg (fun h=>hg h.2)]
       have h2:=IH (k+1) again (by omega) (by omega) (by rw [e2]; exact h0) (by rw [e2]; exact h1)
       rw [e2] at h2
       exact h2
    ·subst hE
     rw [he _ _ _ _ hJ]
     exact hih again h0 h1
  exact this n 0 false (Nat.zero_le _) (by omega) (fun _=>rfl) (fun h=>by cases h)
 have:∀ m (x:Int×σ),J x→μ x+1<m→iter m F (enc x.1 true x.2)=G (turnsP g st most K x).2:=by
  intro m
  induction m with
  | zero=>intro x _ h; omega
  | succ m IH=>
   intro x hx hm
   show F (iter m F) _=_
   obtain ⟨Fi,e,hi,he⟩:=hF (iter m F) x.1 x.2 hx
   rw [e]
   refine inner _ Fi hi he x hx (fun again h0 h1=>?_)
   have hJ:=(sweep_good hG hx K (Nat.le_refl _)).1
   cases again
   ·obtain ⟨m',rfl⟩:∃ m',m=m'+1:=⟨m-1,by omega⟩
    show F (iter m' F) _=_
    rw [hF0 _ _ _ hJ,h0 rfl]
    have hc:¬ ((List.range K).any (g x.2)=true∧x.1<most):=by
     rintro ⟨h2,h3⟩
     have:=sweep_lt hG hx h2 h3
     rw [h0 rfl] at this
     omega
    rw [turnsP_end hc]
   ·rw [IH _ hJ (by have:=h1 rfl; omega),← turnsP_eq hG hx (hμ x hx)]
 exact this n x hx (by have:=hμ x hx; omega)
end
section
variable {σ:Type} {g:σ→Nat→Bool} {st:σ→Nat→σ} {m1 m2:Int} {K:Nat} {J:Int×σ→Prop} {μ:Int×σ→Nat}
end
section
variable {α γ ρ:Type} (c:α→Bool) (f:α→α)
variable {c f}
end
end Go.AmT
namespace Go.AmT
open Go Go.Am Go.Proofs
set_option linter.unusedVariables false
set_option maxRecDepth 100000
def tys8:List (Nat×TInfo):=[(3,⟨false,1,8,[.int .i64 0],.int .i64,0,some I,[],false⟩),
 (23,⟨false,1,24,[.nil],.slice,68,some (.sl tProgram),[],false⟩),
 (26,⟨true,2,48,[.nil,.nil],.struct,0,some tNetwork,[(0,23),(1,24)],false⟩),
 (82,⟨true,9,200,[.nil,.nil,.nil,.nil,.nil,.int .i64 0,.nil,.nil,.nil],.struct,0,some tRun,[(0,26),(2,31),(6,29),(7,29),(8,32)],false⟩)]
theorem tys8_ok:(tys8.all fun p=>tokB Tryz.prog p.1 p.2)=true:=by kernel_rfl
def nothing.las:List (Nat×LA):=[]
def nothing.la:LA:=⟨[],[],[],[]⟩
def nothing.lb:LA:=⟨[],[],[],[]⟩
noncomputable def nothing.f (n:Nat)  : Option (Unit):=some ()
noncomputable def nothing.mng (n:Nat):LMng:=⟨nothing.la,nothing.lb,fun x=>nothing.f n ⟩
noncomputable def nothing.cfg (n:Nat):Cfg:=⟨tys8,[],[],[]⟩
theorem nothing.gof:GoF Tryz.prog 41:=⟨_,Tryz.func41,by kernel_rfl,by kernel_rfl⟩
theorem nothing.sound (n:Nat):LSound Tryz.prog 41 (nothing.mng n):=sndL (c:=nothing.cfg n) (n:=n) (an:=annOf Tryz.f41 nothing.las) trivial trivial (tysOK tys8_ok) Tryz.func41 (fun x=>by kernel_rfl)
def turns.las:List (Nat×LA):=[(3,⟨[(0,.vptr 0 0),(6,.int .i64),(7,.bool)],[(0,.cells [true,true,false,false,false,false,false,false,true] [.sh tProgram,.sh tLink,.own 1 tActor,.own 2 IS,.own 3 IS,.int .i64,.own 4 IS,.own 5 IS,.osh I]),(1,.row true tActor),(2,.row true IS),(3,.row true IS),(4,.row true IS),(5,.row true IS)],[1,2],[]⟩),(10,⟨[(0,.vptr 0 0),(6,.int .i64),(7,.bool),(16,.int .i64)],[(0,.cells [true,true,false,false,false,false,false,false,true] [.sh tProgram,.sh tLink,.own 1 tActor,.own 2 IS,.own 3 IS,.int .i64,.own 4 IS,.own 5 IS,.osh I]),(1,.row true tActor),(2,.row true IS),(3,.row true IS),(4,.row true IS),(5,.row true IS)],[1,2,15],[]⟩)]
def turns.la:LA:=⟨[(0,.vptr 0 0),(1,.int .i64),(2,.fn 41 [])],[(0,.cells [true,true,false,false,false,false,false,false,true] [.sh tProgram,.sh tLink,.own 1 tActor,.own 2 IS,.own 3 IS,.int .i64,.own 4 IS,.own 5 IS,.osh I]),(1,.row true tActor),(2,.row true IS),(3,.row true IS),(4,.row true IS),(5,.row true IS)],[],[]⟩
def turns.lb:LA:=⟨[],[(0,.cells [true,true,false,false,false,false,false,false,true] [.sh tProgram,.sh tLink,.own 1 tActor,.own 2 IS,.own 3 IS,.int .i64,.own 4 IS,.own 5 IS,.osh I]),(1,.row true tActor),(2,.row true IS),(3,.row true IS),(4,.row true IS),(5,.row true IS)],[],[]⟩
noncomputable def turns.f (n:Nat) (a0:Int) (a1:List Program) (a2:List Link) (a3:Int) (a4:Option (List Int)) (a5:List Actor) (a6:List (List Int)) (a7:List (List Int)) (a8:List (List Int)) (a9:List (List Int)):Option ((List Program)×(List Link)×(Int×(Option (List Int))×(List Actor)×(List (List Int))×(List (List Int))×(List (List Int))×(List (List Int))×Unit)):=iter (α:=(Int×(Bool×(List Program)×(List Link)×(Int×(Option (List Int))×(List Actor)×(List (List Int))×(List (List Int))×(List (List Int))×(List (List Int))×Unit)))) n (fun ih36 x35=>br x35.2.1 (iter (α:=(Int×(Bool×(Int×(List Program)×(List Link)×(Int×(Option (List Int))×(List Actor)×(List (List Int))×(List (List Int))×(List (List Int))×(List (List Int))×Unit))))) n (fun ih55 x54=>br (decide (x54.2.2.1<(x35.2.2.1.length:Int))) (br (decide (a0≤x54.1)) (some (x54.2.2.2.1,(x54.2.2.2.2.1,(x54.2.2.2.2.2.1,(x54.2.2.2.2.2.2.1,(x54.2.2.2.2.2.2.2.1,(x54.2.2.2.2.2.2.2.2.1,(x54.2.2.2.2.2.2.2.2.2.1,(x54.2.2.2.2.2.2.2.2.2.2.1,(x54.2.2.2.2.2.2.2.2.2.2.2.1,())))))))))) ((may.f n ((x54.2.2.2.1,x54.2.2.2.2.1),((x54.2.2.2.2.2.2.2.1,(x54.2.2.2.2.2.2.2.2.1,(x54.2.2.2.2.2.2.2.2.2.1,x54.2.2.2.2.2.1))),(x54.2.2.2.2.2.2.2.2.2.2.1,(x54.2.2.2.2.2.2.2.2.2.2.2.1,x54.2.2.2.2.2.2.1)))) x54.2.2.1).bind fun r56=>br r56.1 ((runStep.f n x54.2.2.1 x54.2.2.2.1 x54.2.2.2.2.1 x54.2.2.2.2.2.1 x54.2.2.2.2.2.2.1 x54.2.2.2.2.2.2.2.1 x54.2.2.2.2.2.2.2.2.1 x54.2.2.2.2.2.2.2.2.2.1 x54.2.2.2.2.2.2.2.2.2.2.1 x54.2.2.2.2.2.2.2.2.2.2.2.1).bind fun r57=>(nothing.f n ).bind fun r58=>ih55 ((w64 (x54.1+1)),(true,((w64 (x54.2.2.1+1)),(r57.1,(r57.2.1,(r57.2.2.1,(r57.2.2.2.1,(r57.2.2.2.2.1,(r57.2.2.2.2.2.1,(r57.2.2.2.2.2.2.1,(r57.2.2.2.2.2.2.2.1,(r57.2.2.2.2.2.2.2.2.1,()))))))))))))) (ih55 (x54.1,(x54.2.1,((w64 (x54.2.2.1+1)),(x54.2.2.2.1,(x54.2.2.2.2.1,(x54.2.2.2.2.2.1,(x54.2.2.2.2.2.2.1,(x54.2.2.2.2.2.2.2.1,(x54.2.2.2.2.2.2.2.2.1,(x54.2.2.2.2.2.2.2.2.2.1,(x54.2.2.2.2.2.2.2.2.2.2.1,(x54.2.2.2.2.2.2.2.2.2.2.2.1,()))))))))))))))) (ih36 (x54.1,(x54.2.1,(x54.2.2.2.1,(x54.2.2.2.2.1,(x54.2.2.2.2.2.1,(x54.2.2.2.2.2.2.1,(x54.2.2.2.2.2.2.2.1,(x54.2.2.2.2.2.2.2.2.1,(x54.2.2.2.2.2.2.2.2.2.1,(x54.2.2.2.2.2.2.2.2.2.2.1,(x54.2.2.2.2.2.2.2.2.2.2.2.1,()))))))))))))) (x35.1,(false,(0,(x35.2.2.1,(x35.2.2.2.1,(x35.2.2.2.2.1,(x35.2.2.2.2.2.1,(x35.2.2.2.2.2.2.1,(x35.2.2.2.2.2.2.2.1,(x35.2.2.2.2.2.2.2.2.1,(x35.2.2.2.2.2.2.2.2.2.1,(x35.2.2.2.2.2.2.2.2.2.2.1,()))))))))))))) (some (x35.2.2.1,(x35.2.2.2.1,(x35.2.2.2.2.1,(x35.2.2.2.2.2.1,(x35.2.2.2.2.2.2.1,(x35.2.2.2.2.2.2.2.1,(x35.2.2.2.2.2.2.2.2.1,(x35.2.2.2.2.2.2.2.2.2.1,(x35.2.2.2.2.2.2.2.2.2.2.1,()))))))))))) (0,(true,(a1,(a2,(a3,(a4,(a5,(a6,(a7,(a8,(a9,())))))))))))
noncomputable def turns.mng (n:Nat):LMng:=⟨turns.la,turns.lb,fun x=>turns.f n x.1 x.2.1 x.2.2.1 x.2.2.2.1 x.2.2.2.2.1 x.2.2.2.2.2.1 x.2.2.2.2.2.2.1 x.2.2.2.2.2.2.2.1 x.2.2.2.2.2.2.2.2.1 x.2.2.2.2.2.2.2.2.2.1⟩
noncomputable def turns.cfg (n:Nat):Cfg:=⟨tys8,[(87,may.mng n)],[(88,runStep.mng n),(41,nothing.mng n)],[]⟩
theorem turns.gof:GoF Tryz.prog 40:=⟨_,Tryz.func40,by kernel_rfl,by kernel_rfl⟩
theorem turns.sound (n:Nat):LSound Tryz.prog 40 (turns.mng n):=sndL (c:=turns.cfg n) (n:=n) (an:=annOf Tryz.f40 turns.las) ⟨⟨may.sound n,may.gof⟩,trivial⟩ ⟨⟨runStep.sound n,runStep.gof⟩,⟨⟨nothing.sound n,nothing.gof⟩,trivial⟩⟩ (tysOK tys8_ok) Tryz.func40 (fun x=>by kernel_rfl)
end Go.AmT
namespace Go.AmT
open Go Go.Am
set_option linter.unusedVariables false
set_option linter.unusedSimpArgs false
def JS (nt:Network) (x:Int×State):Prop:=OkSt nt x.2∧0≤x.1∧x.1≤x.2.2.2.2
def muS (x:Int×State):Nat:=(20000-x.2.2.2.2).toNat
theorem muS_le {nt:Network} {x:Int×State} (h:JS nt x):muS x≤20000:=by
 have:=h.1.steps
 unfold muS; omega
theorem JS.le {nt:Network} {x:Int×State} (h:JS nt x):0≤x.1∧x.1≤20000:=by
 have:=h.1.steps
 have:=h.2
 omega
theorem good_of {nt:Network} {most:Int} {g:State→Nat→Bool} (hg:∀ s k,g s k=true→canP nt s k=true):Good g (stepP nt) most nt.1.length (JS nt) muS:=by
 rintro ⟨m,s⟩ k ⟨o,h0,h1⟩ hk hm hgk
 have hc:=hg _ _ hgk
 obtain ⟨-,h20,-,-⟩:=canP_facts hc
 have hs:=o.steps
 have h0:0≤m:=h0
 have h1:m≤s.2.2.2:=h1
 have h20:s.2.2.2<20000:=h20
 refine ⟨⟨stepP_ok o hk hc,?_,?_⟩,?_⟩
 ·show 0≤m+1
  omega
 ·show m+1≤s.2.2.2+1
  omega
 ·show (20000-(s.2.2.2+1)).toNat<(20000-s.2.2.2).toNat
  omega
theorem may_can {nt:Network} {s:State} {caps:List Int} {k:Nat} (h:mayP nt s caps k=true):canP nt s k=true:=by
 unfold mayP at h
 rw [Bool.and_eq_true] at h
 exact h.1
def mayO (nt:Network) (c:Option (List Int)) (s:State) (k:Nat):Bool:=match c with | none=>canP nt s k | some caps=>mayP nt s caps k
theorem mayO_can {nt:Network} {c:Option (List Int)} {s:State} {k:Nat} (h:mayO nt c s k=true):canP nt s k=true:=by
 cases c with
 | none=>exact h
 | some caps=>exact may_can h
theorem mayO_spec {n:Nat} {nt:Network} {s:State} {r:Run} (R:IsRun nt s r) (o:OkSt nt s) (hc:∀ caps,r.2.2.2.2=some caps→caps.length=nt.2.length) {k:Nat} (hk:k<nt.1.length):may.f n r (k:Int)=some (mayO nt r.2.2.2.2 s k,()):=by
 cases e:r.2.2.2.2 with
 | none=>
  unfold may.f
  rw [can_spec R o hk,e]
  show _=some (canP nt s k,())
  cases canP nt s k<;>rfl
 | some caps=>exact may_spec R o (hc _ e) e hk
def runT (nt:Network) (c:Option (List Int)) (most:Int) (s:State):State:=(turnsP (mayO nt c) (stepP nt) most nt.1.length (0,s)).2
theorem runT_ok {nt:Network} {c:Option (List Int)} {most:Int} {s:State} (o:OkSt nt s):OkSt nt (runT nt c most s):=
 (turnsP_good (good_of (fun _ _=>mayO_can)) (J:=JS nt) (x:=(0,s)) ⟨o,Int.le_refl _,o.steps.1⟩).1
theorem turns_spec {n:Nat} {nt:Network} {s:State} {to fr:List (List Int)} {c:Option (List Int)} {most:Int} (R:IsRun nt s (nt,(s,(to,(fr,c))))) (o:OkSt nt s) (hc:∀ caps,c=some caps→caps.length=nt.2.length) (hn:1048576<n) :
  turns.f n most nt.1 nt.2 s.2.2.2 c s.1 s.2.1 s.2.2.1 to fr =
   some (nt.1,(nt.2,((runT nt c most s).2.2.2,(c,((runT nt c most s).1,((runT nt c most s).2.1,((runT nt c most s).2.2.1,(to,(fr,()))))))))):=by
 have hp:=o.net.progs
 unfold turns.f runT
 refine turnsI_loop (g:=mayO nt c) (st:=stepP nt) (most:=most) (K:=nt.1.length) (J:=JS nt) (μ:=muS) (good_of (fun _ _=>mayO_can)) (fun _=>muS_le)
  (fun made again s=>(made,(again,(nt.1,(nt.2,(s.2.2.2,(c,(s.1,(s.2.1,(s.2.2.1,(to,(fr,())))))))))))) (fun made again k s=>(made,(again,((k:Int),(nt.1,(nt.2,(s.2.2.2,(c,(s.1,(s.2.1,(s.2.2.1,(to,(fr,())))))))))))))
  (G:=fun s=>some (nt.1,(nt.2,(s.2.2.2,(c,(s.1,(s.2.1,(s.2.2.1,(to,(fr,())))))))))) (fun ih made s h=>⟨_,br_true,fun ihi made again k s h hk=>?_,fun ihi made again s h=>?_⟩) (fun ih made s h=>br_false) (by omega) (by omega) (x:=(0,s)) ⟨o,Int.le_refl _,o.steps.1⟩
 ·have c1:(k:Int)<(nt.1.length:Int):=by omega
  have R':IsRun nt s (nt,(s,(to,(fr,c)))):=R.step
  have hm:may.f n ((nt.1,nt.2),((s.1,(s.2.1,(s.2.2.1,s.2.2.2))),(to,(fr,c)))) (k:Int)=some (mayO nt c s k,()):=mayO_spec R' h.1 hc hk
  have hle:=h.le
  simp only [br_yes c1,hm,Option.bind_some,brd]
  split
  ·rfl
  ·rename_i hmo
   cases hg:mayO nt c s k
   ·simp only [br_false,Bool.false_eq_true,if_false]
    rw [w64_succ (by omega)]
   ·simp only [br_true,if_true]
    have hs:=runStep_spec (n:=n) R' h.1 (small_of_ok h.1) hk (mayO_can hg) hn
    simp only at hs
    rw [hs]
    simp only [Option.bind_some]
    rw [w64_succ (by omega),w64_id (n:=made+1) (by simp only at hle; omega) (by simp only at hle; omega)]
    rfl
 ·simp only [br_no (Int.lt_irrefl _)]
end Go.AmT
