/- The least streams, in plain Lean: both programs run each process alone, and go on in rounds until nothing changes. -/
import Derived.Test.YtfoamipegmbcgaaGreatDoorMDkF12
namespace Go.AmT
open Go Go.Am
set_option linter.unusedVariables false
set_option linter.unusedSimpArgs false
theorem stepV_spec {n:Nat} {p:Program} {a:Actor} {token:Int} (hp:okP p=true) (ha:okA p a=true) (h1:a.1<(p.2.2.length:Int)) :
  stepV.f n p.1 p.2.1 p.2.2 token a.1 a.2=some (outP (instrP p a) a,((stepA p a token).1,((stepA p a token).2,()))):=by
 have hpc:=okA_pc ha
 obtain ⟨hl,hr⟩:=okA_regs ha
 have O:=instr_ok hp hpc.1 h1
 have hlen:p.2.2.length≤24:=by
  unfold okP at hp
  simp only [Bool.and_eq_true,decide_eq_true_eq] at hp
  omega
 unfold stepV.f stepA
 rw [chk_true (by omega),w64_id (n:=a.1+1) (by omega) (by omega),show p.2.2.getD a.1.toNat zInstr=instrP p a from rfl]
 generalize instrP p a=x at O
 have hA:=O.a
 have cA:0≤x.2.1∧x.2.1<(a.2.length:Int):=by omega
 have hs:=set_rg cA
 have hb:=tok_of (rg_tok (i:=x.2.2.1) hr)
 have hc:=tok_of (rg_tok (i:=x.2.2.2) hr)
 have hm:=mul_bound hb hc
 simp only [chk_true cA]
 have hop:x.1=1∨x.1=2∨x.1=3∨x.1=4∨x.1=5∨x.1=6∨x.1=7∨x.1=8∨x.1=9∨x.1=10∨x.1=11:=by have:=O.op; omega
 have hbc:=O.bc
 unfold pcP outP valP
 have r0:∀ i,a.2.getD (Int.toNat i) 0=rg a.2 i:=fun i=>rfl
 simp only [r0]
 rcases hop with h | h | h | h | h | h | h | h | h | h | h
 ·simp only [h,decide_true,decide_false,br_true,br_false,Int.reduceEq,↓reduceIte,false_or,false_and,or_false]
 ·simp only [h,decide_true,decide_false,br_true,br_false,Int.reduceEq,↓reduceIte,false_or,false_and,or_false,hs]
 ·simp only [h,decide_true,decide_false,br_true,br_false,Int.reduceEq,↓reduceIte,false_or,false_and,or_false]
 ·have:=hbc (by omega)
  simp only [h,decide_true,decide_false,br_true,br_false,Int.reduceEq,↓reduceIte,false_or,false_and,or_false]
  rw [chk_true (by omega),chk_true (by omega),w64_id (by omega) (by omega),iWrap_spec]; rfl
 ·have:=hbc (by omega)
  simp only [h,decide_true,decide_false,br_true,br_false,Int.reduceEq,↓reduceIte,false_or,false_and,or_false]
  rw [chk_true (by omega),chk_true (by omega),w64_id (by omega) (by omega),iWrap_spec]; rfl
 ·have:=hbc (by omega)
  simp only [h,decide_true,decide_false,br_true,br_false,Int.reduceEq,↓reduceIte,false_or,false_and,or_false]
  rw [chk_true (by omega),chk_true (by omega),w64_id (by omega) (by omega),iWrap_spec]; rfl
 ·have:=hbc (by omega)
  simp only [h,decide_true,decide_false,br_true,br_false,Int.reduceEq,↓reduceIte,false_or,false_and,or_false]
  rw [chk_true (by omega),chk_true (by omega),iRest_spec n (rg_tok hr)]; rfl
 ·simp only [h,decide_true,decide_false,br_true,br_false,Int.reduceEq,↓reduceIte,true_or,false_or,false_and,or_false,hs]
 ·simp only [h,decide_true,decide_false,br_true,br_false,Int.reduceEq,↓reduceIte,false_or,false_and,or_false,true_and,hs,brd]
  split<;>rfl
 ·simp only [h,decide_true,decide_false,br_true,br_false,Int.reduceEq,↓reduceIte,false_or,false_and,or_false,true_and,hs,brd]
  split<;>rfl
 ·simp only [h,decide_true,decide_false,br_true,br_false,Int.reduceEq,↓reduceIte,false_or,false_and,or_false,hs]
def outL (p:Program) (c:Lc):List (List Int):=(List.range p.2.1.toNat).map c.2.1
def useL (p:Program) (c:Lc):List Int:=(List.range p.1.toNat).map (fun b=>(c.2.2 b:Int))
theorem range_const {α:Type} (n:Nat) (x:α):(List.range n).map (fun _=>x)=List.replicate n x:=by
 rw [List.eq_replicate_iff]
 exact ⟨by simp,fun b hb=>by obtain ⟨i,-,rfl⟩:=List.mem_map.1 hb; rfl⟩
theorem outL_c0 (p:Program):outL p c0=List.replicate p.2.1.toNat []:=range_const _ _
theorem useL_c0 (p:Program):useL p c0=List.replicate p.1.toNat 0:=range_const p.1.toNat (0:Int)
theorem outL_len (p:Program) (c:Lc):(outL p c).length=p.2.1.toNat:=by simp [outL]
theorem useL_len (p:Program) (c:Lc):(useL p c).length=p.1.toNat:=by simp [useL]
theorem map_get {α:Type} {f:Nat→α} {L b:Nat} {d:α} (hb:b<L):((List.range L).map f).getD b d=f b:=by
 rw [getD_lt (by simpa using hb),List.getElem_map,List.getElem_range]
theorem map_set {α:Type} {f:Nat→α} {L b:Nat} {x:α} : ((List.range L).map f).set b x=(List.range L).map (upd f b x):=by
 refine List.ext_getElem (by simp) (fun i h1 h2=>?_)
 rw [List.getElem_set,List.getElem_map,List.getElem_map,List.getElem_range]
 unfold upd
 by_cases h:b=i
 ·rw [if_pos h,if_pos h.symm]
 ·rw [if_neg h,if_neg (fun e=>h e.symm)]
theorem outL_get {p:Program} {c:Lc} {b:Nat} (hb:b<p.2.1.toNat):(outL p c).getD b []=c.2.1 b:=map_get hb
theorem useL_get {p:Program} {c:Lc} {b:Nat} (hb:b<p.1.toNat):(useL p c).getD b 0=(c.2.2 b:Int):=map_get hb
theorem outL_set {p:Program} {c:Lc} {b:Nat} {x:List Int} {a:Actor} {u:Nat→Nat} : (outL p c).set b x=outL p (a,upd c.2.1 b x,u):=map_set
theorem useL_set {p:Program} {c:Lc} {b m:Nat} {a:Actor} {o:Nat→List Int} : (useL p c).set b (m:Int)=useL p (a,o,upd c.2.2 b m):=by
 unfold useL
 rw [map_set]
 refine List.map_congr_left (fun i _=>?_)
 unfold upd
 by_cases h:i=b<;>simp [h]
theorem lstep_tok {p:Program} {I:Nat→List Int} {c d:Lc} (hp:okP p=true) (ha:okA p c.1=true) (hI:∀ b,okS (I b)=true) (e:lstep p I c=some d):okA p d.1=true:=by
 unfold lstep at e
 have hpc:=okA_pc ha
 split at e
 ·cases e
 ·rename_i h0
  have hlt:=wantP_pc h0
  split at e
  ·split at e
   ·cases e; exact (stepA_ok hp ha (by omega) (okS_get (hI _) _)).1
   ·cases e
  ·split at e
   ·cases e; exact (stepA_ok hp ha (by omega) (by decide)).1
   ·cases e; exact (stepA_ok hp ha (by omega) (by decide)).1
theorem newA_ok {p:Program} (hp:okP p=true):okA p c0.1=true:=by
 unfold okP at hp
 simp only [Bool.and_eq_true,decide_eq_true_eq] at hp
 unfold okA c0 newA
 simp only [Bool.and_eq_true,decide_eq_true_eq]
 exact ⟨by decide,by show (0:Int)≤_; omega,rfl,by decide⟩
theorem alone_spec {n:Nat} {p:Program} {I:List (List Int)} (hp:okP p=true) (hl:I.length=p.1.toNat) (hI:∀ b,okS (atL I b)=true) (hn:1048576<n) :
  alone.f n p I 3000=some (outL p (al p (atL I) 3000 c0).1,(useL p (al p (atL I) 3000 c0).1,((al p (atL I) 3000 c0).2.1,((al p (atL I) 3000 c0).2.2,())))):=by
 have hq:=hp
 unfold okP at hq
 simp only [Bool.and_eq_true,decide_eq_true_eq] at hq
 have hm:=maxB_eq
 unfold alone.f
 rw [iNewActor_spec ⟨by omega⟩ hp hn,bind_unit,chk_true (by refine ⟨by trivial,?_⟩; omega),chk_true (by refine ⟨by trivial,?_⟩; omega),← outL_c0,← useL_c0]
 have key:∀ (f:Nat) (c:Lc) (m:Nat),f≤3000→f<m→okA p c.1=true→Wf (atL I) c→∀ F,(∀ ih c (f:Nat),f≤3000→okA p c.1=true→Wf (atL I) c→
   F ih ((3000-f:Int),(c.1.1,(c.1.2,(outL p c,(useL p c,())))))=if stopB p (atL I) c=true then some (outL p c,(useL p c,((wantP p c.1).1,((wantP p c.1).2,())))) else if f=0 then some (outL p c,(useL p c,(1,(0,())))) else
    ih ((3000-(f-1:Nat):Int),((((lstep p (atL I) c).getD c)).1.1,((((lstep p (atL I) c).getD c)).1.2,(outL p ((lstep p (atL I) c).getD c),(useL p ((lstep p (atL I) c).getD c),()))))))→
   iter m F ((3000-f:Int),(c.1.1,(c.1.2,(outL p c,(useL p c,())))))=some (outL p (al p (atL I) f c).1,(useL p (al p (atL I) f c).1,((al p (atL I) f c).2.1,((al p (atL I) f c).2.2,())))):=by
  intro f
  induction f with
  | zero=>
   intro c m hf hm ha w F hF
   obtain ⟨m,rfl⟩:∃ k,m=k+1:=⟨m-1,by omega⟩
   refine (hF _ c 0 (by omega) ha w).trans ?_
   unfold al
   split<;>rfl
  | succ f ih=>
   intro c m hf hm ha w F hF
   obtain ⟨m,rfl⟩:∃ k,m=k+1:=⟨m-1,by omega⟩
   refine (hF _ c (f+1) (by omega) ha w).trans ?_
   unfold al
   by_cases hs:stopB p (atL I) c=true
   ·rw [if_pos hs,if_pos hs]
   ·rw [if_neg hs,if_neg hs,if_neg (by omega)]
    obtain ⟨d,ed,wd⟩:=lstep_stop (p:=p) w (by simpa using hs)
    rw [ed]
    exact ih d m (by omega) (by omega) (lstep_tok hp ha hI ed) wd F hF
 refine key 3000 c0 n (by omega) (by omega) (newA_ok hp) (wf_c0 _) _ (fun ih c f hf ha w=>?_)
 have hpc:=okA_pc ha
 have hw:=wantP_port hp ha
 have hul:=useL_len p c
 have hol:=outL_len p c
 have hlen:(want.f n p (c.1.1,c.1.2))=some ((wantP p c.1).1,((wantP p c.1).2,())):=want_spec ha
 simp only [hlen,bind_unit]
 unfold stopB
 have hlst:∀ t,(wantP p c.1).1≠0→stepV.f n p.1 p.2.1 p.2.2 t c.1.1 c.1.2=some (outP (instrP p c.1) c.1,((stepA p c.1 t).1,((stepA p c.1 t).2,()))):=fun t h0=>stepV_spec hp ha (by have:=wantP_pc h0; omega)
 have hw64:∀ (g:Nat),f=g+1→w64 ((3000-f:Int)+1)=(3000-(f-1:Nat):Int):=fun g hg=>by rw [w64_id (by omega) (by omega)]; omega
 have hcnt:decide ((3000-f:Int)=3000)=decide (f=0):=by
  by_cases h:f=0
  ·simp [h]
  ·rw [decide_eq_false h,decide_eq_false (by omega)]
 rcases wantP_cases p c.1 with h | h | h | h
 ·simp only [h,decide_true,br_true,cut_inr,Bool.true_or,if_true]
 ·have hl1:lstep p (atL I) c=some (stepA p c.1 0,c.2.1,c.2.2):=by
   unfold lstep; simp only [h,Int.reduceEq,if_false]
  simp only [h,decide_true,decide_false,br_true,br_false,cut_inr,Int.reduceEq,Bool.false_or,Bool.false_and,Bool.false_eq_true,if_false,hcnt,brd]
  by_cases hf0:f=0
  ·rw [if_pos hf0,if_pos hf0]
  ·rw [if_neg hf0,if_neg hf0,hlst 0 (by omega),bind_unit,hw64 (f-1) (by omega),hl1]; rfl
 ·obtain ⟨b,hb⟩:∃ b:Nat,(wantP p c.1).2=(b:Int):=⟨(wantP p c.1).2.toNat,by omega⟩
  have hb2:(b:Int)<p.1:=by have:=hw.2.1 h; omega
  have hu:(useL p c).getD b 0=(c.2.2 b:Int):=useL_get (by omega)
  have hI':I.getD b []=atL I b:=rfl
  have hrd:=w.rd b
  simp only [h,hb,decide_true,decide_false,br_true,br_false,cut_inr,Int.reduceEq,Bool.false_or,Bool.false_and,Bool.true_and,Bool.or_false,hcnt,Int.toNat_natCast,hu,hI']
  rw [chk_true (by omega),chk_true (by omega)]
  by_cases hs:c.2.2 b=(atL I b).length
  ·rw [decide_eq_true (show (c.2.2 b:Int)=((atL I b).length:Int) by omega),decide_eq_true hs]; rfl
  ·have hl1:lstep p (atL I) c=some (stepA p c.1 ((atL I b).getD (c.2.2 b) 0),c.2.1,upd c.2.2 b (c.2.2 b+1)):=by
    unfold lstep; simp only [h,hb,Int.toNat_natCast,Int.reduceEq,if_false,if_true]
    rw [if_pos (by omega)]
   rw [decide_eq_false (show ¬ (c.2.2 b:Int)=((atL I b).length:Int) by omega),decide_eq_false hs]
   simp only [br_false,cut_inr,brd,Bool.false_eq_true,if_false]
   by_cases hf0:f=0
   ·rw [if_pos hf0,if_pos hf0]
   ·have hlr:=(okS_len (hI b)).1
    rw [if_neg hf0,if_neg hf0,chk_true (by omega),chk_true (by omega),chk_true (by omega),chk_true (by omega),chk_true (by omega)]
    simp only [cut_inr]
    rw [hlst _ (by omega),bind_unit,hw64 (f-1) (by omega),hl1,w64_succ (by omega),useL_set]
    rfl
 ·obtain ⟨b,hb⟩:∃ b:Nat,(wantP p c.1).2=(b:Int):=⟨(wantP p c.1).2.toNat,by omega⟩
  have hb2:(b:Int)<p.2.1:=by have:=hw.2.2 h; omega
  have hu:(outL p c).getD b []=c.2.1 b:=outL_get (by omega)
  have hwr:=w.wr b
  have hl1:lstep p (atL I) c=some (stepA p c.1 0,upd c.2.1 b (c.2.1 b++[outP (instrP p c.1) c.1]),c.2.2):=by
   unfold lstep; simp only [h,hb,Int.toNat_natCast,Int.reduceEq,if_false,if_true]
  simp only [h,hb,decide_true,decide_false,br_true,br_false,cut_inr,Int.reduceEq,Bool.false_or,Bool.false_and,Bool.true_and,Bool.or_false,hcnt,Int.toNat_natCast,hu]
  rw [chk_true (by omega)]
  simp only [cut_inr]
  by_cases hs:(c.2.1 b).length=400
  ·rw [decide_eq_true (show ((c.2.1 b).length:Int)=400 by omega),decide_eq_true hs]; rfl
  ·rw [decide_eq_false (show ¬ ((c.2.1 b).length:Int)=400 by omega),decide_eq_false hs]
   simp only [br_false,cut_inr,brd,Bool.false_eq_true,if_false]
   by_cases hf0:f=0
   ·rw [if_pos hf0,if_pos hf0]
   ·rw [if_neg hf0,if_neg hf0,hlst 0 (by omega),bind_unit,chk_true (by omega),small_chk (by simp; omega),chk_true (by omega),chk_true (by trivial),hw64 (f-1) (by omega),hl1,outL_set]
    rfl
theorem push_n {β γ ρ:Type} (len:Nat) (x:β) (st:Int→List β→γ) {F:(γ→Option ρ)→γ→Option ρ} {R:List β→Option ρ}
  (h1:∀ ih (i:Nat) (s:List β),i<len→s.length=i→F ih (st i s)=ih (st ((i+1:Nat):Int) (s++[x])))
  (h2:∀ ih s,F ih (st len s)=R s) {n:Nat} (hn:len<n):iter n F (st 0 [])=R (List.replicate len x):=by
 exact iter_line (F:=F) (fun i=>st (i:Int) (List.replicate i x)) len (fun ih i hi=>by
  show F ih (st (i:Int) (List.replicate i x))=_
  rw [h1 ih i _ hi (by simp),List.replicate_succ']) (fun ih=>h2 ih _) hn
theorem sL2Run_spec {n:Nat} {p:Program} {I:List (List Int)} (hp:okP p=true) (hl:I.length=p.1.toNat) (hI:∀ b,okS (atL I b)=true) (hn:1048576<n) :
  sL2Run.f n p I 3000=some (outL p (al p (atL I) 3000 c0).1,(useL p (al p (atL I) 3000 c0).1,((al p (atL I) 3000 c0).2.1,((al p (atL I) 3000 c0).2.2,())))):=by
 have hq:=hp
 unfold okP at hq
 simp only [Bool.and_eq_true,decide_eq_true_eq] at hq
 have hm:=maxB_eq
 unfold sL2Run.f
 rw [push_n p.2.1.toNat ([]:List Int) (fun i s=>(i,(s,()))) (fun ih i s hi hs=>?_) (fun ih s=>br_no (by omega)) (by omega)]
 rotate_left
 ·show br (decide ((i:Int)<p.2.1)) _ _=_
  rw [br_yes (by omega),small_chk (by simp; omega),w64_succ (by omega)]
 rw [chk_true (by refine ⟨by trivial,?_⟩; omega),← outL_c0,← useL_c0]
 have key:∀ (f:Nat) (c:Lc) (m:Nat),f≤3000→f<m→okA p c.1=true→Wf (atL I) c→∀ F,(∀ ih c (f:Nat),f≤3000→okA p c.1=true→Wf (atL I) c→
   F ih ((f:Int),(c.1.1,(c.1.2,(outL p c,(useL p c,())))))=if stopB p (atL I) c=true then some (outL p c,(useL p c,((wantP p c.1).1,((wantP p c.1).2,())))) else if f=0 then some (outL p c,(useL p c,(1,(0,())))) else
    ih (((f-1:Nat):Int),((((lstep p (atL I) c).getD c)).1.1,((((lstep p (atL I) c).getD c)).1.2,(outL p ((lstep p (atL I) c).getD c),(useL p ((lstep p (atL I) c).getD c),()))))))→
   iter m F ((f:Int),(c.1.1,(c.1.2,(outL p c,(useL p c,())))))=some (outL p (al p (atL I) f c).1,(useL p (al p (atL I) f c).1,((al p (atL I) f c).2.1,((al p (atL I) f c).2.2,())))):=by
  intro f
  induction f with
  | zero=>
   intro c m hf hm ha w F hF
   obtain ⟨m,rfl⟩:∃ k,m=k+1:=⟨m-1,by omega⟩
   refine (hF _ c 0 (by omega) ha w).trans ?_
   unfold al
   split<;>rfl
  | succ f ih=>
   intro c m hf hm ha w F hF
   obtain ⟨m,rfl⟩:∃ k,m=k+1:=⟨m-1,by omega⟩
   refine (hF _ c (f+1) (by omega) ha w).trans ?_
   unfold al
   by_cases hs:stopB p (atL I) c=true
   ·rw [if_pos hs,if_pos hs]
   ·rw [if_neg hs,if_neg hs,if_neg (by omega)]
    obtain ⟨d,ed,wd⟩:=lstep_stop (p:=p) w (by simpa using hs)
    rw [ed]
    exact ih d m (by omega) (by omega) (lstep_tok hp ha hI ed) wd F hF
 refine key 3000 c0 n (by omega) (by omega) (newA_ok hp) (wf_c0 _) _ (fun ih c f hf ha w=>?_)
 have hpc:=okA_pc ha
 have hw:=wantP_port hp ha
 have hul:=useL_len p c
 have hol:=outL_len p c
 have hlen:(sL2Want.f n p (c.1.1,c.1.2))=some ((wantP p c.1).1,((wantP p c.1).2,())):=sL2Want_spec ha
 simp only [hlen,bind_unit]
 unfold stopB
 have hlst:∀ t,(wantP p c.1).1≠0→sL2Step.f n p (c.1.1,c.1.2) t=some (stepA p c.1 t,(outP (instrP p c.1) c.1,())):=fun t h0=>sL2Step_spec hp ha (by have:=wantP_pc h0; omega)
 have hw64:∀ (g:Nat),f=g+1→w64 ((f:Int)-1)=((f-1:Nat):Int):=fun g hg=>by rw [w64_id (by omega) (by omega)]; omega
 have hcnt:decide ((f:Int)=0)=decide (f=0):=by
  by_cases h:f=0
  ·simp [h]
  ·rw [decide_eq_false h,decide_eq_false (by omega)]
 rcases wantP_cases p c.1 with h | h | h | h
 ·simp only [h,decide_true,br_true,cut_inr,cut_inl,Bool.true_or,if_true]
 ·have hl1:lstep p (atL I) c=some (stepA p c.1 0,c.2.1,c.2.2):=by
   unfold lstep; simp only [h,Int.reduceEq,if_false]
  simp only [h,decide_true,decide_false,br_true,br_false,cut_inr,Int.reduceEq,Bool.false_or,Bool.false_and,Bool.false_eq_true,if_false,hcnt,brd]
  by_cases hf0:f=0
  ·rw [if_pos hf0,if_pos hf0]
  ·rw [if_neg hf0,if_neg hf0,hlst 0 (by omega),bind_unit]
   simp only [cut_inr]
   rw [hw64 (f-1) (by omega),hl1]; rfl
 ·obtain ⟨b,hb⟩:∃ b:Nat,(wantP p c.1).2=(b:Int):=⟨(wantP p c.1).2.toNat,by omega⟩
  have hb2:(b:Int)<p.1:=by have:=hw.2.1 h; omega
  have hu:(useL p c).getD b 0=(c.2.2 b:Int):=useL_get (by omega)
  have hI':I.getD b []=atL I b:=rfl
  have hrd:=w.rd b
  simp only [h,hb,decide_true,decide_false,br_true,br_false,cut_inr,Int.reduceEq,Bool.false_or,Bool.false_and,Bool.true_and,Bool.or_false,hcnt,Int.toNat_natCast,hu,hI']
  rw [chk_true (by omega),chk_true (by omega)]
  by_cases hs:c.2.2 b=(atL I b).length
  ·rw [decide_eq_true (show (c.2.2 b:Int)=((atL I b).length:Int) by omega),decide_eq_true hs]; rfl
  ·have hl1:lstep p (atL I) c=some (stepA p c.1 ((atL I b).getD (c.2.2 b) 0),c.2.1,upd c.2.2 b (c.2.2 b+1)):=by
    unfold lstep; simp only [h,hb,Int.toNat_natCast,Int.reduceEq,if_false,if_true]
    rw [if_pos (by omega)]
   rw [decide_eq_false (show ¬ (c.2.2 b:Int)=((atL I b).length:Int) by omega),decide_eq_false hs]
   have hlr:=(okS_len (hI b)).1
   simp only [br_false,brd,Bool.false_eq_true,if_false]
   rw [chk_true (by omega),chk_true (by omega),chk_true (by omega)]
   simp only [cut_inr]
   by_cases hf0:f=0
   ·rw [if_pos hf0,if_pos hf0]
   ·rw [if_neg hf0,if_neg hf0,hlst _ (by omega),bind_unit,chk_true (by omega),chk_true (by omega)]
    simp only [cut_inr]
    rw [hw64 (f-1) (by omega),hl1,w64_succ (by omega),useL_set]
    rfl
 ·obtain ⟨b,hb⟩:∃ b:Nat,(wantP p c.1).2=(b:Int):=⟨(wantP p c.1).2.toNat,by omega⟩
  have hb2:(b:Int)<p.2.1:=by have:=hw.2.2 h; omega
  have hu:(outL p c).getD b []=c.2.1 b:=outL_get (by omega)
  have hwr:=w.wr b
  have hl1:lstep p (atL I) c=some (stepA p c.1 0,upd c.2.1 b (c.2.1 b++[outP (instrP p c.1) c.1]),c.2.2):=by
   unfold lstep; simp only [h,hb,Int.toNat_natCast,Int.reduceEq,if_false,if_true]
  simp only [h,hb,decide_true,decide_false,br_true,br_false,cut_inr,Int.reduceEq,Bool.false_or,Bool.false_and,Bool.true_and,Bool.or_false,hcnt,Int.toNat_natCast,hu]
  rw [chk_true (by omega)]
  by_cases hs:(c.2.1 b).length=400
  ·rw [decide_eq_true (show ((c.2.1 b).length:Int)=400 by omega),decide_eq_true hs]; rfl
  ·rw [decide_eq_false (show ¬ ((c.2.1 b).length:Int)=400 by omega),decide_eq_false hs]
   simp only [br_false,cut_inr,brd,Bool.false_eq_true,if_false]
   by_cases hf0:f=0
   ·rw [if_pos hf0,if_pos hf0]
   ·rw [if_neg hf0,if_neg hf0,hlst 0 (by omega),bind_unit,chk_true (by omega),small_chk (by simp; omega),chk_true (by omega),chk_true (by trivial),hw64 (f-1) (by omega),hl1,outL_set]
    rfl
theorem inF_get {nt:Network} {h:Nat→List Int} {k:Nat} (hk:k<nt.1.length) (o:OkN nt):atL ((List.range (prog nt k).1.toNat).map (inF nt h k))=inF nt h k:=by
 funext b
 by_cases hb:b<(prog nt k).1.toNat
 ·exact map_get hb
 ·rw [atL_big (by omega)]; unfold inF; rw [if_neg (by omega)]
theorem okP_of {nt:Network} (o:OkN nt) {k:Nat} (hk:k<nt.1.length):okP (prog nt k)=true:=by
 unfold prog; rw [getD_lt hk]; exact o.prog k hk
theorem inputsFor_spec {n:Nat} {nt:Network} {h:List (List Int)} {k:Nat} (o:OkN nt) (hk:k<nt.1.length) (hh:h.length=nt.2.length) (hn:1048576<n) :
  inputsFor.f n nt h (k:Int)=some ((List.range (prog nt k).1.toNat).map (inF nt (atL h) k),()):=by
 have hm:=maxB_eq
 have hp:=okP_n (okP_of o hk)
 have hli:=o.links
 unfold inputsFor.f
 rw [chk_true (by omega)]
 simp only [Int.toNat_natCast]
 rw [show nt.1.getD k zProgram=prog nt k from rfl,chk_true (by refine ⟨by trivial,?_⟩; omega),← range_const]
 refine (iter_line (fun i=>((i:Int),((List.range (prog nt k).1.toNat).map (fun b=>if lto nt k b<i then atL h (lto nt k b) else []),()))) nt.2.length (R:=some ((List.range (prog nt k).1.toNat).map (fun b=>if lto nt k b<nt.2.length then atL h (lto nt k b) else []),())) (fun ih i hi=>?_) (fun ih=>br_no (Int.lt_irrefl _)) (by omega)).trans ?_
 ·have hx:=o.ends i hi
  have e1:nt.2.getD i zLink=nt.2[i]:=getD_lt hi _
  have e2:lnk nt i=nt.2[i]:=e1
  have hgo:∀ b,b<(prog nt k).1.toNat→lto nt k b=i→nt.2[i].2.2.1=(k:Int)∧nt.2[i].2.2.2.1=(b:Int):=by
   intro b hb e
   have:=lto_spec o hk (b:=b) (by omega)
   rw [e,e2] at this; exact this.2
  show br (decide ((i:Int)<(nt.2.length:Int))) _ _=_
  rw [br_yes (by omega),chk_true (by omega)]
  simp only [Int.toNat_natCast,e1]
  rw [w64_succ (by omega)]
  by_cases hto:nt.2[i].2.2.1=(k:Int)
  ·rw [br_yes hto]
   have hI:InOk nt nt.2[i]:=by
    rcases hx.inn with h | h
    ·omega
    ·exact h
   obtain ⟨i1,i2,i3,i4⟩:=hI
   have hb:nt.2[i].2.2.2.1<(prog nt k).1:=by
    rw [hto,Int.toNat_natCast] at i4; exact i4
   obtain ⟨b,eb⟩:∃ b:Nat,nt.2[i].2.2.2.1=(b:Int):=⟨nt.2[i].2.2.2.1.toNat,by omega⟩
   have hu:lto nt k b=i:=lto_uniq o hi hk (by omega) (by rw [e2]; exact hto) (by rw [e2]; exact eb)
   rw [eb,chk_true (by omega),chk_true (by simp; omega)]
   simp only [Int.toNat_natCast]
   rw [map_set]
   congr 2
   refine congrArg (fun l=>(l,())) (List.map_congr_left (fun c hc=>?_))
   unfold upd
   by_cases hcb:c=b
   ·subst hcb; rw [if_pos rfl,hu,if_pos (by omega)]; rfl
   ·rw [if_neg hcb]
    have:lto nt k c≠i:=fun e=>by
     have:=hgo c (List.mem_range.1 hc) e
     omega
    show (if lto nt k c<i then atL h (lto nt k c) else [])=_
    by_cases h1:lto nt k c<i
    ·rw [if_pos h1,if_pos (by omega)]
    ·rw [if_neg h1,if_neg (by omega)]
  ·rw [br_no hto]
   congr 2
   refine congrArg (fun l=>(l,())) (List.map_congr_left (fun c hc=>?_))
   have:lto nt k c≠i:=fun e=>hto (hgo c (List.mem_range.1 hc) e).1
   by_cases h1:lto nt k c<i
   ·rw [if_pos h1,if_pos (by omega)]
   ·rw [if_neg h1,if_neg (by omega)]
 ·congr 2
  refine List.map_congr_left (fun c hc=>?_)
  have hc:=List.mem_range.1 hc
  have:=lto_spec o hk (b:=c) (by omega)
  unfold inF
  rw [if_pos this.1,if_pos (by omega)]
theorem sL4Inputs_spec {n : Nat} {nt : Network} {h : List (List Int)} {k : Nat} (o : OkN nt) (hk : k < nt.1.length) (hh : h.length = nt.2.length) (hn : 1048576 < n) :
    sL4Inputs.f n nt h (k : Int) = some ((List.range (prog nt k).1.toNat).map (inF nt (atL h) k), ()) := by
  have hp := okP_n (okP_of o hk)
  have hli := o.links
  unfold sL4Inputs.f
  refine (iter_line (fun i => ((i : Int), ((List.range i).map (inF nt (atL h) k), ()))) (prog nt k).1.toNat (R := some ((List.range (prog nt k).1.toNat).map (inF nt (atL h) k), ())) (fun ih i hi => ?_) (fun ih => ?_) (by omega))
  · have hl := lto_spec o hk (b := i) (by omega)
    have e0 : 0 ≤ onlyIx (isTo (k : Int) (i : Int)) nt.2 := by
      have hi' : (i : Int) < nt.1[k].1 := by have : (i : Int) < (prog nt k).1 := by omega
                                             unfold prog at this; rwa [getD_lt hk] at this
      obtain ⟨j, hj, hf, e⟩ := onlyIx_ex (o.ins k hk i hi')
      omega
    have e3 : onlyIx (isTo (k : Int) (i : Int)) nt.2 = (lto nt k i : Int) := by unfold lto; omega
    show chk (0 ≤ (k : Int) ∧ (k : Int) < (nt.1.length : Int)) _ = _
    rw [chk_true (by omega)]
    simp only [Int.toNat_natCast]
    have c1 : (i : Int) < (nt.1.getD k zProgram).1 := show (i : Int) < (prog nt k).1 by omega
    rw [br_yes c1, sL3To_spec (by omega) hn, bind_unit, e3, chk_true (by omega)]
    simp only [Int.toNat_natCast]
    rw [small_chk (by simp; omega), w64_succ (by omega), List.range_succ, List.map_append]
    have : inF nt (atL h) k i = h.getD (lto nt k i) [] := by unfold inF; rw [if_pos (by omega)]; rfl
    rw [List.map_singleton, this]
  · show chk (0 ≤ (k : Int) ∧ (k : Int) < (nt.1.length : Int)) _ = _
    rw [chk_true (by omega)]
    simp only [Int.toNat_natCast]
    have c1 : ¬ (((prog nt k).1.toNat : Nat) : Int) < (nt.1.getD k zProgram).1 := show ¬ (((prog nt k).1.toNat : Nat) : Int) < (prog nt k).1 by omega
    rw [br_no c1]
def Hist (nt:Network) (h:List (List Int)):Prop:=h.length=nt.2.length∧∀ j,okS (atL h j)=true
theorem inF_okS {nt:Network} {h:List (List Int)} (H:Hist nt h) (k b:Nat):okS (inF nt (atL h) k b)=true:=by
 unfold inF; split
 ·exact H.2 _
 ·decide
theorem pushC_loop {β γ ρ:Type} (len:Nat) (g:Nat→β) (ok:Nat→Bool) (st:Int→List β→γ) {F:(γ→Option ρ)→γ→Option ρ} {R bad:Option ρ}
  (h1:∀ ih (i:Nat),i<len→F ih (st i ((List.range i).map g))=if ok i=true then ih (st ((i+1:Nat):Int) ((List.range (i+1)).map g)) else bad)
  (h2:∀ ih,F ih (st len ((List.range len).map g))=R) {n:Nat} (hn:len<n):iter n F (st 0 [])=if (List.range len).all ok=true then R else bad:=by
 have:∀ k i,i+k=len→∀ n,k<n→iter n F (st (i:Int) ((List.range i).map g))=if (List.range' i k).all ok=true then R else bad:=by
  intro k
  induction k with
  | zero=>
   intro i e n hn
   obtain ⟨m,rfl⟩:∃ m,n=m+1:=⟨n-1,by omega⟩
   have e:i=len:=by omega
   subst e
   exact (h2 _).trans (by simp)
  | succ k ih=>
   intro i e n hn
   obtain ⟨m,rfl⟩:∃ m,n=m+1:=⟨n-1,by omega⟩
   refine (h1 _ i (by omega)).trans ?_
   rw [List.range'_succ,List.all_cons]
   cases ok i
   ·simp
   ·rw [if_pos rfl]; exact (ih (i+1) (by omega) m (by omega)).trans (by rw [Bool.true_and])
 have h:=this len 0 (by omega) n hn
 rw [← List.range_eq_range'] at h
 exact h
def outK (nt:Network) (h:List (List Int)) (k:Nat):List (List Int):=outL (prog nt k) (runK nt (atL h) k).1
theorem al_out {nt:Network} {h:List (List Int)} {k:Nat} (H:Hist nt h) (o:OkN nt) (hk:k<nt.1.length) {b:Nat} : ((runK nt (atL h) k).1.2.1 b).length≤400∧(∀ x∈(runK nt (atL h) k).1.2.1 b,tok x=true):=by
 have key:∀ (f:Nat) (c:Lc),okA (prog nt k) c.1=true→Wf (inF nt (atL h) k) c→(∀ b,∀ x∈c.2.1 b,tok x=true)→∀ b,((al (prog nt k) (inF nt (atL h) k) f c).1.2.1 b).length≤400∧∀ x∈(al (prog nt k) (inF nt (atL h) k) f c).1.2.1 b,tok x=true:=by
  intro f
  induction f with
  | zero=>
   intro c ha w ht b
   unfold al
   split<;>exact ⟨w.wr b,ht b⟩
  | succ f ih=>
   intro c ha w ht b
   unfold al
   by_cases hs:stopB (prog nt k) (inF nt (atL h) k) c=true
   ·rw [if_pos hs]; exact ⟨w.wr b,ht b⟩
   ·rw [if_neg hs]
    obtain ⟨d,ed,wd⟩:=lstep_stop (p:=prog nt k) w (by simpa using hs)
    rw [ed]
    refine ih d (lstep_tok (okP_of o hk) ha (inF_okS H k) ed) wd (fun b=>?_) b
    unfold lstep at ed
    split at ed
    ·cases ed
    ·rename_i h0
     have hlt:=wantP_pc h0
     have hpc:=okA_pc ha
     split at ed
     ·split at ed
      ·cases ed; exact ht b
      ·cases ed
     ·split at ed
      ·cases ed
       show ∀ x∈upd _ _ _ b,tok x=true
       unfold upd
       split
       ·intro x hx
        rcases List.mem_append.1 hx with hx | hx
        ·exact ht _ x hx
        ·rw [List.mem_singleton.1 hx]; exact (stepA_ok (token:=0) (okP_of o hk) ha (by omega) (by decide)).2
       ·exact ht b
      ·cases ed; exact ht b
 exact key 3000 c0 (newA_ok (okP_of o hk)) (wf_c0 _) (fun b x hx=>by simp [c0] at hx) b
theorem rnd_pack {nt:Network} {h:List (List Int)} {n:Nat} (o:OkN nt) (H:Hist nt h) (hn:1048576<n) :
  rndP nt h=if (List.range nt.1.length).all (fun k=>decide ((runK nt (atL h) k).2.1≠1)&&decide ((runK nt (atL h) k).2.1≠3))=true then (if (List.range nt.2.length).all (fun j=>okS (newS nt (atL h) j))=true then some ((List.range nt.2.length).map (newS nt (atL h))) else none) else none:=by
 unfold rndP rndOk
 simp only [Bool.and_eq_true]
 by_cases h1:(List.range nt.1.length).all (fun k=>decide ((runK nt (atL h) k).2.1≠1)&&decide ((runK nt (atL h) k).2.1≠3))=true
 ·by_cases h2:(List.range nt.2.length).all (fun j=>okS (newS nt (atL h) j))=true
  ·rw [if_pos ⟨h1,h2⟩,if_pos h1,if_pos h2]
  ·rw [if_neg (fun h=>h2 h.2),if_pos h1,if_neg h2]
 ·rw [if_neg (fun h=>h1 h.1),if_neg h1]
theorem runK_of {nt:Network} {h:List (List Int)} {k:Nat} (o:OkN nt) (hk:k<nt.1.length):al (prog nt k) (atL ((List.range (prog nt k).1.toNat).map (inF nt (atL h) k))) 3000 c0=runK nt (atL h) k:=by
 rw [inF_get hk o]; rfl
theorem iRound_spec {n:Nat} {nt:Network} {h:List (List Int)} (o:OkN nt) (H:Hist nt h) (hn:1048576<n):iRound.f n nt h=some (match rndP nt h with | some g=>(g,(true,())) | none=>([],(false,()))):=by
 have hpr:=o.progs
 have hli:=o.links
 unfold iRound.f
 rw [rnd_pack (n:=n) o H hn]
 refine (pushC_loop nt.1.length (outK nt h) (fun k=>decide ((runK nt (atL h) k).2.1≠1)&&decide ((runK nt (atL h) k).2.1≠3)) (fun i s=>(i,(s,()))) (bad:=some ([],(false,()))) (fun ih k hk=>?_) (fun ih=>br_no (Int.lt_irrefl _)) (by omega)).trans ?_
 ·have hI:∀ b,okS (atL ((List.range (prog nt k).1.toNat).map (inF nt (atL h) k)) b)=true:=fun b=>by
   rw [inF_get hk o]; exact inF_okS H k b
  have c1:(k:Int)<(nt.1.length:Int):=by omega
  show br (decide ((k:Int)<(nt.1.length:Int))) _ _=_
  rw [br_yes c1,chk_true (by omega)]
  simp only [Int.toNat_natCast]
  rw [inputsFor_spec o hk H.1 hn,bind_unit]
  have ha:=alone_spec (n:=n) (p:=prog nt k) (okP_of o hk) (I:=(List.range (prog nt k).1.toNat).map (inF nt (atL h) k)) (by simp) hI hn
  rw [runK_of o hk] at ha
  rw [show nt.1.getD k zProgram=prog nt k from rfl]
  simp only [ha,bind_unit]
  by_cases h1:(runK nt (atL h) k).2.1=1
  ·rw [br_yes h1]; simp [cut_inr,h1,br_true]
  ·rw [br_no h1,cut_inr]
   by_cases h3:(runK nt (atL h) k).2.1=3
   ·simp only [h3,decide_true,br_true]; rfl
   ·simp only [h1,h3,decide_false,br_false,ne_eq,not_false_eq_true,decide_true,Bool.and_self,if_true]
    rw [small_chk (by simp; omega),w64_succ (by omega),List.range_succ,List.map_append]; rfl
 by_cases hall:(List.range nt.1.length).all (fun k=>decide ((runK nt (atL h) k).2.1≠1)&&decide ((runK nt (atL h) k).2.1≠3))=true
 rotate_left
 ·rw [if_neg hall,if_neg hall]
 rw [if_pos hall,if_pos hall]
 refine (pushC_loop nt.2.length (newS nt (atL h)) (fun j=>okS (newS nt (atL h) j)) (fun i s=>(i,(s,()))) (bad:=some ([],(false,()))) (R:=some ((List.range nt.2.length).map (newS nt (atL h)),(true,()))) (fun ih j hj=>?_) (fun ih=>br_no (Int.lt_irrefl _)) (by omega)).trans ?_
 rotate_left
 ·by_cases h2:(List.range nt.2.length).all (fun j=>okS (newS nt (atL h) j))=true
  ·rw [if_pos h2,if_pos h2]
  ·rw [if_neg h2,if_neg h2]
 have e1:nt.2.getD j zLink=lnk nt j:=rfl
 have ht:=(okS_len (o.toks j hj)).1
 have e2:lnk nt j=nt.2[j]:=getD_lt hj _
 have ht2:(lnk nt j).2.2.2.2.length≤400:=by rw [e2]; exact ht
 have c1:(j:Int)<(nt.2.length:Int):=by omega
 show br (decide ((j:Int)<(nt.2.length:Int))) _ _=_
 rw [br_yes c1,chk_true (by omega)]
 simp only [Int.toNat_natCast,e1]
 rw [cloneI_run (by omega),bind_unit]
 have hcut:(br (decide (0≤(lnk nt j).1)) (chk (0≤(lnk nt j).1∧(lnk nt j).1<(((List.range nt.1.length).map (outK nt h)).length:Int)) (chk (0≤(lnk nt j).2.1∧(lnk nt j).2.1<((((List.range nt.1.length).map (outK nt h)).getD (lnk nt j).1.toNat []).length:Int)) (chk (((lnk nt j).2.2.2.2.length+((((List.range nt.1.length).map (outK nt h)).getD (lnk nt j).1.toNat []).getD (lnk nt j).2.1.toNat []).length)*8≤maxB) (some (Sum.inr (α:=List (List Int)×(Bool×Unit)) (((lnk nt j).2.2.2.2++((((List.range nt.1.length).map (outK nt h)).getD (lnk nt j).1.toNat []).getD (lnk nt j).2.1.toNat [])),())))))) (some (.inr ((lnk nt j).2.2.2.2,()))))=some (.inr (newS nt (atL h) j,())):=by
  unfold newS
  by_cases hf:0≤(lnk nt j).1
  ·have hx:=(o.ends j hj).out
   rw [← e2] at hx
   have hO:OutOk nt (lnk nt j):=by
    rcases hx with h | h
    ·omega
    ·exact h
   obtain ⟨o1,o2,o3,o4⟩:=hO
   have hk:(lnk nt j).1.toNat<nt.1.length:=by omega
   have o4':(lnk nt j).2.1<(prog nt (lnk nt j).1.toNat).2.1:=o4
   have g1:((List.range nt.1.length).map (outK nt h)).getD (lnk nt j).1.toNat []=outK nt h (lnk nt j).1.toNat:=map_get hk
   have g2:(outK nt h (lnk nt j).1.toNat).getD (lnk nt j).2.1.toNat []=(runK nt (atL h) (lnk nt j).1.toNat).1.2.1 (lnk nt j).2.1.toNat:=outL_get (by omega)
   have g3:=(al_out H o hk (b:=(lnk nt j).2.1.toNat)).1
   have g4:(outK nt h (lnk nt j).1.toNat).length=(prog nt (lnk nt j).1.toNat).2.1.toNat:=outL_len _ _
   rw [br_yes hf,if_pos hf,g1,g2,chk_true (by simp; omega),chk_true (by omega),small_chk (by omega)]; rfl
  ·rw [br_no hf,if_neg hf,List.append_nil]; rfl
 rw [hcut,cut_inr]
 have hlen:(newS nt (atL h) j).length≤1048576:=by
  unfold newS
  split
  ·rename_i hf
   have hx:=(o.ends j hj).out
   rw [← e2] at hx
   have hO:OutOk nt (lnk nt j):=by
    rcases hx with h | h
    ·omega
    ·exact h
   have g3:=(al_out H o (k:=(lnk nt j).1.toNat) (by have:=hO.2.1; omega) (b:=(lnk nt j).2.1.toNat)).1
   rw [List.length_append]; unfold toks; omega
  ·rw [List.append_nil]; unfold toks; omega
 simp only
 rw [iIsStream_spec hlen hn,bind_unit]
 cases hs:okS (newS nt (atL h) j)
 ·rfl
 ·simp only [Bool.not_true,br_false,if_true]
  rw [small_chk (by simp; omega),w64_succ (by omega),List.range_succ,List.map_append]; rfl
theorem sL4Round_spec {n:Nat} {nt:Network} {h:List (List Int)} (o:OkN nt) (H:Hist nt h) (hn:1048576<n):sL4Round.f n nt h=some (match rndP nt h with | some g=>(g,(true,())) | none=>([],(false,()))):=by
 have hpr:=o.progs
 have hli:=o.links
 unfold sL4Round.f
 rw [rnd_pack (n:=n) o H hn]
 refine (pushC_loop nt.1.length (outK nt h) (fun k=>decide ((runK nt (atL h) k).2.1≠1)&&decide ((runK nt (atL h) k).2.1≠3)) (fun i s=>(i,(s,()))) (bad:=some ([],(false,()))) (fun ih k hk=>?_) (fun ih=>br_no (Int.lt_irrefl _)) (by omega)).trans ?_
 ·have hI:∀ b,okS (atL ((List.range (prog nt k).1.toNat).map (inF nt (atL h) k)) b)=true:=fun b=>by
   rw [inF_get hk o]; exact inF_okS H k b
  have c1:(k:Int)<(nt.1.length:Int):=by omega
  show br (decide ((k:Int)<(nt.1.length:Int))) _ _=_
  rw [br_yes c1,chk_true (by omega)]
  simp only [Int.toNat_natCast]
  rw [sL4Inputs_spec o hk H.1 hn,bind_unit]
  have ha:=sL2Run_spec (n:=n) (p:=prog nt k) (okP_of o hk) (I:=(List.range (prog nt k).1.toNat).map (inF nt (atL h) k)) (by simp) hI hn
  rw [runK_of o hk] at ha
  rw [show nt.1.getD k zProgram=prog nt k from rfl]
  simp only [ha,bind_unit]
  by_cases h1:(runK nt (atL h) k).2.1=1
  ·rw [br_yes h1]; simp [cut_inr,h1,br_true]
  ·rw [br_no h1,cut_inr]
   by_cases h3:(runK nt (atL h) k).2.1=3
   ·simp only [h3,decide_true,br_true]; rfl
   ·simp only [h1,h3,decide_false,br_false,ne_eq,not_false_eq_true,decide_true,Bool.and_self,if_true]
    rw [small_chk (by simp; omega),w64_succ (by omega),List.range_succ,List.map_append]; rfl
 by_cases hall:(List.range nt.1.length).all (fun k=>decide ((runK nt (atL h) k).2.1≠1)&&decide ((runK nt (atL h) k).2.1≠3))=true
 rotate_left
 ·rw [if_neg hall,if_neg hall]
 rw [if_pos hall,if_pos hall]
 refine (pushC_loop nt.2.length (newS nt (atL h)) (fun j=>okS (newS nt (atL h) j)) (fun i s=>(i,(s,()))) (bad:=some ([],(false,()))) (R:=some ((List.range nt.2.length).map (newS nt (atL h)),(true,()))) (fun ih j hj=>?_) (fun ih=>br_no (Int.lt_irrefl _)) (by omega)).trans ?_
 rotate_left
 ·by_cases h2:(List.range nt.2.length).all (fun j=>okS (newS nt (atL h) j))=true
  ·rw [if_pos h2,if_pos h2]
  ·rw [if_neg h2,if_neg h2]
 have e1:nt.2.getD j zLink=lnk nt j:=rfl
 have ht:=(okS_len (o.toks j hj)).1
 have e2:lnk nt j=nt.2[j]:=getD_lt hj _
 have ht2:(lnk nt j).2.2.2.2.length≤400:=by rw [e2]; exact ht
 have c1:(j:Int)<(nt.2.length:Int):=by omega
 show br (decide ((j:Int)<(nt.2.length:Int))) _ _=_
 rw [br_yes c1,chk_true (by omega)]
 simp only [Int.toNat_natCast,e1]
 rw [sL1Copy_run (by omega),bind_unit]
 have hcut:(br (decide (0≤(lnk nt j).1)) (chk (0≤(lnk nt j).1∧(lnk nt j).1<(((List.range nt.1.length).map (outK nt h)).length:Int)) (chk (0≤(lnk nt j).2.1∧(lnk nt j).2.1<((((List.range nt.1.length).map (outK nt h)).getD (lnk nt j).1.toNat []).length:Int)) (chk (((lnk nt j).2.2.2.2.length+((((List.range nt.1.length).map (outK nt h)).getD (lnk nt j).1.toNat []).getD (lnk nt j).2.1.toNat []).length)*8≤maxB) (some (Sum.inr (α:=List (List Int)×(Bool×Unit)) (((lnk nt j).2.2.2.2++((((List.range nt.1.length).map (outK nt h)).getD (lnk nt j).1.toNat []).getD (lnk nt j).2.1.toNat [])),())))))) (some (.inr ((lnk nt j).2.2.2.2,()))))=some (.inr (newS nt (atL h) j,())):=by
  unfold newS
  by_cases hf:0≤(lnk nt j).1
  ·have hx:=(o.ends j hj).out
   rw [← e2] at hx
   have hO:OutOk nt (lnk nt j):=by
    rcases hx with h | h
    ·omega
    ·exact h
   obtain ⟨o1,o2,o3,o4⟩:=hO
   have hk:(lnk nt j).1.toNat<nt.1.length:=by omega
   have o4':(lnk nt j).2.1<(prog nt (lnk nt j).1.toNat).2.1:=o4
   have g1:((List.range nt.1.length).map (outK nt h)).getD (lnk nt j).1.toNat []=outK nt h (lnk nt j).1.toNat:=map_get hk
   have g2:(outK nt h (lnk nt j).1.toNat).getD (lnk nt j).2.1.toNat []=(runK nt (atL h) (lnk nt j).1.toNat).1.2.1 (lnk nt j).2.1.toNat:=outL_get (by omega)
   have g3:=(al_out H o hk (b:=(lnk nt j).2.1.toNat)).1
   have g4:(outK nt h (lnk nt j).1.toNat).length=(prog nt (lnk nt j).1.toNat).2.1.toNat:=outL_len _ _
   rw [br_yes hf,if_pos hf,g1,g2,chk_true (by simp; omega),chk_true (by omega),small_chk (by omega)]; rfl
  ·rw [br_no hf,if_neg hf,List.append_nil]; rfl
 rw [hcut,cut_inr]
 have hlen:(newS nt (atL h) j).length≤1048576:=by
  unfold newS
  split
  ·rename_i hf
   have hx:=(o.ends j hj).out
   rw [← e2] at hx
   have hO:OutOk nt (lnk nt j):=by
    rcases hx with h | h
    ·omega
    ·exact h
   have g3:=(al_out H o (k:=(lnk nt j).1.toNat) (by have:=hO.2.1; omega) (b:=(lnk nt j).2.1.toNat)).1
   rw [List.length_append]; unfold toks; omega
  ·rw [List.append_nil]; unfold toks; omega
 simp only
 rw [sIsStream_spec hlen hn,bind_unit]
 cases hs:okS (newS nt (atL h) j)
 ·rfl
 ·simp only [Bool.not_true,br_false,if_true]
  rw [small_chk (by simp; omega),w64_succ (by omega),List.range_succ,List.map_append]; rfl
theorem hist_sz {nt:Network} {h:List (List Int)} (H:Hist nt h) (o:OkN nt):h.length≤30∧∀ j,(atL h j).length≤400:=⟨by have:=o.links; have:=H.1; omega,fun j=>(okS_len (H.2 j)).1⟩
theorem rnd_hist {nt:Network} {h g:List (List Int)} (e:rndP nt h=some g):Hist nt g:=by
 obtain ⟨ok,rfl⟩:=rndP_some e
 refine ⟨by simp,fun j=>?_⟩
 by_cases hj:j<nt.2.length
 ·rw [atL_map hj]; exact rnd_ok ok hj
 ·rw [atL_big (by omega)]; decide
theorem eq_of_atL {a b:List (List Int)} (hl:a.length=b.length) (h:∀ i,i<a.length→atL a i=atL b i):a=b:=by
 refine List.ext_getElem hl (fun i h1 h2=>?_)
 have:=h i h1
 unfold atL at this
 rwa [getD_lt h1,getD_lt h2] at this
theorem equalStreams_spec {n:Nat} {a b:List (List Int)} (hl:a.length≤1048576) (hs:∀ i,(atL a i).length≤1048576) (hn:1048576<n):equalStreams.f n a b=some (decide (a=b),()):=by
 have:eqFuncSS.f n a b ()=some (decide (a=b),()):=by
  unfold eqFuncSS.f
  by_cases h:a.length=b.length
  ·have h':(a.length:Int)=(b.length:Int):=by omega
   rw [show (!decide ((a.length:Int)=(b.length:Int)))=false by simp [h'],br_false]
   refine W_dec (W_chkloop (bad:=some (false,())) a.length (fun i=>decide (atL a i=atL b i)) (fun ih i hi=>?_) (fun ih=>br_no (Int.lt_irrefl _)) (by omega) (fun hok=>?_) (fun i hi hb=>?_))
   ·have h1:(i:Int)<(a.length:Int):=by omega
    simp only [h1,decide_true,br_true,Int.toNat_natCast]
    have e:=equalI_spec (n:=n) (a:=a.getD i []) (b:=b.getD i []) (hs i) hn
    rw [chk_true (by simp),chk_true (by simp; omega),w64_succ (by omega),e,bind_unit]
    exact br_nif
   ·simp only [W_some,true_iff]
    exact eq_of_atL h (fun i hi=>by simpa using hok i hi)
   ·simp only [W_some]
    constructor
    ·intro h; cases h
    ·intro e; subst e; simp at hb
  ·rw [show (!decide ((a.length:Int)=(b.length:Int)))=true by simp; omega,br_true,decide_eq_false (fun e=>h (by rw [e]))]
 unfold equalStreams.f
 rw [this]; rfl
theorem sL4Same_spec {n:Nat} {a b:List (List Int)} (hl:a.length≤1048576) (hs:∀ i,(atL a i).length≤1048576) (hn:1048576<n):sL4Same.f n a b=some (decide (a=b),()):=by
 unfold sL4Same.f
 by_cases h:a.length=b.length
 ·have h':(a.length:Int)=(b.length:Int):=by omega
  rw [show (!decide ((a.length:Int)=(b.length:Int)))=false by simp [h'],br_false]
  refine W_dec (W_chkloop (bad:=some (false,())) a.length (fun i=>decide (atL a i=atL b i)) (fun ih i hi=>?_) (fun ih=>br_no (Int.lt_irrefl _)) (by omega) (fun hok=>?_) (fun i hi hb=>?_))
  ·have h1:(i:Int)<(a.length:Int):=by omega
   simp only [h1,decide_true,br_true,Int.toNat_natCast]
   have e:=sL1Begins_spec (n:=n) (a:=atL a i) (b:=atL b i) (hs i) hn
   rw [chk_true (by simp),chk_true (by simp; omega),chk_true (by simp; omega),w64_succ (by omega)]
   show br (!decide (((atL a i).length:Int)=((atL b i).length:Int))) (some (false,())) ((sL1Begins.f n (atL a i) (atL b i)).bind _)=_
   rw [e,bind_unit]
   by_cases hL:(atL a i).length=(atL b i).length
   ·rw [show (!decide (((atL a i).length:Int)=((atL b i).length:Int)))=false by simp; omega,br_false]
    have:decide (atL a i <+: atL b i)=decide (atL a i=atL b i):=by
     by_cases hp:atL a i <+: atL b i
     ·rw [decide_eq_true hp,decide_eq_true (hp.eq_of_length hL)]
     ·rw [decide_eq_false hp,decide_eq_false (fun e=>hp (by rw [e]; exact List.prefix_rfl))]
    rw [this]; exact br_nif
   ·rw [show (!decide (((atL a i).length:Int)=((atL b i).length:Int)))=true by simp; omega,br_true,decide_eq_false (fun e=>hL (by rw [e]))]
    rfl
  ·simp only [W_some,true_iff]
   exact eq_of_atL h (fun i hi=>by simpa using hok i hi)
  ·simp only [W_some]
   constructor
   ·intro h; cases h
   ·intro e; subst e; simp at hb
 ·rw [show (!decide ((a.length:Int)=(b.length:Int)))=true by simp; omega,br_true,decide_eq_false (fun e=>h (by rw [e]))]
theorem tokL_hist {nt:Network} (o:OkN nt):Hist nt (tokL nt):=by
 refine ⟨by simp [tokL],fun j=>?_⟩
 rw [atL_tokL]
 unfold toks lnk
 by_cases hj:j<nt.2.length
 ·rw [getD_lt hj]; exact o.toks j hj
 ·rw [List.getD_eq_getElem?_getD,List.getElem?_eq_none (by omega)]; decide
def leastR (nt:Network) (m:Nat) (r:Int) (h:List (List Int)):List (List Int)×(Int×(Bool×Unit)):=match leastF nt m r h with | some (g,r')=>(g,(r',(true,()))) | none=>([],(0,(false,())))
theorem least_loop {nt:Network} (o:OkN nt) {F:(Int×(List (List Int)×Unit)→Option (List (List Int)×(Int×(Bool×Unit))))→Int×(List (List Int)×Unit)→Option (List (List Int)×(Int×(Bool×Unit)))}
  (hF:∀ ih (r:Int) h,Hist nt h→F ih (r,(h,()))=if r≤300 then (match rndP nt h with | none=>some ([],(0,(false,()))) | some g=>if g=h then some (h,(r,(true,()))) else ih (w64 (r+1),(g,()))) else some ([],(0,(false,())))) :
  ∀ (m n:Nat) (r:Int) h,Hist nt h→0≤r→r+m=301→m<n→iter n F (r,(h,()))=some (leastR nt m r h)
 | 0,n+1,r,h,H,h0,hr,hn=>by
  refine (hF _ r h H).trans ?_
  rw [if_neg (by omega)]; rfl
 | m+1,n+1,r,h,H,h0,hr,hn=>by
  refine (hF _ r h H).trans ?_
  rw [if_pos (by omega)]
  unfold leastR leastF
  cases e:rndP nt h with
  | none=>rfl
  | some g=>
   simp only
   by_cases hg:g=h
   ·rw [if_pos hg,if_pos hg]
   ·rw [if_neg hg,if_neg hg,w64_id (by omega) (by omega)]
    exact least_loop o hF m n (r+1) g (rnd_hist e) (by omega) (by omega) (by omega)
theorem iLeast_spec {n:Nat} {nt:Network} (h:SmallN nt) (o:OkN nt) (hn:1048576<n):iLeast.f n nt=some (leastR nt 300 1 (tokL nt)):=by
 unfold iLeast.f
 rw [iIsNetwork_spec h hn,show okN nt=true by simp [okN,o],bind_unit,Bool.not_true,br_false]
 refine push_loopE nt.2 (fun l=>l.2.2.2.2) (fun i s=>(i,(s,()))) (fun ih i hi s hs=>?_) (fun ih=>?_) (by have:=h.links; omega)
 ·have c1:(i:Int)<(nt.2.length:Int):=by omega
  have e1:nt.2.getD i zLink=nt.2[i]:=getD_lt hi _
  show br (decide ((i:Int)<(nt.2.length:Int))) _ _=_
  have hl:=o.links
  rw [br_yes c1,chk_true ⟨Int.natCast_nonneg i,c1⟩]
  simp only [Int.toNat_natCast,e1]
  rw [cloneI_run (h.link _ (List.getElem_mem hi)).tokens,Option.bind_some,small_chk (by simp; omega),w64_succ (by omega)]
 ·show br (decide ((nt.2.length:Int)<(nt.2.length:Int))) _ _=_
  rw [br_no (Int.lt_irrefl _)]
  refine least_loop o (fun ih r g H=>?_) 300 n 1 (tokL nt) (tokL_hist o) (by omega) (by omega) (by omega)
  show br (decide (r≤300)) _ _=_
  by_cases hr:r≤300
  ·rw [br_yes hr,if_pos hr,iRound_spec o H hn,bind_unit]
   cases e:rndP nt g with
   | none=>rfl
   | some g'=>
    have H':=hist_sz (rnd_hist e) o
    simp only [Bool.not_true,br_false]
    rw [equalStreams_spec (by have:=H'.1; omega) (fun i=>by have:=H'.2 i; omega) hn,bind_unit]
    exact brd
  ·rw [br_no hr,if_neg hr]
theorem sLeast_spec {n:Nat} {nt:Network} (h:SmallN nt) (o:OkN nt) (hn:1048576<n):sLeast.f n nt=some (leastR nt 300 1 (tokL nt)):=by
 unfold sLeast.f
 rw [sIsNetwork_spec h hn,show okN nt=true by simp [okN,o],bind_unit,Bool.not_true,br_false,sL4Tokens_spec h hn,bind_unit]
 refine least_loop o (fun ih r g H=>?_) 300 n 1 (tokL nt) (tokL_hist o) (by omega) (by omega) (by omega)
 show br (decide (r≤300)) _ _=_
 by_cases hr:r≤300
 ·rw [br_yes hr,if_pos hr,sL4Round_spec o H hn,bind_unit]
  cases e:rndP nt g with
  | none=>rfl
  | some g'=>
   have H':=hist_sz (rnd_hist e) o
   simp only [Bool.not_true,br_false]
   rw [sL4Same_spec (by have:=H'.1; omega) (fun i=>by have:=H'.2 i; omega) hn,bind_unit]
   exact brd
 ·rw [br_no hr,if_neg hr]
end Go.AmT
namespace Go.AmT
open Go Go.Am Go.Proofs
set_option linter.unusedVariables false
set_option maxRecDepth 100000
def tys28:List (Nat×TInfo):=[(3,⟨false,1,8,[.int .i64 0],.int .i64,0,some I,[],false⟩),
 (23,⟨false,1,24,[.nil],.slice,68,some (.sl tProgram),[],false⟩),
 (24,⟨false,1,24,[.nil],.slice,71,some (.sl tLink),[],false⟩),
 (26,⟨true,2,48,[.nil,.nil],.struct,0,some tNetwork,[(0,23),(1,24)],false⟩),
 (32,⟨false,1,24,[.nil],.slice,3,some IS,[],false⟩),
 (66,⟨false,1,24,[.nil],.slice,122,some (.sl tInstr),[],false⟩),
 (68,⟨true,3,40,[.int .i64 0,.int .i64 0,.nil],.struct,0,some tProgram,[(0,3),(1,3),(2,66)],false⟩),
 (71,⟨true,5,56,[.int .i64 0,.int .i64 0,.int .i64 0,.int .i64 0,.nil],.struct,0,some tLink,[(0,3),(1,3),(2,3),(3,3),(4,32)],false⟩),
 (122,⟨true,4,32,[.int .i64 0,.int .i64 0,.int .i64 0,.int .i64 0],.struct,0,some tInstr,[(0,3),(1,3),(2,3),(3,3)],false⟩)]
theorem tys28_ok:(tys28.all fun p=>tokB Tryz.prog p.1 p.2)=true:=by kernel_rfl
noncomputable def cloneIn.f (n:Nat) (a0:List Instr):Option ((List Instr)×Unit):=chk ((([]:List Instr).length+a0.length)*32≤maxB) (some ((([]:List Instr)++a0),()))
noncomputable def cloneIn.mng (n:Nat):Mng:=⟨[.val (.sl tInstr)],[.val (.sl tInstr)],fun x=>cloneIn.f n x.1⟩
noncomputable def cloneIn.cfg (n:Nat):Cfg:=⟨tys28,[],[],[]⟩
theorem cloneIn.gof:GoF Tryz.prog 157:=⟨_,Tryz.func157,by kernel_rfl,by kernel_rfl⟩
theorem cloneIn.eq0:∀ (n:Nat),runNil (cloneIn.cfg n) n Tryz.f157 (annOf Tryz.f157 []) [.val (.sl tInstr)] [.val (.sl tInstr)] .nil [] []=some (([]:List Instr),()):=by
 intros
 kernel_rfl
theorem cloneIn.eq1:∀ (n:Nat) (a0:List Instr),runNil (cloneIn.cfg n) n Tryz.f157 (annOf Tryz.f157 []) [.val (.sl tInstr)] [.val (.sl tInstr)] (.osh tInstr (some a0)) [] []=cloneIn.f n a0:=by
 intros
 kernel_rfl
theorem cloneIn.sound (n:Nat):Sound Tryz.prog 157 (cloneIn.mng n):=
 runNil_sound (t:=tInstr) (ps:=[]) (rs:=[.val (.sl tInstr)]) (F:=fun x=>cloneIn.f n x.1) (regOK mixed (opOK (.of (c:=cloneIn.cfg n) trivial) (.of (c:=cloneIn.cfg n) trivial)) (tysOK tys28_ok)) (tysOK tys28_ok) Tryz.func157
  (fun x y hy hx=>by
   have hy:cloneIn.f n x.1=some y:=hy
   rw [hx] at hy
   unfold cloneIn.f chk at hy
   split at hy
   ·exact (cloneIn.eq0 n).trans hy
   ·simp at hy)
  (fun x y hy=>(cloneIn.eq1 n x.1).trans hy)
def iCopyProgram.las:List (Nat×LA):=[]
noncomputable def iCopyProgram.f (n:Nat) (a0:Program):Option (Program×Unit):=(cloneIn.f n a0.2.2).bind fun r1=>some ((a0.1,(a0.2.1,r1.1)),())
noncomputable def iCopyProgram.mng (n:Nat):Mng:=⟨[.val tProgram],[.val tProgram],fun x=>iCopyProgram.f n x.1⟩
noncomputable def iCopyProgram.cfg (n:Nat):Cfg:=⟨tys28,[(157,cloneIn.mng n)],[],[]⟩
theorem iCopyProgram.gof:GoF Tryz.prog 111:=⟨_,Tryz.func111,by kernel_rfl,by kernel_rfl⟩
theorem iCopyProgram.sound (n:Nat):Sound Tryz.prog 111 (iCopyProgram.mng n):=sndF (c:=iCopyProgram.cfg n) (n:=n) (an:=annOf Tryz.f111 iCopyProgram.las) ⟨⟨cloneIn.sound n,cloneIn.gof⟩,trivial⟩ trivial (tysOK tys28_ok) Tryz.func111 (fun x=>by kernel_rfl)
def iCopyNetwork.las:List (Nat×LA):=[(4,⟨[(3,.vptr 1000 0),(12,.int .i64)],[(1000,.cells [] [.own 1001 tProgram,.con (.nil)]),(1001,.row true tProgram)],[1,2,10,11],[]⟩),(13,⟨[(3,.vptr 1000 0),(27,.int .i64)],[(1000,.cells [] [.own 1001 tProgram,.own 1002 tLink]),(1001,.row true tProgram),(1002,.row true tLink)],[2,25,26],[]⟩)]
noncomputable def iCopyNetwork.f (n:Nat) (a0:Network):Option (Network×Unit):=iter (α:=(Int×(List Program)×Unit)) n (fun ih21 x20=>br (decide (x20.1<(a0.1.length:Int))) (chk (0≤x20.1∧x20.1<(a0.1.length:Int)) (let v22:=(a0.1.getD x20.1.toNat zProgram); (iCopyProgram.f n v22).bind fun r23=>chk ((x20.2.1.length+([r23.1]:List Program).length)*40≤maxB) (ih21 ((w64 (x20.1+1)),((x20.2.1++[r23.1]),()))))) (iter (α:=(Int×(List Program)×(List Link)×Unit)) n (fun ih38 x37=>br (decide (x37.1<(a0.2.length:Int))) (chk (0≤x37.1∧x37.1<(a0.2.length:Int)) (let v39:=(a0.2.getD x37.1.toNat zLink); (cloneI.f n v39.2.2.2.2).bind fun r40=>chk ((x37.2.2.1.length+([(v39.1,(v39.2.1,(v39.2.2.1,(v39.2.2.2.1,r40.1))))]:List Link).length)*56≤maxB) (ih38 ((w64 (x37.1+1)),(x37.2.1,((x37.2.2.1++[(v39.1,(v39.2.1,(v39.2.2.1,(v39.2.2.2.1,r40.1))))]),())))))) (some ((x37.2.1,x37.2.2.1),()))) (0,(x20.2.1,([],()))))) (0,([],()))
noncomputable def iCopyNetwork.mng (n:Nat):Mng:=⟨[.val tNetwork],[.val tNetwork],fun x=>iCopyNetwork.f n x.1⟩
noncomputable def iCopyNetwork.cfg (n:Nat):Cfg:=⟨tys28,[(111,iCopyProgram.mng n),(64,cloneI.mng n)],[],[]⟩
theorem iCopyNetwork.gof:GoF Tryz.prog 62:=⟨_,Tryz.func62,by kernel_rfl,by kernel_rfl⟩
theorem iCopyNetwork.sound (n:Nat):Sound Tryz.prog 62 (iCopyNetwork.mng n):=sndF (c:=iCopyNetwork.cfg n) (n:=n) (an:=annOf Tryz.f62 iCopyNetwork.las) ⟨⟨iCopyProgram.sound n,iCopyProgram.gof⟩,⟨⟨cloneI.sound n,cloneI.gof⟩,trivial⟩⟩ trivial (tysOK tys28_ok) Tryz.func62 (fun x=>by kernel_rfl)
end Go.AmT
namespace Go.AmT
open Go Go.Am
set_option linter.unusedVariables false
set_option linter.unusedSimpArgs false
theorem cloneI_spec {n:Nat} {a:List Int} (h:a.length≤1048576):cloneI.f n a=some (a,()):=by
 unfold cloneI.f
 rw [small_chk (by simp; omega)]; rfl
theorem cloneIn_spec {n:Nat} {a:List Instr} (h:a.length≤1048576):cloneIn.f n a=some (a,()):=by
 unfold cloneIn.f
 rw [small_chk (by simp; omega)]; rfl
theorem iCopyProgram_spec {n:Nat} {p:Program} (h:SmallP p):iCopyProgram.f n p=some (p,()):=by
 unfold iCopyProgram.f
 rw [cloneIn_spec h.code]; rfl
theorem iCopyNetwork_spec {n:Nat} {nt:Network} (h:SmallN nt) (hn:1048576<n):iCopyNetwork.f n nt=some (nt,()):=by
 have hp:=h.progs
 have hl:=h.links
 unfold iCopyNetwork.f
 refine Eq.trans (push_loop nt.1 id (fun i s=>(i,(s,()))) (R:=fun ps=>some ((ps,nt.2),())) (fun ih i hi s hs=>?_) (fun ih ps=>?_) (by omega)) (by simp)
 ·have c0:0≤(i:Int):=by omega
  have c1:(i:Int)<(nt.1.length:Int):=by omega
  have e1:nt.1.getD i zProgram=nt.1[i]:=getD_lt hi _
  simp only [c1,c0,and_self,chk_T,decide_true,br_true,Int.toNat_natCast,e1,iCopyProgram_spec (h.prog _ (List.getElem_mem hi)),Option.bind_some]
  rw [small_chk (by simp; omega),w64_succ (by omega)]; rfl
 ·simp only [br_no (Int.lt_irrefl _)]
  refine Eq.trans (push_loop nt.2 id (fun i s=>(i,(ps,(s,())))) (R:=fun ls=>some ((ps,ls),())) (fun ih i hi s hs=>?_) (fun ih ls=>br_no (Int.lt_irrefl _)) (by omega)) (by simp)
  have c0:0≤(i:Int):=by omega
  have c1:(i:Int)<(nt.2.length:Int):=by omega
  have e1:nt.2.getD i zLink=nt.2[i]:=getD_lt hi _
  simp only [c1,c0,and_self,chk_T,decide_true,br_true,Int.toNat_natCast,e1,cloneI_spec (h.link _ (List.getElem_mem hi)).tokens,Option.bind_some]
  rw [small_chk (by simp; omega),w64_succ (by omega)]; rfl
end Go.AmT
