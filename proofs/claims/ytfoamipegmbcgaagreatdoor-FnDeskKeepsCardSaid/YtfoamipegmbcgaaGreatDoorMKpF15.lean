/- The least streams, in plain Lean: both programs run each process alone, and go on in rounds until nothing changes. -/
import Derived.Test.YtfoamipegmbcgaaGreatDoorMKpF14
namespace Go.AmT
open Go Go.Am
set_option linter.unusedVariables false
set_option linter.unusedSimpArgs false
theorem Yy {n:Nat} {p:Program} {a:a_} {token:Int} (hp:cr p=true) (ha:eH p a=true) (h1:a.1<(p.2.2.length:Int)) :
  nI.f n p.1 p.2.1 p.2.2 token a.1 a.2=some (ny (ju p a) a,((iV p a token).1,((iV p a token).2,()))):=by
 have jU:=oa ha
 obtain ⟨hl,hr⟩:=BR ha
 have O:=Ec hp jU.1 h1
 have hlen:p.2.2.length≤24:=by
  unfold cr at hp
  simp only [Bool.and_eq_true,decide_eq_true_eq] at hp
  omega
 unfold nI.f iV
 rw [ah (by omega),bo (n:=a.1+1) (by omega) (by omega),show p.2.2.getD a.1.toNat je=ju p a from rfl]
 generalize ju p a=x at O
 have hA:=O.a
 have cA:0≤x.2.1∧x.2.1<(a.2.length:Int):=by omega
 have hs:=Nf cA
 have hb:=sX (nz (i:=x.2.2.1) hr)
 have hc:=sX (nz (i:=x.2.2.2) hr)
 have hm:=HZ hb hc
 simp only [ah cA]
 have aw:x.1=1∨x.1=2∨x.1=3∨x.1=4∨x.1=5∨x.1=6∨x.1=7∨x.1=8∨x.1=9∨x.1=10∨x.1=11:=by have:=O.op; omega
 have sY:=O.bc
 unfold zr ny w9
 have r0:∀ i,a.2.getD (Int.toNat i) 0=rg a.2 i:=fun i=>rfl
 simp only [r0]
 rcases aw with h | h | h | h | h | h | h | h | h | h | h
 ·simp only [h,decide_true,decide_false,aL,aF,Int.reduceEq,↓reduceIte,false_or,false_and,or_false]
 ·simp only [h,decide_true,decide_false,aL,aF,Int.reduceEq,↓reduceIte,false_or,false_and,or_false,hs]
 ·simp only [h,decide_true,decide_false,aL,aF,Int.reduceEq,↓reduceIte,false_or,false_and,or_false]
 ·have:=sY (by omega)
  simp only [h,decide_true,decide_false,aL,aF,Int.reduceEq,↓reduceIte,false_or,false_and,or_false]
  rw [ah (by omega),ah (by omega),bo (by omega) (by omega),zq]; rfl
 ·have:=sY (by omega)
  simp only [h,decide_true,decide_false,aL,aF,Int.reduceEq,↓reduceIte,false_or,false_and,or_false]
  rw [ah (by omega),ah (by omega),bo (by omega) (by omega),zq]; rfl
 ·have:=sY (by omega)
  simp only [h,decide_true,decide_false,aL,aF,Int.reduceEq,↓reduceIte,false_or,false_and,or_false]
  rw [ah (by omega),ah (by omega),bo (by omega) (by omega),zq]; rfl
 ·have:=sY (by omega)
  simp only [h,decide_true,decide_false,aL,aF,Int.reduceEq,↓reduceIte,false_or,false_and,or_false]
  rw [ah (by omega),ah (by omega),Nd n (nz hr)]; rfl
 ·simp only [h,decide_true,decide_false,aL,aF,Int.reduceEq,↓reduceIte,true_or,false_or,false_and,or_false,hs]
 ·simp only [h,decide_true,decide_false,aL,aF,Int.reduceEq,↓reduceIte,false_or,false_and,or_false,true_and,hs,iT]
  split<;>rfl
 ·simp only [h,decide_true,decide_false,aL,aF,Int.reduceEq,↓reduceIte,false_or,false_and,or_false,true_and,hs,iT]
  split<;>rfl
 ·simp only [h,decide_true,decide_false,aL,aF,Int.reduceEq,↓reduceIte,false_or,false_and,or_false,hs]
def dX (p:Program) (c:Lc):List (List Int):=(List.range p.2.1.toNat).map c.2.1
def lN (p:Program) (c:Lc):List Int:=(List.range p.1.toNat).map (fun b=>(c.2.2 b:Int))
theorem IP {α:Type} (n:Nat) (x:α):(List.range n).map (fun _=>x)=List.replicate n x:=by
 rw [List.eq_replicate_iff]
 exact ⟨by simp,fun b hb=>by obtain ⟨i,-,rfl⟩:=List.mem_map.1 hb; rfl⟩
theorem Yz (p:Program):dX p c0=List.replicate p.2.1.toNat []:=IP _ _
theorem YA (p:Program):lN p c0=List.replicate p.1.toNat 0:=IP p.1.toNat (0:Int)
theorem Pb (p:Program) (c:Lc):(dX p c).length=p.2.1.toNat:=by simp [dX]
theorem YB (p:Program) (c:Lc):(lN p c).length=p.1.toNat:=by simp [lN]
theorem EH {α:Type} {f:Nat→α} {L b:Nat} {d:α} (hb:b<L):((List.range L).map f).getD b d=f b:=by
 rw [aH (by simpa using hb),List.getElem_map,List.getElem_range]
theorem map_set {α:Type} {f:Nat→α} {L b:Nat} {x:α} : ((List.range L).map f).set b x=(List.range L).map (gz f b x):=by
 refine List.ext_getElem (by simp) (fun i h1 h2=>?_)
 rw [List.getElem_set,List.getElem_map,List.getElem_map,List.getElem_range]
 unfold gz
 by_cases h:b=i
 ·rw [if_pos h,if_pos h.symm]
 ·rw [if_neg h,if_neg (fun e=>h e.symm)]
theorem Pc {p:Program} {c:Lc} {b:Nat} (hb:b<p.2.1.toNat):(dX p c).getD b []=c.2.1 b:=EH hb
theorem YC {p:Program} {c:Lc} {b:Nat} (hb:b<p.1.toNat):(lN p c).getD b 0=(c.2.2 b:Int):=EH hb
theorem YD {p:Program} {c:Lc} {b:Nat} {x:List Int} {a:a_} {u:Nat→Nat} : (dX p c).set b x=dX p (a,gz c.2.1 b x,u):=map_set
theorem YE {p:Program} {c:Lc} {b m:Nat} {a:a_} {o:Nat→List Int} : (lN p c).set b (m:Int)=lN p (a,o,gz c.2.2 b m):=by
 unfold lN
 rw [map_set]
 refine List.map_congr_left (fun i _=>?_)
 unfold gz
 by_cases h:i=b<;>simp [h]
theorem Pd {p:Program} {I:Nat→List Int} {c d:Lc} (hp:cr p=true) (ha:eH p c.1=true) (hI:∀ b,bG (I b)=true) (e:iF p I c=some d):eH p d.1=true:=by
 unfold iF at e
 have jU:=oa ha
 split at e
 ·cases e
 ·rename_i h0
  have ao:=zt h0
  split at e
  ·split at e
   ·cases e; exact (BS hp ha (by omega) (VV (hI _) _)).1
   ·cases e
  ·split at e
   ·cases e; exact (BS hp ha (by omega) (by decide)).1
   ·cases e; exact (BS hp ha (by omega) (by decide)).1
theorem Pe {p:Program} (hp:cr p=true):eH p c0.1=true:=by
 unfold cr at hp
 simp only [Bool.and_eq_true,decide_eq_true_eq] at hp
 unfold eH c0 oe
 simp only [Bool.and_eq_true,decide_eq_true_eq]
 exact ⟨by decide,by show (0:Int)≤_; omega,rfl,by decide⟩
theorem YF {n:Nat} {p:Program} {I:List (List Int)} (hp:cr p=true) (hl:I.length=p.1.toNat) (hI:∀ b,bG (bg I b)=true) (hn:1048576<n) :
  alone.f n p I 3000=some (dX p (al p (bg I) 3000 c0).1,(lN p (al p (bg I) 3000 c0).1,((al p (bg I) 3000 c0).2.1,((al p (bg I) 3000 c0).2.2,())))):=by
 have hq:=hp
 unfold cr at hq
 simp only [Bool.and_eq_true,decide_eq_true_eq] at hq
 have hm:=mr
 unfold alone.f
 rw [Ny ⟨by omega⟩ hp hn,aA,ah (by refine ⟨by trivial,?_⟩; omega),ah (by refine ⟨by trivial,?_⟩; omega),← Yz,← YA]
 have key:∀ (f:Nat) (c:Lc) (m:Nat),f≤3000→f<m→eH p c.1=true→Wf (bg I) c→∀ F,(∀ ih c (f:Nat),f≤3000→eH p c.1=true→Wf (bg I) c→
   F ih ((3000-f:Int),(c.1.1,(c.1.2,(dX p c,(lN p c,())))))=if vz p (bg I) c=true then some (dX p c,(lN p c,((bT p c.1).1,((bT p c.1).2,())))) else if f=0 then some (dX p c,(lN p c,(1,(0,())))) else
    ih ((3000-(f-1:Nat):Int),((((iF p (bg I) c).getD c)).1.1,((((iF p (bg I) c).getD c)).1.2,(dX p ((iF p (bg I) c).getD c),(lN p ((iF p (bg I) c).getD c),()))))))→
   iter m F ((3000-f:Int),(c.1.1,(c.1.2,(dX p c,(lN p c,())))))=some (dX p (al p (bg I) f c).1,(lN p (al p (bg I) f c).1,((al p (bg I) f c).2.1,((al p (bg I) f c).2.2,())))):=by
  intro f
  induction f with
  | zero=>
   intro c m hf hm ha w F hF
   obtain ⟨m,rfl⟩:∃ k,m=k+1:=⟨m-1,by omega⟩
   refine (hF _ c 0 (by omega) ha w).trans ?_
   unfold al
   split<;>rfl
  | succ f ih=>
   intro c m hf hm ha w F hF
   obtain ⟨m,rfl⟩:∃ k,m=k+1:=⟨m-1,by omega⟩
   refine (hF _ c (f+1) (by omega) ha w).trans ?_
   unfold al
   by_cases hs:vz p (bg I) c=true
   ·rw [if_pos hs,if_pos hs]
   ·rw [if_neg hs,if_neg hs,if_neg (by omega)]
    obtain ⟨d,ed,wd⟩:=O5 (p:=p) w (by simpa using hs)
    rw [ed]
    exact ih d m (by omega) (by omega) (Pd hp ha hI ed) wd F hF
 refine key 3000 c0 n (by omega) (by omega) (Pe hp) (O4 _) _ (fun ih c f hf ha w=>?_)
 have jU:=oa ha
 have hw:=M3 hp ha
 have OA:=YB p c
 have pa:=Pb p c
 have hlen:(want.f n p (c.1.1,c.1.2))=some ((bT p c.1).1,((bT p c.1).2,())):=HQ ha
 simp only [hlen,aA]
 unfold vz
 have IQ:∀ t,(bT p c.1).1≠0→nI.f n p.1 p.2.1 p.2.2 t c.1.1 c.1.2=some (ny (ju p c.1) c.1,((iV p c.1 t).1,((iV p c.1 t).2,()))):=fun t h0=>Yy hp ha (by have:=zt h0; omega)
 have IT:∀ (g:Nat),f=g+1→ag ((3000-f:Int)+1)=(3000-(f-1:Nat):Int):=fun g hg=>by rw [bo (by omega) (by omega)]; omega
 have IU:decide ((3000-f:Int)=3000)=decide (f=0):=by
  by_cases h:f=0
  ·simp [h]
  ·rw [decide_eq_false h,decide_eq_false (by omega)]
 rcases M_ p c.1 with h | h | h | h
 ·simp only [h,decide_true,aL,bF,Bool.true_or,if_true]
 ·have jM:iF p (bg I) c=some (iV p c.1 0,c.2.1,c.2.2):=by
   unfold iF; simp only [h,Int.reduceEq,if_false]
  simp only [h,decide_true,decide_false,aL,aF,bF,Int.reduceEq,Bool.false_or,Bool.false_and,Bool.false_eq_true,if_false,IU,iT]
  by_cases mL:f=0
  ·rw [if_pos mL,if_pos mL]
  ·rw [if_neg mL,if_neg mL,IQ 0 (by omega),aA,IT (f-1) (by omega),jM]; rfl
 ·obtain ⟨b,hb⟩:∃ b:Nat,(bT p c.1).2=(b:Int):=⟨(bT p c.1).2.toNat,by omega⟩
  have cS:(b:Int)<p.1:=by have:=hw.2.1 h; omega
  have hu:(lN p c).getD b 0=(c.2.2 b:Int):=YC (by omega)
  have YG:I.getD b []=bg I b:=rfl
  have Ls:=w.rd b
  simp only [h,hb,decide_true,decide_false,aL,aF,bF,Int.reduceEq,Bool.false_or,Bool.false_and,Bool.true_and,Bool.or_false,IU,Int.toNat_natCast,hu,YG]
  rw [ah (by omega),ah (by omega)]
  by_cases hs:c.2.2 b=(bg I b).length
  ·rw [decide_eq_true (show (c.2.2 b:Int)=((bg I b).length:Int) by omega),decide_eq_true hs]; rfl
  ·have jM:iF p (bg I) c=some (iV p c.1 ((bg I b).getD (c.2.2 b) 0),c.2.1,gz c.2.2 b (c.2.2 b+1)):=by
    unfold iF; simp only [h,hb,Int.toNat_natCast,Int.reduceEq,if_false,if_true]
    rw [if_pos (by omega)]
   rw [decide_eq_false (show ¬ (c.2.2 b:Int)=((bg I b).length:Int) by omega),decide_eq_false hs]
   simp only [aF,bF,iT,Bool.false_eq_true,if_false]
   by_cases mL:f=0
   ·rw [if_pos mL,if_pos mL]
   ·have hlr:=(nA (hI b)).1
    rw [if_neg mL,if_neg mL,ah (by omega),ah (by omega),ah (by omega),ah (by omega),ah (by omega)]
    simp only [bF]
    rw [IQ _ (by omega),aA,IT (f-1) (by omega),jM,bm (by omega),YE]
    rfl
 ·obtain ⟨b,hb⟩:∃ b:Nat,(bT p c.1).2=(b:Int):=⟨(bT p c.1).2.toNat,by omega⟩
  have cS:(b:Int)<p.2.1:=by have:=hw.2.2 h; omega
  have hu:(dX p c).getD b []=c.2.1 b:=Pc (by omega)
  have hwr:=w.wr b
  have jM:iF p (bg I) c=some (iV p c.1 0,gz c.2.1 b (c.2.1 b++[ny (ju p c.1) c.1]),c.2.2):=by
   unfold iF; simp only [h,hb,Int.toNat_natCast,Int.reduceEq,if_false,if_true]
  simp only [h,hb,decide_true,decide_false,aL,aF,bF,Int.reduceEq,Bool.false_or,Bool.false_and,Bool.true_and,Bool.or_false,IU,Int.toNat_natCast,hu]
  rw [ah (by omega)]
  simp only [bF]
  by_cases hs:(c.2.1 b).length=400
  ·rw [decide_eq_true (show ((c.2.1 b).length:Int)=400 by omega),decide_eq_true hs]; rfl
  ·rw [decide_eq_false (show ¬ ((c.2.1 b).length:Int)=400 by omega),decide_eq_false hs]
   simp only [aF,bF,iT,Bool.false_eq_true,if_false]
   by_cases mL:f=0
   ·rw [if_pos mL,if_pos mL]
   ·rw [if_neg mL,if_neg mL,IQ 0 (by omega),aA,ah (by omega),bZ (by simp; omega),ah (by omega),ah (by trivial),IT (f-1) (by omega),jM,YD]
    rfl
theorem Pf {nt:ai} {h:Nat→List Int} {k:Nat} (hk:k<nt.1.length) (o:cM nt):bg ((List.range (prog nt k).1.toNat).map (iG nt h k))=iG nt h k:=by
 funext b
 by_cases hb:b<(prog nt k).1.toNat
 ·exact EH hb
 ·rw [O8 (by omega)]; unfold iG; rw [if_neg (by omega)]
theorem Ch {nt:ai} (o:cM nt) {k:Nat} (hk:k<nt.1.length):cr (prog nt k)=true:=by
 unfold prog; rw [aH hk]; exact o.prog k hk
theorem YH {n:Nat} {nt:ai} {h:List (List Int)} {k:Nat} (o:cM nt) (hk:k<nt.1.length) (hh:h.length=nt.2.length) (hn:1048576<n) :
  vD.f n nt h (k:Int)=some ((List.range (prog nt k).1.toNat).map (iG nt (bg h) k),()):=by
 have hm:=mr
 have hp:=VW (Ch o hk)
 have zE:=o.dt
 unfold vD.f
 rw [ah (by omega)]
 simp only [Int.toNat_natCast]
 rw [show nt.1.getD k bp=prog nt k from rfl,ah (by refine ⟨by trivial,?_⟩; omega),← IP]
 refine (qM (fun i=>((i:Int),((List.range (prog nt k).1.toNat).map (fun b=>if eo nt k b<i then bg h (eo nt k b) else []),()))) nt.2.length (R:=some ((List.range (prog nt k).1.toNat).map (fun b=>if eo nt k b<nt.2.length then bg h (eo nt k b) else []),())) (fun ih i hi=>?_) (fun ih=>aK (Int.lt_irrefl _)) (by omega)).trans ?_
 ·have hx:=o.ends i hi
  have e1:nt.2.getD i aM=nt.2[i]:=aH hi _
  have e2:bW nt i=nt.2[i]:=e1
  have Pg:∀ b,b<(prog nt k).1.toNat→eo nt k b=i→nt.2[i].2.2.1=(k:Int)∧nt.2[i].2.2.2.1=(b:Int):=by
   intro b hb e
   have:=zP o hk (b:=b) (by omega)
   rw [e,e2] at this; exact this.2
  show br (decide ((i:Int)<(nt.2.length:Int))) _ _=_
  rw [aZ (by omega),ah (by omega)]
  simp only [Int.toNat_natCast,e1]
  rw [bm (by omega)]
  by_cases Ci:nt.2[i].2.2.1=(k:Int)
  ·rw [aZ Ci]
   have hI:pB nt nt.2[i]:=by
    rcases hx.ng with h | h
    ·omega
    ·exact h
   obtain ⟨i1,i2,i3,i4⟩:=hI
   have hb:nt.2[i].2.2.2.1<(prog nt k).1:=by
    rw [Ci,Int.toNat_natCast] at i4; exact i4
   obtain ⟨b,eb⟩:∃ b:Nat,nt.2[i].2.2.2.1=(b:Int):=⟨nt.2[i].2.2.2.1.toNat,by omega⟩
   have hu:eo nt k b=i:=Yl o hi hk (by omega) (by rw [e2]; exact Ci) (by rw [e2]; exact eb)
   rw [eb,ah (by omega),ah (by simp; omega)]
   simp only [Int.toNat_natCast]
   rw [map_set]
   congr 2
   refine congrArg (fun l=>(l,())) (List.map_congr_left (fun c hc=>?_))
   unfold gz
   by_cases vw:c=b
   ·subst vw; rw [if_pos rfl,hu,if_pos (by omega)]; rfl
   ·rw [if_neg vw]
    have:eo nt k c≠i:=fun e=>by
     have:=Pg c (List.mem_range.1 hc) e
     omega
    show (if eo nt k c<i then bg h (eo nt k c) else [])=_
    by_cases h1:eo nt k c<i
    ·rw [if_pos h1,if_pos (by omega)]
    ·rw [if_neg h1,if_neg (by omega)]
  ·rw [aK Ci]
   congr 2
   refine congrArg (fun l=>(l,())) (List.map_congr_left (fun c hc=>?_))
   have:eo nt k c≠i:=fun e=>Ci (Pg c (List.mem_range.1 hc) e).1
   by_cases h1:eo nt k c<i
   ·rw [if_pos h1,if_pos (by omega)]
   ·rw [if_neg h1,if_neg (by omega)]
 ·congr 2
  refine List.map_congr_left (fun c hc=>?_)
  have hc:=List.mem_range.1 hc
  have:=zP o hk (b:=c) (by omega)
  unfold iG
  rw [if_pos this.1,if_pos (by omega)]
def tu (nt:ai) (h:List (List Int)):Prop:=h.length=nt.2.length∧∀ j,bG (bg h j)=true
theorem Ph {nt:ai} {h:List (List Int)} (H:tu nt h) (k b:Nat):bG (iG nt (bg h) k b)=true:=by
 unfold iG; split
 ·exact H.2 _
 ·decide
theorem Pj {β γ ρ:Type} (len:Nat) (g:Nat→β) (ok:Nat→Bool) (st:Int→List β→γ) {F:(γ→Option ρ)→γ→Option ρ} {R bad:Option ρ}
  (h1:∀ ih (i:Nat),i<len→F ih (st i ((List.range i).map g))=if ok i=true then ih (st ((i+1:Nat):Int) ((List.range (i+1)).map g)) else bad)
  (h2:∀ ih,F ih (st len ((List.range len).map g))=R) {n:Nat} (hn:len<n):iter n F (st 0 [])=if (List.range len).all ok=true then R else bad:=by
 have:∀ k i,i+k=len→∀ n,k<n→iter n F (st (i:Int) ((List.range i).map g))=if (List.range' i k).all ok=true then R else bad:=by
  intro k
  induction k with
  | zero=>
   intro i e n hn
   obtain ⟨m,rfl⟩:∃ m,n=m+1:=⟨n-1,by omega⟩
   have e:i=len:=by omega
   subst e
   exact (h2 _).trans (by simp)
  | succ k ih=>
   intro i e n hn
   obtain ⟨m,rfl⟩:∃ m,n=m+1:=⟨n-1,by omega⟩
   refine (h1 _ i (by omega)).trans ?_
   rw [List.range'_succ,List.all_cons]
   cases ok i
   ·simp
   ·rw [if_pos rfl]; exact (ih (i+1) (by omega) m (by omega)).trans (by rw [Bool.true_and])
 have h:=this len 0 (by omega) n hn
 rw [← List.range_eq_range'] at h
 exact h
def tv (nt:ai) (h:List (List Int)) (k:Nat):List (List Int):=dX (prog nt k) (runK nt (bg h) k).1
theorem Pl {nt:ai} {h:List (List Int)} {k:Nat} (H:tu nt h) (o:cM nt) (hk:k<nt.1.length) {b:Nat} : ((runK nt (bg h) k).1.2.1 b).length≤400∧(∀ x∈(runK nt (bg h) k).1.2.1 b,tok x=true):=by
 have key:∀ (f:Nat) (c:Lc),eH (prog nt k) c.1=true→Wf (iG nt (bg h) k) c→(∀ b,∀ x∈c.2.1 b,tok x=true)→∀ b,((al (prog nt k) (iG nt (bg h) k) f c).1.2.1 b).length≤400∧∀ x∈(al (prog nt k) (iG nt (bg h) k) f c).1.2.1 b,tok x=true:=by
  intro f
  induction f with
  | zero=>
   intro c ha w ht b
   unfold al
   split<;>exact ⟨w.wr b,ht b⟩
  | succ f ih=>
   intro c ha w ht b
   unfold al
   by_cases hs:vz (prog nt k) (iG nt (bg h) k) c=true
   ·rw [if_pos hs]; exact ⟨w.wr b,ht b⟩
   ·rw [if_neg hs]
    obtain ⟨d,ed,wd⟩:=O5 (p:=prog nt k) w (by simpa using hs)
    rw [ed]
    refine ih d (Pd (Ch o hk) ha (Ph H k) ed) wd (fun b=>?_) b
    unfold iF at ed
    split at ed
    ·cases ed
    ·rename_i h0
     have ao:=zt h0
     have jU:=oa ha
     split at ed
     ·split at ed
      ·cases ed; exact ht b
      ·cases ed
     ·split at ed
      ·cases ed
       show ∀ x∈gz _ _ _ b,tok x=true
       unfold gz
       split
       ·intro x hx
        rcases List.mem_append.1 hx with hx | hx
        ·exact ht _ x hx
        ·rw [List.mem_singleton.1 hx]; exact (BS (token:=0) (Ch o hk) ha (by omega) (by decide)).2
       ·exact ht b
      ·cases ed; exact ht b
 exact key 3000 c0 (Pe (Ch o hk)) (O4 _) (fun b x hx=>by simp [c0] at hx) b
theorem YI {nt:ai} {h:List (List Int)} {n:Nat} (o:cM nt) (H:tu nt h) (hn:1048576<n) :
  mK nt h=if (List.range nt.1.length).all (fun k=>decide ((runK nt (bg h) k).2.1≠1)&&decide ((runK nt (bg h) k).2.1≠3))=true then (if (List.range nt.2.length).all (fun j=>bG (kR nt (bg h) j))=true then some ((List.range nt.2.length).map (kR nt (bg h))) else none) else none:=by
 unfold mK Cg
 simp only [Bool.and_eq_true]
 by_cases h1:(List.range nt.1.length).all (fun k=>decide ((runK nt (bg h) k).2.1≠1)&&decide ((runK nt (bg h) k).2.1≠3))=true
 ·by_cases h2:(List.range nt.2.length).all (fun j=>bG (kR nt (bg h) j))=true
  ·rw [if_pos ⟨h1,h2⟩,if_pos h1,if_pos h2]
  ·rw [if_neg (fun h=>h2 h.2),if_pos h1,if_neg h2]
 ·rw [if_neg (fun h=>h1 h.1),if_neg h1]
theorem YJ {nt:ai} {h:List (List Int)} {k:Nat} (o:cM nt) (hk:k<nt.1.length):al (prog nt k) (bg ((List.range (prog nt k).1.toNat).map (iG nt (bg h) k))) 3000 c0=runK nt (bg h) k:=by
 rw [Pf hk o]; rfl
theorem YK {n:Nat} {nt:ai} {h:List (List Int)} (o:cM nt) (H:tu nt h) (hn:1048576<n):vE.f n nt h=some (match mK nt h with | some g=>(g,(true,())) | none=>([],(false,()))):=by
 have II:=o.ew
 have zE:=o.dt
 unfold vE.f
 rw [YI (n:=n) o H hn]
 refine (Pj nt.1.length (tv nt h) (fun k=>decide ((runK nt (bg h) k).2.1≠1)&&decide ((runK nt (bg h) k).2.1≠3)) (fun i s=>(i,(s,()))) (bad:=some ([],(false,()))) (fun ih k hk=>?_) (fun ih=>aK (Int.lt_irrefl _)) (by omega)).trans ?_
 ·have hI:∀ b,bG (bg ((List.range (prog nt k).1.toNat).map (iG nt (bg h) k)) b)=true:=fun b=>by
   rw [Pf hk o]; exact Ph H k b
  have c1:(k:Int)<(nt.1.length:Int):=by omega
  show br (decide ((k:Int)<(nt.1.length:Int))) _ _=_
  rw [aZ c1,ah (by omega)]
  simp only [Int.toNat_natCast]
  rw [YH o hk H.1 hn,aA]
  have ha:=YF (n:=n) (p:=prog nt k) (Ch o hk) (I:=(List.range (prog nt k).1.toNat).map (iG nt (bg h) k)) (by simp) hI hn
  rw [YJ o hk] at ha
  rw [show nt.1.getD k bp=prog nt k from rfl]
  simp only [ha,aA]
  by_cases h1:(runK nt (bg h) k).2.1=1
  ·rw [aZ h1]; simp [bF,h1,aL]
  ·rw [aK h1,bF]
   by_cases h3:(runK nt (bg h) k).2.1=3
   ·simp only [h3,decide_true,aL]; rfl
   ·simp only [h1,h3,decide_false,aF,ne_eq,not_false_eq_true,decide_true,Bool.and_self,if_true]
    rw [bZ (by simp; omega),bm (by omega),List.range_succ,List.map_append]; rfl
 by_cases eM:(List.range nt.1.length).all (fun k=>decide ((runK nt (bg h) k).2.1≠1)&&decide ((runK nt (bg h) k).2.1≠3))=true
 rotate_left
 ·rw [if_neg eM,if_neg eM]
 rw [if_pos eM,if_pos eM]
 refine (Pj nt.2.length (kR nt (bg h)) (fun j=>bG (kR nt (bg h) j)) (fun i s=>(i,(s,()))) (bad:=some ([],(false,()))) (R:=some ((List.range nt.2.length).map (kR nt (bg h)),(true,()))) (fun ih j hj=>?_) (fun ih=>aK (Int.lt_irrefl _)) (by omega)).trans ?_
 rotate_left
 ·by_cases h2:(List.range nt.2.length).all (fun j=>bG (kR nt (bg h) j))=true
  ·rw [if_pos h2,if_pos h2]
  ·rw [if_neg h2,if_neg h2]
 have e1:nt.2.getD j aM=bW nt j:=rfl
 have ht:=(nA (o.gQ j hj)).1
 have e2:bW nt j=nt.2[j]:=aH hj _
 have ht2:(bW nt j).2.2.2.2.length≤400:=by rw [e2]; exact ht
 have c1:(j:Int)<(nt.2.length:Int):=by omega
 show br (decide ((j:Int)<(nt.2.length:Int))) _ _=_
 rw [aZ c1,ah (by omega)]
 simp only [Int.toNat_natCast,e1]
 rw [sT (by omega),aA]
 have YL:(br (decide (0≤(bW nt j).1)) (ab (0≤(bW nt j).1∧(bW nt j).1<(((List.range nt.1.length).map (tv nt h)).length:Int)) (ab (0≤(bW nt j).2.1∧(bW nt j).2.1<((((List.range nt.1.length).map (tv nt h)).getD (bW nt j).1.toNat []).length:Int)) (ab (((bW nt j).2.2.2.2.length+((((List.range nt.1.length).map (tv nt h)).getD (bW nt j).1.toNat []).getD (bW nt j).2.1.toNat []).length)*8≤aW) (some (Sum.inr (α:=List (List Int)×(Bool×Unit)) (((bW nt j).2.2.2.2++((((List.range nt.1.length).map (tv nt h)).getD (bW nt j).1.toNat []).getD (bW nt j).2.1.toNat [])),())))))) (some (.inr ((bW nt j).2.2.2.2,()))))=some (.inr (kR nt (bg h) j,())):=by
  unfold kR
  by_cases hf:0≤(bW nt j).1
  ·have hx:=(o.ends j hj).out
   rw [← e2] at hx
   have hO:n_ nt (bW nt j):=by
    rcases hx with h | h
    ·omega
    ·exact h
   obtain ⟨o1,o2,o3,o4⟩:=hO
   have hk:(bW nt j).1.toNat<nt.1.length:=by omega
   have o4':(bW nt j).2.1<(prog nt (bW nt j).1.toNat).2.1:=o4
   have g1:((List.range nt.1.length).map (tv nt h)).getD (bW nt j).1.toNat []=tv nt h (bW nt j).1.toNat:=EH hk
   have g2:(tv nt h (bW nt j).1.toNat).getD (bW nt j).2.1.toNat []=(runK nt (bg h) (bW nt j).1.toNat).1.2.1 (bW nt j).2.1.toNat:=Pc (by omega)
   have g3:=(Pl H o hk (b:=(bW nt j).2.1.toNat)).1
   have g4:(tv nt h (bW nt j).1.toNat).length=(prog nt (bW nt j).1.toNat).2.1.toNat:=Pb _ _
   rw [aZ hf,if_pos hf,g1,g2,ah (by simp; omega),ah (by omega),bZ (by omega)]; rfl
  ·rw [aK hf,if_neg hf,List.append_nil]; rfl
 rw [YL,bF]
 have hlen:(kR nt (bg h) j).length≤1048576:=by
  unfold kR
  split
  ·rename_i hf
   have hx:=(o.ends j hj).out
   rw [← e2] at hx
   have hO:n_ nt (bW nt j):=by
    rcases hx with h | h
    ·omega
    ·exact h
   have g3:=(Pl H o (k:=(bW nt j).1.toNat) (by have:=hO.2.1; omega) (b:=(bW nt j).2.1.toNat)).1
   rw [List.length_append]; unfold gQ; omega
  ·rw [List.append_nil]; unfold gQ; omega
 simp only
 rw [uH hlen hn,aA]
 cases hs:bG (kR nt (bg h) j)
 ·rfl
 ·simp only [Bool.not_true,aF,if_true]
  rw [bZ (by simp; omega),bm (by omega),List.range_succ,List.map_append]; rfl
theorem YM {nt:ai} {h:List (List Int)} (H:tu nt h) (o:cM nt):h.length≤30∧∀ j,(bg h j).length≤400:=⟨by have:=o.dt; have:=H.1; omega,fun j=>(nA (H.2 j)).1⟩
theorem Pm {nt:ai} {h g:List (List Int)} (e:mK nt h=some g):tu nt g:=by
 obtain ⟨ok,rfl⟩:=IM e
 refine ⟨by simp,fun j=>?_⟩
 by_cases hj:j<nt.2.length
 ·rw [O7 hj]; exact O6 ok hj
 ·rw [O8 (by omega)]; decide
theorem YN {a b:List (List Int)} (hl:a.length=b.length) (h:∀ i,i<a.length→bg a i=bg b i):a=b:=by
 refine List.ext_getElem hl (fun i h1 h2=>?_)
 have:=h i h1
 unfold bg at this
 rwa [aH h1,aH h2] at this
theorem YO {n:Nat} {a b:List (List Int)} (hl:a.length≤1048576) (hs:∀ i,(bg a i).length≤1048576) (hn:1048576<n):vC.f n a b=some (decide (a=b),()):=by
 have:vB.f n a b ()=some (decide (a=b),()):=by
  unfold vB.f
  by_cases h:a.length=b.length
  ·have h':(a.length:Int)=(b.length:Int):=by omega
   rw [show (!decide ((a.length:Int)=(b.length:Int)))=false by simp [h'],aF]
   refine uz (mi (bad:=some (false,())) a.length (fun i=>decide (bg a i=bg b i)) (fun ih i hi=>?_) (fun ih=>aK (Int.lt_irrefl _)) (by omega) (fun bb=>?_) (fun i hi hb=>?_))
   ·have h1:(i:Int)<(a.length:Int):=by omega
    simp only [h1,decide_true,aL,Int.toNat_natCast]
    have e:=HM (n:=n) (a:=a.getD i []) (b:=b.getD i []) (hs i) hn
    rw [ah (by simp),ah (by simp; omega),bm (by omega),e,aA]
    exact wY
   ·simp only [aj,true_iff]
    exact YN h (fun i hi=>by simpa using bb i hi)
   ·simp only [aj]
    constructor
    ·intro h; cases h
    ·intro e; subst e; simp at hb
  ·rw [show (!decide ((a.length:Int)=(b.length:Int)))=true by simp; omega,aL,decide_eq_false (fun e=>h (by rw [e]))]
 unfold vC.f
 rw [this]; rfl
theorem YP {nt:ai} (o:cM nt):tu nt (vA nt):=by
 refine ⟨by simp [vA],fun j=>?_⟩
 rw [Yt]
 unfold gQ bW
 by_cases hj:j<nt.2.length
 ·rw [aH hj]; exact o.gQ j hj
 ·rw [List.getD_eq_getElem?_getD,List.getElem?_eq_none (by omega)]; decide
def EI (nt:ai) (m:Nat) (r:Int) (h:List (List Int)):List (List Int)×(Int×(Bool×Unit)):=match xA nt m r h with | some (g,r')=>(g,(r',(true,()))) | none=>([],(0,(false,())))
theorem Pn {nt:ai} (o:cM nt) {F:(Int×(List (List Int)×Unit)→Option (List (List Int)×(Int×(Bool×Unit))))→Int×(List (List Int)×Unit)→Option (List (List Int)×(Int×(Bool×Unit)))}
  (hF:∀ ih (r:Int) h,tu nt h→F ih (r,(h,()))=if r≤300 then (match mK nt h with | none=>some ([],(0,(false,()))) | some g=>if g=h then some (h,(r,(true,()))) else ih (ag (r+1),(g,()))) else some ([],(0,(false,())))) :
  ∀ (m n:Nat) (r:Int) h,tu nt h→0≤r→r+m=301→m<n→iter n F (r,(h,()))=some (EI nt m r h)
 | 0,n+1,r,h,H,h0,hr,hn=>by
  refine (hF _ r h H).trans ?_
  rw [if_neg (by omega)]; rfl
 | m+1,n+1,r,h,H,h0,hr,hn=>by
  refine (hF _ r h H).trans ?_
  rw [if_pos (by omega)]
  unfold EI xA
  cases e:mK nt h with
  | none=>rfl
  | some g=>
   simp only
   by_cases hg:g=h
   ·rw [if_pos hg,if_pos hg]
   ·rw [if_neg hg,if_neg hg,bo (by omega) (by omega)]
    exact Pn o hF m n (r+1) g (Pm e) (by omega) (by omega) (by omega)
theorem YQ {n:Nat} {nt:ai} (h:cL nt) (o:cM nt) (hn:1048576<n):tr.f n nt=some (EI nt 300 1 (vA nt)):=by
 unfold tr.f
 rw [qH h hn,show cy nt=true by simp [cy,o],aA,Bool.not_true,aF]
 refine D8 nt.2 (fun l=>l.2.2.2.2) (fun i s=>(i,(s,()))) (fun ih i hi s hs=>?_) (fun ih=>?_) (by have:=h.dt; omega)
 ·have c1:(i:Int)<(nt.2.length:Int):=by omega
  have e1:nt.2.getD i aM=nt.2[i]:=aH hi _
  show br (decide ((i:Int)<(nt.2.length:Int))) _ _=_
  have hl:=o.dt
  rw [aZ c1,ah ⟨Int.natCast_nonneg i,c1⟩]
  simp only [Int.toNat_natCast,e1]
  rw [sT (h.link _ (List.getElem_mem hi)).tokens,Option.bind_some,bZ (by simp; omega),bm (by omega)]
 ·show br (decide ((nt.2.length:Int)<(nt.2.length:Int))) _ _=_
  rw [aK (Int.lt_irrefl _)]
  refine Pn o (fun ih r g H=>?_) 300 n 1 (vA nt) (YP o) (by omega) (by omega) (by omega)
  show br (decide (r≤300)) _ _=_
  by_cases hr:r≤300
  ·rw [aZ hr,if_pos hr,YK o H hn,aA]
   cases e:mK nt g with
   | none=>rfl
   | some g'=>
    have H':=YM (Pm e) o
    simp only [Bool.not_true,aF]
    rw [YO (by have:=H'.1; omega) (fun i=>by have:=H'.2 i; omega) hn,aA]
    exact iT
  ·rw [aK hr,if_neg hr]
end Go.AmT
namespace Go.AmT
noncomputable section
open Go Go.Am Go.Proofs
set_option linter.unusedVariables false
set_option maxRecDepth 100000
def ie.f (n:Nat) (a0:List Instr):Option ((List Instr)×Unit):=ab ((([]:List Instr).length+a0.length)*32≤aW) (some ((([]:List Instr)++a0),()))
def ie.ae (n:Nat):ar:=⟨[.val (.sl df)],[.val (.sl df)],fun x=>ie.f n x.1⟩
def ie.cfg (n:Nat):aP:=⟨ly,[],[],[]⟩
theorem ie.az:cG Tryz.prog 157:=dz Tryz.func157 (by kernel_rfl) (by kernel_rfl)
theorem ie.HN:∀ (n:Nat),uj (ie.cfg n) n Tryz.f157 (d_ Tryz.f157 []) [.val (.sl df)] [.val (.sl df)] .nil [] []=some (([]:List Instr),()):=by
 intros
 kernel_rfl
theorem ie.HO:∀ (n:Nat) (a0:List Instr),uj (ie.cfg n) n Tryz.f157 (d_ Tryz.f157 []) [.val (.sl df)] [.val (.sl df)] (.cu df (some a0)) [] []=ie.f n a0:=by
 intros
 kernel_rfl
theorem ie.sound (n:Nat):Sound Tryz.prog 157 (ie.ae n):=
 KQ (t:=df) (ps:=[]) (rs:=[.val (.sl df)]) (F:=fun x=>ie.f n x.1) (uw mixed (su (.of (c:=ie.cfg n) trivial) (.of (c:=ie.cfg n) trivial)) (dM km)) (dM km) Tryz.func157
  (fun x y hy hx=>by
   have hy:ie.f n x.1=some y:=hy
   rw [hx] at hy
   unfold ie.f ab at hy
   split at hy
   ·exact (ie.HN n).trans hy
   ·simp at hy)
  (fun x y hy=>(ie.HO n x.1).trans hy)
def vF.f (n:Nat) (a0:Program):Option (Program×Unit):=(ie.f n a0.2.2).bind fun r1=>some ((a0.1,(a0.2.1,r1.1)),())
def vF.ae (n:Nat):ar:=⟨[.val bn],[.val bn],fun x=>vF.f n x.1⟩
theorem vF.ok (n:Nat):aN 111 (vF.ae n):=aQ n [] [] (ak ⟨ie.sound n,ie.az⟩ aC) aD Tryz.func111
def mM.f (n:Nat) (a0:ai):Option (ai×Unit):=iter (α:=(Int×(List Program)×Unit)) n (fun YR vG=>br (decide (vG.1<(a0.1.length:Int))) (ab (0≤vG.1∧vG.1<(a0.1.length:Int)) (let IV:=(a0.1.getD vG.1.toNat bp); (vF.f n IV).bind fun eA=>ab ((vG.2.1.length+([eA.1]:List Program).length)*40≤aW) (YR ((ag (vG.1+1)),((vG.2.1++[eA.1]),()))))) (iter (α:=(Int×(List Program)×(List aG)×Unit)) n (fun Ik gU=>br (decide (gU.1<(a0.2.length:Int))) (ab (0≤gU.1∧gU.1<(a0.2.length:Int)) (let pU:=(a0.2.getD gU.1.toNat aM); (cd.f n pU.2.2.2.2).bind fun kq=>ab ((gU.2.2.1.length+([(pU.1,(pU.2.1,(pU.2.2.1,(pU.2.2.2.1,kq.1))))]:List aG).length)*56≤aW) (Ik ((ag (gU.1+1)),(gU.2.1,((gU.2.2.1++[(pU.1,(pU.2.1,(pU.2.2.1,(pU.2.2.2.1,kq.1))))]),())))))) (some ((gU.2.1,gU.2.2.1),()))) (0,(vG.2.1,([],()))))) (0,([],()))
def mM.ae (n:Nat):ar:=⟨[.val cD],[.val cD],fun x=>mM.f n x.1⟩
theorem mM.ok (n:Nat):aN 62 (mM.ae n):=aQ n [(4,⟨[(3,.aJ 1000 0),(12,.int .i64)],[(1000,.cells [] [.own 1001 bn,.lQ (.nil)]),(1001,.row true bn)],[1,2,10,11],[]⟩),(13,⟨[(3,.aJ 1000 0),(27,.int .i64)],[(1000,.cells [] [.own 1001 bn,.own 1002 cq]),(1001,.row true bn),(1002,.row true cq)],[2,25,26],[]⟩)] [] (ak (vF.ok n) (ak ⟨cd.sound n,cd.az⟩ aC)) aD Tryz.func62
def rm.f (n:Nat) (a0:ai):Option (ai×(Bool×Unit)):=(dq.f n a0).bind fun r1=>br (!r1.1) (some (([],[]),(false,()))) ((mM.f n a0).bind fun r2=>some (r2.1,(true,())))
def rm.ae (n:Nat):ar:=⟨[.val cD],[.val cD,.val .bool],fun x=>rm.f n x.1⟩
theorem rm.ok (n:Nat):aN 125 (rm.ae n):=aQ n [] [] (ak ⟨dq.sound n,dq.az⟩ (ak (mM.ok n) aC)) aD Tryz.func125
end
end Go.AmT
namespace Go.AmT
open Go Go.Am
set_option linter.unusedVariables false
set_option linter.unusedSimpArgs false
theorem Po {n:Nat} {a:List Int} (h:a.length≤1048576):cd.f n a=some (a,()):=by
 unfold cd.f
 rw [bZ (by simp; omega)]; rfl
theorem YS {n:Nat} {a:List Instr} (h:a.length≤1048576):ie.f n a=some (a,()):=by
 unfold ie.f
 rw [bZ (by simp; omega)]; rfl
theorem YT {n:Nat} {p:Program} (h:nZ p):vF.f n p=some (p,()):=by
 unfold vF.f
 rw [YS h.code]; rfl
theorem EJ {n:Nat} {nt:ai} (h:cL nt) (hn:1048576<n):mM.f n nt=some (nt,()):=by
 have hp:=h.ew
 have hl:=h.dt
 unfold mM.f
 refine Eq.trans (zk nt.1 id (fun i s=>(i,(s,()))) (R:=fun ps=>some ((ps,nt.2),())) (fun ih i hi s hs=>?_) (fun ih ps=>?_) (by omega)) (by simp)
 ·have c0:0≤(i:Int):=by omega
  have c1:(i:Int)<(nt.1.length:Int):=by omega
  have e1:nt.1.getD i bp=nt.1[i]:=aH hi _
  simp only [c1,c0,and_self,sN,decide_true,aL,Int.toNat_natCast,e1,YT (h.prog _ (List.getElem_mem hi)),Option.bind_some]
  rw [bZ (by simp; omega),bm (by omega)]; rfl
 ·simp only [aK (Int.lt_irrefl _)]
  refine Eq.trans (zk nt.2 id (fun i s=>(i,(ps,(s,())))) (R:=fun ls=>some ((ps,ls),())) (fun ih i hi s hs=>?_) (fun ih ls=>aK (Int.lt_irrefl _)) (by omega)) (by simp)
  have c0:0≤(i:Int):=by omega
  have c1:(i:Int)<(nt.2.length:Int):=by omega
  have e1:nt.2.getD i aM=nt.2[i]:=aH hi _
  simp only [c1,c0,and_self,sN,decide_true,aL,Int.toNat_natCast,e1,Po (h.link _ (List.getElem_mem hi)).tokens,Option.bind_some]
  rw [bZ (by simp; omega),bm (by omega)]; rfl
theorem Pp {n:Nat} {nt:ai} (h:cL nt) (hn:1048576<n):rm.f n nt=some (if cy nt=true then (nt,(true,())) else (([],[]),(false,()))):=by
 unfold rm.f
 rw [qH h hn,EJ h hn]
 cases cy nt<;>rfl
end Go.AmT
namespace Go.AmT
noncomputable section
open Go Go.Am Go.Proofs
set_option linter.unusedVariables false
set_option maxRecDepth 100000
def oO.la:LA:=⟨[(0,.lQ (.nil)),(1,.int .i64)],[],[],[]⟩
def oO.lb:LA:=⟨[(0,.own 1000 I)],[(1000,.row true I)],[],[]⟩
def oO.f (n:Nat) (a0:Int):Option ((List Int)×Unit):=br (decide (a0<0)) (none) (br (decide (0<(ag (a0-0)))) (ab ((0:Int)≤0∧(0:Int)≤0∧0≤0) (ab (0<(ag (a0-0))∧(ag (a0-0))*(8:Int)≤(aW:Int)) (ab ((0:Int)≤0∧(0:Int)≤0∧0≤((List.replicate (ag (a0-0)).toNat (0:Int)).length:Int)) (some ([],()))))) (some ([],())))
def oO.ae (n:Nat):bS:=⟨oO.la,oO.lb,fun x=>oO.f n x.1⟩
theorem oO.ok (n:Nat):eP 172 (oO.ae n):=fm n [] [1000041] aC aD Tryz.func172
def tw.f (n:Nat) (a0:List (List Int)):Option ((List Int)×Unit):=iter (α:=(Int×(Int×Unit))) n (fun qJ x9=>br (decide (x9.2.1<(a0.length:Int))) (ab (0≤x9.2.1∧x9.2.1<(a0.length:Int)) (let v11:=(a0.getD x9.2.1.toNat []); br (decide ((ag (x9.1+(v11.length:Int)))<0)) (none) (qJ ((ag (x9.1+(v11.length:Int))),((ag (x9.2.1+1)),()))))) ((oO.f n x9.1).bind fun fB=>iter (α:=(Int×(List Int)×Unit)) n (fun YU tx=>br (decide (tx.1<(a0.length:Int))) (ab (0≤tx.1∧tx.1<(a0.length:Int)) (ab ((tx.2.1.length+(a0.getD tx.1.toNat []).length)*8≤aW) (YU ((ag (tx.1+1)),((tx.2.1++(a0.getD tx.1.toNat [])),()))))) (some (tx.2.1,()))) (0,(fB.1,())))) (0,(0,()))
def tw.ae (n:Nat):ar:=⟨[.val (.sl IS)],[.val IS],fun x=>tw.f n x.1⟩
theorem tw.ok (n:Nat):aN 124 (tw.ae n):=aQ n [(4,⟨[(3,.int .i64),(11,.int .i64)],[],[0,9,10],[]⟩),(17,⟨[(6,.own 1000 I),(27,.int .i64)],[(1000,.row true I)],[25,26],[]⟩)] [] aC (bA (oO.ok n) aD) Tryz.func124
def vH.f (n:Nat) (a0:ai) (a1:Int) (a2:List Int):Option (ai×(Bool×Unit)):=cut (α:=(Bool×Unit)) ((dq.f n a0).bind fun r3=>br (!r3.1) (some (.inr (true,()))) (br (decide (a1<0)) (some (.inr (true,()))) (some (.inr ((decide ((a0.2.length:Int)≤a1)),()))))) fun y2=>br y2.1 (some (([],[]),(false,()))) ((mM.f n a0).bind fun r4=>ab (0≤a1∧a1<(r4.1.2.length:Int)) ((tw.f n ([(r4.1.2.getD a1.toNat aM).2.2.2.2,a2]:List (List Int))).bind fun r5=>ab (0≤a1∧a1<(r4.1.2.length:Int)) (let v6:=(r4.1.2.set a1.toNat ((r4.1.2.getD a1.toNat aM).1,((r4.1.2.getD a1.toNat aM).2.1,((r4.1.2.getD a1.toNat aM).2.2.1,((r4.1.2.getD a1.toNat aM).2.2.2.1,r5.1))))); (rm.f n (r4.1.1,v6)).bind fun r7=>some (r7.1,(r7.2.1,())))))
def vH.ae (n:Nat):ar:=⟨[.val cD,.val I,.val IS],[.sh cD,.val .bool],fun x=>vH.f n x.1 x.2.1 x.2.2.1⟩
theorem vH.ok (n:Nat):aN 72 (vH.ae n):=aQ n [(1,⟨[(22,.bool)],[],[1,2,3,6],[]⟩)] [] (ak ⟨dq.sound n,dq.az⟩ (ak (mM.ok n) (ak (tw.ok n) (ak (rm.ok n) aC)))) aD Tryz.func72
end
end Go.AmT
namespace Go.AmT
open Go Go.Am
set_option linter.unusedVariables false
set_option linter.unusedSimpArgs false
theorem YV {n:Nat} {a:Int} (h0:0≤a) (h1:a≤4194304):oO.f n a=some ([],()):=by
 have hm:=mr
 unfold oO.f
 rw [aK (by omega),bo (by omega) (by omega)]
 by_cases h:0<a-0
 ·rw [aZ h,ah (by omega),ah (by omega),ah (by simp; omega)]
 ·rw [aK h]
theorem Pq {α:Type} (ls:List (List α)) (i:Nat):(ls.take i).flatten.length≤ls.flatten.length:=by
 conv=>rhs; rw [← List.take_append_drop i ls]
 rw [List.flatten_append,List.length_append]; omega
theorem YW {n:Nat} {ls:List (List Int)} (hl:ls.length≤1048576) (ht:ls.flatten.length≤4194304) (hn:1048576<n):tw.f n ls=some (ls.flatten,()):=by
 unfold tw.f
 have cI:((0:Int),((0:Int),()))=(fun (i:Nat)=>(((ls.take i).flatten.length:Int),((i:Int),()))) 0:=by simp
 rw [cI]
 refine qM (fun i=>(((ls.take i).flatten.length:Int),((i:Int),()))) ls.length (fun ih i hi=>?_) (fun ih=>?_) (by omega)
 ·have c0:0≤(i:Int):=by omega
  have c1:(i:Int)<(ls.length:Int):=by omega
  have e1:ls.getD i []=ls[i]:=aH hi _
  have h1:=Pq ls (i+1)
  have e2:(ls.take (i+1)).flatten=(ls.take i).flatten++ls[i]:=by rw [List.take_succ_eq_append_getElem hi,List.flatten_append]; simp
  rw [e2,List.length_append] at h1
  show br (decide ((i:Int)<(ls.length:Int))) _ _=_
  rw [aZ c1,ah ⟨c0,c1⟩]
  simp only [Int.toNat_natCast,e1]
  rw [bo (by omega) (by omega),aK (by omega),bm (by omega),e2,List.length_append,Int.natCast_add (List.take i ls).flatten.length]
 ·simp only [List.take_length]
  rw [aK (Int.lt_irrefl _),YV (by omega) (by omega)]
  simp only [Option.bind_some]
  refine Eq.trans (qM (fun i=>((i:Int),((ls.take i).flatten,()))) ls.length (R:=some (ls.flatten,())) (fun ih i hi=>?_) (fun ih=>?_) (by omega)) rfl
  ·have c0:0≤(i:Int):=by omega
   have c1:(i:Int)<(ls.length:Int):=by omega
   have e1:ls.getD i []=ls[i]:=aH hi _
   have h1:=Pq ls (i+1)
   have e2:(ls.take (i+1)).flatten=(ls.take i).flatten++ls[i]:=by rw [List.take_succ_eq_append_getElem hi,List.flatten_append]; simp
   rw [e2,List.length_append] at h1
   show br (decide ((i:Int)<(ls.length:Int))) _ _=_
   rw [aZ c1,ah ⟨c0,c1⟩]
   simp only [Int.toNat_natCast,e1]
   rw [bZ (by omega),bm (by omega),e2]
  ·simp only [List.take_length]
   exact aK (Int.lt_irrefl _)
theorem YX {n:Nat} {a b:List Int} (ha:a.length≤1048576) (hb:b.length≤1048576) (hn:1048576<n):tw.f n [a,b]=some (a++b,()):=by
 rw [YW (by simp) (by simp; omega) hn]; simp
end Go.AmT
namespace Go.AmT
open Go Go.Am
set_option linter.unusedVariables false
set_option linter.unusedSimpArgs false
def Pr (l:aG) (ts:List Int):aG:=(l.1,l.2.1,l.2.2.1,l.2.2.2.1,l.2.2.2.2++ts)
def EK (nt:ai) (k:Nat) (ts:List Int):ai:=(nt.1,nt.2.set k (Pr (nt.2.getD k aM) ts))
theorem YY {nt:ai} {k:Nat} {ts:List Int} (h:cL nt) (hk:k<nt.2.length) (hl:(nt.2.getD k aM).2.2.2.2.length+ts.length≤1048576):cL (EK nt k ts):=by
 refine ⟨h.ew,h.prog,by simp [EK]; exact h.dt,fun l jH=>?_⟩
 rcases List.mem_or_eq_of_mem_set jH with h' | rfl
 ·exact h.link l h'
 ·exact ⟨by simp only [Pr,List.length_append]; exact hl⟩
end Go.AmT
