/- The least streams, in plain Lean: both programs run each process alone, and go on in rounds until nothing changes. -/
import Derived.Test.YtjfaphipihgomaaGreatDoorLLeast
open Go Go.Am
noncomputable section
set_option linter.unusedVariables false
set_option linter.unusedSimpArgs false
set_option maxRecDepth 100000
open Bool renaming and_eq_true → aw, false_and → DT, false_eq_true → fF, false_or → DU, not_true → bf, or_false → wj, true_and → kW
open Int renaming lt_irrefl → bR, reduceEq → fN, toNat_natCast → ay
open List renaming append_nil → Ke, getElem_map → og, map_append → qT, map_congr_left → BG, mem_range → oL, range → bA, range_succ → G_, replicate → iu
namespace Go.AmT
variable {n b k:Nat} {p:Program} {a:bM} {nt:aq} {h:List (List Int)}
theorem afb {token:Int} (hp:cJ p=true) (ha:f_ p a=true) (h1:a.1<(p.2.2.length:Int)) :
  qR.f n p.1 p.2.1 p.2.2 token a.1 a.2=some (oP (kI p a) a,(jk p a token).1,(jk p a token).2,()):=by
 have lD:=qB ha;obtain ⟨hl,hr⟩:=Ga ha;have O:=Jq hp lD.1 h1;have hlen:p.2.2.length≤24:=by unfold cJ at hp;simp only [aw,decide_eq_true_eq] at hp;omega
 unfold qR.f jk;rw [af (by omega),bP (n:=a.1+1) (by omega) (by omega),show p.2.2.getD a.1.toNat kX=kI p a from rfl];generalize kI p a=x at O;have hA:=O.a;have cA:0≤x.2.1∧x.2.1<(a.2.length:Int):=by omega
 have hs:=U4 cA;have hb:=wU (qE (i:=x.2.2.1) hr);have hc:=wU (qE (i:=x.2.2.2) hr);have hm:=Od hb hc;simp only [af cA];have aH:x.1=1∨x.1=2∨x.1=3∨x.1=4∨x.1=5∨x.1=6∨x.1=7∨x.1=8∨x.1=9∨x.1=10∨x.1=11:=by have:=O.op; omega
 have wW:=O.bc;unfold Dt oP Bk;have r0:∀ i,a.2.getD (Int.toNat i) 0=rg a.2 i:=fun i=>rfl;simp only [r0];rcases aH with h | h | h | h | h | h | h | h | h | h | h
 ·simp only [h,decide_true,decide_false,aB,ar,fN,↓reduceIte,false_or,false_and,or_false]
 ·simp only [h,decide_true,decide_false,aB,ar,fN,↓reduceIte,false_or,false_and,or_false,hs]
 ·simp only [h,decide_true,decide_false,aB,ar,fN,↓reduceIte,false_or,false_and,or_false]
 ·have:=wW (by omega);simp only [h,decide_true,decide_false,aB,ar,fN,↓reduceIte,false_or,false_and,or_false];rw [af (by omega),af (by omega),bP (by omega) (by omega),Ds]; rfl
 ·have:=wW (by omega);simp only [h,decide_true,decide_false,aB,ar,fN,↓reduceIte,false_or,false_and,or_false];rw [af (by omega),af (by omega),bP (by omega) (by omega),Ds]; rfl
 ·have:=wW (by omega);simp only [h,decide_true,decide_false,aB,ar,fN,↓reduceIte,false_or,false_and,or_false];rw [af (by omega),af (by omega),bP (by omega) (by omega),Ds]; rfl
 ·have:=wW (by omega);simp only [h,decide_true,decide_false,aB,ar,fN,↓reduceIte,false_or,false_and,or_false];rw [af (by omega),af (by omega),UZ n (qE hr)]; rfl
 ·simp only [h,decide_true,decide_false,aB,ar,fN,↓reduceIte,true_or,false_or,false_and,or_false,hs]
 ·simp only [h,decide_true,decide_false,aB,ar,fN,↓reduceIte,false_or,false_and,or_false,true_and,hs,iF];split<;>rfl
 ·simp only [h,decide_true,decide_false,aB,ar,fN,↓reduceIte,false_or,false_and,or_false,true_and,hs,iF];split<;>rfl
 simp only [h,decide_true,decide_false,aB,ar,fN,↓reduceIte,false_or,false_and,or_false,hs]
def dS (p:Program) (c:Lc):List (List Int):=(bA p.2.1.toNat).map c.2.1
def j3 (p:Program) (c:Lc):List Int:=(bA p.1.toNat).map (fun b=>(c.2.2 b:Int))
theorem P_ {α:Type} (n:Nat) (x:α):(bA n).map (fun _=>x)=iu n x:=by rw [List.eq_replicate_iff];exact ⟨by simp,fun b hb=>by obtain ⟨i,-,rfl⟩:=List.mem_map.1 hb; rfl⟩
theorem Xv (p:Program):dS p c0=iu p.2.1.toNat []:=P_ _ _
theorem Xw (p:Program):j3 p c0=iu p.1.toNat 0:=P_ p.1.toNat (0:Int)
theorem Kf (p:Program) (c:Lc):(dS p c).length=p.2.1.toNat:=by simp [dS]
theorem Xx (p:Program) (c:Lc):(j3 p c).length=p.1.toNat:=by simp [j3]
theorem G0 {α:Type} {f:Nat→α} {L:Nat} {d:α} (hb:b<L):((bA L).map f).getD b d=f b:=by rw [aJ (by simpa using hb),og,List.getElem_range]
theorem map_set {α:Type} {f:Nat→α} {L:Nat} {x:α} : ((bA L).map f).set b x=(bA L).map (iG f b x):=by
 refine List.ext_getElem (by simp) (fun i h1 h2=>?_);rw [List.getElem_set,og,og,List.getElem_range];unfold iG;by_cases h:b=i
 ·rw [if_pos h,if_pos h.symm]
 rw [if_neg h,if_neg (fun e=>h e.symm)]
theorem Kg {c:Lc} (hb:b<p.2.1.toNat):(dS p c).getD b []=c.2.1 b:=G0 hb
theorem Xy {c:Lc} (hb:b<p.1.toNat):(j3 p c).getD b 0=(c.2.2 b:Int):=G0 hb
theorem Xz {c:Lc} {x:List Int} {u:Nat→Nat} : (dS p c).set b x=dS p (a,iG c.2.1 b x,u):=map_set
theorem XA {c:Lc} {m:Nat} {o:Nat→List Int} : (j3 p c).set b (m:Int)=j3 p (a,o,iG c.2.2 b m):=by unfold j3;rw [map_set];refine BG (fun i _=>?_);unfold iG;by_cases h:i=b<;>simp [h]
theorem P2 {I:Nat→List Int} {c d:Lc} (hp:cJ p=true) (ha:f_ p c.1=true) (hI:∀ b,bS (I b)=true) (e:gg p I c=some d):f_ p d.1=true:=by
 unfold gg at e;have lD:=qB ha;split at e
 ·cases e
 rename_i h0;have ax:=Bl h0;split at e
 ·split at e
  ·cases e; exact (Gb hp ha (by omega) (adq (hI _) _)).1
  cases e
 split at e
 ·cases e; exact (Gb hp ha (by omega) (by decide)).1
 cases e; exact (Gb hp ha (by omega) (by decide)).1
theorem P3 (hp:cJ p=true):f_ p c0.1=true:=by unfold cJ at hp;simp only [aw,decide_eq_true_eq] at hp;unfold f_ c0 rE;simp only [aw,decide_eq_true_eq];exact ⟨by decide,by show (0:Int)≤_; omega,rfl,by decide⟩
theorem afc {I:List (List Int)} (hp:cJ p=true) (hl:I.length=p.1.toNat) (hI:∀ b,bS (aT I b)=true) (hn:1048576<n) :
  alone.f n p I 3000=some (dS p (al p (aT I) 3000 c0).1,j3 p (al p (aT I) 3000 c0).1,(al p (aT I) 3000 c0).2.1,(al p (aT I) 3000 c0).2.2,()):=by
 have hq:=hp;unfold cJ at hq;simp only [aw,decide_eq_true_eq] at hq;have hm:=iD;unfold alone.f;rw [Vq ⟨by omega⟩ hp hn,ao,af (by refine ⟨by trivial,?_⟩; omega),af (by refine ⟨by trivial,?_⟩; omega),← Xv,← Xw];have key:∀ (f:Nat) (c:Lc) (m:Nat),f≤3000→f<m→f_ p c.1=true→Wf (aT I) c→∀ F,(∀ ih c (f:Nat),f≤3000→f_ p c.1=true→Wf (aT I) c→
   F ih ((3000-f:Int),c.1.1,c.1.2,dS p c,j3 p c,())=if tE p (aT I) c=true then some (dS p c,j3 p c,(ch p c.1).1,(ch p c.1).2,()) else if f=0 then some (dS p c,j3 p c,1,0,()) else
    ih ((3000-(f-1:Nat):Int),((gg p (aT I) c).getD c).1.1,((gg p (aT I) c).getD c).1.2,dS p ((gg p (aT I) c).getD c),j3 p ((gg p (aT I) c).getD c),()))→
   iter m F ((3000-f:Int),c.1.1,c.1.2,dS p c,j3 p c,())=some (dS p (al p (aT I) f c).1,j3 p (al p (aT I) f c).1,(al p (aT I) f c).2.1,(al p (aT I) f c).2.2,()):=by
  intro f;induction f with
  | zero=>
   intro c m hf hm ha w F hF;obtain ⟨m,rfl⟩:∃ k,m=k+1:=⟨m-1,by omega⟩
   refine (hF _ c 0 (by omega) ha w).trans ?_;unfold al;split<;>rfl
  | succ f ih=>
   intro c m hf hm ha w F hF;obtain ⟨m,rfl⟩:∃ k,m=k+1:=⟨m-1,by omega⟩
   refine (hF _ c (f+1) (by omega) ha w).trans ?_;unfold al;by_cases hs:tE p (aT I) c=true
   ·rw [if_pos hs,if_pos hs]
   rw [if_neg hs,if_neg hs,if_neg (by omega)];obtain ⟨d,ed,wd⟩:=PX (p:=p) w (by simpa using hs);rw [ed];exact ih d m (by omega) (by omega) (P2 hp ha hI ed) wd F hF
 refine key 3000 c0 n (by omega) (by omega) (P3 hp) (PW _) _ (fun ih c f hf ha w=>?_);have lD:=qB ha;have hw:=N3 hp ha;have Bz:=Xx p c;have sG:=Kf p c;have hlen:(want.f n p (c.1.1,c.1.2))=some ((ch p c.1).1,(ch p c.1).2,()):=N1 ha;simp only [hlen,ao];unfold tE;have BJ:∀ t,(ch p c.1).1≠0→qR.f n p.1 p.2.1 p.2.2 t c.1.1 c.1.2=some (oP (kI p c.1) c.1,(jk p c.1 t).1,(jk p c.1 t).2,()):=fun t h0=>afb hp ha (by have:=Bl h0; omega);have BK:∀ (g:Nat),f=g+1→ah ((3000-f:Int)+1)=(3000-(f-1:Nat):Int):=fun g hg=>by rw [bP (by omega) (by omega)]; omega
 have BL:decide ((3000-f:Int)=3000)=decide (f=0):=by
  by_cases h:f=0
  ·simp [h]
  rw [decide_eq_false h,decide_eq_false (by omega)]
 rcases N2 p c.1 with h | h | h | h
 ·simp only [h,decide_true,aB,aY,Bool.true_or,if_true]
 ·have iz:gg p (aT I) c=some (jk p c.1 0,c.2.1,c.2.2):=by unfold gg; simp only [h,fN,if_false]
  simp only [h,decide_true,decide_false,aB,ar,aY,fN,DU,DT,fF,if_false,BL,iF];by_cases ic:f=0
  ·rw [if_pos ic,if_pos ic]
  rw [if_neg ic,if_neg ic,BJ 0 (by omega),ao,BK (f-1) (by omega),iz]; rfl
 ·obtain ⟨b,hb⟩:∃ b:Nat,(ch p c.1).2=(b:Int):=⟨(ch p c.1).2.toNat,by omega⟩
  have dE:(b:Int)<p.1:=by have:=hw.2.1 h; omega
  have hu:(j3 p c).getD b 0=(c.2.2 b:Int):=Xy (by omega);have P4:I.getD b []=aT I b:=rfl;have MF:=w.rd b;simp only [h,hb,decide_true,decide_false,aB,ar,aY,fN,DU,DT,kW,wj,BL,ay,hu,P4];rw [af (by omega),af (by omega)];by_cases hs:c.2.2 b=(aT I b).length
  ·rw [decide_eq_true (show (c.2.2 b:Int)=((aT I b).length:Int) by omega),decide_eq_true hs]; rfl
  have iz:gg p (aT I) c=some (jk p c.1 ((aT I b).getD (c.2.2 b) 0),c.2.1,iG c.2.2 b (c.2.2 b+1)):=by unfold gg; simp only [h,hb,ay,fN,if_false,if_true];rw [if_pos (by omega)]
  rw [decide_eq_false (show ¬ (c.2.2 b:Int)=((aT I b).length:Int) by omega),decide_eq_false hs];simp only [ar,aY,iF,fF,if_false];by_cases ic:f=0
  ·rw [if_pos ic,if_pos ic]
  have hlr:=(lE (hI b)).1;rw [if_neg ic,if_neg ic,af (by omega),af (by omega),af (by omega),af (by omega),af (by omega)];simp only [aY];rw [BJ _ (by omega),ao,BK (f-1) (by omega),iz,a_ (by omega),XA];rfl
 obtain ⟨b,hb⟩:∃ b:Nat,(ch p c.1).2=(b:Int):=⟨(ch p c.1).2.toNat,by omega⟩
 have dE:(b:Int)<p.2.1:=by have:=hw.2.2 h; omega
 have hu:(dS p c).getD b []=c.2.1 b:=Kg (by omega);have hwr:=w.wr b;have iz:gg p (aT I) c=some (jk p c.1 0,iG c.2.1 b (c.2.1 b++[oP (kI p c.1) c.1]),c.2.2):=by unfold gg; simp only [h,hb,ay,fN,if_false,if_true]
 simp only [h,hb,decide_true,decide_false,aB,ar,aY,fN,DU,DT,kW,wj,BL,ay,hu];rw [af (by omega)];simp only [aY];by_cases hs:(c.2.1 b).length=400
 ·rw [decide_eq_true (show ((c.2.1 b).length:Int)=400 by omega),decide_eq_true hs]; rfl
 rw [decide_eq_false (show ¬ ((c.2.1 b).length:Int)=400 by omega),decide_eq_false hs];simp only [ar,aY,iF,fF,if_false];by_cases ic:f=0
 ·rw [if_pos ic,if_pos ic]
 rw [if_neg ic,if_neg ic,BJ 0 (by omega),ao,af (by omega),db (by simp; omega),af (by omega),af (by trivial),BK (f-1) (by omega),iz,Xz];rfl
theorem afd {β γ ρ:Type} (len:Nat) (x:β) (st:Int→List β→γ) {F:(γ→Option ρ)→γ→Option ρ} {R:List β→Option ρ}
  (h1:∀ ih (i:Nat) (s:List β),i<len→s.length=i→F ih (st i s)=ih (st ((i+1:Nat):Int) (s++[x])))
  (h2:∀ ih s,F ih (st len s)=R s) {n:Nat} (hn:len<n):iter n F (st 0 [])=R (iu len x):=by
 exact mc (F:=F) (fun i=>st (i:Int) (iu i x)) len (fun ih i hi=>by show F ih (st (i:Int) (iu i x))=_;rw [h1 ih i _ hi (by simp),List.replicate_succ']) (fun ih=>h2 ih _) hn
theorem afe {I:List (List Int)} (hp:cJ p=true) (hl:I.length=p.1.toNat) (hI:∀ b,bS (aT I b)=true) (hn:1048576<n) :
  zI.f n p I 3000=some (dS p (al p (aT I) 3000 c0).1,j3 p (al p (aT I) 3000 c0).1,(al p (aT I) 3000 c0).2.1,(al p (aT I) 3000 c0).2.2,()):=by
 have hq:=hp;unfold cJ at hq;simp only [aw,decide_eq_true_eq] at hq;have hm:=iD;unfold zI.f;rw [afd p.2.1.toNat ([]:List Int) (fun i s=>(i,s,())) (fun ih i s hi hs=>?_) (fun ih s=>av (by omega)) (by omega)];rotate_left
 ·show br (decide ((i:Int)<p.2.1)) _ _=_;rw [aG (by omega),db (by simp; omega),a_ (by omega)]
 rw [af (by refine ⟨by trivial,?_⟩; omega),← Xv,← Xw];have key:∀ (f:Nat) (c:Lc) (m:Nat),f≤3000→f<m→f_ p c.1=true→Wf (aT I) c→∀ F,(∀ ih c (f:Nat),f≤3000→f_ p c.1=true→Wf (aT I) c→
   F ih ((f:Int),c.1.1,c.1.2,dS p c,j3 p c,())=if tE p (aT I) c=true then some (dS p c,j3 p c,(ch p c.1).1,(ch p c.1).2,()) else if f=0 then some (dS p c,j3 p c,1,0,()) else
    ih (((f-1:Nat):Int),((gg p (aT I) c).getD c).1.1,((gg p (aT I) c).getD c).1.2,dS p ((gg p (aT I) c).getD c),j3 p ((gg p (aT I) c).getD c),()))→
   iter m F ((f:Int),c.1.1,c.1.2,dS p c,j3 p c,())=some (dS p (al p (aT I) f c).1,j3 p (al p (aT I) f c).1,(al p (aT I) f c).2.1,(al p (aT I) f c).2.2,()):=by
  intro f;induction f with
  | zero=>
   intro c m hf hm ha w F hF;obtain ⟨m,rfl⟩:∃ k,m=k+1:=⟨m-1,by omega⟩
   refine (hF _ c 0 (by omega) ha w).trans ?_;unfold al;split<;>rfl
  | succ f ih=>
   intro c m hf hm ha w F hF;obtain ⟨m,rfl⟩:∃ k,m=k+1:=⟨m-1,by omega⟩
   refine (hF _ c (f+1) (by omega) ha w).trans ?_;unfold al;by_cases hs:tE p (aT I) c=true
   ·rw [if_pos hs,if_pos hs]
   rw [if_neg hs,if_neg hs,if_neg (by omega)];obtain ⟨d,ed,wd⟩:=PX (p:=p) w (by simpa using hs);rw [ed];exact ih d m (by omega) (by omega) (P2 hp ha hI ed) wd F hF
 refine key 3000 c0 n (by omega) (by omega) (P3 hp) (PW _) _ (fun ih c f hf ha w=>?_);have lD:=qB ha;have hw:=N3 hp ha;have Bz:=Xx p c;have sG:=Kf p c;have hlen:(gW.f n p (c.1.1,c.1.2))=some ((ch p c.1).1,(ch p c.1).2,()):=Bg ha;simp only [hlen,ao];unfold tE;have BJ:∀ t,(ch p c.1).1≠0→rF.f n p (c.1.1,c.1.2) t=some (jk p c.1 t,oP (kI p c.1) c.1,()):=fun t h0=>U_ hp ha (by have:=Bl h0; omega);have BK:∀ (g:Nat),f=g+1→ah ((f:Int)-1)=((f-1:Nat):Int):=fun g hg=>by rw [bP (by omega) (by omega)]; omega
 have BL:decide ((f:Int)=0)=decide (f=0):=by
  by_cases h:f=0
  ·simp [h]
  rw [decide_eq_false h,decide_eq_false (by omega)]
 rcases N2 p c.1 with h | h | h | h
 ·simp only [h,decide_true,aB,aY,Tz,Bool.true_or,if_true]
 ·have iz:gg p (aT I) c=some (jk p c.1 0,c.2.1,c.2.2):=by unfold gg; simp only [h,fN,if_false]
  simp only [h,decide_true,decide_false,aB,ar,aY,fN,DU,DT,fF,if_false,BL,iF];by_cases ic:f=0
  ·rw [if_pos ic,if_pos ic]
  rw [if_neg ic,if_neg ic,BJ 0 (by omega),ao];simp only [aY];rw [BK (f-1) (by omega),iz]; rfl
 ·obtain ⟨b,hb⟩:∃ b:Nat,(ch p c.1).2=(b:Int):=⟨(ch p c.1).2.toNat,by omega⟩
  have dE:(b:Int)<p.1:=by have:=hw.2.1 h; omega
  have hu:(j3 p c).getD b 0=(c.2.2 b:Int):=Xy (by omega);have P4:I.getD b []=aT I b:=rfl;have MF:=w.rd b;simp only [h,hb,decide_true,decide_false,aB,ar,aY,fN,DU,DT,kW,wj,BL,ay,hu,P4];rw [af (by omega),af (by omega)];by_cases hs:c.2.2 b=(aT I b).length
  ·rw [decide_eq_true (show (c.2.2 b:Int)=((aT I b).length:Int) by omega),decide_eq_true hs]; rfl
  have iz:gg p (aT I) c=some (jk p c.1 ((aT I b).getD (c.2.2 b) 0),c.2.1,iG c.2.2 b (c.2.2 b+1)):=by unfold gg; simp only [h,hb,ay,fN,if_false,if_true];rw [if_pos (by omega)]
  rw [decide_eq_false (show ¬ (c.2.2 b:Int)=((aT I b).length:Int) by omega),decide_eq_false hs];have hlr:=(lE (hI b)).1;simp only [ar,iF,fF,if_false];rw [af (by omega),af (by omega),af (by omega)];simp only [aY];by_cases ic:f=0
  ·rw [if_pos ic,if_pos ic]
  rw [if_neg ic,if_neg ic,BJ _ (by omega),ao,af (by omega),af (by omega)];simp only [aY];rw [BK (f-1) (by omega),iz,a_ (by omega),XA];rfl
 obtain ⟨b,hb⟩:∃ b:Nat,(ch p c.1).2=(b:Int):=⟨(ch p c.1).2.toNat,by omega⟩
 have dE:(b:Int)<p.2.1:=by have:=hw.2.2 h; omega
 have hu:(dS p c).getD b []=c.2.1 b:=Kg (by omega);have hwr:=w.wr b;have iz:gg p (aT I) c=some (jk p c.1 0,iG c.2.1 b (c.2.1 b++[oP (kI p c.1) c.1]),c.2.2):=by unfold gg; simp only [h,hb,ay,fN,if_false,if_true]
 simp only [h,hb,decide_true,decide_false,aB,ar,aY,fN,DU,DT,kW,wj,BL,ay,hu];rw [af (by omega)];by_cases hs:(c.2.1 b).length=400
 ·rw [decide_eq_true (show ((c.2.1 b).length:Int)=400 by omega),decide_eq_true hs]; rfl
 rw [decide_eq_false (show ¬ ((c.2.1 b).length:Int)=400 by omega),decide_eq_false hs];simp only [ar,aY,iF,fF,if_false];by_cases ic:f=0
 ·rw [if_pos ic,if_pos ic]
 rw [if_neg ic,if_neg ic,BJ 0 (by omega),ao,af (by omega),db (by simp; omega),af (by omega),af (by trivial),BK (f-1) (by omega),iz,Xz];rfl
theorem P5 {h:Nat→List Int} (hk:k<nt.1.length) (o:cK nt):aT ((bA (prog nt k).1.toNat).map (hZ nt h k))=hZ nt h k:=by
 funext b;by_cases hb:b<(prog nt k).1.toNat
 ·exact G0 hb
 rw [Xo (by omega)]; unfold hZ; rw [if_neg (by omega)]
theorem BM (o:cK nt) {k:Nat} (hk:k<nt.1.length):cJ (prog nt k)=true:=by unfold prog; rw [aJ hk]; exact o.prog k hk
theorem aff (o:cK nt) (hk:k<nt.1.length) (hh:h.length=nt.2.length) (hn:1048576<n) :
  zF.f n nt h (k:Int)=some ((bA (prog nt k).1.toNat).map (hZ nt (aT h) k),()):=by
 have hm:=iD;have hp:=U7 (BM o hk);have oY:=o.dB;unfold zF.f;rw [af (by omega)];simp only [ay];rw [show nt.1.getD k bC=prog nt k from rfl,af (by refine ⟨by trivial,?_⟩; omega),← P_];refine (mc (fun i=>((i:Int),(bA (prog nt k).1.toNat).map (fun b=>if fz nt k b<i then aT h (fz nt k b) else []),())) nt.2.length (R:=some ((bA (prog nt k).1.toNat).map (fun b=>if fz nt k b<nt.2.length then aT h (fz nt k b) else []),())) (fun ih i hi=>?_) (fun ih=>av (bR _)) (by omega)).trans ?_
 ·have hx:=o.ends i hi;have e1:nt.2.getD i aE=nt.2[i]:=aJ hi _;have e2:bH nt i=nt.2[i]:=e1;have XB:∀ b,b<(prog nt k).1.toNat→fz nt k b=i→nt.2[i].2.2.1=(k:Int)∧nt.2[i].2.2.2.1=(b:Int):=by intro b hb e;have:=BH o hk (b:=b) (by omega);rw [e,e2] at this; exact this.2
  show br (decide ((i:Int)<(nt.2.length:Int))) _ _=_;rw [aG (by omega),af (by omega)];simp only [ay,e1];rw [a_ (by omega)];by_cases G1:nt.2[i].2.2.1=(k:Int)
  ·rw [aG G1];have hI:s4 nt nt.2[i]:=by
    rcases hx.qo with h | h
    ·omega
    exact h
   obtain ⟨i1,i2,i3,i4⟩:=hI;have hb:nt.2[i].2.2.2.1<(prog nt k).1:=by rw [G1,ay] at i4; exact i4
   obtain ⟨b,eb⟩:∃ b:Nat,nt.2[i].2.2.2.1=(b:Int):=⟨nt.2[i].2.2.2.1.toNat,by omega⟩
   have hu:fz nt k b=i:=ae3 o hi hk (by omega) (by rw [e2]; exact G1) (by rw [e2]; exact eb);rw [eb,af (by omega),af (by simp; omega)];simp only [ay];rw [map_set];congr 2;refine congrArg (fun l=>(l,())) (BG (fun c hc=>?_));unfold iG;by_cases zA:c=b
   ·subst zA; rw [if_pos rfl,hu,if_pos (by omega)]; rfl
   rw [if_neg zA];have:fz nt k c≠i:=fun e=>by have:=XB c (oL.1 hc) e;omega
   show (if fz nt k c<i then aT h (fz nt k c) else [])=_;by_cases h1:fz nt k c<i
   ·rw [if_pos h1,if_pos (by omega)]
   rw [if_neg h1,if_neg (by omega)]
  rw [av G1];congr 2;refine congrArg (fun l=>(l,())) (BG (fun c hc=>?_));have:fz nt k c≠i:=fun e=>G1 (XB c (oL.1 hc) e).1;by_cases h1:fz nt k c<i
  ·rw [if_pos h1,if_pos (by omega)]
  rw [if_neg h1,if_neg (by omega)]
 congr 2;refine BG (fun c hc=>?_);have hc:=oL.1 hc;have:=BH o hk (b:=c) (by omega);unfold hZ;rw [if_pos this.1,if_pos (by omega)]
theorem afg {n : Nat} {nt : aq} {h : List (List Int)} {k : Nat} (o : cK nt) (hk : k < nt.1.length) (hh : h.length = nt.2.length) (hn : 1048576 < n) :
    zH.f n nt h (k : Int) = some ((bA (prog nt k).1.toNat).map (hZ nt (aT h) k), ()) := by
  have hp := U7 (BM o hk)
  have oY := o.dB
  unfold zH.f
  refine (mc (fun i => ((i : Int), (bA i).map (hZ nt (aT h) k), ())) (prog nt k).1.toNat (R := some ((bA (prog nt k).1.toNat).map (hZ nt (aT h) k), ())) (fun ih i hi => ?_) (fun ih => ?_) (by omega))
  · have hl := BH o hk (b := i) (by omega)
    have e0 : 0 ≤ mQ (ma (k : Int) (i : Int)) nt.2 := by
      have gm : (i : Int) < nt.1[k].1 := by
        have : (i : Int) < (prog nt k).1 := by omega
        unfold prog at this; rwa [aJ hk] at this
      obtain ⟨j, hj, hf, e⟩ := Dk (o.ins k hk i gm)
      omega
    have e3 : mQ (ma (k : Int) (i : Int)) nt.2 = (fz nt k i : Int) := by unfold fz; omega
    show ab (0 ≤ (k : Int) ∧ (k : Int) < (nt.1.length : Int)) _ = _
    rw [af (by omega)]
    simp only [ay]
    have c1 : (i : Int) < (nt.1.getD k bC).1 := show (i : Int) < (prog nt k).1 by omega
    rw [aG c1, NM (by omega) hn, ao, e3, af (by omega)]
    simp only [ay]
    rw [db (by simp; omega), a_ (by omega), G_, qT]
    have : hZ nt (aT h) k i = h.getD (fz nt k i) [] := by unfold hZ; rw [if_pos (by omega)]; rfl
    rw [List.map_singleton, this]
  · show ab (0 ≤ (k : Int) ∧ (k : Int) < (nt.1.length : Int)) _ = _
    rw [af (by omega)]
    simp only [ay]
    have c1 : ¬ (((prog nt k).1.toNat : Nat) : Int) < (nt.1.getD k bC).1 := show ¬ (((prog nt k).1.toNat : Nat) : Int) < (prog nt k).1 by omega
    rw [av c1]
def vf (nt:aq) (h:List (List Int)):Prop:=h.length=nt.2.length∧∀ j,bS (aT h j)=true
theorem P6 (H:vf nt h) (k b:Nat):bS (hZ nt (aT h) k b)=true:=by
 unfold hZ; split
 ·exact H.2 _
 decide
theorem Kh {β γ ρ:Type} (len:Nat) (g:Nat→β) (ok:Nat→Bool) (st:Int→List β→γ) {F:(γ→Option ρ)→γ→Option ρ} {R bad:Option ρ}
  (h1:∀ ih (i:Nat),i<len→F ih (st i ((bA i).map g))=if ok i=true then ih (st ((i+1:Nat):Int) ((bA (i+1)).map g)) else bad)
  (h2:∀ ih,F ih (st len ((bA len).map g))=R) {n:Nat} (hn:len<n):iter n F (st 0 [])=if (bA len).all ok=true then R else bad:=by
 have:∀ k i,i+k=len→∀ n,k<n→iter n F (st (i:Int) ((bA i).map g))=if (List.range' i k).all ok=true then R else bad:=by
  intro k;induction k with
  | zero=>
   intro i e n hn;obtain ⟨m,rfl⟩:∃ m,n=m+1:=⟨n-1,by omega⟩
   have e:i=len:=by omega
   subst e;exact (h2 _).trans (by simp)
  | succ k ih=>
   intro i e n hn;obtain ⟨m,rfl⟩:∃ m,n=m+1:=⟨n-1,by omega⟩
   refine (h1 _ i (by omega)).trans ?_;rw [List.range'_succ,List.all_cons];cases ok i
   ·simp
   rw [if_pos rfl]; exact (ih (i+1) (by omega) m (by omega)).trans (by rw [kW])
 have h:=this len 0 (by omega) n hn;rw [← List.range_eq_range'] at h;exact h
def my (nt:aq) (h:List (List Int)) (k:Nat):List (List Int):=dS (prog nt k) (runK nt (aT h) k).1
theorem Ki (H:vf nt h) (o:cK nt) (hk:k<nt.1.length) {b:Nat} : ((runK nt (aT h) k).1.2.1 b).length≤400∧(∀ x∈(runK nt (aT h) k).1.2.1 b,tok x=true):=by
 have key:∀ (f:Nat) (c:Lc),f_ (prog nt k) c.1=true→Wf (hZ nt (aT h) k) c→(∀ b,∀ x∈c.2.1 b,tok x=true)→∀ b,((al (prog nt k) (hZ nt (aT h) k) f c).1.2.1 b).length≤400∧∀ x∈(al (prog nt k) (hZ nt (aT h) k) f c).1.2.1 b,tok x=true:=by
  intro f;induction f with
  | zero=>
   intro c ha w ht b;unfold al;split<;>exact ⟨w.wr b,ht b⟩
  | succ f ih=>
   intro c ha w ht b;unfold al;by_cases hs:tE (prog nt k) (hZ nt (aT h) k) c=true
   ·rw [if_pos hs]; exact ⟨w.wr b,ht b⟩
   rw [if_neg hs];obtain ⟨d,ed,wd⟩:=PX (p:=prog nt k) w (by simpa using hs);rw [ed];refine ih d (P2 (BM o hk) ha (P6 H k) ed) wd (fun b=>?_) b;unfold gg at ed;split at ed
   ·cases ed
   rename_i h0;have ax:=Bl h0;have lD:=qB ha;split at ed
   ·split at ed
    ·cases ed; exact ht b
    cases ed
   split at ed
   ·cases ed;show ∀ x∈iG _ _ _ b,tok x=true;unfold iG;split
    ·intro x hx;rcases List.mem_append.1 hx with hx | hx
     ·exact ht _ x hx
     rw [List.mem_singleton.1 hx]; exact (Gb (token:=0) (BM o hk) ha (by omega) (by decide)).2
    exact ht b
   cases ed; exact ht b
 exact key 3000 c0 (P3 (BM o hk)) (PW _) (fun b x hx=>by simp [c0] at hx) b
theorem XC (o:cK nt) (H:vf nt h) (hn:1048576<n) :
  nR nt h=if (bA nt.1.length).all (fun k=>decide ((runK nt (aT h) k).2.1≠1)&&decide ((runK nt (aT h) k).2.1≠3))=true then (if (bA nt.2.length).all (fun j=>bS (jv nt (aT h) j))=true then some ((bA nt.2.length).map (jv nt (aT h))) else none) else none:=by
 unfold nR GW;simp only [aw];by_cases h1:(bA nt.1.length).all (fun k=>decide ((runK nt (aT h) k).2.1≠1)&&decide ((runK nt (aT h) k).2.1≠3))=true
 ·by_cases h2:(bA nt.2.length).all (fun j=>bS (jv nt (aT h) j))=true
  ·rw [if_pos ⟨h1,h2⟩,if_pos h1,if_pos h2]
  rw [if_neg (fun h=>h2 h.2),if_pos h1,if_neg h2]
 rw [if_neg (fun h=>h1 h.1),if_neg h1]
theorem XD (o:cK nt) (hk:k<nt.1.length):al (prog nt k) (aT ((bA (prog nt k).1.toNat).map (hZ nt (aT h) k))) 3000 c0=runK nt (aT h) k:=by rw [P5 hk o]; rfl
theorem afh (o:cK nt) (H:vf nt h) (hn:1048576<n):zG.f n nt h=some (match nR nt h with | some g=>(g,true,()) | none=>([],false,())):=by
 have PR:=o.eX;have oY:=o.dB;unfold zG.f;rw [XC (n:=n) o H hn];refine (Kh nt.1.length (my nt h) (fun k=>decide ((runK nt (aT h) k).2.1≠1)&&decide ((runK nt (aT h) k).2.1≠3)) (fun i s=>(i,s,())) (bad:=some ([],false,())) (fun ih k hk=>?_) (fun ih=>av (bR _)) (by omega)).trans ?_
 ·have hI:∀ b,bS (aT ((bA (prog nt k).1.toNat).map (hZ nt (aT h) k)) b)=true:=fun b=>by rw [P5 hk o]; exact P6 H k b
  have c1:(k:Int)<(nt.1.length:Int):=by omega
  show br (decide ((k:Int)<(nt.1.length:Int))) _ _=_;rw [aG c1,af (by omega)];simp only [ay];rw [aff o hk H.1 hn,ao];have ha:=afc (n:=n) (p:=prog nt k) (BM o hk) (I:=(bA (prog nt k).1.toNat).map (hZ nt (aT h) k)) (by simp) hI hn;rw [XD o hk] at ha;rw [show nt.1.getD k bC=prog nt k from rfl];simp only [ha,ao];by_cases h1:(runK nt (aT h) k).2.1=1
  ·rw [aG h1]; simp [aY,h1,aB]
  rw [av h1,aY];by_cases h3:(runK nt (aT h) k).2.1=3
  ·simp only [h3,decide_true,aB]; rfl
  simp only [h1,h3,decide_false,ar,ne_eq,not_false_eq_true,decide_true,Bool.and_self,if_true];rw [db (by simp; omega),a_ (by omega),G_,qT]; rfl
 by_cases cI:(bA nt.1.length).all (fun k=>decide ((runK nt (aT h) k).2.1≠1)&&decide ((runK nt (aT h) k).2.1≠3))=true;rotate_left
 ·rw [if_neg cI,if_neg cI]
 rw [if_pos cI,if_pos cI];refine (Kh nt.2.length (jv nt (aT h)) (fun j=>bS (jv nt (aT h) j)) (fun i s=>(i,s,())) (bad:=some ([],false,())) (R:=some ((bA nt.2.length).map (jv nt (aT h)),true,())) (fun ih j hj=>?_) (fun ih=>av (bR _)) (by omega)).trans ?_;rotate_left
 ·by_cases h2:(bA nt.2.length).all (fun j=>bS (jv nt (aT h) j))=true
  ·rw [if_pos h2,if_pos h2]
  rw [if_neg h2,if_neg h2]
 have e1:nt.2.getD j aE=bH nt j:=rfl;have ht:=(lE (o.ji j hj)).1;have e2:bH nt j=nt.2[j]:=aJ hj _;have ht2:(bH nt j).2.2.2.2.length≤400:=by rw [e2]; exact ht
 have c1:(j:Int)<(nt.2.length:Int):=by omega
 show br (decide ((j:Int)<(nt.2.length:Int))) _ _=_;rw [aG c1,af (by omega)];simp only [ay,e1];rw [wS (by omega),ao];have P7:(br (decide (0≤(bH nt j).1)) (ab (0≤(bH nt j).1∧(bH nt j).1<(((bA nt.1.length).map (my nt h)).length:Int)) (ab (0≤(bH nt j).2.1∧(bH nt j).2.1<((((bA nt.1.length).map (my nt h)).getD (bH nt j).1.toNat []).length:Int)) (ab (((bH nt j).2.2.2.2.length+((((bA nt.1.length).map (my nt h)).getD (bH nt j).1.toNat []).getD (bH nt j).2.1.toNat []).length)*8≤bo) (some (Sum.inr (α:=List (List Int)×Bool×Unit) ((bH nt j).2.2.2.2++((((bA nt.1.length).map (my nt h)).getD (bH nt j).1.toNat []).getD (bH nt j).2.1.toNat []),())))))) (some (.inr ((bH nt j).2.2.2.2,()))))=some (.inr (jv nt (aT h) j,())):=by
  unfold jv;by_cases hf:0≤(bH nt j).1
  ·have hx:=(o.ends j hj).out;rw [← e2] at hx;have hO:pK nt (bH nt j):=by
    rcases hx with h | h
    ·omega
    exact h
   obtain ⟨o1,o2,o3,o4⟩:=hO;have hk:(bH nt j).1.toNat<nt.1.length:=by omega
   have o4':(bH nt j).2.1<(prog nt (bH nt j).1.toNat).2.1:=o4;have g1:((bA nt.1.length).map (my nt h)).getD (bH nt j).1.toNat []=my nt h (bH nt j).1.toNat:=G0 hk;have g2:(my nt h (bH nt j).1.toNat).getD (bH nt j).2.1.toNat []=(runK nt (aT h) (bH nt j).1.toNat).1.2.1 (bH nt j).2.1.toNat:=Kg (by omega);have g3:=(Ki H o hk (b:=(bH nt j).2.1.toNat)).1;have g4:(my nt h (bH nt j).1.toNat).length=(prog nt (bH nt j).1.toNat).2.1.toNat:=Kf _ _;rw [aG hf,if_pos hf,g1,g2,af (by simp; omega),af (by omega),db (by omega)]; rfl
  rw [av hf,if_neg hf,Ke]; rfl
 rw [P7,aY];have hlen:(jv nt (aT h) j).length≤1048576:=by
  unfold jv;split
  ·rename_i hf;have hx:=(o.ends j hj).out;rw [← e2] at hx;have hO:pK nt (bH nt j):=by
    rcases hx with h | h
    ·omega
    exact h
   have g3:=(Ki H o (k:=(bH nt j).1.toNat) (by have:=hO.2.1; omega) (b:=(bH nt j).2.1.toNat)).1;rw [List.length_append]; unfold ji; omega
  rw [Ke]; unfold ji; omega
 simp only;rw [uD hlen hn,ao];cases hs:bS (jv nt (aT h) j)
 ·rfl
 simp only [bf,ar,if_true];rw [db (by simp; omega),a_ (by omega),G_,qT]; rfl
theorem afi (o:cK nt) (H:vf nt h) (hn:1048576<n):zJ.f n nt h=some (match nR nt h with | some g=>(g,true,()) | none=>([],false,())):=by
 have PR:=o.eX;have oY:=o.dB;unfold zJ.f;rw [XC (n:=n) o H hn];refine (Kh nt.1.length (my nt h) (fun k=>decide ((runK nt (aT h) k).2.1≠1)&&decide ((runK nt (aT h) k).2.1≠3)) (fun i s=>(i,s,())) (bad:=some ([],false,())) (fun ih k hk=>?_) (fun ih=>av (bR _)) (by omega)).trans ?_
 ·have hI:∀ b,bS (aT ((bA (prog nt k).1.toNat).map (hZ nt (aT h) k)) b)=true:=fun b=>by rw [P5 hk o]; exact P6 H k b
  have c1:(k:Int)<(nt.1.length:Int):=by omega
  show br (decide ((k:Int)<(nt.1.length:Int))) _ _=_;rw [aG c1,af (by omega)];simp only [ay];rw [afg o hk H.1 hn,ao];have ha:=afe (n:=n) (p:=prog nt k) (BM o hk) (I:=(bA (prog nt k).1.toNat).map (hZ nt (aT h) k)) (by simp) hI hn;rw [XD o hk] at ha;rw [show nt.1.getD k bC=prog nt k from rfl];simp only [ha,ao];by_cases h1:(runK nt (aT h) k).2.1=1
  ·rw [aG h1]; simp [aY,h1,aB]
  rw [av h1,aY];by_cases h3:(runK nt (aT h) k).2.1=3
  ·simp only [h3,decide_true,aB]; rfl
  simp only [h1,h3,decide_false,ar,ne_eq,not_false_eq_true,decide_true,Bool.and_self,if_true];rw [db (by simp; omega),a_ (by omega),G_,qT]; rfl
 by_cases cI:(bA nt.1.length).all (fun k=>decide ((runK nt (aT h) k).2.1≠1)&&decide ((runK nt (aT h) k).2.1≠3))=true;rotate_left
 ·rw [if_neg cI,if_neg cI]
 rw [if_pos cI,if_pos cI];refine (Kh nt.2.length (jv nt (aT h)) (fun j=>bS (jv nt (aT h) j)) (fun i s=>(i,s,())) (bad:=some ([],false,())) (R:=some ((bA nt.2.length).map (jv nt (aT h)),true,())) (fun ih j hj=>?_) (fun ih=>av (bR _)) (by omega)).trans ?_;rotate_left
 ·by_cases h2:(bA nt.2.length).all (fun j=>bS (jv nt (aT h) j))=true
  ·rw [if_pos h2,if_pos h2]
  rw [if_neg h2,if_neg h2]
 have e1:nt.2.getD j aE=bH nt j:=rfl;have ht:=(lE (o.ji j hj)).1;have e2:bH nt j=nt.2[j]:=aJ hj _;have ht2:(bH nt j).2.2.2.2.length≤400:=by rw [e2]; exact ht
 have c1:(j:Int)<(nt.2.length:Int):=by omega
 show br (decide ((j:Int)<(nt.2.length:Int))) _ _=_;rw [aG c1,af (by omega)];simp only [ay,e1];rw [wV (by omega),ao];have P7:(br (decide (0≤(bH nt j).1)) (ab (0≤(bH nt j).1∧(bH nt j).1<(((bA nt.1.length).map (my nt h)).length:Int)) (ab (0≤(bH nt j).2.1∧(bH nt j).2.1<((((bA nt.1.length).map (my nt h)).getD (bH nt j).1.toNat []).length:Int)) (ab (((bH nt j).2.2.2.2.length+((((bA nt.1.length).map (my nt h)).getD (bH nt j).1.toNat []).getD (bH nt j).2.1.toNat []).length)*8≤bo) (some (Sum.inr (α:=List (List Int)×Bool×Unit) ((bH nt j).2.2.2.2++((((bA nt.1.length).map (my nt h)).getD (bH nt j).1.toNat []).getD (bH nt j).2.1.toNat []),())))))) (some (.inr ((bH nt j).2.2.2.2,()))))=some (.inr (jv nt (aT h) j,())):=by
  unfold jv;by_cases hf:0≤(bH nt j).1
  ·have hx:=(o.ends j hj).out;rw [← e2] at hx;have hO:pK nt (bH nt j):=by
    rcases hx with h | h
    ·omega
    exact h
   obtain ⟨o1,o2,o3,o4⟩:=hO;have hk:(bH nt j).1.toNat<nt.1.length:=by omega
   have o4':(bH nt j).2.1<(prog nt (bH nt j).1.toNat).2.1:=o4;have g1:((bA nt.1.length).map (my nt h)).getD (bH nt j).1.toNat []=my nt h (bH nt j).1.toNat:=G0 hk;have g2:(my nt h (bH nt j).1.toNat).getD (bH nt j).2.1.toNat []=(runK nt (aT h) (bH nt j).1.toNat).1.2.1 (bH nt j).2.1.toNat:=Kg (by omega);have g3:=(Ki H o hk (b:=(bH nt j).2.1.toNat)).1;have g4:(my nt h (bH nt j).1.toNat).length=(prog nt (bH nt j).1.toNat).2.1.toNat:=Kf _ _;rw [aG hf,if_pos hf,g1,g2,af (by simp; omega),af (by omega),db (by omega)]; rfl
  rw [av hf,if_neg hf,Ke]; rfl
 rw [P7,aY];have hlen:(jv nt (aT h) j).length≤1048576:=by
  unfold jv;split
  ·rename_i hf;have hx:=(o.ends j hj).out;rw [← e2] at hx;have hO:pK nt (bH nt j):=by
    rcases hx with h | h
    ·omega
    exact h
   have g3:=(Ki H o (k:=(bH nt j).1.toNat) (by have:=hO.2.1; omega) (b:=(bH nt j).2.1.toNat)).1;rw [List.length_append]; unfold ji; omega
  rw [Ke]; unfold ji; omega
 simp only;rw [wG hlen hn,ao];cases hs:bS (jv nt (aT h) j)
 ·rfl
 simp only [bf,ar,if_true];rw [db (by simp; omega),a_ (by omega),G_,qT]; rfl
theorem XE (H:vf nt h) (o:cK nt):h.length≤30∧∀ j,(aT h j).length≤400:=⟨by have:=o.dB; have:=H.1; omega,fun j=>(lE (H.2 j)).1⟩
theorem P8 {g:List (List Int)} (e:nR nt h=some g):vf nt g:=by
 obtain ⟨ok,rfl⟩:=PY e;refine ⟨by simp,fun j=>?_⟩;by_cases hj:j<nt.2.length
 ·rw [Xn hj]; exact Xm ok hj
 rw [Xo (by omega)]; decide
theorem XF {a b:List (List Int)} (hl:a.length=b.length) (h:∀ i,i<a.length→aT a i=aT b i):a=b:=by refine List.ext_getElem hl (fun i h1 h2=>?_);have:=h i h1;unfold aT at this;rwa [aJ h1,aJ h2] at this
theorem afj {a b:List (List Int)} (hl:a.length≤1048576) (hs:∀ i,(aT a i).length≤1048576) (hn:1048576<n):zE.f n a b=some (decide (a=b),()):=by
 have:zC.f n a b ()=some (decide (a=b),()):=by
  unfold zC.f;by_cases h:a.length=b.length
  ·have h':(a.length:Int)=(b.length:Int):=by omega
   rw [show (!decide ((a.length:Int)=(b.length:Int)))=false by simp [h'],ar];refine wC (oF (bad:=some (false,())) a.length (fun i=>decide (aT a i=aT b i)) (fun ih i hi=>?_) (fun ih=>av (bR _)) (by omega) (fun bF=>?_) (fun i hi hb=>?_))
   ·have h1:(i:Int)<(a.length:Int):=by omega
    simp only [h1,decide_true,aB,ay];have e:=NT (n:=n) (a:=a.getD i []) (b:=b.getD i []) (hs i) hn;rw [af (by simp),af (by simp; omega),a_ (by omega),e,ao];exact yz
   ·simp only [ak,true_iff];exact XF h (fun i hi=>by simpa using bF i hi)
   simp only [ak];constructor
   ·intro h; cases h
   intro e; subst e; simp at hb
  rw [show (!decide ((a.length:Int)=(b.length:Int)))=true by simp; omega,aB,decide_eq_false (fun e=>h (by rw [e]))]
 unfold zE.f;rw [this]; rfl
theorem afk {a b:List (List Int)} (hl:a.length≤1048576) (hs:∀ i,(aT a i).length≤1048576) (hn:1048576<n):zK.f n a b=some (decide (a=b),()):=by
 unfold zK.f;by_cases h:a.length=b.length
 ·have h':(a.length:Int)=(b.length:Int):=by omega
  rw [show (!decide ((a.length:Int)=(b.length:Int)))=false by simp [h'],ar];refine wC (oF (bad:=some (false,())) a.length (fun i=>decide (aT a i=aT b i)) (fun ih i hi=>?_) (fun ih=>av (bR _)) (by omega) (fun bF=>?_) (fun i hi hb=>?_))
  ·have h1:(i:Int)<(a.length:Int):=by omega
   simp only [h1,decide_true,aB,ay];have e:=NU (n:=n) (a:=aT a i) (b:=aT b i) (hs i) hn;rw [af (by simp),af (by simp; omega),af (by simp; omega),a_ (by omega)];show br (!decide (((aT a i).length:Int)=((aT b i).length:Int))) (some (false,())) ((pL.f n (aT a i) (aT b i)).bind _)=_;rw [e,ao];by_cases hL:(aT a i).length=(aT b i).length
   ·rw [show (!decide (((aT a i).length:Int)=((aT b i).length:Int)))=false by simp; omega,ar];have:decide (aT a i <+: aT b i)=decide (aT a i=aT b i):=by
     by_cases hp:aT a i <+: aT b i
     ·rw [decide_eq_true hp,decide_eq_true (hp.eq_of_length hL)]
     rw [decide_eq_false hp,decide_eq_false (fun e=>hp (by rw [e]; exact List.prefix_rfl))]
    rw [this]; exact yz
   rw [show (!decide (((aT a i).length:Int)=((aT b i).length:Int)))=true by simp; omega,aB,decide_eq_false (fun e=>hL (by rw [e]))];rfl
  ·simp only [ak,true_iff];exact XF h (fun i hi=>by simpa using bF i hi)
  simp only [ak];constructor
  ·intro h; cases h
  intro e; subst e; simp at hb
 rw [show (!decide ((a.length:Int)=(b.length:Int)))=true by simp; omega,aB,decide_eq_false (fun e=>h (by rw [e]))]
theorem XG (o:cK nt):vf nt (tF nt):=by
 refine ⟨by simp [tF],fun j=>?_⟩;rw [afa];unfold ji bH;by_cases hj:j<nt.2.length
 ·rw [aJ hj]; exact o.ji j hj
 rw [List.getD_eq_getElem?_getD,List.getElem?_eq_none (by omega)]; decide
def DV (nt:aq) (m:Nat) (r:Int) (h:List (List Int)):List (List Int)×(Int×Bool×Unit):=match zB nt m r h with | some (g,r')=>(g,r',true,()) | none=>([],0,false,())
theorem P9 (o:cK nt) {F:(Int×(List (List Int)×Unit)→Option (List (List Int)×Int×Bool×Unit))→Int×(List (List Int)×Unit)→Option (List (List Int)×Int×Bool×Unit)}
  (hF:∀ ih (r:Int) h,vf nt h→F ih (r,h,())=if r≤300 then (match nR nt h with | none=>some ([],0,false,()) | some g=>if g=h then some (h,r,true,()) else ih (ah (r+1),g,())) else some ([],0,false,())) :
  ∀ (m n:Nat) (r:Int) h,vf nt h→0≤r→r+m=301→m<n→iter n F (r,h,())=some (DV nt m r h)
 | 0,n+1,r,h,H,h0,hr,hn=>by refine (hF _ r h H).trans ?_;rw [if_neg (by omega)]; rfl
 | m+1,n+1,r,h,H,h0,hr,hn=>by
  refine (hF _ r h H).trans ?_;rw [if_pos (by omega)];unfold DV zB;cases e:nR nt h with
  | none=>rfl
  | some g=>
   simp only;by_cases hg:g=h
   ·rw [if_pos hg,if_pos hg]
   rw [if_neg hg,if_neg hg,bP (by omega) (by omega)];exact P9 o hF m n (r+1) g (P8 e) (by omega) (by omega) (by omega)
theorem afl (h:dq nt) (o:cK nt) (hn:1048576<n):xo.f n nt=some (DV nt 300 1 (tF nt)):=by
 unfold xo.f;rw [s6 h hn,show cm nt=true by simp [cm,o],ao,bf,ar];refine uL nt.2 (fun l=>l.2.2.2.2) (fun i s=>(i,s,())) (fun ih i hi s hs=>?_) (fun ih=>?_) (by have:=h.dB; omega)
 ·have c1:(i:Int)<(nt.2.length:Int):=by omega
  have e1:nt.2.getD i aE=nt.2[i]:=aJ hi _;show br (decide ((i:Int)<(nt.2.length:Int))) _ _=_;have hl:=o.dB;rw [aG c1,af ⟨Int.natCast_nonneg i,c1⟩];simp only [ay,e1];rw [wS (h.link _ (List.getElem_mem hi)).tokens,Option.bind_some,db (by simp; omega),a_ (by omega)]
 show br (decide ((nt.2.length:Int)<(nt.2.length:Int))) _ _=_;rw [av (bR _)];refine P9 o (fun ih r g H=>?_) 300 n 1 (tF nt) (XG o) (by omega) (by omega) (by omega);show br (decide (r≤300)) _ _=_;by_cases hr:r≤300
 ·rw [aG hr,if_pos hr,afh o H hn,ao];cases e:nR nt g with
  | none=>rfl
  | some g'=>
   have H':=XE (P8 e) o;simp only [bf,ar];rw [afj (by have:=H'.1; omega) (fun i=>by have:=H'.2 i; omega) hn,ao];exact iF
 rw [av hr,if_neg hr]
theorem afm (h:dq nt) (o:cK nt) (hn:1048576<n):zL.f n nt=some (DV nt 300 1 (tF nt)):=by
 unfold zL.f;rw [rz h hn,show cm nt=true by simp [cm,o],ao,bf,ar,Vp h hn,ao];refine P9 o (fun ih r g H=>?_) 300 n 1 (tF nt) (XG o) (by omega) (by omega) (by omega);show br (decide (r≤300)) _ _=_;by_cases hr:r≤300
 ·rw [aG hr,if_pos hr,afi o H hn,ao];cases e:nR nt g with
  | none=>rfl
  | some g'=>
   have H':=XE (P8 e) o;simp only [bf,ar];rw [afk (by have:=H'.1; omega) (fun i=>by have:=H'.2 i; omega) hn,ao];exact iF
 rw [av hr,if_neg hr]
end Go.AmT
namespace Go.AmT
open Go.Proofs Go.Proofs.Tryz
def j4.f (n:Nat) (a0:List Instr):Option (List Instr×Unit):=ab ((([]:List Instr).length+a0.length)*32≤bo) (some (([]:List Instr)++a0,()))
def j4.ae (n:Nat):au:=⟨[.val (.sl dO)],[.val (.sl dO)],fun x=>j4.f n x.1⟩
def j4.cfg (n:Nat):ba:=⟨mS,[],[],[]⟩
theorem j4.aD:dh Tryz.prog 205:=eu func205 (by kernel_rfl) (by kernel_rfl)
theorem j4.N_:∀ (n:Nat),yq (j4.cfg n) n f205 (fm f205 []) [.val (.sl dO)] [.val (.sl dO)] .nil [] []=some (([]:List Instr),()):=by intros;kernel_rfl
theorem j4.N0:∀ (n:Nat) (a0:List Instr),yq (j4.cfg n) n f205 (fm f205 []) [.val (.sl dO)] [.val (.sl dO)] (.cZ dO (some a0)) [] []=j4.f n a0:=by intros;kernel_rfl
theorem j4.sound (n:Nat):Sound Tryz.prog 205 (j4.ae n):=
 SD (t:=dO) (ps:=[]) (rs:=[.val (.sl dO)]) (F:=fun x=>j4.f n x.1) (uz mixed (sU (.of (c:=j4.cfg n) trivial) (.of (c:=j4.cfg n) trivial)) (eo kC)) (eo kC) func205
  (fun x y hy hx=>by
   have hy:j4.f n x.1=some y:=hy;rw [hx] at hy;unfold j4.f ab at hy;split at hy
   ·exact (j4.N_ n).trans hy
   simp at hy)
  (fun x y hy=>(j4.N0 n x.1).trans hy)
def zM.f (n:Nat) (a0:Program):Option (Program×Unit):=(j4.f n a0.2.2).bind fun r1=>some ((a0.1,a0.2.1,r1.1),())
def zM.ae (n:Nat):au:=⟨[.val b_],[.val b_],fun x=>zM.f n x.1⟩
theorem zM.ok (n:Nat):aP 148 (zM.ae n):=aU n [] [] (ai ⟨j4.sound n,j4.aD⟩ aK) aL func148
def pY.f (n:Nat) (a0:aq):Option (aq×Unit):=iter n (fun DI fl=>br (decide (fl.1<(a0.1.length:Int))) (ab (0≤fl.1∧fl.1<(a0.1.length:Int)) (let G2:=(a0.1.getD fl.1.toNat bC); (zM.f n G2).bind fun ec=>ab ((fl.2.1.length+([ec.1]:List Program).length)*40≤bo) (DI (ah (fl.1+1),fl.2.1++[ec.1],())))) (iter n (fun Qa kM=>br (decide (kM.1<(a0.2.length:Int))) (ab (0≤kM.1∧kM.1<(a0.2.length:Int)) (let qS:=(a0.2.getD kM.1.toNat aE); (cR.f n qS.2.2.2.2).bind fun tB=>ab ((kM.2.2.1.length+([(qS.1,qS.2.1,qS.2.2.1,qS.2.2.2.1,tB.1)]:List bb).length)*56≤bo) (Qa (ah (kM.1+1),kM.2.1,kM.2.2.1++[(qS.1,qS.2.1,qS.2.2.1,qS.2.2.2.1,tB.1)],())))) (some ((kM.2.1,kM.2.2.1),()))) (0,fl.2.1,[],()))) (0,[],())
def pY.ae (n:Nat):au:=⟨[.val cd],[.val cd],fun x=>pY.f n x.1⟩
theorem pY.ok (n:Nat):aP 85 (pY.ae n):=aU n [(4,⟨[(3,.bn 1000 0),(12,.int .i64)],[(1000,.cells [] [.own 1001 b_,.lP (.nil)]),(1001,.row true b_)],[1,2,10,11],[]⟩),(13,⟨[(3,.bn 1000 0),(27,.int .i64)],[(1000,.cells [] [.own 1001 b_,.own 1002 du]),(1001,.row true b_),(1002,.row true du)],[2,25,26],[]⟩)] [] (ai (zM.ok n) (ai ⟨cR.sound n,cR.aD⟩ aK)) aL func85
def vg.f (n:Nat) (a0:aq):Option (aq×Bool×Unit):=(ez.f n a0).bind fun r1=>br (!r1.1) (some (([],[]),false,())) ((pY.f n a0).bind fun r2=>some (r2.1,true,()))
def vg.ae (n:Nat):au:=⟨[.val cd],[.val cd,.val .bool],fun x=>vg.f n x.1⟩
theorem vg.ok (n:Nat):aP 162 (vg.ae n):=aU n [] [] (ai ⟨ez.sound n,ez.aD⟩ (ai (pY.ok n) aK)) aL func162
def zN.f (n:Nat) (a0:Program):Option (Program×Unit):=ab ((([]:List Instr).length+a0.2.2.length)*32≤bo) (some ((a0.1,a0.2.1,([]:List Instr)++a0.2.2),()))
def zN.ae (n:Nat):au:=⟨[.val b_],[.val b_],fun x=>zN.f n x.1⟩
theorem zN.ok (n:Nat):aP 116 (zN.ae n):=aU n [] [] aK aL func116
def zO.f (n:Nat) (a0:bb):Option (bb×Unit):=(gJ.f n a0.2.2.2.2).bind fun r1=>some ((a0.1,a0.2.1,a0.2.2.1,a0.2.2.2.1,r1.1),())
def zO.ae (n:Nat):au:=⟨[.val du],[.val du],fun x=>zO.f n x.1⟩
theorem zO.ok (n:Nat):aP 117 (zO.ae n):=aU n [] [] (ai (gJ.ok n) aK) aL func117
end Go.AmT
