/- The least streams, in plain Lean: both programs run each process alone, and go on in rounds until nothing changes. -/
import Derived.Test.YtjfaphipihgomaaGreatDoorLLeast
open Go Go.Am
noncomputable section
set_option linter.unusedVariables false
set_option linter.unusedSimpArgs false
set_option maxRecDepth 100000
open Bool renaming and_eq_true → aB, false_and → EG, false_eq_true → fM, false_or → EH, not_true → bo, or_false → yE, true_and → lF
open Int renaming lt_irrefl → bH, reduceEq → fT, toNat_natCast → az
open List renaming append_nil → KY, getElem_map → p5, map_append → pG, map_congr_left → Cw, mem_range → rN, range → bD, range_succ → HJ, replicate → ga
namespace Go.AmT
variable {n b k:Nat} {p:Program} {a:aY} {nt:ak} {h:List (List Int)}
theorem agz {token:Int} (hp:cP p=true) (ha:gj p a=true) (h1:a.1<(p.2.2.length:Int)) :
  rG.f n p.1 p.2.1 p.2.2 token a.1 a.2=some (pq (kR p a) a,(jR p a token).1,(jR p a token).2,()):=by
 have mb:=rm ha;obtain ⟨hl,hr⟩:=G0 ha;have O:=Ki hp mb.1 h1;have hlen:p.2.2.length≤24:=by unfold cP at hp;simp only [aB,decide_eq_true_eq] at hp;omega
 unfold rG.f jR;rw [af (by omega),bM (n:=a.1+1) (by omega) (by omega),show p.2.2.getD a.1.toNat fK=kR p a from rfl];generalize kR p a=x at O;have hA:=O.a;have cA:0≤x.2.1∧x.2.1<(a.2.length:Int):=by omega
 have hs:=V1 cA;have hb:=xJ (rq (i:=x.2.2.1) hr);have hc:=xJ (rq (i:=x.2.2.2) hr);have hm:=O9 hb hc;simp only [af cA];have aP:x.1=1∨x.1=2∨x.1=3∨x.1=4∨x.1=5∨x.1=6∨x.1=7∨x.1=8∨x.1=9∨x.1=10∨x.1=11:=by have:=O.op; omega
 have xL:=O.bc;unfold Ei pq Cd;have r0:∀ i,a.2.getD (Int.toNat i) 0=rg a.2 i:=fun i=>rfl;simp only [r0];rcases aP with h | h | h | h | h | h | h | h | h | h | h
 ·simp only [h,decide_true,decide_false,ax,aw,fT,↓reduceIte,false_or,false_and,or_false]
 ·simp only [h,decide_true,decide_false,ax,aw,fT,↓reduceIte,false_or,false_and,or_false,hs]
 ·simp only [h,decide_true,decide_false,ax,aw,fT,↓reduceIte,false_or,false_and,or_false]
 ·have:=xL (by omega);simp only [h,decide_true,decide_false,ax,aw,fT,↓reduceIte,false_or,false_and,or_false];rw [af (by omega),af (by omega),bM (by omega) (by omega),Eh]; rfl
 ·have:=xL (by omega);simp only [h,decide_true,decide_false,ax,aw,fT,↓reduceIte,false_or,false_and,or_false];rw [af (by omega),af (by omega),bM (by omega) (by omega),Eh]; rfl
 ·have:=xL (by omega);simp only [h,decide_true,decide_false,ax,aw,fT,↓reduceIte,false_or,false_and,or_false];rw [af (by omega),af (by omega),bM (by omega) (by omega),Eh]; rfl
 ·have:=xL (by omega);simp only [h,decide_true,decide_false,ax,aw,fT,↓reduceIte,false_or,false_and,or_false];rw [af (by omega),af (by omega),V_ n (rq hr)]; rfl
 ·simp only [h,decide_true,decide_false,ax,aw,fT,↓reduceIte,true_or,false_or,false_and,or_false,hs]
 ·simp only [h,decide_true,decide_false,ax,aw,fT,↓reduceIte,false_or,false_and,or_false,true_and,hs,iN]
  grind
 ·simp only [h,decide_true,decide_false,ax,aw,fT,↓reduceIte,false_or,false_and,or_false,true_and,hs,iN]
  grind
 simp only [h,decide_true,decide_false,ax,aw,fT,↓reduceIte,false_or,false_and,or_false,hs]
def dX (p:Program) (c:Lc):List (List Int):=(bD p.2.1.toNat).map c.2.1
def ke (p:Program) (c:Lc):List Int:=(bD p.1.toNat).map (fun b=>(c.2.2 b:Int))
theorem QU {α:Type} (n:Nat) (x:α):(bD n).map (fun _=>x)=ga n x:=by
 rw [List.eq_replicate_iff]
 grind
theorem Yl (p:Program):dX p c0=ga p.2.1.toNat []:=QU _ _
theorem Ym (p:Program):ke p c0=ga p.1.toNat 0:=QU p.1.toNat (0:Int)
theorem KZ (p:Program) (c:Lc):(dX p c).length=p.2.1.toNat:=by simp [dX]
theorem Yn (p:Program) (c:Lc):(ke p c).length=p.1.toNat:=by simp [ke]
theorem HK {α:Type} {f:Nat→α} {L:Nat} {d:α} (hb:b<L):((bD L).map f).getD b d=f b:=by grind
theorem map_set {α:Type} {f:Nat→α} {L:Nat} {x:α} : ((bD L).map f).set b x=(bD L).map (lz f b x):=by
 refine List.ext_getElem (by simp) (fun i h1 h2=>?_);rw [List.getElem_set,p5,p5,List.getElem_range];unfold lz
 grind
theorem K_ {c:Lc} (hb:b<p.2.1.toNat):(dX p c).getD b []=c.2.1 b:=HK hb
theorem Yo {c:Lc} (hb:b<p.1.toNat):(ke p c).getD b 0=(c.2.2 b:Int):=HK hb
theorem Yp {c:Lc} {x:List Int} {u:Nat→Nat} : (dX p c).set b x=dX p (a,lz c.2.1 b x,u):=map_set
theorem Yq {c:Lc} {m:Nat} {o:Nat→List Int} : (ke p c).set b (m:Int)=ke p (a,o,lz c.2.2 b m):=by
 unfold ke;rw [map_set];refine Cw (fun i _=>?_);unfold lz
 grind
theorem QV {I:Nat→List Int} {c d:Lc} (hp:cP p=true) (ha:gj p c.1=true) (hI:∀ b,bX (I b)=true) (e:jc p I c=some d):gj p d.1=true:=by
 unfold jc at e;have mb:=rm ha;split at e
 ·cases e
 rename_i h0;have aF:=Ce h0;split at e
 ·split at e
  ·cases e; exact (G1 hp ha (by omega) (aeR (hI _) _)).1
  grind
 split at e
 ·cases e; exact (G1 hp ha (by omega) (by decide)).1
 cases e; exact (G1 hp ha (by omega) (by decide)).1
theorem QW (hp:cP p=true):gj p c0.1=true:=by unfold cP at hp;simp only [aB,decide_eq_true_eq] at hp;unfold gj c0 sg;simp only [aB,decide_eq_true_eq];exact ⟨by decide,by omega,rfl,by decide⟩
theorem agA {I:List (List Int)} (hp:cP p=true) (hl:I.length=p.1.toNat) (hI:∀ b,bX (aW I b)=true) (hn:1048576<n) :
  alone.f n p I 3000=some (dX p (al p (aW I) 3000 c0).1,ke p (al p (aW I) 3000 c0).1,(al p (aW I) 3000 c0).2.1,(al p (aW I) 3000 c0).2.2,()):=by
 have hq:=hp;unfold cP at hq;simp only [aB,decide_eq_true_eq] at hq;have hm:=iR;unfold alone.f;rw [Wo ⟨by omega⟩ hp hn,aq,af (by omega),af (by omega),← Yl,← Ym];have key:∀ (f:Nat) (c:Lc) (m:Nat),f≤3000→f<m→gj p c.1=true→Wf (aW I) c→∀ F,(∀ ih c (f:Nat),f≤3000→gj p c.1=true→Wf (aW I) c→
   F ih ((3000-f:Int),c.1.1,c.1.2,dX p c,ke p c,())=if uD p (aW I) c=true then some (dX p c,ke p c,(ct p c.1).1,(ct p c.1).2,()) else if f=0 then some (dX p c,ke p c,1,0,()) else
    ih ((3000-(f-1:Nat):Int),((jc p (aW I) c).getD c).1.1,((jc p (aW I) c).getD c).1.2,dX p ((jc p (aW I) c).getD c),ke p ((jc p (aW I) c).getD c),()))→
   iter m F ((3000-f:Int),c.1.1,c.1.2,dX p c,ke p c,())=some (dX p (al p (aW I) f c).1,ke p (al p (aW I) f c).1,(al p (aW I) f c).2.1,(al p (aW I) f c).2.2,()):=by
  intro f;induction f with
  | zero=>
   intro c m hf hm ha w F hF;obtain ⟨m,rfl⟩:∃ k,m=k+1:=⟨m-1,by omega⟩
   refine (hF _ c 0 (by omega) ha w).trans ?_;unfold al
   grind
  | succ f ih=>
   intro c m hf hm ha w F hF;obtain ⟨m,rfl⟩:∃ k,m=k+1:=⟨m-1,by omega⟩
   refine (hF _ c (f+1) (by omega) ha w).trans ?_;unfold al;by_cases hs:uD p (aW I) c=true
   ·grind
   rw [if_neg hs,if_neg hs,if_neg (by omega)];obtain ⟨d,ed,wd⟩:=QQ (p:=p) w (by grind);rw [ed];exact ih d m (by omega) (by omega) (QV hp ha hI ed) wd F hF
 refine key 3000 c0 n (by omega) (by omega) (QW hp) (QP _) _ (fun ih c f hf ha w=>?_);have mb:=rm ha;have hw:=OW hp ha;have ES:=Yn p c;have tE:=KZ p c;have hlen:(want.f n p (c.1.1,c.1.2))=some ((ct p c.1).1,(ct p c.1).2,()):=OU ha;simp only [hlen,aq];unfold uD;have Cx:∀ t,(ct p c.1).1≠0→rG.f n p.1 p.2.1 p.2.2 t c.1.1 c.1.2=some (pq (kR p c.1) c.1,(jR p c.1 t).1,(jR p c.1 t).2,()):=fun t h0=>agz hp ha (by have:=Ce h0; omega);have Cy:∀ (g:Nat),f=g+1→ag ((3000-f:Int)+1)=(3000-(f-1:Nat):Int):=fun g hg=>by rw [bM (by omega) (by omega)]; omega
 have Cz:decide ((3000-f:Int)=3000)=decide (f=0):=by
  by_cases h:f=0
  ·simp [h]
  grind
 rcases OV p c.1 with h | h | h | h
 ·simp only [h,decide_true,ax,bg,Bool.true_or,if_true]
 ·have iP:jc p (aW I) c=some (jR p c.1 0,c.2.1,c.2.2):=by unfold jc; simp only [h,fT,if_false]
  simp only [h,decide_true,decide_false,ax,aw,bg,fT,EH,EG,fM,if_false,Cz,iN];by_cases jC:f=0
  ·grind
  rw [if_neg jC,if_neg jC,Cx 0 (by omega),aq,Cy (f-1) (by omega),iP]; rfl
 ·obtain ⟨b,hb⟩:∃ b:Nat,(ct p c.1).2=(b:Int):=⟨(ct p c.1).2.toNat,by omega⟩
  have eK:(b:Int)<p.1:=by have:=hw.2.1 h; omega
  have hu:(ke p c).getD b 0=(c.2.2 b:Int):=Yo (by omega);have QX:I.getD b []=aW I b:=rfl;have ND:=w.rd b;simp only [h,hb,decide_true,decide_false,ax,aw,bg,fT,EH,EG,lF,yE,Cz,az,hu,QX];rw [af (by omega),af (by omega)];by_cases hs:c.2.2 b=(aW I b).length
  ·rw [decide_eq_true (show (c.2.2 b:Int)=((aW I b).length:Int) by omega),decide_eq_true hs]; rfl
  have iP:jc p (aW I) c=some (jR p c.1 ((aW I b).getD (c.2.2 b) 0),c.2.1,lz c.2.2 b (c.2.2 b+1)):=by unfold jc; simp only [h,hb,az,fT,if_false,if_true];rw [if_pos (by omega)]
  rw [decide_eq_false (show ¬ (c.2.2 b:Int)=((aW I b).length:Int) by omega),decide_eq_false hs];simp only [aw,bg,iN,fM,if_false];by_cases jC:f=0
  ·grind
  have hlr:=(lS (hI b)).1;rw [if_neg jC,if_neg jC,af (by omega),af (by omega),af (by omega),af (by omega),af (by omega)];simp only [bg];rw [Cx _ (by omega),aq,Cy (f-1) (by omega),iP,ba (by omega),Yq];rfl
 obtain ⟨b,hb⟩:∃ b:Nat,(ct p c.1).2=(b:Int):=⟨(ct p c.1).2.toNat,by omega⟩
 have eK:(b:Int)<p.2.1:=by have:=hw.2.2 h; omega
 have hu:(dX p c).getD b []=c.2.1 b:=K_ (by omega);have hwr:=w.wr b;have iP:jc p (aW I) c=some (jR p c.1 0,lz c.2.1 b (c.2.1 b++[pq (kR p c.1) c.1]),c.2.2):=by unfold jc; simp only [h,hb,az,fT,if_false,if_true]
 simp only [h,hb,decide_true,decide_false,ax,aw,bg,fT,EH,EG,lF,yE,Cz,az,hu];rw [af (by omega)];simp only [bg];by_cases hs:(c.2.1 b).length=400
 ·rw [decide_eq_true (show ((c.2.1 b).length:Int)=400 by omega),decide_eq_true hs]; rfl
 rw [decide_eq_false (show ¬ ((c.2.1 b).length:Int)=400 by omega),decide_eq_false hs];simp only [aw,bg,iN,fM,if_false];by_cases jC:f=0
 ·grind
 rw [if_neg jC,if_neg jC,Cx 0 (by omega),aq,af (by omega),dD (by grind),af (by omega),af (by trivial),Cy (f-1) (by omega),iP,Yp];rfl
theorem agB {β γ ρ:Type} (len:Nat) (x:β) (st:Int→List β→γ) {F:(γ→Option ρ)→γ→Option ρ} {R:List β→Option ρ}
  (h1:∀ ih (i:Nat) (s:List β),i<len→s.length=i→F ih (st i s)=ih (st ((i+1:Nat):Int) (s++[x])))
  (h2:∀ ih s,F ih (st len s)=R s) {n:Nat} (hn:len<n):iter n F (st 0 [])=R (ga len x):=by
 exact mu (F:=F) (fun i=>st (i:Int) (ga i x)) len (fun ih i hi=>by show F ih (st (i:Int) (ga i x))=_;rw [h1 ih i _ hi (by simp),List.replicate_succ']) (fun ih=>h2 ih _) hn
theorem aip {α ρ:Type} (r:ρ) (f:α→Option ρ):cut (some (.inl r)) f=some r:=rfl
theorem agC {I:List (List Int)} (hp:cP p=true) (hl:I.length=p.1.toNat) (hI:∀ b,bX (aW I b)=true) (hn:1048576<n) :
  AG.f n p I 3000=some (dX p (al p (aW I) 3000 c0).1,ke p (al p (aW I) 3000 c0).1,(al p (aW I) 3000 c0).2.1,(al p (aW I) 3000 c0).2.2,()):=by
 have hq:=hp;unfold cP at hq;simp only [aB,decide_eq_true_eq] at hq;have hm:=iR;unfold AG.f;rw [agB p.2.1.toNat ([]:List Int) (fun i s=>(i,s,())) (fun ih i s hi hs=>?_) (fun ih s=>au (by omega)) (by omega)];rotate_left
 ·show br (decide ((i:Int)<p.2.1)) _ _=_;rw [aM (by omega),dD (by grind),ba (by omega)]
 rw [af (by omega),← Yl,← Ym];have key:∀ (f:Nat) (c:Lc) (m:Nat),f≤3000→f<m→gj p c.1=true→Wf (aW I) c→∀ F,(∀ ih c (f:Nat),f≤3000→gj p c.1=true→Wf (aW I) c→
   F ih ((f:Int),c.1.1,c.1.2,dX p c,ke p c,())=if uD p (aW I) c=true then some (dX p c,ke p c,(ct p c.1).1,(ct p c.1).2,()) else if f=0 then some (dX p c,ke p c,1,0,()) else
    ih (((f-1:Nat):Int),((jc p (aW I) c).getD c).1.1,((jc p (aW I) c).getD c).1.2,dX p ((jc p (aW I) c).getD c),ke p ((jc p (aW I) c).getD c),()))→
   iter m F ((f:Int),c.1.1,c.1.2,dX p c,ke p c,())=some (dX p (al p (aW I) f c).1,ke p (al p (aW I) f c).1,(al p (aW I) f c).2.1,(al p (aW I) f c).2.2,()):=by
  intro f;induction f with
  | zero=>
   intro c m hf hm ha w F hF;obtain ⟨m,rfl⟩:∃ k,m=k+1:=⟨m-1,by omega⟩
   refine (hF _ c 0 (by omega) ha w).trans ?_;unfold al
   grind
  | succ f ih=>
   intro c m hf hm ha w F hF;obtain ⟨m,rfl⟩:∃ k,m=k+1:=⟨m-1,by omega⟩
   refine (hF _ c (f+1) (by omega) ha w).trans ?_;unfold al;by_cases hs:uD p (aW I) c=true
   ·grind
   rw [if_neg hs,if_neg hs,if_neg (by omega)];obtain ⟨d,ed,wd⟩:=QQ (p:=p) w (by grind);rw [ed];exact ih d m (by omega) (by omega) (QV hp ha hI ed) wd F hF
 refine key 3000 c0 n (by omega) (by omega) (QW hp) (QP _) _ (fun ih c f hf ha w=>?_);have mb:=rm ha;have hw:=OW hp ha;have ES:=Yn p c;have tE:=KZ p c;have hlen:(ig.f n p (c.1.1,c.1.2))=some ((ct p c.1).1,(ct p c.1).2,()):=Ca ha;simp only [hlen,aq];unfold uD;have Cx:∀ t,(ct p c.1).1≠0→sn.f n p (c.1.1,c.1.2) t=some (jR p c.1 t,pq (kR p c.1) c.1,()):=fun t h0=>V0 hp ha (by have:=Ce h0; omega);have Cy:∀ (g:Nat),f=g+1→ag ((f:Int)-1)=((f-1:Nat):Int):=fun g hg=>by rw [bM (by omega) (by omega)]; omega
 have Cz:decide ((f:Int)=0)=decide (f=0):=by
  by_cases h:f=0
  ·simp [h]
  grind
 rcases OV p c.1 with h | h | h | h
 ·simp only [h,decide_true,ax,bg,aip,Bool.true_or,if_true]
 ·have iP:jc p (aW I) c=some (jR p c.1 0,c.2.1,c.2.2):=by unfold jc; simp only [h,fT,if_false]
  simp only [h,decide_true,decide_false,ax,aw,bg,fT,EH,EG,fM,if_false,Cz,iN];by_cases jC:f=0
  ·grind
  rw [if_neg jC,if_neg jC,Cx 0 (by omega),aq];simp only [bg];rw [Cy (f-1) (by omega),iP]; rfl
 ·obtain ⟨b,hb⟩:∃ b:Nat,(ct p c.1).2=(b:Int):=⟨(ct p c.1).2.toNat,by omega⟩
  have eK:(b:Int)<p.1:=by have:=hw.2.1 h; omega
  have hu:(ke p c).getD b 0=(c.2.2 b:Int):=Yo (by omega);have QX:I.getD b []=aW I b:=rfl;have ND:=w.rd b;simp only [h,hb,decide_true,decide_false,ax,aw,bg,fT,EH,EG,lF,yE,Cz,az,hu,QX];rw [af (by omega),af (by omega)];by_cases hs:c.2.2 b=(aW I b).length
  ·rw [decide_eq_true (show (c.2.2 b:Int)=((aW I b).length:Int) by omega),decide_eq_true hs]; rfl
  have iP:jc p (aW I) c=some (jR p c.1 ((aW I b).getD (c.2.2 b) 0),c.2.1,lz c.2.2 b (c.2.2 b+1)):=by unfold jc; simp only [h,hb,az,fT,if_false,if_true];rw [if_pos (by omega)]
  rw [decide_eq_false (show ¬ (c.2.2 b:Int)=((aW I b).length:Int) by omega),decide_eq_false hs];have hlr:=(lS (hI b)).1;simp only [aw,iN,fM,if_false];rw [af (by omega),af (by omega),af (by omega)];simp only [bg];by_cases jC:f=0
  ·grind
  rw [if_neg jC,if_neg jC,Cx _ (by omega),aq,af (by omega),af (by omega)];simp only [bg];rw [Cy (f-1) (by omega),iP,ba (by omega),Yq];rfl
 obtain ⟨b,hb⟩:∃ b:Nat,(ct p c.1).2=(b:Int):=⟨(ct p c.1).2.toNat,by omega⟩
 have eK:(b:Int)<p.2.1:=by have:=hw.2.2 h; omega
 have hu:(dX p c).getD b []=c.2.1 b:=K_ (by omega);have hwr:=w.wr b;have iP:jc p (aW I) c=some (jR p c.1 0,lz c.2.1 b (c.2.1 b++[pq (kR p c.1) c.1]),c.2.2):=by unfold jc; simp only [h,hb,az,fT,if_false,if_true]
 simp only [h,hb,decide_true,decide_false,ax,aw,bg,fT,EH,EG,lF,yE,Cz,az,hu];rw [af (by omega)];by_cases hs:(c.2.1 b).length=400
 ·rw [decide_eq_true (show ((c.2.1 b).length:Int)=400 by omega),decide_eq_true hs]; rfl
 rw [decide_eq_false (show ¬ ((c.2.1 b).length:Int)=400 by omega),decide_eq_false hs];simp only [aw,bg,iN,fM,if_false];by_cases jC:f=0
 ·grind
 rw [if_neg jC,if_neg jC,Cx 0 (by omega),aq,af (by omega),dD (by grind),af (by omega),af (by trivial),Cy (f-1) (by omega),iP,Yp];rfl
theorem QY {h:Nat→List Int} (hk:k<nt.1.length) (o:cQ nt):aW ((bD (prog nt k).1.toNat).map (kB nt h k))=kB nt h k:=by
 funext b;by_cases hb:b<(prog nt k).1.toNat
 ·exact HK hb
 rw [Ye (by omega)]; unfold kB; rw [if_neg (by omega)]
theorem CA (o:cQ nt) {k:Nat} (hk:k<nt.1.length):cP (prog nt k)=true:=by unfold prog; rw [aU hk]; exact o.prog k hk
theorem agD (o:cQ nt) (hk:k<nt.1.length) (hh:h.length=nt.2.length) (hn:1048576<n) :
  AD.f n nt h (k:Int)=some ((bD (prog nt k).1.toNat).map (kB nt (aW h) k),()):=by
 have hm:=iR;have hp:=V5 (CA o hk);have pO:=o.dp;unfold AD.f;rw [af (by omega)];simp only [az];rw [show nt.1.getD k bf=prog nt k from rfl,af (by grind),← QU];refine (mu (fun i=>((i:Int),(bD (prog nt k).1.toNat).map (fun b=>if kV nt k b<i then aW h (kV nt k b) else []),())) nt.2.length (R:=some ((bD (prog nt k).1.toNat).map (fun b=>if kV nt k b<nt.2.length then aW h (kV nt k b) else []),())) (fun ih i hi=>?_) (fun ih=>au (bH _)) (by omega)).trans ?_
 ·have hx:=o.ends i hi;have e1:nt.2.getD i ay=nt.2[i]:=aU hi _;have e2:bN nt i=nt.2[i]:=e1;have ZG:∀ b,b<(prog nt k).1.toNat→kV nt k b=i→nt.2[i].2.2.1=(k:Int)∧nt.2[i].2.2.2.1=(b:Int):=by intro b hb e;have:=QO o hk (b:=b) (by omega);rw [e,e2] at this; exact this.2
  show br (decide ((i:Int)<(nt.2.length:Int))) _ _=_;rw [aM (by omega),af (by omega)];simp only [az,e1];rw [ba (by omega)];by_cases H8:nt.2[i].2.2.1=(k:Int)
  ·rw [aM H8];have hI:tU nt nt.2[i]:=by
    rcases hx.q_ with h | h
    ·omega
    exact h
   obtain ⟨i1,i2,i3,i4⟩:=hI;have hb:nt.2[i].2.2.2.1<(prog nt k).1:=by rw [H8,az] at i4; exact i4
   obtain ⟨b,eb⟩:∃ b:Nat,nt.2[i].2.2.2.1=(b:Int):=⟨nt.2[i].2.2.2.1.toNat,by omega⟩
   have hu:kV nt k b=i:=agv o hi hk (by omega) (by grind) (by grind);rw [eb,af (by omega),af (by grind)];simp only [az];rw [map_set];congr 2;refine congrArg (fun l=>(l,())) (Cw (fun c hc=>?_));unfold lz;by_cases Zt:c=b
   ·subst Zt; rw [if_pos rfl,hu,if_pos (by omega)]; rfl
   grind
  rw [au H8];congr 2;refine congrArg (fun l=>(l,())) (Cw (fun c hc=>?_))
  grind
 congr 2;refine Cw (fun c hc=>?_);have hc:=rN.1 hc;have:=QO o hk (b:=c) (by omega);unfold kB
 grind
theorem agE (o:cQ nt) (hk:k<nt.1.length) (hh:h.length=nt.2.length) (hn:1048576<n) :
  AF.f n nt h (k:Int)=some ((bD (prog nt k).1.toNat).map (kB nt (aW h) k),()):=by
 have hp:=V5 (CA o hk);have pO:=o.dp;unfold AF.f;refine (mu (fun i=>((i:Int),(bD i).map (kB nt (aW h) k),())) (prog nt k).1.toNat (R:=some ((bD (prog nt k).1.toNat).map (kB nt (aW h) k),())) (fun ih i hi=>?_) (fun ih=>?_) (by omega))
 ·have hl:=QO o hk (b:=i) (by omega);have e0:0≤nU (mJ (k:Int) (i:Int)) nt.2:=by
   have gU:(i:Int)<nt.1[k].1:=by
    have:(i:Int)<(prog nt k).1:=by omega
    unfold prog at this; rwa [aU hk] at this
   obtain ⟨j,hj,hf,e⟩:=GZ (o.ins k hk i gU);omega
  have e3:nU (mJ (k:Int) (i:Int)) nt.2=(kV nt k i:Int):=by unfold kV; omega
  show ab (0≤(k:Int)∧(k:Int)<(nt.1.length:Int)) _=_;rw [af (by omega)];simp only [az];have c1:(i:Int)<(nt.1.getD k bf).1:=show (i:Int)<(prog nt k).1 by omega
  rw [aM c1,OD (by omega) hn,aq,e3,af (by omega)];simp only [az];rw [dD (by grind),ba (by omega),HJ,pG];have:kB nt (aW h) k i=h.getD (kV nt k i) []:=by unfold kB; rw [if_pos (by omega)]; rfl
  grind
 show ab (0≤(k:Int)∧(k:Int)<(nt.1.length:Int)) _=_;rw [af (by omega)];simp only [az];have c1:¬ (((prog nt k).1.toNat:Nat):Int)<(nt.1.getD k bf).1:=show ¬ (((prog nt k).1.toNat:Nat):Int)<(prog nt k).1 by omega
 rw [au c1]
def vR (nt:ak) (h:List (List Int)):Prop:=h.length=nt.2.length∧∀ j,bX (aW h j)=true
theorem QZ (H:vR nt h) (k b:Nat):bX (kB nt (aW h) k b)=true:=by
 unfold kB; split
 ·exact H.2 _
 decide
theorem K4 {β γ ρ:Type} (len:Nat) (g:Nat→β) (ok:Nat→Bool) (st:Int→List β→γ) {F:(γ→Option ρ)→γ→Option ρ} {R bad:Option ρ}
  (h1:∀ ih (i:Nat),i<len→F ih (st i ((bD i).map g))=if ok i=true then ih (st ((i+1:Nat):Int) ((bD (i+1)).map g)) else bad)
  (h2:∀ ih,F ih (st len ((bD len).map g))=R) {n:Nat} (hn:len<n):iter n F (st 0 [])=if (bD len).all ok=true then R else bad:=by
 have:∀ k i,i+k=len→∀ n,k<n→iter n F (st (i:Int) ((bD i).map g))=if (List.range' i k).all ok=true then R else bad:=by
  intro k;induction k with
  | zero=>
   intro i e n hn;obtain ⟨m,rfl⟩:∃ m,n=m+1:=⟨n-1,by omega⟩
   have e:i=len:=by omega
   subst e;exact (h2 _).trans (by simp)
  | succ k ih=>
   intro i e n hn;obtain ⟨m,rfl⟩:∃ m,n=m+1:=⟨n-1,by omega⟩
   refine (h1 _ i (by omega)).trans ?_;rw [List.range'_succ,List.all_cons];cases ok i
   ·simp
   rw [if_pos rfl]; exact (ih (i+1) (by omega) m (by omega)).trans (by grind)
 have h:=this len 0 (by omega) n hn;simp_all
def mG (nt:ak) (h:List (List Int)) (k:Nat):List (List Int):=dX (prog nt k) (runK nt (aW h) k).1
theorem K5 (H:vR nt h) (o:cQ nt) (hk:k<nt.1.length) {b:Nat} : ((runK nt (aW h) k).1.2.1 b).length≤400∧(∀ x∈(runK nt (aW h) k).1.2.1 b,tok x=true):=by
 have key:∀ (f:Nat) (c:Lc),gj (prog nt k) c.1=true→Wf (kB nt (aW h) k) c→(∀ b,∀ x∈c.2.1 b,tok x=true)→∀ b,((al (prog nt k) (kB nt (aW h) k) f c).1.2.1 b).length≤400∧∀ x∈(al (prog nt k) (kB nt (aW h) k) f c).1.2.1 b,tok x=true:=by
  intro f;induction f with
  | zero=>
   intro c ha w ht b;unfold al;split<;>exact ⟨w.wr b,ht b⟩
  | succ f ih=>
   intro c ha w ht b;unfold al;by_cases hs:uD (prog nt k) (kB nt (aW h) k) c=true
   ·rw [if_pos hs]; exact ⟨w.wr b,ht b⟩
   rw [if_neg hs];obtain ⟨d,ed,wd⟩:=QQ (p:=prog nt k) w (by simpa using hs);rw [ed];refine ih d (QV (CA o hk) ha (QZ H k) ed) wd (fun b=>?_) b;unfold jc at ed;split at ed
   ·cases ed
   rename_i h0;have aF:=Ce h0;have mb:=rm ha;split at ed
   ·split at ed
    ·cases ed; exact ht b
    cases ed
   split at ed
   ·cases ed;show ∀ x∈lz _ _ _ b,tok x=true;unfold lz;split
    ·intro x hx;rcases List.mem_append.1 hx with hx | hx
     ·exact ht _ x hx
     rw [List.mem_singleton.1 hx]; exact (G1 (token:=0) (CA o hk) ha (by omega) (by decide)).2
    exact ht b
   cases ed; exact ht b
 exact key 3000 c0 (QW (CA o hk)) (QP _) (fun b x hx=>by simp [c0] at hx) b
theorem Yr (o:cQ nt) (H:vR nt h) (hn:1048576<n) :
  oz nt h=if (bD nt.1.length).all (fun k=>decide ((runK nt (aW h) k).2.1≠1)&&decide ((runK nt (aW h) k).2.1≠3))=true then (if (bD nt.2.length).all (fun j=>bX (jS nt (aW h) j))=true then some ((bD nt.2.length).map (jS nt (aW h))) else none) else none:=by
 unfold oz HG
 grind
theorem Ys (o:cQ nt) (hk:k<nt.1.length):al (prog nt k) (aW ((bD (prog nt k).1.toNat).map (kB nt (aW h) k))) 3000 c0=runK nt (aW h) k:=by rw [QY hk o]; rfl
theorem agF (o:cQ nt) (H:vR nt h) (hn:1048576<n):AE.f n nt h=some (match oz nt h with | some g=>(g,true,()) | none=>([],false,())):=by
 have QJ:=o.dZ;have pO:=o.dp;unfold AE.f;rw [Yr (n:=n) o H hn];refine (K4 nt.1.length (mG nt h) (fun k=>decide ((runK nt (aW h) k).2.1≠1)&&decide ((runK nt (aW h) k).2.1≠3)) (fun i s=>(i,s,())) (bad:=some ([],false,())) (fun ih k hk=>?_) (fun ih=>au (bH _)) (by omega)).trans ?_
 ·have hI:∀ b,bX (aW ((bD (prog nt k).1.toNat).map (kB nt (aW h) k)) b)=true:=fun b=>by rw [QY hk o]; exact QZ H k b
  have c1:(k:Int)<(nt.1.length:Int):=by omega
  show br (decide ((k:Int)<(nt.1.length:Int))) _ _=_;rw [aM c1,af (by omega)];simp only [az];rw [agD o hk H.1 hn,aq];have ha:=agA (n:=n) (p:=prog nt k) (CA o hk) (I:=(bD (prog nt k).1.toNat).map (kB nt (aW h) k)) (by simp) hI hn;rw [Ys o hk] at ha;rw [show nt.1.getD k bf=prog nt k from rfl];simp only [ha,aq];by_cases h1:(runK nt (aW h) k).2.1=1
  ·rw [aM h1]; simp [bg,h1,ax]
  rw [au h1,bg];by_cases h3:(runK nt (aW h) k).2.1=3
  ·simp only [h3,decide_true,ax]; rfl
  simp only [h1,h3,decide_false,aw,ne_eq,not_false_eq_true,decide_true,Bool.and_self,if_true];rw [dD (by grind),ba (by omega),HJ,pG]; rfl
 by_cases c8:(bD nt.1.length).all (fun k=>decide ((runK nt (aW h) k).2.1≠1)&&decide ((runK nt (aW h) k).2.1≠3))=true;rotate_left
 ·grind
 rw [if_pos c8,if_pos c8];refine (K4 nt.2.length (jS nt (aW h)) (fun j=>bX (jS nt (aW h) j)) (fun i s=>(i,s,())) (bad:=some ([],false,())) (R:=some ((bD nt.2.length).map (jS nt (aW h)),true,())) (fun ih j hj=>?_) (fun ih=>au (bH _)) (by omega)).trans ?_;rotate_left
 ·grind
 have e1:nt.2.getD j ay=bN nt j:=rfl;have ht:=(lS (o.j7 j hj)).1;have e2:bN nt j=nt.2[j]:=aU hj _;have ht2:(bN nt j).2.2.2.2.length≤400:=by rw [e2]; exact ht
 have c1:(j:Int)<(nt.2.length:Int):=by omega
 show br (decide ((j:Int)<(nt.2.length:Int))) _ _=_;rw [aM c1,af (by omega)];simp only [az,e1];rw [xF (by omega),aq];have Q_:(br (decide (0≤(bN nt j).1)) (ab (0≤(bN nt j).1∧(bN nt j).1<(((bD nt.1.length).map (mG nt h)).length:Int)) (ab (0≤(bN nt j).2.1∧(bN nt j).2.1<((((bD nt.1.length).map (mG nt h)).getD (bN nt j).1.toNat []).length:Int)) (ab (((bN nt j).2.2.2.2.length+((((bD nt.1.length).map (mG nt h)).getD (bN nt j).1.toNat []).getD (bN nt j).2.1.toNat []).length)*8≤bn) (some (Sum.inr (α:=List (List Int)×Bool×Unit) ((bN nt j).2.2.2.2++((((bD nt.1.length).map (mG nt h)).getD (bN nt j).1.toNat []).getD (bN nt j).2.1.toNat []),())))))) (some (.inr ((bN nt j).2.2.2.2,()))))=some (.inr (jS nt (aW h) j,())):=by
  unfold jS;by_cases hf:0≤(bN nt j).1
  ·have hx:=(o.ends j hj).out;rw [← e2] at hx;have hO:qn nt (bN nt j):=by
    rcases hx with h | h
    ·omega
    exact h
   obtain ⟨o1,o2,o3,o4⟩:=hO;have hk:(bN nt j).1.toNat<nt.1.length:=by omega
   have o4':(bN nt j).2.1<(prog nt (bN nt j).1.toNat).2.1:=o4;have g1:((bD nt.1.length).map (mG nt h)).getD (bN nt j).1.toNat []=mG nt h (bN nt j).1.toNat:=HK hk;have g2:(mG nt h (bN nt j).1.toNat).getD (bN nt j).2.1.toNat []=(runK nt (aW h) (bN nt j).1.toNat).1.2.1 (bN nt j).2.1.toNat:=K_ (by omega);have g3:=(K5 H o hk (b:=(bN nt j).2.1.toNat)).1;have g4:(mG nt h (bN nt j).1.toNat).length=(prog nt (bN nt j).1.toNat).2.1.toNat:=KZ _ _;rw [aM hf,if_pos hf,g1,g2,af (by grind),af (by omega),dD (by omega)]; rfl
  rw [au hf,if_neg hf,KY]; rfl
 rw [Q_,bg];have hlen:(jS nt (aW h) j).length≤1048576:=by
  unfold jS;split
  ·rename_i hf;have hx:=(o.ends j hj).out;rw [← e2] at hx;have hO:qn nt (bN nt j):=by
    rcases hx with h | h
    ·omega
    exact h
   have g3:=(K5 H o (k:=(bN nt j).1.toNat) (by have:=hO.2.1; omega) (b:=(bN nt j).2.1.toNat)).1;rw [List.length_append]; unfold j7; omega
  rw [KY]; unfold j7; omega
 simp only;rw [vo hlen hn,aq];cases hs:bX (jS nt (aW h) j)
 ·rfl
 simp only [bo,aw,if_true];rw [dD (by grind),ba (by omega),HJ,pG]; rfl
theorem agG (o:cQ nt) (H:vR nt h) (hn:1048576<n):AH.f n nt h=some (match oz nt h with | some g=>(g,true,()) | none=>([],false,())):=by
 have QJ:=o.dZ;have pO:=o.dp;unfold AH.f;rw [Yr (n:=n) o H hn];refine (K4 nt.1.length (mG nt h) (fun k=>decide ((runK nt (aW h) k).2.1≠1)&&decide ((runK nt (aW h) k).2.1≠3)) (fun i s=>(i,s,())) (bad:=some ([],false,())) (fun ih k hk=>?_) (fun ih=>au (bH _)) (by omega)).trans ?_
 ·have hI:∀ b,bX (aW ((bD (prog nt k).1.toNat).map (kB nt (aW h) k)) b)=true:=fun b=>by rw [QY hk o]; exact QZ H k b
  have c1:(k:Int)<(nt.1.length:Int):=by omega
  show br (decide ((k:Int)<(nt.1.length:Int))) _ _=_;rw [aM c1,af (by omega)];simp only [az];rw [agE o hk H.1 hn,aq];have ha:=agC (n:=n) (p:=prog nt k) (CA o hk) (I:=(bD (prog nt k).1.toNat).map (kB nt (aW h) k)) (by simp) hI hn;rw [Ys o hk] at ha;rw [show nt.1.getD k bf=prog nt k from rfl];simp only [ha,aq];by_cases h1:(runK nt (aW h) k).2.1=1
  ·rw [aM h1]; simp [bg,h1,ax]
  rw [au h1,bg];by_cases h3:(runK nt (aW h) k).2.1=3
  ·simp only [h3,decide_true,ax]; rfl
  simp only [h1,h3,decide_false,aw,ne_eq,not_false_eq_true,decide_true,Bool.and_self,if_true];rw [dD (by grind),ba (by omega),HJ,pG]; rfl
 by_cases c8:(bD nt.1.length).all (fun k=>decide ((runK nt (aW h) k).2.1≠1)&&decide ((runK nt (aW h) k).2.1≠3))=true;rotate_left
 ·grind
 rw [if_pos c8,if_pos c8];refine (K4 nt.2.length (jS nt (aW h)) (fun j=>bX (jS nt (aW h) j)) (fun i s=>(i,s,())) (bad:=some ([],false,())) (R:=some ((bD nt.2.length).map (jS nt (aW h)),true,())) (fun ih j hj=>?_) (fun ih=>au (bH _)) (by omega)).trans ?_;rotate_left
 ·grind
 have e1:nt.2.getD j ay=bN nt j:=rfl;have ht:=(lS (o.j7 j hj)).1;have e2:bN nt j=nt.2[j]:=aU hj _;have ht2:(bN nt j).2.2.2.2.length≤400:=by rw [e2]; exact ht
 have c1:(j:Int)<(nt.2.length:Int):=by omega
 show br (decide ((j:Int)<(nt.2.length:Int))) _ _=_;rw [aM c1,af (by omega)];simp only [az,e1];rw [xK (by omega),aq];have Q_:(br (decide (0≤(bN nt j).1)) (ab (0≤(bN nt j).1∧(bN nt j).1<(((bD nt.1.length).map (mG nt h)).length:Int)) (ab (0≤(bN nt j).2.1∧(bN nt j).2.1<((((bD nt.1.length).map (mG nt h)).getD (bN nt j).1.toNat []).length:Int)) (ab (((bN nt j).2.2.2.2.length+((((bD nt.1.length).map (mG nt h)).getD (bN nt j).1.toNat []).getD (bN nt j).2.1.toNat []).length)*8≤bn) (some (Sum.inr (α:=List (List Int)×Bool×Unit) ((bN nt j).2.2.2.2++((((bD nt.1.length).map (mG nt h)).getD (bN nt j).1.toNat []).getD (bN nt j).2.1.toNat []),())))))) (some (.inr ((bN nt j).2.2.2.2,()))))=some (.inr (jS nt (aW h) j,())):=by
  unfold jS;by_cases hf:0≤(bN nt j).1
  ·have hx:=(o.ends j hj).out;rw [← e2] at hx;have hO:qn nt (bN nt j):=by
    rcases hx with h | h
    ·omega
    exact h
   obtain ⟨o1,o2,o3,o4⟩:=hO;have hk:(bN nt j).1.toNat<nt.1.length:=by omega
   have o4':(bN nt j).2.1<(prog nt (bN nt j).1.toNat).2.1:=o4;have g1:((bD nt.1.length).map (mG nt h)).getD (bN nt j).1.toNat []=mG nt h (bN nt j).1.toNat:=HK hk;have g2:(mG nt h (bN nt j).1.toNat).getD (bN nt j).2.1.toNat []=(runK nt (aW h) (bN nt j).1.toNat).1.2.1 (bN nt j).2.1.toNat:=K_ (by omega);have g3:=(K5 H o hk (b:=(bN nt j).2.1.toNat)).1;have g4:(mG nt h (bN nt j).1.toNat).length=(prog nt (bN nt j).1.toNat).2.1.toNat:=KZ _ _;rw [aM hf,if_pos hf,g1,g2,af (by grind),af (by omega),dD (by omega)]; rfl
  rw [au hf,if_neg hf,KY]; rfl
 rw [Q_,bg];have hlen:(jS nt (aW h) j).length≤1048576:=by
  unfold jS;split
  ·rename_i hf;have hx:=(o.ends j hj).out;rw [← e2] at hx;have hO:qn nt (bN nt j):=by
    rcases hx with h | h
    ·omega
    exact h
   have g3:=(K5 H o (k:=(bN nt j).1.toNat) (by have:=hO.2.1; omega) (b:=(bN nt j).2.1.toNat)).1;rw [List.length_append]; unfold j7; omega
  rw [KY]; unfold j7; omega
 simp only;rw [xg hlen hn,aq];cases hs:bX (jS nt (aW h) j)
 ·rfl
 simp only [bo,aw,if_true];rw [dD (by grind),ba (by omega),HJ,pG]; rfl
theorem Yt (H:vR nt h) (o:cQ nt):h.length≤30∧∀ j,(aW h j).length≤400:=⟨by have:=o.dp; have:=H.1; omega,fun j=>(lS (H.2 j)).1⟩
theorem Q0 {g:List (List Int)} (e:oz nt h=some g):vR nt g:=by
 obtain ⟨ok,rfl⟩:=QR e;refine ⟨by simp,fun j=>?_⟩;by_cases hj:j<nt.2.length
 ·rw [Yd hj]; exact Yc ok hj
 rw [Ye (by omega)]; decide
theorem Yu {a b:List (List Int)} (hl:a.length=b.length) (h:∀ i,i<a.length→aW a i=aW b i):a=b:=by
 refine List.ext_getElem hl (fun i h1 h2=>?_);have:=h i h1;unfold aW at this
 grind
theorem agH {a b:List (List Int)} (hl:a.length≤1048576) (hs:∀ i,(aW a i).length≤1048576) (hn:1048576<n):AB.f n a b=some (decide (a=b),()):=by
 have:AA.f n a b ()=some (decide (a=b),()):=by
  unfold AA.f;by_cases h:a.length=b.length
  ·have h':(a.length:Int)=(b.length:Int):=by omega
   rw [show (!decide ((a.length:Int)=(b.length:Int)))=false by grind,aw];refine w8 (o5 (bad:=some (false,())) a.length (fun i=>decide (aW a i=aW b i)) (fun ih i hi=>?_) (fun ih=>au (bH _)) (by omega) (fun bK=>?_) (fun i hi hb=>?_))
   ·have h1:(i:Int)<(a.length:Int):=by omega
    simp only [h1,decide_true,ax,az];have e:=OK (n:=n) (a:=a.getD i []) (b:=b.getD i []) (hs i) hn;rw [af (by simp),af (by omega),ba (by omega),e,aq];exact zq
   ·simp only [ao,true_iff];exact Yu h (fun i hi=>by grind)
   simp only [ao]
   grind
  rw [show (!decide ((a.length:Int)=(b.length:Int)))=true by grind,ax,decide_eq_false (fun e=>h (by rw [e]))]
 unfold AB.f
 grind
theorem agI {a b:List (List Int)} (hl:a.length≤1048576) (hs:∀ i,(aW a i).length≤1048576) (hn:1048576<n):AI.f n a b=some (decide (a=b),()):=by
 unfold AI.f;by_cases h:a.length=b.length
 ·have h':(a.length:Int)=(b.length:Int):=by omega
  rw [show (!decide ((a.length:Int)=(b.length:Int)))=false by grind,aw];refine w8 (o5 (bad:=some (false,())) a.length (fun i=>decide (aW a i=aW b i)) (fun ih i hi=>?_) (fun ih=>au (bH _)) (by omega) (fun bK=>?_) (fun i hi hb=>?_))
  ·have h1:(i:Int)<(a.length:Int):=by omega
   simp only [h1,decide_true,ax,az];have e:=OL (n:=n) (a:=aW a i) (b:=aW b i) (hs i) hn;rw [af (by simp),af (by omega),af (by omega),ba (by omega)];show br (!decide (((aW a i).length:Int)=((aW b i).length:Int))) (some (false,())) ((qo.f n (aW a i) (aW b i)).bind _)=_;rw [e,aq];by_cases hL:(aW a i).length=(aW b i).length
   ·rw [show (!decide (((aW a i).length:Int)=((aW b i).length:Int)))=false by grind,aw];have:decide (aW a i <+: aW b i)=decide (aW a i=aW b i):=by
     by_cases hp:aW a i <+: aW b i
     ·rw [decide_eq_true hp,decide_eq_true (hp.eq_of_length hL)]
     grind
    rw [this]; exact zq
   rw [show (!decide (((aW a i).length:Int)=((aW b i).length:Int)))=true by grind,ax,decide_eq_false (fun e=>hL (by rw [e]))];rfl
  ·simp only [ao,true_iff];exact Yu h (fun i hi=>by grind)
  simp only [ao]
  grind
 rw [show (!decide ((a.length:Int)=(b.length:Int)))=true by grind,ax,decide_eq_false (fun e=>h (by rw [e]))]
theorem Yv (o:cQ nt):vR nt (uE nt):=by
 refine ⟨by simp [uE],fun j=>?_⟩;rw [agx];unfold j7 bN;by_cases hj:j<nt.2.length
 ·rw [aU hj]; exact o.j7 j hj
 rw [List.getD_eq_getElem?_getD,List.getElem?_eq_none (by omega)]; decide
def EI (nt:ak) (m:Nat) (r:Int) (h:List (List Int)):List (List Int)×(Int×Bool×Unit):=match Az nt m r h with | some (g,r')=>(g,r',true,()) | none=>([],0,false,())
theorem Q1 (o:cQ nt) {F:(Int×(List (List Int)×Unit)→Option (List (List Int)×Int×Bool×Unit))→Int×(List (List Int)×Unit)→Option (List (List Int)×Int×Bool×Unit)}
  (hF:∀ ih (r:Int) h,vR nt h→F ih (r,h,())=if r≤300 then (match oz nt h with | none=>some ([],0,false,()) | some g=>if g=h then some (h,r,true,()) else ih (ag (r+1),g,())) else some ([],0,false,())) :
  ∀ (m n:Nat) (r:Int) h,vR nt h→0≤r→r+m=301→m<n→iter n F (r,h,())=some (EI nt m r h)
 | 0,n+1,r,h,H,h0,hr,hn=>by refine (hF _ r h H).trans ?_;rw [if_neg (by omega)]; rfl
 | m+1,n+1,r,h,H,h0,hr,hn=>by
  refine (hF _ r h H).trans ?_;rw [if_pos (by omega)];unfold EI Az;cases e:oz nt h with
  | none=>rfl
  | some g=>
   simp only;by_cases hg:g=h
   ·grind
   rw [if_neg hg,if_neg hg,bM (by omega) (by omega)];exact Q1 o hF m n (r+1) g (Q0 e) (by omega) (by omega) (by omega)
theorem agJ (h:cL nt) (o:cQ nt) (hn:1048576<n):yg.f n nt=some (EI nt 300 1 (uE nt)):=by
 unfold yg.f;rw [tW h hn,show cr nt=true by simp [cr,o],aq,bo,aw];refine vz nt.2 (fun l=>l.2.2.2.2) (fun i s=>(i,s,())) (fun ih i hi s hs=>?_) (fun ih=>?_) (by have:=h.dp; omega)
 ·have c1:(i:Int)<(nt.2.length:Int):=by omega
  have e1:nt.2.getD i ay=nt.2[i]:=aU hi _;show br (decide ((i:Int)<(nt.2.length:Int))) _ _=_;have hl:=o.dp;rw [aM c1,af ⟨Int.natCast_nonneg i,c1⟩];simp only [az,e1];rw [xF (h.link _ (List.getElem_mem hi)).tokens,Option.bind_some,dD (by grind),ba (by omega)]
 show br (decide ((nt.2.length:Int)<(nt.2.length:Int))) _ _=_;rw [au (bH _)];refine Q1 o (fun ih r g H=>?_) 300 n 1 (uE nt) (Yv o) (by omega) (by omega) (by omega);show br (decide (r≤300)) _ _=_;by_cases hr:r≤300
 ·rw [aM hr,if_pos hr,agF o H hn,aq];cases e:oz nt g with
  | none=>rfl
  | some g'=>
   have H':=Yt (Q0 e) o;simp only [bo,aw];rw [agH (by omega) (fun i=>by grind) hn,aq];exact iN
 rw [au hr,if_neg hr]
theorem agK (h:cL nt) (o:cQ nt) (hn:1048576<n):AJ.f n nt=some (EI nt 300 1 (uE nt)):=by
 unfold AJ.f;rw [sb h hn,show cr nt=true by simp [cr,o],aq,bo,aw,Wn h hn,aq];refine Q1 o (fun ih r g H=>?_) 300 n 1 (uE nt) (Yv o) (by omega) (by omega) (by omega);show br (decide (r≤300)) _ _=_;by_cases hr:r≤300
 ·rw [aM hr,if_pos hr,agG o H hn,aq];cases e:oz nt g with
  | none=>rfl
  | some g'=>
   have H':=Yt (Q0 e) o;simp only [bo,aw];rw [agI (by omega) (fun i=>by grind) hn,aq];exact iN
 rw [au hr,if_neg hr]
end Go.AmT
namespace Go.AmT
open Go.Proofs Go.Proofs.Tryz
def kf.f (n:Nat) (a0:List Instr):Option (List Instr×Unit):=ab ((([]:List Instr).length+a0.length)*32≤bn) (some (([]:List Instr)++a0,()))
def kf.ae (n:Nat):ar:=⟨[.val (.sl cV)],[.val (.sl cV)],fun x=>kf.f n x.1⟩
def kf.cfg (n:Nat):bd:=⟨m_,[],[],[]⟩
theorem kf.av:ck Tryz.prog 205:=cD func205 (by kernel_rfl) (by kernel_rfl)
theorem kf.OS:∀ (n:Nat),zi (kf.cfg n) n f205 (cT f205 []) [.val (.sl cV)] [.val (.sl cV)] .nil [] []=some (([]:List Instr),()):=by intros;kernel_rfl
theorem kf.OT:∀ (n:Nat) (a0:List Instr),zi (kf.cfg n) n f205 (cT f205 []) [.val (.sl cV)] [.val (.sl cV)] (.dn cV (some a0)) [] []=kf.f n a0:=by intros;kernel_rfl
theorem kf.sound (n:Nat):Sound Tryz.prog 205 (kf.ae n):=
 TN (t:=cV) (ps:=[]) (rs:=[.val (.sl cV)]) (F:=fun x=>kf.f n x.1) (vl mixed (tP (.of (c:=kf.cfg n) trivial) (.of (c:=kf.cfg n) trivial)) (cB kL)) (cB kL) func205
  (fun x y hy hx=>by
   have hy:kf.f n x.1=some y:=hy;rw [hx] at hy;unfold kf.f ab at hy;split at hy
   ·exact (kf.OS n).trans hy
   simp at hy)
  (fun x y hy=>(kf.OT n x.1).trans hy)
def AK.f (n:Nat) (a0:Program):Option (Program×Unit):=(kf.f n a0.2.2).bind fun r1=>some ((a0.1,a0.2.1,r1.1),())
def AK.ae (n:Nat):ar:=⟨[.val bp],[.val bp],fun x=>AK.f n x.1⟩
theorem AK.ok (n:Nat):aH 148 (AK.ae n):=aJ n [] [] (ai ⟨kf.sound n,kf.av⟩ aC) aD func148
def oA.f (n:Nat) (a0:ak):Option (ak×Unit):=iter n (fun Ev fw=>br (decide (fw.1<(a0.1.length:Int))) (ab (0≤fw.1∧fw.1<(a0.1.length:Int)) (let Q2:=(a0.1.getD fw.1.toNat bf); (AK.f n Q2).bind fun eg=>ab ((fw.2.1.length+([eg.1]:List Program).length)*40≤bn) (Ev (ag (fw.1+1),fw.2.1++[eg.1],())))) (iter n (fun Q3 kW=>br (decide (kW.1<(a0.2.length:Int))) (ab (0≤kW.1∧kW.1<(a0.2.length:Int)) (let rH:=(a0.2.getD kW.1.toNat ay); (cX.f n rH.2.2.2.2).bind fun rF=>ab ((kW.2.2.1.length+([(rH.1,rH.2.1,rH.2.2.1,rH.2.2.2.1,rF.1)]:List aK).length)*56≤bn) (Q3 (ag (kW.1+1),kW.2.1,kW.2.2.1++[(rH.1,rH.2.1,rH.2.2.1,rH.2.2.2.1,rF.1)],())))) (some ((kW.2.1,kW.2.2.1),()))) (0,fw.2.1,[],()))) (0,[],())
def oA.ae (n:Nat):ar:=⟨[.val bZ],[.val bZ],fun x=>oA.f n x.1⟩
theorem oA.ok (n:Nat):aH 85 (oA.ae n):=aJ n [(4,⟨[(3,.bt 1000 0),(12,.int .i64)],[(1000,.cells [] [.own 1001 bp,.mc (.nil)]),(1001,.row true bp)],[1,2,10,11],[]⟩),(13,⟨[(3,.bt 1000 0),(27,.int .i64)],[(1000,.cells [] [.own 1001 bp,.own 1002 bJ]),(1001,.row true bp),(1002,.row true bJ)],[2,25,26],[]⟩)] [] (ai (AK.ok n) (ai ⟨cX.sound n,cX.av⟩ aC)) aD func85
def sM.f (n:Nat) (a0:ak):Option (ak×Bool×Unit):=(dS.f n a0).bind fun r1=>br (!r1.1) (some (([],[]),false,())) ((oA.f n a0).bind fun r2=>some (r2.1,true,()))
def sM.ae (n:Nat):ar:=⟨[.val bZ],[.val bZ,.val .bool],fun x=>sM.f n x.1⟩
theorem sM.ok (n:Nat):aH 162 (sM.ae n):=aJ n [] [] (ai ⟨dS.sound n,dS.av⟩ (ai (oA.ok n) aC)) aD func162
def AL.f (n:Nat) (a0:Program):Option (Program×Unit):=ab ((([]:List Instr).length+a0.2.2.length)*32≤bn) (some ((a0.1,a0.2.1,([]:List Instr)++a0.2.2),()))
def AL.ae (n:Nat):ar:=⟨[.val bp],[.val bp],fun x=>AL.f n x.1⟩
theorem AL.ok (n:Nat):aH 116 (AL.ae n):=aJ n [] [] aC aD func116
def AM.f (n:Nat) (a0:aK):Option (aK×Unit):=(gQ.f n a0.2.2.2.2).bind fun r1=>some ((a0.1,a0.2.1,a0.2.2.1,a0.2.2.2.1,r1.1),())
def AM.ae (n:Nat):ar:=⟨[.val bJ],[.val bJ],fun x=>AM.f n x.1⟩
theorem AM.ok (n:Nat):aH 117 (AM.ae n):=aJ n [] [] (ai (gQ.ok n) aC) aD func117
end Go.AmT
