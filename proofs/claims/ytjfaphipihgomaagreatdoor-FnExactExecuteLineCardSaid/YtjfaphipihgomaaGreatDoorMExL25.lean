/- What the program does with any line of a desk, in plain Lean. -/
import Derived.Test.YtjfaphipihgomaaGreatDoorMExL24
open Go Go.Am
noncomputable section
set_option linter.unusedVariables false
set_option linter.unusedSimpArgs false
open Bool renaming and_eq_false_iff → GM, not_false → gT, not_true → bo
open Go.Lib renaming itoa → aj, join → jO, join_cons → Ro
open Int renaming lt_irrefl → bH, toNat_natCast → az
open List renaming drop_append_of_le_length → YV, drop_eq_nil_of_le → Rp, drop_succ_cons → Zv, getElem_mem → bV, length → mK, length_cons → bh, length_drop → pH, length_map → mD, length_nil → bP, length_pos_iff → kX, length_singleton → nE, length_take → nH, map_append → pG, mem_of_mem_drop → RS, take_append_drop → YW, take_length → mN, take_succ_eq_append_getElem → jt
open Option renaming bind_some → aA
namespace Go.AmT
variable {n:Nat} {d:bR} {w s l c:BB} {nt:ak} {k:Int} {Q:List (BB)} {Z:List Int}
abbrev ahk:BB:=[110,111,110,101]
abbrev YX:BB:=[115,116,97,114,116]
abbrev Rq:BB:=[119,97,105,116,115]
def rK (B:List Int):List (BB):=if B=[] then [ahk] else B.map aj
def EK (d:bR) (w:BB):bR×BB:=
 if w=YX then ((d.1,start d.1,d.2.2),ta) else if w=Rq then (d,jO (rK (wg d.1 d.2.1)) [32]) else (d,bI)
theorem YY {B:Nat} : ∀ {L:List (BB)},(∀ x∈L,x.length≤B)→Lib.lens L≤B*L.length
 | [],_=>by simp [Lib.lens]
 | x::L,h=>by
  have h1:=h x (by simp);have h2:=YY (L:=L) (fun y hy=>h y (by grind));simp only [Lib.lens,List.map_cons,List.sum_cons,bh] at h2 ⊢
  grind
theorem YZ {B:List Int} (h:B.length≤12∧∀ x∈B,-1≤x∧x≤1000):(rK B).length≤12∧(jO (rK B) [32]).length≤1000:=by
 have h1:(rK B).length≤12∧∀ x∈rK B,x.length≤8:=by
  unfold rK;split
  ·simp_all
  refine ⟨by grind,fun x hx=>?_⟩;obtain ⟨y,hy,rfl⟩:=List.mem_map.1 hx;have:=h.2 y hy;exact fv (by omega) (by omega)
 refine ⟨h1.1,?_⟩;generalize rK B=L at h1;cases L with
 | nil=>simp [jO]
 | cons x L=>
  rw [Lib.join_length];have:=YY (B:=8) (L:=x::L) h1.2
  grind
theorem ahl {w:BB} (h:fP d) (hn:1048576<n):W (sQ.f n d.2.1.2.2.2 w d.1.1 d.1.2 d.2.1.1 d.2.1.2.1 d.2.1.2.2.1 d.2.2) (pD d (EK d w)):=by
 have HO:=h.st.cb;unfold sQ.f;simp only [HM];rw [cZ];refine ⟨fun e=>?_,fun n1=>?_⟩
 ·subst e;rw [YQ h.small HO hn,aq];exact ao.2 (.j6 rfl ⟨VX HO,h.caps,h.small⟩)
 rw [cZ];refine ⟨fun e=>?_,fun n2=>ao.2 (.bad ?_)⟩;rotate_left
 ·unfold EK
  grind
 subst e;have eR:EK d Rq=(d,jO (rK (wg d.1 d.2.1)) [32]):=rfl;rw [eR,ag_ h.small h.st hn,aq];dsimp only;have hB:=YH h.st;generalize wg d.1 d.2.1=B at hB;have hJ:=YZ hB;refine gu (fun (i:Nat) (o:List (BB))=>((i:Int),o,())) B.length (fun i o=>o=(B.take i).map aj) (s0:=[]) rfl (by simp) (by omega) (fun ih o hI=>?_) (fun ih i o hi hI hS=>?_)
 ·rw [mN] at hI;subst hI;simp only [au (bH _)];rw [fB];refine bA (P:=fun s'=>s'=Sum.inr (rK B,())) ?_ (fun s' e=>?_)
  ·unfold rK;rw [cZ];refine ⟨fun h0=>ao.2 ?_,fun h0=>ao.2 ?_⟩
   ·simp_all
   grind
  subst e;dsimp only;rw [Qf (by omega) (by omega),aq];exact ao.2 (.j6 rfl h)
 have tE:o.length=i:=by rw [hI,mD,nH]; omega
 simp only [aM (show (i:Int)<(B.length:Int) by omega),az];have hm:=hB.2 (B.getD i 0) (by grind);rw [af (by omega),ui (by omega) (by omega),aq];dsimp only;rw [dD (by grind),ba (by omega)];exact hS _ (by rw [hI,jt hi,pG,aU hi]; rfl)
def yp (n:Nat) (d:bR) (t:BB):bR×BB:=
 match CO.f n t with | some r=>if r.2.1=true then (CI r.1,ta) else (d,bI) | none=>(d,bI)
def uI (n:Nat) (d:bR) (k:Int) (c:BB):bR×BB:=
 match pP.f n c with | some r=>if r.2.1=true then (if (oH d.1 k r.1).2.1=true then (CI (oH d.1 k r.1).1,ta) else (d,bI)) else (d,bI) | none=>(d,bI)
def yq (n:Nat) (d:bR) (a b c:BB):bR×BB:=
 if a=nz then (match eC b with | some k=>uI n d k c | none=>(d,bI))
 else if a=uH then (match eC b,eC c with | some x,some y=>nA n d x y | _,_=>(d,bI)) else (d,bI)
def sX (n:Nat) (d:bR):List (BB)→bR×BB
 | [a]=>EK d a
 | [a,b]=>match eC b with | some k=>sW d a k | none=>(d,bI)
 | [a,b,c]=>yq n d a b c
 | _=>(d,bI)
def yt (n:Nat) (d:bR) (l:BB):bR×BB:=
 if l.take 5=[108,111,97,100,32] then yp n d (kC 124 10 (l.drop 5)) else sX n d (bC 32 l)
theorem ahm (hn:1048576<n):qH.f n []=some ([],true,()):=by
 refine eM.1 (bA (HL (by simp) (by simp) hn) (fun r ⟨h1,h2⟩=>?_));obtain ⟨l,c,⟨⟩⟩:=r;cases c
 ·obtain ⟨p,hp,-⟩:=h2 rfl;cases hp
 have:=h1 rfl;cases l with
 | nil=>rfl
 | cons x l=>cases this
theorem Y_ {s:List UInt8} {r:ak×(Bool×Unit)} (h:ED s r) (hb:r.2.1=true):cQ r.1:=by
 rcases h.uq with ⟨x,o,e⟩ | e
 ·rw [h.all x o e]; exact o
 ·rw [e] at hb; cases hb
theorem ahn {ts:List Int} (h:cL nt) (o:cQ nt) (ht:ts.length≤1000) (hn:1048576<n):CH.f n nt k ts=some (oH nt k ts):=ag3 h o ht hn
theorem aho {l:BB} (h:fP d) (hl:l.length≤1048576) (hn:1048577<n) (h5:l.take 5=[108,111,97,100,32]):W (pC.f n d.2.1.2.2.2 l d.1.1 d.1.2 d.2.1.1 d.2.1.2.1 d.2.1.2.2.1 d.2.2) (pD d (yp n d (kC 124 10 (l.drop 5)))):=by
 have ep:1048576<n:=by omega
 unfold pC.f;simp only [HM];have el:l=[108,111,97,100,32]++l.drop 5:=by rw [← h5,YW]
 have hd:(l.drop 5).length≤1048576:=by rw [pH]; omega
 generalize l.drop 5=t at el hd ⊢;rw [el,ag9,aq];dsimp only;rw [ax];have hc:=count_le 124 t;have er:vX.f n t ([124]:BB) ([10]:BB)=some (kC 124 10 t,()):=by unfold vX.f GB;rw [if_pos ⟨by omega,by decide,by grind⟩,ag7 (by decide)];rfl
 rw [er,aq];dsimp only;obtain ⟨r,e1,e2,T⟩:=X9 (n:=n) (s:=kC 124 10 t) (by rw [Q8]; omega) hn;unfold yp;have Rr:CG.f n (kC 124 10 t)=some r:=e2;rw [e2,Rr,aA];exact Rj (Y_ T) ep (fun r=>rfl)
theorem Y0 {P:List (BB)} {R:bR×BB} {f:List Int×(Bool×Unit)→Option FT} (c8:∀ p∈P,p.length+P.length≤1048577) (hf:∀ l',∃ r,f (l',false,())=some r∧r.2.2.1=false) (hn:1048576<n) (he:∃ p∈P.drop 1,eC p=none) (eR:R=(d,bI)):W ((qH.f n (P.drop 1)).bind f) (pD d R):=by
 have h1:∀ p∈P.drop 1,p.length≤1048576:=fun p hp=>by grind
 obtain ⟨p,hp,hq⟩:=he;have:=c8 p (RS hp);obtain ⟨l',e3⟩:=YP (n:=n) (L:=P.drop 1) (by grind) h1 hn ⟨p,hp,hq⟩;obtain ⟨r,e4,e5⟩:=hf l';rw [e3,aq,e4];exact ao.2 ⟨fun h=>(by grind),fun _=>eR⟩
theorem ahp {l:BB} (h:fP d) (hl:l.length≤1048576) (hn:1048577<n) (h5:l.take 5≠[108,111,97,100,32]):W (pC.f n d.2.1.2.2.2 l d.1.1 d.1.2 d.2.1.1 d.2.1.2.1 d.2.1.2.2.1 d.2.2) (pD d (sX n d (bC 32 l))):=by
 have ep:1048576<n:=by omega
 have hp:=oq 32 l;have hlen:=vL 32 l;have aG:=nD 32 l;unfold pC.f;simp only [HM];rw [aha (p:=[108,111,97,100,32]) h5,aq];simp only [aw];rw [sI (by omega),aq];dsimp only;generalize bC 32 l=P at hp hlen aG;have c8:∀ p∈P,p.length+P.length≤1048577:=fun p ma=>by have:=hp p ma; omega
 have fG:0<P.length:=kX.2 aG;rw [fB,af (by omega)];refine bA (P:=fun s=>∃ b:Bool,s=Sum.inr (b,())∧(b=true↔P.getD 0 []=nz∧P.length=3)) ?_ (fun s ⟨b,e,hb⟩=>?_)
 ·rw [cZ];exact ⟨fun e=>ao.2 ⟨_,rfl,⟨fun h=>⟨e,by have:=of_decide_eq_true h; omega⟩,fun h=>decide_eq_true (by omega)⟩⟩,fun e=>ao.2 ⟨_,rfl,⟨fun h=>(by cases h),fun h=>absurd h.1 e⟩⟩⟩
 subst e;dsimp only;rw [cC];refine ⟨fun dh=>?_,fun dh=>?_⟩
 ·obtain ⟨hw,h3⟩:=hb.1 dh;obtain ⟨a,b,c,rfl⟩:∃ a b c,P=[a,b,c]:=by
   match P,h3 with
   | [a,b,c],_=>exact ⟨a,b,c,rfl⟩
  have hw:a=nz:=hw;have gG:=c8 b (by simp);have ve:=c8 c (by simp);simp only [bh,bP] at gG ve;have e1:(([a,b,c]:List (BB)).take 2).drop 1=[b]:=rfl;have e2:([a,b,c]:List (BB)).getD 2 []=c:=rfl;have eR:sX n d [a,b,c]=(match eC b with | some k=>uI n d k c | none=>(d,bI)):=by show yq n d a b c=_;unfold yq;rw [if_pos hw]
  rw [af (by simp),e1,e2,eR];obtain ⟨r2,p2,T2⟩:=Xx (n:=n) (s:=c) (by omega) hn;have Y1:CC.f n c=some r2:=p2;cases hk:eC b with
  | none=>
   obtain ⟨l',e3⟩:=YP (n:=n) (L:=[b]) (by simp) (by simp; omega) ep ⟨b,by simp,hk⟩;rw [e3,aq];dsimp only;rw [af (by simp),Y1,aA];simp only [gT,ax,bg];exact ao.2 (.bad rfl)
  | some k=>
   rw [YO (by omega) ep hk,aq];dsimp only;rw [af (by simp),Y1,aA];simp only [bo,aw,bg];unfold uI;rw [p2];dsimp only;rw [vm];refine ⟨fun h0=>ao.2 (.bad (by rw [if_neg (by rw [h0]; simp)])),fun h0=>?_⟩;rw [if_pos h0,af (by simp)];have e4:([k]:List Int).getD (0:Int).toNat 0=k:=rfl;have e5:([k]:List Int).getD 0 0=k:=rfl
   try simp only [e4,e5]
   rw [ahn h.small h.st.cb (by have:=(lS T2.ok).1; omega) ep,aA];exact Rj YI ep (fun r=>rfl)
 have mW:¬ (P.getD 0 []=nz∧P.length=3):=fun e=>by rw [hb.2 e] at dh; cases dh
 rw [af (by omega)];have e1:(P.take ((P.length:Int)).toNat).drop 1=P.drop 1:=by rw [az,mN]
 rw [e1]
 match P,mW,c8,fG with
 | [a],mW,c8,fG=>
  have e2:([a]:List (BB)).drop 1=[]:=rfl;rw [e2,ahm ep,aq];simp only [bo,aw];rw [aM (by rfl),af (by simp),dt];exact bA (ahl h ep) (fun r' hg=>ao.2 hg)
 | [a,b],mW,c8,fG=>
  have gG:=c8 b (by simp);simp only [bh,bP] at gG;cases hk:eC b with
  | none=>exact Y0 c8 (fun l'=>⟨_,rfl,rfl⟩) ep ⟨b,by simp,hk⟩ (by show (match eC b with | some k=>sW d a k | none=>(d,bI))=_; rw [hk])
  | some k=>
   have eR:sX n d [a,b]=sW d a k:=by show (match eC b with | some k=>sW d a k | none=>(d,bI))=_; rw [hk]
   have cO:=YM hk;have e2:([a,b]:List (BB)).drop 1=[b]:=rfl;rw [eR,e2,YO (by omega) ep hk,aq];simp only [bo,aw];rw [au (by simp),aM (by rfl),af (by simp),af (by simp),dt];exact bA (ahi (k:=k) h ⟨by omega,by omega⟩ ep) (fun r' hg=>ao.2 hg)
 | [a,b,c],mW,c8,fG=>
  have gG:=c8 b (by simp);have ve:=c8 c (by simp);simp only [bh,bP] at gG ve;have ha:a≠nz:=fun e=>mW ⟨e,rfl⟩;have eT:sX n d [a,b,c]=if a=uH then (match eC b,eC c with | some x,some y=>nA n d x y | _,_=>(d,bI)) else (d,bI):=by show yq n d a b c=_;unfold yq;rw [if_neg ha]
  by_cases hx:(∃ x y,eC b=some x∧eC c=some y)
  ·obtain ⟨x,y,h1,h2⟩:=hx;have e2:([a,b,c]:List (BB)).drop 1=[b,c]:=rfl;rw [eT,h1,h2,e2,ahd (by omega) (by omega) ep h1 h2,aq];simp only [bo,aw];rw [au (by simp),au (by simp),fB];refine bA (P:=fun s=>s=Sum.inr (decide (a=uH),())) ?_ (fun s e=>?_)
   ·rw [aM (by rfl),af (by simp)];exact ao.2 rfl
   subst e;dsimp only;rw [cZ];refine ⟨fun ha=>?_,fun ha=>ao.2 (.bad (if_neg ha))⟩;rw [if_pos ha,af (by simp),af (by simp),dt];exact bA (ahj (k:=x) (c:=y) h ep) (fun r' hg=>ao.2 hg)
  have hq:∃ p∈([a,b,c]:List (BB)).drop 1,eC p=none:=by
   cases h1:eC b with
   | none=>exact ⟨b,by simp,h1⟩
   | some x=>
    cases h2:eC c with
    | none=>exact ⟨c,by simp,h2⟩
    | some y=>exact absurd ⟨x,y,h1,h2⟩ hx
  refine Y0 c8 (fun l'=>⟨_,rfl,rfl⟩) ep hq ?_;rw [eT];split
  ·cases h1:eC b with
   | none=>rfl
   | some x=>
    cases h2:eC c with
    | none=>rfl
    | some y=>exact absurd ⟨x,y,h1,h2⟩ hx
  rfl
 | a::b::c::e::P,mW,c8,fG=>
  have eR:sX n d (a::b::c::e::P)=(d,bI):=rfl;have aic:=c8 a (by simp);obtain ⟨r,e3,h1,h2⟩:=HL (n:=n) (L:=(a::b::c::e::P).drop 1) (by simp only [Zv,List.drop_zero,bh] at aic ⊢; omega) (fun p ma=>by have:=c8 p (RS ma); omega) ep;rw [e3,aA,vm];refine ⟨fun _=>ao.2 (.bad eR),fun h0=>?_⟩;have pA:=congrArg mK (h1 h0);simp only [Zv,List.drop_zero,mD,bh] at pA;rw [au (by omega),au (by omega),fB];refine bA (P:=fun s=>s=Sum.inr (false,())) ?_ (fun s e=>?_)
  ·rw [au (by omega)];exact ao.2 rfl
  subst e;dsimp only;rw [aw];exact ao.2 (.bad eR)
theorem Y2 (h1:cL d.1) (h2:gP d.2.1) (h3:d.2.2.length≤1048576) (hn:1048576<n):vZ.f n d=some (d,()):=by unfold vZ.f;rw [K6 h1 hn,aq];dsimp only;rw [VV h2 hn,aq];dsimp only;rw [Yx h3,aq]
theorem ahq {l:BB} (h:fP d) (hl:l.length≤1048576) (hn:1048577<n):sU.f n d l=some ((yt n d l).1,(yt n d l).2,())∧fP (yt n d l).1:=by
 have hW:W (pC.f n d.2.1.2.2.2 l d.1.1 d.1.2 d.2.1.1 d.2.1.2.1 d.2.1.2.2.1 d.2.2) (pD d (yt n d l)):=by
  unfold yt;split
  ·rename_i h5; exact aho h hl hn h5
  rename_i h5; exact ahp h hl hn h5
 obtain ⟨r,e,O⟩:=hW;unfold sU.f;rw [ag8 h (by omega),aq];simp only [bo,aw];rw [Y2 h.small h.rJ h.ym (by omega),aq];dsimp only;rw [e,aA];cases hb:r.2.2.1
 ·rw [gT,ax,O.no hb,aq]
  grind
 obtain ⟨e2,o⟩:=O.yes hb;rw [bo,aw,e2]
 grind
abbrev jd (R:bR×BB):bR×(BB×Unit):=(R.1,R.2,())
theorem ahr (h:fP d) (hn:1048576<n):uF.f n d=some (d,()):=by unfold uF.f;rw [K7 h.small hn,aq];dsimp only;rw [Cg h.rJ hn,aq];dsimp only;rw [Q4 h.ym,aq]
theorem ahs (h:fP d) (hn:1048576<n):vY.f n d=some (true,()):=by unfold vY.f;rw [Kb h.small h.rJ h.ym hn,aq,ua h.st,h.caps];rfl
theorem Rs (o:cQ nt) (hn:1048576<n):AV.f n nt=some (CI nt,()):=by have hS:=KX o;unfold AV.f;rw [Wp hS o hn,aq];dsimp only;rw [WL hS hn,aq];rfl
noncomputable def cw (s:BB):Int:=(eC s).getD (-9223372036854775808)
theorem Lh (s:BB):(eC s=none∧cw s = -9223372036854775808)∨(eC s=some (cw s)∧-999999999≤cw s∧cw s≤999999999):=by
 unfold cw;cases h:eC s with
 | none=>grind
 | some x=>exact .inr ⟨rfl,(YM h).2⟩
theorem aht {L:List (BB)} (hL:L.length≤1048577) (hp:∀ p∈L,p.length≤1048576) (hn:1048577<n):AY.f n L=some (L.map cw,()):=by
 refine eM.1 ?_;unfold AY.f;refine gu (fun (i:Nat) (o:List Int)=>((i:Int),o,())) L.length (fun i o=>o=(L.take i).map cw) (s0:=[]) rfl (by simp) (by omega) (fun ih o hI=>?_) (fun ih i o hi hI hS=>?_)
 ·simp only [au (bH _)];exact ao.2 (by grind)
 have hl:o.length≤i:=by rw [hI,mD,nH]; omega
 have hm:L.getD i []∈L:=by rw [aU hi]; exact bV _
 simp only [aM (show (i:Int)<(L.length:Int) by omega),az];rw [af (by omega),dt];refine bA (Xt (hp _ hm) (by omega)) (fun r ⟨hr,hb⟩=>?_);rw [fB];refine bA (P:=fun s'=>s'=Sum.inr (cw (L.getD i []),())) ?_ (fun s' e=>?_)
 ·unfold cw;rw [vm];refine ⟨fun h=>ao.2 ?_,fun h=>ao.2 ?_⟩
  ·rw [Re (fun x h0 h1=>hr.no h h0 h1)]; rfl
  have:=hb h;rw [← hr.yes h,YL this.1 this.2]; rfl
 subst e;dsimp only;rw [dD (by grind),ba (by omega)];exact hS _ (by rw [hI,jt hi,pG,aU hi]; rfl)
theorem Y3 {w:BB} (h:fP d) (hn:1048576<n):AZ.f n d w k=some (oD d w k,()):=by
 have hl:=h.st.cb.dp;have hq:=h.st.nq;have hs:=h.st.ns;have fx:=rv h.caps;unfold AZ.f;rw [n_,aq,bM (by omega) (by omega)];dsimp only;by_cases hh:0≤k∧k<(d.1.2.length:Int)
 ·obtain ⟨k0,k1⟩:=hh;rw [decide_eq_true k0,decide_eq_true (show k≤(d.1.2.length:Int)-1 by omega)];simp only [Bool.and_self,bo,aw];unfold oD;rw [if_pos ⟨k0,k1⟩];obtain ⟨j,rfl⟩:∃ j:Nat,k=(j:Int):=⟨k.toNat,by omega⟩
  have hj:j<d.1.2.length:=by omega
  have L:=h.st.bN j hj;have l1:=lS L.qs;have l2:=lS L.hs;have fF:=Ci h.caps hj;unfold dW at fF;simp only [az];by_cases e1:w=Lb
  ·rw [aM e1,if_pos e1,agK h.small h.st.cb hn,aq];unfold EI;cases e:Az d.1 300 1 (uE d.1) with
   | none=>
    have e':ye d.1=none:=e;rw [e']; rfl
   | some gr=>
    obtain ⟨g,r⟩:=gr;have e':ye d.1=some (g,r):=e;have lg:=Yh e';have ok:=Yi e' (j:=j) hj;have Rm:(g.getD j []).length≤1048576:=by have:=(lS ok).1; unfold aW at this; omega
    rw [e'];dsimp only;rw [ax,af (by omega),KG Rm hn,aq]
  rw [au e1,if_neg e1];by_cases e2:w=Ld
  ·rw [aM e2,if_pos e2,af (by omega),KG (by omega) hn,aq]
  rw [au e2,if_neg e2];by_cases e3:w=Le
  ·rw [aM e3,if_pos e3,af (by omega),KG (by omega) hn,aq]
  rw [au e3,if_neg e3];by_cases e4:w=Lf
  ·rw [aM e4,if_pos e4,af (by omega),sE hn (by omega) (by omega),aq]
  rw [au e4,if_neg e4]
 rw [HN hh];have e:(decide (0≤k)&&decide (k≤(d.1.2.length:Int)-1))=false:=by rw [GM,decide_eq_false_iff_not,decide_eq_false_iff_not];omega
 rw [e,gT,ax]
theorem ahu (l:List (BB)) (y:BB) (h:l≠[]):jO (l++[y]) [32]=jO l [32]++([32]++y):=by
 cases l with
 | nil=>grind
 | cons x l=>
  rw [List.cons_append,Ro,Ro,Lib.joinTail,Lib.joinTail];simp
theorem ahv {x:BB} {l:List (BB)} (h:x≠[]):jO (x::l) [32]≠[]:=by rw [Ro];simp_all
theorem ahw (h:fP d) (hn:1048576<n):AX.f n d=some (jO (rK (wg d.1 d.2.1)) [32],()):=by
 unfold AX.f;rw [ag0 h.small h.st hn,aq];dsimp only;have hB:=YH h.st;generalize wg d.1 d.2.1=B at hB;have hb:∀ i,(jO ((B.take i).map aj) [32]).length≤1000:=fun i=>by
  by_cases e:B.take i=[]
  ·rw [e]; simp [jO]
  have:=(YZ (B:=B.take i) ⟨by rw [nH]; omega,fun x hx=>hB.2 x (List.mem_of_mem_take hx)⟩).2;unfold rK at this;rwa [if_neg e] at this
 refine eM.1 ?_;refine gu (fun (i:Nat) (o:BB)=>(o,(i:Int),())) B.length (fun i o=>o=jO ((B.take i).map aj) [32]) (s0:=[]) rfl (by simp [jO]) (by omega) (fun ih o hI=>?_) (fun ih i o hi hI hS=>?_)
 ·rw [mN] at hI;simp only [au (bH _)];rw [cZ];unfold rK;cases B with
  | nil=>exact ⟨fun _=>ao.2 (by rw [if_pos rfl]; rfl),fun h0=>absurd (by rw [hI]; rfl) h0⟩
  | cons x B=>
   have aG:o≠[]:=by rw [hI]; exact ahv (Xq x)
   exact ⟨fun h0=>absurd h0 aG,fun _=>ao.2 (by rw [if_neg (by simp),hI])⟩
 have hl:=hb i;rw [← hI] at hl;simp only [aM (show (i:Int)<(B.length:Int) by omega),az];have hm:=hB.2 (B.getD i 0) (by rw [aU hi]; exact bV _);have hil:=fv (x:=B.getD i 0) (by omega) (by omega);rw [af (by omega),fB];refine bA (P:=fun s'=>s'=Sum.inr (if 0<i then o++[32] else o,())) ?_ (fun s' e=>?_)
 ·rw [cZ];refine ⟨fun h0=>?_,fun h0=>ao.2 (by rw [if_neg (by omega)])⟩;have X7:([32]:BB).length=1:=rfl;rw [af (by rw [X7]; unfold ca; omega)];exact ao.2 (by rw [if_pos (by omega)])
 subst e;dsimp only;have hy:(if 0<i then o++[32] else o).length≤1001:=by
  split
  ·rw [List.length_append,nE]; omega
  omega
 rw [sE hn (by omega) (by omega),aq,af (show (if 0<i then o++[32] else o).length+(aj (B.getD i 0)).length<ca by unfold ca; omega),ba (by omega)];refine hS _ ?_;show _++aj (B.getD i 0)=_;rw [jt hi,pG,aU hi];by_cases h0:0<i
 ·rw [if_pos h0,hI];rw [List.map_cons,List.map_nil,ahu _ _ (by intro e; have h:=congrArg mK e; rw [mD,nH,bP] at h; omega)];simp
 obtain rfl:i=0:=by omega
 rw [if_neg h0,hI];simp [jO]
theorem ahx {l:BB} (hl:l.length≤1048576) (h5:l.take 5=[108,111,97,100,32]) (hn:1048576<n):AW.f n l=some (kC 124 10 (l.drop 5),()):=by
 have hlen:5≤l.length:=by have:=congrArg mK h5;rw [nH] at this;simp only [bh,bP] at this;omega
 have kA:∀ i (hi:i<l.length),i<5→(l[i]=32↔i=4):=fun i hi h=>by
  have e:l[i]=(l.take 5)[i]'(by rw [nH]; omega):=by rw [List.getElem_take]
  have e2:∀ (t:BB) (ht:i<t.length),t=[108,111,97,100,32]→(t[i]=32↔i=4):=fun t ht e=>by
   subst e;have:i=0∨i=1∨i=2∨i=3∨i=4:=by omega
   rcases this with rfl | rfl | rfl | rfl | rfl<;>simp
  rw [e];exact e2 _ _ h5
 unfold AW.f;refine eM.1 ?_;refine gu (fun (i:Nat) (o:BB×Bool)=>(o.1,o.2,(i:Int),())) l.length (fun i o=>o.1=kC 124 10 ((l.take i).drop 5)∧o.2=decide (5≤i)) (s0:=([],false)) rfl ⟨by simp [kC],by simp⟩ (by omega) (fun ih o hI=>?_) (fun ih i o hi hI hS=>?_)
 ·simp only [au (bH _)];exact ao.2 (by rw [hI.1,mN])
 obtain ⟨o,on⟩:=o;obtain ⟨h1,h2⟩:=hI;simp only at h1 h2;have tE:o.length≤i:=by rw [h1,Q8,pH,nH]; omega
 simp only [aM (show (i:Int)<(l.length:Int) by omega),az];rw [ba (by omega)];have hw:∀ c:UInt8,((c.toNat:Int)=124)↔c=124:=fun c=>⟨fun e=>UInt8.toNat.inj (by show _=124; omega),fun e=>by rw [e]; rfl⟩
 have hw2:∀ c:UInt8,((c.toNat:Int)=32)↔c=32:=fun c=>⟨fun e=>UInt8.toNat.inj (by show _=32; omega),fun e=>by rw [e]; rfl⟩
 by_cases h4:5≤i
 ·have e2:on=true:=by rw [h2,decide_eq_true h4]
  subst e2;simp only [ax];have ed:(l.take (i+1)).drop 5=(l.take i).drop 5++[l.getD i 0]:=by rw [aU hi,jt hi,YV (by rw [nH]; omega)]
  rw [af (by omega),bg];dsimp only;rw [fB];refine bA (P:=fun s'=>s'=Sum.inr (kC 124 10 ((l.take (i+1)).drop 5),())) ?_ (fun s' e=>?_)
  ·have es:∀ c,kC 124 10 ((l.take i).drop 5++[c])=o++[if c=124 then 10 else c]:=fun c=>by rw [h1]; unfold kC; rw [pG]; rfl
   rw [ed,es,cZ];refine ⟨fun e=>?_,fun e=>?_⟩
   ·rw [ka (by simp only [nE]; omega),if_pos ((hw _).1 e)];exact ao.2 rfl
   have e3:(l.take ((i+1:Nat):Int).toNat).drop i=[l.getD i 0]:=by rw [aU hi,az,jt hi,YV (by rw [nH]; omega),Rp (by rw [nH]; omega)];rfl
   have e4:=congrArg mK e3;rw [nE] at e4;rw [af (by omega),ka (by omega),if_neg (fun h=>e ((hw _).2 h))];exact ao.2 (by rw [e3])
  subst e;dsimp only;exact hS (_,true) ⟨rfl,by simp; omega⟩
 have e2:on=false:=by rw [h2,decide_eq_false h4]
 subst e2;have e1:o=[]:=by rw [h1,Rp (by rw [nH]; omega)]; rfl
 simp only [aw,bg];rw [af (by omega)];refine hS (o,_) ⟨?_,?_⟩
 ·rw [Rp (by rw [nH]; omega)];exact e1
 show decide _=decide _;rw [decide_eq_decide,aU hi,hw2,kA i hi (by omega)];omega
theorem ahy {l:BB} {Q:List (BB)} (hl:l.length≤1048576) (h5:l.take 5=[108,111,97,100,32]) (hQ:Q≠[]) (hn:1048577<n):lC.f n d l (ky::Q) Z=some (jd (yp n d (kC 124 10 (l.drop 5)))):=by
 have hQ:=kX.2 hQ;obtain ⟨r,e1,e2,T⟩:=X9 (n:=n) (s:=kC 124 10 (l.drop 5)) (by rw [Q8,pH]; omega) hn;have g0:(ky::Q).getD 0 []=ky:=rfl;unfold lC.f yp;rw [e2,g0];rw [af (by grind),aM rfl,bg,decide_eq_true (show (1:Int)<((ky::Q).length:Int) by grind)];dsimp only;rw [ax,ahx hl h5 (by omega),aq];dsimp only;rw [e1,aA,bg];dsimp only;cases hb:r.2.1
 ·rfl
 simp only [bo,aw,if_true];rw [Rs (Y_ T hb) (by omega),aq]
theorem Li {l a:BB} {Q:List (BB)} (h1:a≠ky) (h2:¬ (a=nz∧Q.length=2)) (h3:¬ (a=sV∧Q.length=1)):lC.f n d l (a::Q) Z=some (jd (d,bI)):=by
 have g0:(a::Q).getD 0 []=a:=rfl;have hc:(0:Int)≤0∧(0:Int)<((a::Q).length:Int):=by simp only [bh]; omega
 refine eM.1 ?_;unfold lC.f;rw [g0,fB];refine bA (P:=fun s=>s=Sum.inr (false,[],[],())) ?_ (fun s e=>?_)
 ·rw [af hc,au h1,bg];dsimp only;rw [aw,fB];refine bA (P:=fun s=>s=Sum.inr (false,())) ?_ (fun s e=>?_)
  ·rw [af hc,cZ];exact ⟨fun e=>ao.2 (by rw [decide_eq_false (fun e3=>h2 ⟨e,by grind⟩)]),fun _=>ao.2 rfl⟩
  subst e;dsimp only;rw [aw,fB];refine bA (P:=fun s=>s=Sum.inr (false,())) ?_ (fun s e=>?_)
  ·rw [af hc,cZ];exact ⟨fun e=>ao.2 (by rw [decide_eq_false (fun e3=>h3 ⟨e,by grind⟩)]),fun _=>ao.2 rfl⟩
  subst e;dsimp only;rw [aw];exact ao.2 rfl
 subst e;dsimp only;rw [gT,ax];exact ao.2 rfl
theorem ahz {l b:BB} {z:Int} (h:fP d) (hn:1048576<n):lC.f n d l [sV,b] [z,k]=some (jd (if (lZ d.1 k).2.1=true then (CI (lZ d.1 k).1,ta) else (d,bI))):=by
 have g0:([sV,b]:List (BB)).getD 0 []=sV:=rfl;have g1:([z,k]:List Int).getD 1 0=k:=rfl;unfold lC.f;rw [g0,g1,af (by simp),au (by decide),bg];dsimp only;rw [aw,af (by simp),au (by decide),bg];dsimp only;rw [aw,af (by simp),aM rfl,bg,decide_eq_true (show (([sV,b]:List (BB)).length:Int)=2 from rfl)];dsimp only;rw [ax,af (by simp),agU h.small hn,aA,bg];dsimp only;cases hb:(lZ d.1 k).2.1
 ·rfl
 simp only [bo,aw,if_true];rw [Rs (YR hb) hn,aq]
theorem ahA {l b c:BB} {z z2:Int} (h:fP d) (hc:c.length≤1048575) (hn:1048577<n):lC.f n d l [nz,b,c] [z,k,z2]=some (jd (uI n d k c)):=by
 have ep:1048576<n:=by omega
 obtain ⟨r,e1,T1⟩:=Xx (n:=n) (s:=c) hc hn;obtain ⟨r',e2,T2⟩:=af2 (n:=n) (s:=c) hc hn;have Rr:CD.f n c=some r:=by rw [T1.one T2]; exact e2
 have g0:([nz,b,c]:List (BB)).getD 0 []=nz:=rfl;have g2:([nz,b,c]:List (BB)).getD 2 []=c:=rfl;have g1:([z,k,z2]:List Int).getD 1 0=k:=rfl;unfold lC.f uI;rw [e1,g0,g1,g2,af (by simp),au (by decide),bg];dsimp only;rw [aw,af (by simp),aM rfl,bg,decide_eq_true (show (([nz,b,c]:List (BB)).length:Int)=3 from rfl)];dsimp only;rw [ax,af (by simp),Rr,aA,af (by simp),ag4 h.small h.st.cb (by have:=(lS T1.ok).1; omega) ep,aA];cases hf:(oH d.1 k r.1).2.1
 ·rw [aw,bg];dsimp only;rw [gT,ax]
  grind
 rw [ax,bg];dsimp only;cases hr:r.2.1
 ·rfl
 simp only [bo,aw,if_true];rw [Rs (YI hf) ep,aq]
theorem ahB {s:State} {caps:List Int} {most:Int} (h:cL nt) (hs:gP s) (hc:caps.length≤1048576) (hn:1048576<n):zZ.f n nt s caps most=some ((mA nt s caps most).1,(mA nt s caps most).2,()):=by
 unfold zZ.f mA;rw [Kb h hs hc hn];cases e:gk nt s&&eQ nt.2 caps
 ·rfl
 rw [Bool.and_eq_true] at e;simp only [aA,bo,aw,if_true];rw [Cg hs hn];simp only [aA];rw [WC (ru e.1) (rv e.2) hn];rfl
theorem Y4 {w:Int} (h:w=1∨w=2∨w=3):CF.f n w=some (rf w,()):=by rcases h with rfl | rfl | rfl<;>rfl
theorem Y5 {a b:BB} {z:Int} (h:fP d) (hk : -9223372036854775808≤k∧k≤9223372036854775807) (hn:1048576<n):l7.f n d [a,b] [z,k]=some (jd (if k < -999999999 then (d,bI) else mH d a k)):=by
 have g0:([a,b]:List (BB)).getD 0 []=a:=rfl;have g1:([z,k]:List Int).getD 1 0=k:=rfl;have dK:=h.st.steps;refine eM.1 ?_;unfold l7.f;rw [au (by simp),bg];dsimp only;rw [aw,g0,g1,decide_eq_true (show (([a,b]:List (BB)).length:Int)=2 from rfl),bo,aw,af (by simp),bg];dsimp only;rw [cZ];refine ⟨fun hb=>ao.2 (by grind),fun hb=>?_⟩;rw [if_neg hb,af (by simp),fB];unfold mH;rw [cZ];refine ⟨fun e=>?_,fun e=>?_⟩
 ·rw [if_pos e,af (by simp),ag2 h.small h.st hn,aA];cases hc:l_ d.1 d.2.1 k
  ·simp only [Bool.false_eq_true,if_false,aw];exact ao.2 (ao.2 rfl)
  have o:=step_end h hc;have hs:=o.st.steps;simp only at hs;simp only [if_true,ax];rw [sE hn (by omega) (by omega),aq];exact ao.2 rfl
 rw [if_neg e,cZ];refine ⟨fun e=>?_,fun e=>?_⟩
 ·rw [if_pos e,af (by simp),afq h.small h.rJ hn,aA];dsimp only;cases (pN d.1 d.2.1 k).2
  ·rw [aw]; exact ao.2 (ao.2 rfl)
  rw [ax]; exact ao.2 (ao.2 rfl)
 rw [if_neg e,cZ];refine ⟨fun e=>?_,fun e=>?_⟩
 ·have o:=Rk h k;rw [if_pos e,af (by simp),ahB h.small h.rJ h.ym hn,aA];dsimp only;refine ao.2 ?_;dsimp only;rw [Y4 o.2,aq];exact ao.2 rfl
 rw [if_neg e,cZ];refine ⟨fun e=>?_,fun e=>?_⟩
 ·have o:=Rl h k;rw [if_pos e,af (by simp),afk h.small h.rJ h.ym hn,aA];dsimp only;refine ao.2 ?_;dsimp only;rw [Y4 o.2,aq];exact ao.2 rfl
 rw [if_neg e,cZ];refine ⟨fun e=>?_,fun e=>?_⟩
 ·rw [if_pos e,af (by simp),WL h.small hn,aq,af (by simp),n_,aq];dsimp only;by_cases hh:0≤k∧k≤400
  ·rw [if_pos hh,decide_eq_true hh.1,decide_eq_true hh.2,Bool.and_self,ax];exact ao.2 rfl
  have e3:(decide (0≤k)&&decide (k≤400))=false:=by rw [GM,decide_eq_false_iff_not,decide_eq_false_iff_not];omega
  rw [if_neg hh,e3,aw];exact ao.2 (ao.2 rfl)
 rw [if_neg e];exact ao.2 (ao.2 rfl)
theorem Y6 {a b c:BB} {z x y:Int} (h:fP d) (hn:1048576<n):l7.f n d [a,b,c] [z,x,y]=some (jd (if a=uH∧-999999999≤y then nA n d x y else (d,bI))):=by
 have g0:([a,b,c]:List (BB)).getD 0 []=a:=rfl;have g1:([z,x,y]:List Int).getD 1 0=x:=rfl;have g2:([z,x,y]:List Int).getD 2 0=y:=rfl;have hl:=h.st.cb.dp;refine eM.1 ?_;unfold l7.f;rw [g0,g1,g2,fB];refine bA (P:=fun s=>∃ b:Bool,s=Sum.inr (b,())∧(b=true↔(a=uH∧-999999999≤y)∧0≤x∧x<(d.1.2.length:Int))) ?_ (fun s ⟨b,e,hb⟩=>?_)
 ·rw [aM (by rfl),af (by simp),cZ];refine ⟨fun e1=>?_,fun e1=>ao.2 ⟨_,rfl,⟨fun h=>(by cases h),fun h=>absurd h.1.1 e1⟩⟩⟩;rw [af (by simp),cZ];refine ⟨fun e2=>?_,fun e2=>ao.2 ⟨_,rfl,⟨fun h=>(by cases h),fun h=>absurd h.1.2 e2⟩⟩⟩;rw [af (by simp),n_,aq,bM (by omega) (by omega)];refine ao.2 ⟨_,rfl,?_⟩
  grind
 subst e;dsimp only;rw [cC];refine ⟨fun dh=>?_,fun dh=>?_⟩
 ·obtain ⟨h1,h2⟩:=hb.1 dh;rw [if_pos h1,af (by simp),af (by simp),afy h.small h.rJ hn,aA];unfold nA;rw [if_pos h2];dsimp only;cases (rT n d.1 d.2.1 x y 20000).2
  ·rw [aw]; exact ao.2 rfl
  rw [ax]; exact ao.2 rfl
 have hr:(if a=uH∧-999999999≤y then nA n d x y else (d,bI))=(d,bI):=by
  split
  ·rename_i h1;unfold nA
   grind
  rfl
 rw [hr,decide_eq_false (by simp),gT,ax,bg];dsimp only;rw [ax];exact ao.2 rfl
theorem Lv {P:List (BB)} (h2:P.length≠2) (h3:P.length≠3):l7.f n d P Z=some (jd (d,bI)):=by unfold l7.f;rw [au (by omega),bg];dsimp only;rw [aw,decide_eq_false (by omega),gT,ax,bg];dsimp only;rw [ax]
theorem Y7 {c:UInt8} : ∀ {l a:BB},bC c l=[a]→l=a
 | [],a,h=>by
  have h:[([]:BB)]=[a]:=h
  grind
 | x::xs,a,h=>by
  rw [bC] at h;have aG:=nD c xs;split at h
  ·grind
  cases hs:bC c xs with
  | nil=>grind
  | cons u v=>
   rw [hs] at h;simp only [vn,List.cons.injEq] at h;obtain ⟨h1,h2⟩:=h;subst h2;rw [← h1,Y7 hs]
theorem ahC {s:BB} {c:Int} (h0:0≤c) (h1:c<256) (hs:s.length≤1048576) (hn:1048577<n):CE.f n s c=some (bC (UInt8.ofNat c.toNat) s,()):=rA h0 h1 hs hn
theorem ahD {w:BB} (h:fP d) (e:(mH d w k).2=bI):mH d w k=(d,bI):=by
 have hb:∀ x:Int,(x=1∨x=2∨x=3)→rf x≠bI:=fun x hx=>by rcases hx with rfl | rfl | rfl<;>decide
 unfold mH at e ⊢;split at e
 ·rename_i h1;rw [if_pos h1];split at e
  ·rename_i hc;have o:=(step_end h hc).st.steps;simp only at o e;have:=Xp (x:=(eY d.1 d.2.1 k.toNat).2.2.2) (by omega) (by omega) 110 (by grind)
   grind
  grind
 rename_i h1;rw [if_neg h1];split at e
 ·grind
 rename_i h2;rw [if_neg h2];split at e
 ·exact absurd e (hb _ (Rk h k).2)
 rename_i h3;rw [if_neg h3];split at e
 ·exact absurd e (hb _ (Rl h k).2)
 grind
theorem ahE {x y:Int} (e:(nA n d x y).2=bI):nA n d x y=(d,bI):=by
 unfold nA at e ⊢
 grind
theorem Ru {w:BB} (h1:w≠Rg) (h2:w≠Rb) (h3:w≠Rc) (h4:w≠Rh) (h5:w≠Ra):mH d w k=(d,bI):=by
 unfold mH
 grind
theorem ahF (h:k<0):(lZ nt k).2.1=false:=by
 unfold lZ
 grind
theorem ahG {c:BB} (h:k<0):uI n d k c=(d,bI):=by
 have e:∀ ts,(oH d.1 k ts).2.1=false:=fun ts=>by
  unfold oH
  grind
 unfold uI
 grind
theorem ahH {l b:BB} {Q:List (BB)} (h:bC 32 l=ky::b::Q):l.take 5=[108,111,97,100,32]:=by
 have one:∀ {x:UInt8} {t w:BB} {R:List (BB)},bC 32 t=(x::w)::R→∃ u,t=x::u∧bC 32 u=w::R:=fun {x t w R} h=>by
  cases t with
  | nil=>cases h
  | cons y u=>
   rw [bC] at h;split at h
   ·cases h
   cases hs:bC 32 u with
   | nil=>exact absurd hs (nD 32 u)
   | cons p q=>
    rw [hs] at h;simp only [vn,List.cons.injEq] at h
    grind
 obtain ⟨u1,rfl,h1⟩:=one h;obtain ⟨u2,rfl,h2⟩:=one h1;obtain ⟨u3,rfl,h3⟩:=one h2;obtain ⟨u4,rfl,h4⟩:=one h3;clear h h1 h2 h3;cases u4 with
 | nil=>cases h4
 | cons x u=>
  rw [bC] at h4;split at h4
  ·simp_all
  cases hs:bC 32 u with
  | nil=>exact absurd hs (nD 32 u)
  | cons p q=>
   rw [hs] at h4;simp only [vn,List.cons.injEq] at h4
   grind
theorem ahI {l:BB} : lC.f n d l [ky] Z=some (jd (d,bI)):=by rfl
theorem ahJ {s:BB} (e:(yp n d s).2=bI):yp n d s=(d,bI):=by
 unfold yp at e ⊢
 grind
theorem ahK {c:BB} (e:(uI n d k c).2=bI):uI n d k c=(d,bI):=by
 unfold uI at e ⊢
 grind
theorem ahL {R:bR×BB} (h:R.2=bI→R=(d,bI)):br (decide ((jd R).2.1=([110,111]:BB))) (some (d,(jd R).2.1,())) (some ((jd R).1,(jd R).2.1,()))=some (jd R):=by
 by_cases e:R.2=bI
 ·rw [aM e,h e]
 rw [au e]
theorem ahM {l:BB} (h:fP d) (hl:l.length≤1048576) (hn:1048577<n):uG.f n d l=some (jd (yt n d l)):=by
 have ep:1048576<n:=by omega
 unfold uG.f;rw [ahr h ep,aq];dsimp only;rw [ahs h ep,aq];simp only [bo,aw];by_cases e1:l=YX
 ·subst e1;rw [aM rfl,Wp h.small h.st.cb ep,aq];rfl
 rw [au e1];by_cases e2:l=Rq
 ·subst e2;rw [aM rfl,ahw h ep,aq];rfl
 rw [au e2,ahC (by omega) (by omega) hl hn,aq];have EA:UInt8.ofNat (32:Int).toNat=32:=rfl;rw [EA];dsimp only;have hp:=oq 32 l;have hlen:=vL 32 l;have aG:=nD 32 l;have qY:∀ a,bC 32 l=[a]→l=a:=fun a h=>Y7 h;have c8:∀ p∈bC 32 l,p.length+(bC 32 l).length≤1048577:=fun p ma=>by have:=hp p ma; omega
 rw [aht (by omega) (fun p ma=>by have:=c8 p ma; have:=kX.2 aG; omega) hn,aq];dsimp only;have tail:∀ {P:List (BB)} {B R T:bR×BB},lC.f n d l P (P.map cw)=some (jd B)→(B.2=bI→l7.f n d P (P.map cw)=some (jd R)∧(R.2=bI→R=(d,bI))∧R=T)→(B.2≠bI→B=T)→((some (d,())).bind fun dz=>(lC.f n dz.1 l P (P.map cw)).bind fun iB=>br (!decide (iB.2.1=([110,111]:BB))) (some (iB.1,iB.2.1,())) ((some (d,())).bind fun eN=>(l7.f n eN.1 P (P.map cw)).bind fun gm=>br (decide (gm.2.1=([110,111]:BB))) (some (d,gm.2.1,())) (some (gm.1,gm.2.1,()))))=some (jd T):=fun {P B R T} h1 h2 h3=>by
  rw [aq];dsimp only;rw [h1,aq];by_cases e:B.2=bI
  ·obtain ⟨h4,h5,h6⟩:=h2 e;rw [decide_eq_true (show (jd B).2.1=([110,111]:BB) from e),bo,aw,aq];dsimp only;rw [h4,aq,ahL h5,h6]
  rw [decide_eq_false (show ¬ (jd B).2.1=([110,111]:BB) from e),gT,ax,← h3 e]
 by_cases h5:l.take 5=[108,111,97,100,32]
 ·have eR:yt n d l=yp n d (kC 124 10 (l.drop 5)):=if_pos h5;have eP:bC 32 l=ky::bC 32 (l.drop 5):=by
   have el:l=[108,111,97,100]++32::l.drop 5:=by have:l=l.take 5++l.drop 5:=(YW 5 l).symm;rw [h5] at this;exact this
   conv=>lhs; rw [el]
   rw [mE _ (by decide)]
  have hQ:=nD 32 (l.drop 5);rw [eR,eP];generalize bC 32 (l.drop 5)=Q at hQ;have hB:=ahy (n:=n) (d:=d) (l:=l) (Q:=Q) (Z:=(ky::Q).map cw) hl h5 hQ hn;have ahN:l7.f n d (ky::Q) ((ky::Q).map cw)=some (jd (d,bI)):=by
   match Q with
   | [b]=>
    have hz:=Lh b;show l7.f n d [ky,b] [cw ky,cw b]=_;rw [Y5 h (by omega) ep,Ru (by decide) (by decide) (by decide) (by decide) (by decide),ite_self]
   | [b,c]=>
    show l7.f n d [ky,b,c] [cw ky,cw b,cw c]=_;rw [Y6 h ep,if_neg (fun e=>absurd e.1 (by decide))]
   | []=>exact Lv (by simp) (by simp)
   | _::_::_::_=>exact Lv (by simp) (by simp)
  have T:=tail (R:=(d,bI)) hB (fun e=>⟨ahN,fun _=>rfl,(ahJ e).symm⟩) (fun _=>rfl);refine eM.1 ?_;rw [fB];refine bA (P:=fun s=>s=Sum.inr ()) ?_ (fun s e=>?_)
  ·rw [cZ];refine ⟨fun e3=>?_,fun _=>ao.2 rfl⟩;have e4:((ky::Q).getD 0 [])=ky:=rfl;rw [af (by omega),af (by simp only [mD]; omega),e4,Y3 h ep,aq,YU (by decide)];exact ao.2 rfl
  subst e;show W _ _;exact eM.2 T
 have eR:yt n d l=sX n d (bC 32 l):=if_neg h5;have yu:∀ b Q,bC 32 l=ky::b::Q→False:=fun b Q e=>h5 (ahH e);rw [eR];generalize bC 32 l=P at hp hlen aG qY c8 yu
 match P,aG,qY,c8,yu with
 | [a],aG,qY,c8,yu=>
  have ea:=qY a rfl;have ew:sX n d [a]=(d,bI):=by show EK d a=_;unfold EK;rw [if_neg (fun e=>e1 (ea.trans e)),if_neg (fun e=>e2 (ea.trans e))]
  rw [au (by simp),bg,ew];have hB:lC.f n d l [a] ([a].map cw)=some (jd (d,bI)):=by
   by_cases ha:a=ky
   ·subst ha; exact ahI
   exact Li ha (by simp) (by simp)
  exact tail (R:=(d,bI)) hB (fun _=>⟨Lv (by simp) (by simp),fun _=>rfl,rfl⟩) (fun _=>rfl)
 | [a,b],aG,qY,c8,yu=>
  have hz:=Lh b;have ha:a≠ky:=fun e=>yu b [] (by rw [e]);have g0:([a,b]:List (BB)).getD 0 []=a:=rfl;have g1:(([a,b]:List (BB)).map cw).getD 1 0=cw b:=rfl;have ew:sX n d [a,b]=if cw b < -999999999 then (d,bI) else sW d a (cw b):=by
   show (match eC b with | some k=>sW d a k | none=>(d,bI))=_;rcases hz with ⟨z1,z2⟩ | ⟨z1,z2,z3⟩
   ·rw [z1,if_pos (by omega)]
   rw [z1,if_neg (by omega)]
  have hR:l7.f n d [a,b] ([a,b].map cw)=some (jd (if cw b < -999999999 then (d,bI) else mH d a (cw b))):=Y5 (z:=cw a) h (by omega) ep;have HP:(if cw b < -999999999 then (d,bI) else mH d a (cw b)).2=bI→(if cw b < -999999999 then (d,bI) else mH d a (cw b))=(d,bI):=fun e=>by
   split at e
   ·rename_i hk; rw [if_pos hk]
   rename_i hk; rw [if_neg hk]; exact ahD h e
  refine eM.1 ?_;rw [fB];refine bA (P:=fun s=>(oD d a (cw b)≠bI∧s=Sum.inl (d,oD d a (cw b),()))∨(oD d a (cw b)=bI∧s=Sum.inr ())) ?_ (fun s e=>?_)
  ·rw [aM (by rfl),af (by simp),af (by simp),g0,g1,Y3 h ep,aq];by_cases e:oD d a (cw b)=bI
   ·rw [decide_eq_true (show oD d a (cw b)=([110,111]:BB) from e),bo,aw];exact ao.2 (.inr ⟨e,rfl⟩)
   rw [decide_eq_false (show ¬ oD d a (cw b)=([110,111]:BB) from e),gT,ax];exact ao.2 (.inl ⟨e,rfl⟩)
  rcases e with ⟨e,rfl⟩ | ⟨e,rfl⟩
  ·show _=jd (sX n d [a,b]);have hw:EJ a:=by refine Decidable.byContradiction (fun hw=>e (YU hw))
   have hk:0≤cw b∧cw b<(d.1.2.length:Int):=Decidable.byContradiction (fun hk=>e (HN hk));rw [ew,if_neg (by omega),Lg hw]
  show W _ _;refine eM.2 ?_;by_cases hs:a=sV
  ·subst hs;have hB:lC.f n d l [sV,b] ([sV,b].map cw)=_:=ahz (z:=cw sV) h ep;have eL:sW d sV (cw b)=if (lZ d.1 (cw b)).2.1=true then (CI (lZ d.1 (cw b)).1,ta) else (d,bI):=if_pos rfl
   refine tail hB (fun e=>⟨hR,HP,?_⟩) (fun e=>?_)
   ·rw [ew,eL,Ru (by decide) (by decide) (by decide) (by decide) (by decide)];by_cases hb:(lZ d.1 (cw b)).2.1=true
    ·rw [if_pos hb] at e;exact absurd (show ta=bI from e) (by decide)
    rw [if_neg hb]
   by_cases hb:(lZ d.1 (cw b)).2.1=true
   ·rw [ew,eL,if_pos hb,if_neg (fun hk=>by rw [ahF (by omega)] at hb; cases hb)]
   rw [if_neg hb] at e;exact absurd rfl e
  refine tail (Li (d:=d) (l:=l) (Z:=[a,b].map cw) ha (by simp) (fun e=>hs e.1)) (fun _=>⟨hR,HP,?_⟩) (fun e=>absurd rfl e);rw [ew];by_cases hw:EJ a
  ·rw [Lg hw,e,Ru (by rcases hw with h | h | h | h<;>(rw [h]; decide)) (by rcases hw with h | h | h | h<;>(rw [h]; decide)) (by rcases hw with h | h | h | h<;>(rw [h]; decide)) (by rcases hw with h | h | h | h<;>(rw [h]; decide)) (by rcases hw with h | h | h | h<;>(rw [h]; decide))]
  rw [CJ hs hw]
 | [a,b,c],aG,qY,c8,yu=>
  have gG:=c8 b (by simp);have ve:=c8 c (by simp);simp only [bh,bP] at gG ve;have ha:a≠ky:=fun e=>yu b [c] (by rw [e]);have hR:l7.f n d [a,b,c] ([a,b,c].map cw)=some (jd (if a=uH∧-999999999≤cw c then nA n d (cw b) (cw c) else (d,bI))):=Y6 (z:=cw a) h ep;have HP:(if a=uH∧-999999999≤cw c then nA n d (cw b) (cw c) else (d,bI)).2=bI→(if a=uH∧-999999999≤cw c then nA n d (cw b) (cw c) else (d,bI))=(d,bI):=fun e=>by
   split at e
   ·rename_i hk; rw [if_pos hk]; exact ahE e
   rename_i hk; rw [if_neg hk]
  rw [au (by simp),bg];have Zw:=Lh b;have hzc:=Lh c;by_cases hf:a=nz
  ·subst hf;have hB:lC.f n d l [nz,b,c] ([nz,b,c].map cw)=_:=ahA (z:=cw nz) h (by omega) hn;have ew:sX n d [nz,b,c]=uI n d (cw b) c:=by
    show yq n d nz b c=_;unfold yq;rw [if_pos rfl];rcases Zw with ⟨z1,z2⟩ | ⟨z1,z2,z3⟩
    ·rw [z1,ahG (by omega)]
    rw [z1]
   rw [ew];refine tail hB (fun e=>⟨hR,HP,?_⟩) (fun _=>rfl);rw [if_neg (fun e=>absurd e.1 (by decide))];exact (ahK e).symm
  have ew:sX n d [a,b,c]=if a=uH then (match eC b,eC c with | some x,some y=>nA n d x y | _,_=>(d,bI)) else (d,bI):=by show yq n d a b c=_;unfold yq;exact if_neg hf
  refine tail (Li (d:=d) (l:=l) (Z:=[a,b,c].map cw) ha (fun e=>hf e.1) (by simp)) (fun _=>⟨hR,HP,?_⟩) (fun e=>absurd rfl e);rw [ew];by_cases hd:a=uH
  ·rw [if_pos hd];have dm:∀ y,cw b<0→nA n d (cw b) y=(d,bI):=fun y hk=>by unfold nA;rw [if_neg (by omega)]
   rcases hzc with ⟨y1,y2⟩ | ⟨y1,y2,y3⟩
   ·rw [if_neg (fun e=>by have:=e.2; omega),y1];cases eC b<;>rfl
   rw [if_pos ⟨hd,y2⟩,y1];rcases Zw with ⟨z1,z2⟩ | ⟨z1,z2,z3⟩
   ·rw [z1,dm _ (by omega)]
   rw [z1]
  rw [if_neg hd,if_neg (fun e=>hd e.1)]
 | a::b::c::e::P,aG,qY,c8,yu=>
  have ha:a≠ky:=fun e'=>yu b (c::e::P) (by rw [e']);rw [au (by simp only [bh]; omega),bg];exact tail (R:=(d,bI)) (Li (n:=n) (d:=d) (l:=l) (Z:=(a::b::c::e::P).map cw) ha (by simp) (by simp)) (fun _=>⟨Lv (by simp) (by simp),fun _=>rfl,rfl⟩) (fun _=>rfl)
end Go.AmT
