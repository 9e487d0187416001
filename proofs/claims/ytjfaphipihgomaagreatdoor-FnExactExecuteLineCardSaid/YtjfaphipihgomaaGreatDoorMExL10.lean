/- Runs with capacities, in plain Lean: both programs make the same. -/
import Derived.Test.YtjfaphipihgomaaGreatDoorMExL9
open Go Go.Am
noncomputable section
set_option linter.unusedVariables false
set_option linter.unusedSimpArgs false
set_option maxRecDepth 100000
open Bool renaming and_eq_true → aB, false_eq_true → fM, not_false → gT, not_true → bo
open Int renaming le_refl → G7, toNat_natCast → az
open Option renaming bind_some → aA
namespace Go.AmT
variable {n:Nat} {nt:ak} {s:State} {caps:List Int} {most:Int}
def vG (nt:ak) (s:State) (caps:List Int):Int:=if kF nt s=true then (if nF nt s caps=true then 3 else 2) else 1
def pt (nt:ak) (s:State) (caps:List Int) (most:Int):State×Int:=(runT nt (some caps) most s,vG nt (runT nt (some caps) most s) caps)
theorem afc {made:Int} (o:bU nt s) (hc:caps.length=nt.2.length) (hn:1048576<n) {ρ:Type} (X Y:Option ρ) :
  cut (α:=Bool×Unit) ((sq.f n nt s caps).bind fun r=>br r.1 (some (.inr (decide (made<most),()))) (some (.inr (false,())))) (fun y=>br y.1 X Y)=if (List.range nt.1.length).any (ub nt (some caps) s)=true∧made<most then X else Y:=by
 rw [Wx o hc hn];show _=if nF nt s caps=true∧made<most then _ else _
 simp only [aA];cases nF nt s caps
 ·simp only [aw,bg,fM,false_and,if_false]
 simp only [ax,bg,true_and,iN]
theorem WC (o:bU nt s) (hc:caps.length=nt.2.length) (hn:1048576<n) :
  qz.f n nt.1 nt.2 s.2.2.2 caps most s.1 s.2.1 s.2.2.1=some ((pt nt s caps most).1.2.2.2,(pt nt s caps most).2,(pt nt s caps most).1.1,(pt nt s caps most).1.2.1,(pt nt s caps most).1.2.2.1,()):=by
 have hp:=o.cb.dZ;unfold qz.f pt runT;refine Wg (g:=ub nt (some caps)) (st:=eY nt) (most:=most) (K:=nt.1.length) (J:=JS nt) (μ:=xN) (Ek (fun _ _=>Cf)) (fun _=>Pm)
  (fun made s=>(made,s.2.2.2,s.1,s.2.1,s.2.2.1,())) (fun made k s=>(made,(k:Int),s.2.2.2,s.1,s.2.1,s.2.2.1,()))
  (G:=fun _ s=>some (s.2.2.2,vG nt s caps,s.1,s.2.1,s.2.2.1,())) (fun ih made s h=>?_) (by omega) (by omega) (x:=(0,s)) ⟨o,G7 _,o.steps.1⟩
 refine ⟨_,(afc (s:=s) (made:=made) (most:=most) h.1 hc hn _ _).trans (Wu ?_),fun ij made k s h hk hm=>?_,fun ij made k s h hk hm=>?_⟩
 ·have o:bU nt s:=h.1;have e1:sq.f n (nt.1,nt.2) (s.1,s.2.1,s.2.2.1,s.2.2.2) caps=some (nF nt s caps,()):=Wx o hc hn;have e2:=Wv (n:=n) (s:=s) o hn (fun b=>br b (some (s.2.2.2,(1:Int),s.1,s.2.1,s.2.2.1,())) ((sq.f n (nt.1,nt.2) (s.1,s.2.1,s.2.2.1,s.2.2.2) caps).bind fun Pu=>br (!Pu.1) (some (s.2.2.2,2,s.1,s.2.1,s.2.2.1,())) (some (s.2.2.2,3,s.1,s.2.1,s.2.2.1,()))));refine e2.trans ?_;rw [e1];unfold vG;cases kF nt s
  ·rfl
  cases nF nt s caps<;>rfl
 ·have c1:(k:Int)<(nt.1.length:Int):=by omega
  have LI:t_.f n (nt.1,nt.2) (s.1,s.2.1,s.2.2.1,s.2.2.2) caps (k:Int)=some (nn nt s caps k,()):=V7 h.1 hc hk hn;have hle:=h.le;simp only [aM c1,bg,decide_eq_true hm,ax,LI,aA];show _=if nn nt s caps k=true then _ else _
  cases hg:nn nt s caps k
  ·simp only [aw,fM,if_false];rw [ba (by omega)]
  simp only [ax,if_true];rw [Kj h.1 (my h.1) hk (Wk hg) hn];simp only [aA];rw [ba (by omega),bM (n:=made+1) (by omega) (by omega)]
 by_cases c1:(k:Int)<(nt.1.length:Int)
 ·have hm:¬ made<most:=fun h=>hm ⟨by omega,h⟩;simp only [aM c1,bg,decide_eq_false hm,aw]
 simp only [au c1,bg,aw]
noncomputable def mA (nt:ak) (s:State) (caps:List Int) (most:Int):State×Int:=if gk nt s&&eQ nt.2 caps then pt nt s caps most else (([],[],[],0),0)
theorem WD (h:cL nt) (hs:gP s) (hc:caps.length≤1048576) (hn:1048576<n):qA.f n nt s caps most=some ((mA nt s caps most).1,(mA nt s caps most).2,()):=by
 unfold qA.f mA;rw [Pd h hs hc hn];cases e:gk nt s&&eQ nt.2 caps
 ·rfl
 rw [aB] at e;have o:=ru e.1;have fx:=rv e.2;simp only [aA,bo,aw,if_true];refine eM.1 (dt.2 (bA (Pe o hs hc hn) (fun r ⟨R,e⟩=>eM.2 ?_)));obtain ⟨r1,r2,r3,r4,r5,r6,r7,r8,r9,⟨⟩⟩:=r;have e:r4=some caps:=e;subst e;obtain ⟨e1,e2,T,F⟩:=R;have e1:(r1,r2)=nt:=e1;have e2:(r5,r6,r7,r3)=s:=e2;subst e1 e2;have R:kQ (r1,r2) (r5,r6,r7,r3) ((r1,r2),(r5,r6,r7,r3),r8,r9,some caps):=⟨rfl,rfl,T,F⟩
 have ht:=Wl (n:=n) (most:=most) R o (fun c h=>by grind) hn;simp only at ht ⊢;rw [ht];unfold pt;generalize hr:runT (r1,r2) (some caps) most (r5,r6,r7,r3)=t;have ot:bU (r1,r2) t:=by rw [← hr]; exact Kn o
 have R':kQ (r1,r2) t ((r1,r2),t,r8,r9,some caps):=R.step;have hq:quiet.f n ((r1,r2),(t.1,t.2.1,t.2.2.1,t.2.2.2),r8,r9,some caps)=some (!kF (r1,r2) t,()):=Pq R' ot hn;have hk:stuck.f n ((r1,r2),(t.1,t.2.1,t.2.2.1,t.2.2.2),r8,r9,some caps)=some (!nF (r1,r2) t caps,()):=Wy R' ot fx rfl hn;simp only [aA];unfold Cj.f;rw [hq,hk];unfold vG;cases kF (r1,r2) t
 ·rfl
 cases nF (r1,r2) t caps<;>rfl
theorem Ep (o:bU nt s):bU nt (pt nt s caps most).1:=Kn o
end Go.AmT
namespace Go.AmT
open Go.Proofs Go.Proofs.Tryz
def z_.f (n:Nat) (a0:ak) (a1:State) (a2:List Int) (a3:Int):Option (State×List Int×Int×Unit):=(sc.f n a0 a1 a2).bind fun r1=>br (!r1.1) (some (([],[],[],0),[],0,())) ((mz.f n a1).bind fun r2=>(gQ.f n a2).bind fun r3=>iter n (fun G8 iD=>(qz.f n a0.1 a0.2 iD.1 iD.2.2.2.2.1 (ag ((ag (a1.2.2.2+(max 0 (min a3 20000))))-iD.1)) iD.2.1 iD.2.2.1 iD.2.2.2.1).bind fun cE=>br (!decide (cE.2.1=2)) (some ((cE.2.2.1,cE.2.2.2.1,cE.2.2.2.2.1,cE.1),iD.2.2.2.2.1,cE.2.1,())) ((xP.f n a0 (cE.2.2.1,cE.2.2.2.1,cE.2.2.2.2.1,cE.1) iD.2.2.2.2.1).bind fun eA=>br (!eA.2.2.1) (some ((cE.2.2.1,cE.2.2.2.1,cE.2.2.2.2.1,cE.1),iD.2.2.2.2.1,cE.2.1,())) (G8 (cE.1,cE.2.2.1,cE.2.2.2.1,cE.2.2.2.2.1,eA.1,())))) (r2.1.2.2.2,r2.1.1,r2.1.2.1,r2.1.2.2.1,r3.1,()))
def z_.ae (n:Nat):ar:=⟨[.val bZ,.val dk,.val IS,.val I],[.sh dk,.sh IS,.val I],fun x=>z_.f n x.1 x.2.1 x.2.2.1 x.2.2.2.1⟩
theorem z_.ok (n:Nat):aH 76 (z_.ae n):=aJ n [(8,⟨[(11,.bt 1000 0),(12,.own 1004 I)],[(1000,.cells [] [.own 1001 a_,.own 1002 IS,.own 1003 IS,.int .i64]),(1001,.row true a_),(1002,.row true IS),(1003,.row true IS),(1004,.row true I)],[3,4,5,8],[]⟩)] [] (ai (sc.ok n) (ai (mz.ok n) (ai (gQ.ok n) (ai (xP.ok n) aC)))) (dI (qz.ok n) aD) func76
def xS.f (n:Nat) (a0:ak) (a1:State) (a2:List Int) (a3:Int):Option (State×List Int×Int×Unit):=(so.f n a0 a1 a2).bind fun r1=>br (!r1.1) (some (([],[],[],0),[],0,())) ((cX.f n a2).bind fun r2=>(qA.f n a0 a1 r2.1 (ag (a3-(ag (a1.2.2.2-a1.2.2.2))))).bind fun r3=>(ue.f n a0 r3.1 r2.1).bind fun r4=>cut (br (!decide (r3.2.1=2)) (some (.inr (true,()))) (some (.inr (!r4.2.2.1,())))) fun y5=>br y5.1 (some (r3.1,r2.1,r3.2.1,())) (iter n (fun G8 iD=>(qA.f n a0 (iD.2.1,iD.2.2.1,iD.2.2.2.1,iD.1) iD.2.2.2.2.1 (ag (a3-(ag (iD.1-a1.2.2.2))))).bind fun cE=>(ue.f n a0 cE.1 iD.2.2.2.2.1).bind fun eA=>cut (br (!decide (cE.2.1=2)) (some (.inr (true,()))) (some (.inr (!eA.2.2.1,())))) fun xT=>br xT.1 (some (cE.1,iD.2.2.2.2.1,cE.2.1,())) (G8 (cE.1.2.2.2,cE.1.1,cE.1.2.1,cE.1.2.2.1,eA.1,()))) (r3.1.2.2.2,r3.1.1,r3.1.2.1,r3.1.2.2.1,r4.1,())))
def xS.ae (n:Nat):ar:=⟨[.val bZ,.val dk,.val IS,.val I],[.val dk,.val IS,.val I],fun x=>xS.f n x.1 x.2.1 x.2.2.1 x.2.2.2.1⟩
theorem xS.ok (n:Nat):aH 171 (xS.ae n):=aJ n [(6,⟨[(5,.bt 1000 0),(12,.own 1004 I)],[(1000,.cells [] [.own 1001 a_,.own 1002 IS,.own 1003 IS,.int .i64]),(1001,.row true a_),(1002,.row true IS),(1003,.row true IS),(1004,.row true I)],[3,4,8,11],[]⟩),(11,⟨[(55,.bool)],[],[3,4,5,8,11,12,14,15],[]⟩),(1000006,⟨[],[],[],[]⟩),(2000011,⟨[(55,.bool)],[],[3,4,5,8,11,12,14,15],[]⟩)] [] (ai (so.ok n) (ai ⟨cX.sound n,cX.av⟩ (ai (qA.ok n) (ai (ue.ok n) aC)))) aD func171
end Go.AmT
namespace Go.AmT
variable {nt:ak} {t s:State} {most:Int} {caps:List Int} {n:Nat}
def clip (most:Int):Int:=max 0 (min most 20000)
theorem afd {c:Option (List Int)} {d:Int} (o:bU nt t) (hd:0≤d) (pJ:d≤t.2.2.2) (Lr:most<0→d=0):runT nt c (most-d) t=runT nt c (clip most-d) t:=by
 unfold runT oi;have hG:Good (ub nt c) (eY nt) (most-d) nt.1.length (fun x=>JS nt x∧x.2.2.2.2=t.2.2.2+x.1) xN:=by
  rintro ⟨m,s⟩ k ⟨hx,he⟩ hk hm hg;have:=Ek (most:=most-d) (fun _ _=>Cf) (m,s) k hx hk hm hg;refine ⟨⟨this.1,?_⟩,this.2⟩;have he:s.2.2.2=t.2.2.2+m:=he;show s.2.2.2+1=t.2.2.2+(m+1)
  omega
 rw [Wh (m2:=clip most-d) hG ?_ 20001 (x:=(0,t)) ⟨⟨o,G7 _,o.steps.1⟩,by grind⟩];rintro ⟨m,s⟩ ⟨hx,he⟩;have hle:=hx.le;have he:s.2.2.2=t.2.2.2+m:=he;simp only at hle ⊢;unfold clip;by_cases h:s.2.2.2<20000
 ·omega
 refine .inr (fun k hk=>?_);cases hm:ub nt c s k
 ·rfl
 exact absurd (xM (Cf hm)).2.1 h
theorem afe {d:Int} (o:bU nt t) (hd:0≤d) (pJ:d≤t.2.2.2) (Lr:most<0→d=0):pt nt t caps (most-d)=pt nt t caps (clip most-d):=by unfold pt;rw [afd o hd pJ Lr]
def room (caps:List Int):Nat:=(caps.map fun c=>(400-c).toNat).sum
theorem WE:∀ {caps:List Int} {b:Nat} (hb:b<caps.length),caps[b]<400→room (caps.set b (caps[b]+1))<room caps
 | c::l,0,_,h=>by
  have h:c<400:=h
  show (400-(c+1)).toNat+room l<(400-c).toNat+room l
  omega
 | c::l,b+1,hb,h=>by
  have dh:b<l.length:=by simpa using hb
  have:=WE (caps:=l) (b:=b) (by simpa using hb) (by simpa using h)
  show (400-c).toNat+room (l.set b (l[b]+1))<(400-c).toNat+room l
  omega
theorem room_le:∀ {caps:List Int},(∀ c∈caps,0≤c)→room caps≤400*caps.length
 | [],_=>Nat.le_refl _
 | c::l,h=>by
  have h1:=h c (by simp)
  have:=room_le (caps:=l) (fun x hx=>h x (by simp [hx]))
  show (400-c).toNat+room l≤400*(l.length+1)
  omega
theorem WG {nt:ak} {caps:List Int} (o:cQ nt) (h:eQ nt.2 caps=true):room caps≤12000:=by
 have hl:=rv h
 have hL:=o.dp
 have:=room_le (caps:=caps) (fun c hc=>by
  obtain ⟨i,hi,rfl⟩:=List.mem_iff_getElem.1 hc
  have:=Ci h (show i<nt.2.length by omega)
  unfold dW at this
  rw [aU hi] at this
  omega)
 omega
theorem aff {ls:List aK} (hl:caps.length=ls.length) (h:∀ j,j<ls.length→((ls.getD j ay).2.2.2.2.length:Int)≤dW caps j∧dW caps j≤400):eQ ls caps=true:=by unfold eQ;simp only [aB,decide_eq_true_eq,List.all_eq_true,List.mem_range];exact ⟨hl,fun j hj=>h j (by omega)⟩
theorem afg {b j:Nat} {x:Int} (hb:b<caps.length):dW (caps.set b x) j=if j=b then x else dW caps j:=by
 unfold dW
 grind
theorem afh (o:bU nt s) (hc:eQ nt.2 caps=true) (h:(lV nt s caps).2.2=true):∃ b:Nat,b<nt.2.length∧El nt s caps=(b:Int)∧dW caps b<400∧(lV nt s caps).1=caps.set b (dW caps b+1)∧eQ nt.2 (lV nt s caps).1=true∧room (lV nt s caps).1<room caps:=by
 have hl:=rv hc;unfold lV Kt at h ⊢;split at h
 ·cases h
 rename_i hn;rw [if_neg hn];have B:=Pt (caps:=caps) o;have aF:=Ks o (Nat.le_refl _) B (by omega);obtain ⟨b,hb⟩:∃ b:Nat,El nt s caps=(b:Int):=⟨(El nt s caps).toNat,by omega⟩
 rw [hb] at hn aF ⊢;rw [az] at hn ⊢;have rS:b<nt.2.length:=by omega
 have fF:=Ci hc rS;have h4:dW caps b<400:=by omega
 refine ⟨b,rS,rfl,h4,rfl,aff (by grind) (fun j hj=>?_),?_⟩
 ·rw [afg (by omega)];have:=Ci hc hj
  grind
 have eK:b<caps.length:=by omega
 have e:dW caps b=caps[b]:=by unfold dW; rw [aU eK]
 rw [e] at h4 ⊢;exact WE eK h4
abbrev Pk:Type:=State×List Int
def gW (nt:ak) (s0 M:Int) (x:Pk):State×Int:=pt nt x.1 x.2 (M-(x.1.2.2.2-s0))
def lv (nt:ak) (s0 M:Int) (x:Pk):Bool:=decide ((gW nt s0 M x).2=2)&&(lV nt (gW nt s0 M x).1 x.2).2.2
def iZ (nt:ak) (s0 M:Int) (x:Pk):Pk:=((gW nt s0 M x).1,(lV nt (gW nt s0 M x).1 x.2).1)
structure z7 (nt:ak) (s0 most:Int) (x:Pk):Prop where
 ok:bU nt x.1
 cap:eQ nt.2 x.2=true
 le:s0≤x.1.2.2.2
 neg:most≤0→x.1.2.2.2=s0
theorem afi {c:Option (List Int)} (o:bU nt t):t.2.2.2≤(runT nt c most t).2.2.2∧(most≤0→runT nt c most t=t):=by
 constructor
 ·have hG:Good (ub nt c) (eY nt) most nt.1.length (fun x=>JS nt x∧x.2.2.2.2=t.2.2.2+x.1) xN:=by
   rintro ⟨m,s⟩ k ⟨hx,he⟩ hk hm hg;have:=Ek (most:=most) (fun _ _=>Cf) (m,s) k hx hk hm hg;refine ⟨⟨this.1,?_⟩,this.2⟩;have he:s.2.2.2=t.2.2.2+m:=he;show s.2.2.2+1=t.2.2.2+(m+1)
   omega
  have:=We hG (x:=(0,t)) ⟨⟨o,G7 _,o.steps.1⟩,by show t.2.2.2=t.2.2.2+0; omega⟩;obtain ⟨hJ,he⟩:=this;have:=hJ.2.1;unfold runT;omega
 intro h;unfold runT;rw [Kl];rintro ⟨-,h2⟩;have h2:(0:Int)<most:=h2;omega
theorem G9 {nt:ak} {s0 most:Int} (x:Pk) (hx:z7 nt s0 most x) (h:lv nt s0 (clip most) x=true):z7 nt s0 most (iZ nt s0 (clip most) x)∧room (iZ nt s0 (clip most) x).2<room x.2:=by
 unfold lv at h
 rw [aB] at h
 have o1:bU nt (gW nt s0 (clip most) x).1:=Ep hx.ok
 obtain ⟨b,-,-,-,-,h1,h2⟩:=afh o1 hx.cap h.2
 have hs:=afi (c:=some x.2) (most:=clip most-(x.1.2.2.2-s0)) hx.ok
 refine ⟨⟨o1,h1,?_,fun hm=>?_⟩,h2⟩
 ·have:=hx.le
  show s0≤(runT nt (some x.2) (clip most-(x.1.2.2.2-s0)) x.1).2.2.2
  omega
 ·have e:=hx.neg hm
  show (runT nt (some x.2) (clip most-(x.1.2.2.2-s0)) x.1).2.2.2=s0
  rw [hs.2 (by unfold clip; omega)]; exact e
noncomputable def lx (nt:ak) (s:State) (caps:List Int) (most:Int):State×List Int×Int:=
 if gk nt s&&eQ nt.2 caps then
  ((gW nt s.2.2.2 (clip most) (lT (lv nt s.2.2.2 (clip most)) (iZ nt s.2.2.2 (clip most)) 12001 (s,caps))).1,(lT (lv nt s.2.2.2 (clip most)) (iZ nt s.2.2.2 (clip most)) 12001 (s,caps)).2,(gW nt s.2.2.2 (clip most) (lT (lv nt s.2.2.2 (clip most)) (iZ nt s.2.2.2 (clip most)) 12001 (s,caps))).2)
 else (([],[],[],0),[],0)
theorem Pv (o:bU nt s) (hc:eQ nt.2 caps=true):z7 nt s.2.2.2 most (s,caps):=⟨o,hc,G7 _,fun _=>rfl⟩
theorem afj (o:bU nt s) (hc:eQ nt.2 caps=true) (m:Nat):z7 nt s.2.2.2 most (lT (lv nt s.2.2.2 (clip most)) (iZ nt s.2.2.2 (clip most)) m (s,caps)):=
 Wi (fun x hx h=>(G9 x hx h).1) m _ (Pv o hc)
theorem afk (h:cL nt) (hs:gP s) (hc:caps.length≤1048576) (hn:1048576<n) :
  z_.f n nt s caps most=some ((lx nt s caps most).1,(lx nt s caps most).2.1,(lx nt s caps most).2.2,()):=by
 unfold z_.f lx;rw [Kb h hs hc hn];cases e:gk nt s&&eQ nt.2 caps
 ·rfl
 rw [aB] at e;have o:=ru e.1;have hr:=WG o.cb e.2;simp only [aA,bo,aw,if_true];rw [Cg hs hn,xK hc];simp only [aA];refine Pl (c:=lv nt s.2.2.2 (clip most)) (f:=iZ nt s.2.2.2 (clip most)) (J:=z7 nt s.2.2.2 most) (μ:=fun x=>room x.2) G9 (fun x=>(x.1.2.2.2,x.1.1,x.1.2.1,x.1.2.2.1,x.2,()))
  (G:=fun x=>some ((gW nt s.2.2.2 (clip most) x).1,x.2,(gW nt s.2.2.2 (clip most) x).2,())) (fun ih x hx=>?_) (x:=(s,caps)) (Pv o e.2) (by grind) (by grind)
 obtain ⟨t,c⟩:=x;have ot:bU nt t:=hx.ok;have fx:c.length=nt.2.length:=rv hx.cap;have hle:s.2.2.2≤t.2.2.2:=hx.le;have s1:=o.steps;have s2:=ot.steps;have hw:ag (ag (s.2.2.2+max 0 (min most 20000))-t.2.2.2)=clip most-(t.2.2.2-s.2.2.2):=by unfold clip;rw [bM (n:=s.2.2.2+_) (by omega) (by omega),bM (by omega) (by omega)]; omega
 simp only [hw];rw [WC ot fx hn];simp only [aA];have eR:pt nt t c (clip most-(t.2.2.2-s.2.2.2))=gW nt s.2.2.2 (clip most) (t,c):=rfl;rw [eR];generalize hR:gW nt s.2.2.2 (clip most) (t,c)=R;have oR:bU nt R.1:=by rw [← hR]; exact Ep ot
 unfold lv iZ;rw [hR];by_cases h2:R.2=2
 ·rw [decide_eq_true h2,bo,aw];have Pw:xP.f n nt (R.1.1,R.1.2.1,R.1.2.2.1,R.1.2.2.2) c=some ((lV nt R.1 c).1,(lV nt R.1 c).2.1,(lV nt R.1 c).2.2,()):=ae6 oR hx.cap hn;rw [Pw];simp only [aA,Bool.true_and];cases (lV nt R.1 c).2.2
  ·rw [gT,ax,if_neg (by simp)]
  rw [bo,aw,if_pos rfl]
 rw [decide_eq_false h2,gT,ax,Bool.false_and,if_neg (by simp)]
theorem afl {s0 M:Int} {x:Pk} (o:bU nt x.1) (hc:eQ nt.2 x.2=true) (h:(gW nt s0 M x).2=2):xQ nt (gW nt s0 M x).1 x.2=true:=by
 have o1:bU nt (gW nt s0 M x).1:=Ep o;have h:vG nt (gW nt s0 M x).1 x.2=2:=h;unfold xQ;rw [show gk nt (gW nt s0 M x).1=true from decide_eq_true o1,hc];unfold vG at h
 grind
theorem WH {s0:Int} {x:Pk} (h:cL nt) (hx:z7 nt s0 most x) (h0:0≤s0) (hn:1048576<n) (vH : -9223372036854775808≤most) (mo:most≤9223372036854775807) {ρ:Type} {G:State→Int→Option ρ} {H:State→List Int→Option ρ} {st:State} (dK:st=x.1) :
  ((qA.f n nt st x.2 (ag (most-ag (x.1.2.2.2-s0)))).bind fun cE=>(ue.f n nt cE.1 x.2).bind fun eA=>cut (α:=(Bool×Unit)) (br (!decide (cE.2.1=2)) (some (.inr (true,()))) (some (.inr (!eA.2.2.1,())))) fun xT=>br xT.1 (G cE.1 cE.2.1) (H cE.1 eA.1)) =
   if lv nt s0 (clip most) x=true then H (iZ nt s0 (clip most) x).1 (iZ nt s0 (clip most) x).2 else G (gW nt s0 (clip most) x).1 (gW nt s0 (clip most) x).2:=by
 subst dK;obtain ⟨t,c⟩:=x;have ot:bU nt t:=hx.ok;have fx:c.length=nt.2.length:=rv hx.cap;have hL:=ot.cb.dp;have hle:s0≤t.2.2.2:=hx.le;have Lr:most≤0→t.2.2.2=s0:=hx.neg;have s2:=ot.steps;have hw:ag (most-ag (t.2.2.2-s0))=most-(t.2.2.2-s0):=by rw [bM (n:=t.2.2.2-s0) (by omega) (by omega),bM (by omega) (by omega)]
 simp only [hw];rw [WD h (my ot) (by omega) hn];have eR:mA nt t c (most-(t.2.2.2-s0))=gW nt s0 (clip most) (t,c):=by unfold mA;rw [show gk nt t=true from decide_eq_true ot,show eQ nt.2 c=true from hx.cap];exact afe ot (by omega) (by omega) (fun hh=>by omega)
 rw [eR];have afm:=afl (x:=(t,c)) (s0:=s0) (M:=clip most) ot (show eQ nt.2 c=true from hx.cap);have oR:bU nt (gW nt s0 (clip most) (t,c)).1:=Ep ot;simp only [aA];rw [ae9 h (my oR) (by omega) hn];simp only [aA];unfold lv iZ;generalize hR:gW nt s0 (clip most) (t,c)=R at *;by_cases h2:R.2=2
 ·have hj:xQ nt R.1 c=true:=afm h2;have Pw:Em nt R.1 c=lV nt R.1 c:=by unfold Em; rw [hj]; rfl
  rw [Pw,decide_eq_true h2,bo,aw,bg];simp only [Bool.true_and];cases (lV nt R.1 c).2.2
  ·rw [gT,ax,if_neg (by simp)]
  rw [bo,aw,if_pos rfl]
 rw [decide_eq_false h2,gT,ax,bg,ax,Bool.false_and,if_neg (by simp)]
theorem WI {α:Type} {c:α→Bool} {f:α→α} {J:α→Prop} {μ:α→Nat} (hJ:∀ x,J x→c x=true→J (f x)∧μ (f x)<μ x):∀ (m:Nat) (x:α),J x→μ x<m→lT c f (m+1) x=lT c f m x
 | 0,x,_,h=>absurd h (Nat.not_lt_zero _)
 | m+1,x,hx,h=>by
  show (if c x=true then lT c f (m+1) (f x) else x)=(if c x=true then lT c f m (f x) else x)
  split
  ·rename_i hc;have:=hJ x hx hc;exact WI hJ m _ this.1 (by omega)
  rfl
theorem afn (h:cL nt) (hs:gP s) (hc:caps.length≤1048576) (hn:1048576<n) (vH : -9223372036854775808≤most) (mo:most≤9223372036854775807) :
  xS.f n nt s caps most=some ((lx nt s caps most).1,(lx nt s caps most).2.1,(lx nt s caps most).2.2,()):=by
 unfold xS.f lx;rw [Pd h hs hc hn];cases e:gk nt s&&eQ nt.2 caps
 ·rfl
 rw [aB] at e;have o:=ru e.1;have hr:=WG o.cb e.2;simp only [aA,bo,aw,if_true];rw [xF hc];simp only [aA];have P0:=Pv (most:=most) o e.2;have key:∀ (F:(Int×List aY×List (List Int)×List (List Int)×List Int×Unit→Option (State×List Int×Int×Unit))→Int×List aY×List (List Int)×List (List Int)×List Int×Unit→Option (State×List Int×Int×Unit)),
   (∀ ih x,z7 nt s.2.2.2 most x→F ih (x.1.2.2.2,x.1.1,x.1.2.1,x.1.2.2.1,x.2,())=if lv nt s.2.2.2 (clip most) x=true then ih ((iZ nt s.2.2.2 (clip most) x).1.2.2.2,(iZ nt s.2.2.2 (clip most) x).1.1,(iZ nt s.2.2.2 (clip most) x).1.2.1,(iZ nt s.2.2.2 (clip most) x).1.2.2.1,(iZ nt s.2.2.2 (clip most) x).2,()) else some ((gW nt s.2.2.2 (clip most) x).1,x.2,(gW nt s.2.2.2 (clip most) x).2,()))→
   ((qA.f n nt s caps (ag (most-ag (s.2.2.2-s.2.2.2)))).bind fun r3=>(ue.f n nt r3.1 caps).bind fun r4=>cut (α:=(Bool×Unit)) (br (!decide (r3.2.1=2)) (some (.inr (true,()))) (some (.inr (!r4.2.2.1,())))) fun y5=>br y5.1 (some (r3.1,caps,r3.2.1,())) (iter n F (r3.1.2.2.2,r3.1.1,r3.1.2.1,r3.1.2.2.1,r4.1,()))) =
   some ((gW nt s.2.2.2 (clip most) (lT (lv nt s.2.2.2 (clip most)) (iZ nt s.2.2.2 (clip most)) 12001 (s,caps))).1,(lT (lv nt s.2.2.2 (clip most)) (iZ nt s.2.2.2 (clip most)) 12001 (s,caps)).2,(gW nt s.2.2.2 (clip most) (lT (lv nt s.2.2.2 (clip most)) (iZ nt s.2.2.2 (clip most)) 12001 (s,caps))).2,()):=by
  intro F hF;refine (WH (x:=(s,caps)) h P0 o.steps.1 hn vH mo (G:=fun t w=>some (t,caps,w,())) (H:=fun t cc=>iter n F (t.2.2.2,t.1,t.2.1,t.2.2.1,cc,())) rfl).trans ?_;rw [← WI (μ:=fun x:Pk=>room x.2) G9 12001 (s,caps) P0 (by grind)];have e1:lT (lv nt s.2.2.2 (clip most)) (iZ nt s.2.2.2 (clip most)) (12001+1) (s,caps)=if lv nt s.2.2.2 (clip most) (s,caps)=true then lT (lv nt s.2.2.2 (clip most)) (iZ nt s.2.2.2 (clip most)) 12001 (iZ nt s.2.2.2 (clip most) (s,caps)) else (s,caps):=rfl
  rw [e1];cases hC:lv nt s.2.2.2 (clip most) (s,caps)
  ·rfl
  simp only [if_true];obtain ⟨P1,aF⟩:=G9 _ P0 hC;have aF:room (iZ nt s.2.2.2 (clip most) (s,caps)).2<room caps:=aF;exact Pl (c:=lv nt s.2.2.2 (clip most)) (f:=iZ nt s.2.2.2 (clip most)) (J:=z7 nt s.2.2.2 most) (μ:=fun x=>room x.2) G9 (fun x=>(x.1.2.2.2,x.1.1,x.1.2.1,x.1.2.2.1,x.2,()))
   (G:=fun x=>some ((gW nt s.2.2.2 (clip most) x).1,x.2,(gW nt s.2.2.2 (clip most) x).2,())) hF (x:=iZ nt s.2.2.2 (clip most) (s,caps)) P1 (by omega) (by omega)
 exact key _ (fun ih x hx=>WH (x:=x) h hx o.steps.1 hn vH mo (G:=fun t w=>some (t,x.2,w,())) (H:=fun t cc=>ih (t.2.2.2,t.1,t.2.1,t.2.2.1,cc,())) rfl)
end Go.AmT
namespace Go.AmT
open Go.Proofs Go.Proofs.Tryz
def z8.f (n:Nat) (a0:ak) (a1:State) (a2:Int):Option (State×Bool×Unit):=(od.f n a0 a1).bind fun r1=>br (!r1.1) (some (([],[],[],0),false,())) ((mz.f n a1).bind fun r2=>iter n (fun afo mB=>cut ((ry.f n a0 (mB.2.2.1,mB.2.2.2.1,mB.2.2.2.2.1,mB.2.1)).bind fun r59=>br (decide (0≤r59.1)) (some (.inr (decide (mB.1<a2),()))) (some (.inr (false,())))) fun y58=>br y58.1 (iter n (fun WJ jw=>cut (br (decide (jw.2.1<(a0.1.length:Int))) (some (.inr (decide (jw.1<a2),()))) (some (.inr (false,())))) fun D6=>br D6.1 ((kx.f n a0 (jw.2.2.2.1,jw.2.2.2.2.1,jw.2.2.2.2.2.1,jw.2.2.1) jw.2.1).bind fun O1=>br O1.1 ((lp.f n a0.1 a0.2 jw.2.2.1 jw.2.1 jw.2.2.2.1 jw.2.2.2.2.1 jw.2.2.2.2.2.1).bind fun En=>WJ (ag (jw.1+1),ag (jw.2.1+1),En.1,En.2.1,En.2.2.1,En.2.2.2.1,())) (WJ (jw.1,ag (jw.2.1+1),jw.2.2.1,jw.2.2.2.1,jw.2.2.2.2.1,jw.2.2.2.2.2.1,()))) (afo (jw.1,jw.2.2.1,jw.2.2.2.1,jw.2.2.2.2.1,jw.2.2.2.2.2.1,()))) (mB.1,0,mB.2.1,mB.2.2.1,mB.2.2.2.1,mB.2.2.2.2.1,())) ((ry.f n a0 (mB.2.2.1,mB.2.2.2.1,mB.2.2.2.2.1,mB.2.1)).bind fun Eo=>some ((mB.2.2.1,mB.2.2.2.1,mB.2.2.2.2.1,mB.2.1),decide (Eo.1<0),()))) (0,r2.1.2.2.2,r2.1.1,r2.1.2.1,r2.1.2.2.1,()))
def z8.ae (n:Nat):ar:=⟨[.val bZ,.val dk,.val I],[.sh dk,.val .bool],fun x=>z8.f n x.1 x.2.1 x.2.2.1⟩
theorem z8.ok (n:Nat):aH 74 (z8.ae n):=aJ n [(7,⟨[(8,.bt 1000 0),(9,.int .i64)],[(1000,.cells [] [.own 1001 a_,.own 1002 IS,.own 1003 IS,.int .i64]),(1001,.row true a_),(1002,.row true IS),(1003,.row true IS)],[2,3,6],[]⟩),(8,⟨[(26,.bool)],[],[2,3,6,8,9],[]⟩),(13,⟨[(8,.bt 1000 0),(9,.int .i64),(10,.int .i64)],[(1000,.cells [] [.own 1001 a_,.own 1002 IS,.own 1003 IS,.int .i64]),(1001,.row true a_),(1002,.row true IS),(1003,.row true IS)],[2,3,6],[]⟩),(14,⟨[(36,.bool)],[],[2,3,6,8,9,10],[]⟩)] [] (ai (od.ok n) (ai (mz.ok n) (ai (ry.ok n) (ai (kx.ok n) aC)))) (dI (lp.ok n) aD) func74
def xU.f (n:Nat) (a0:ak) (a1:State) (a2:Int):Option (State×Bool×Unit):=(mq.f n a0 a1).bind fun r1=>br (!r1.1) (some (([],[],[],0),false,())) ((ku.f n a0.1 a0.2 a1.1 a1.2.1 a1.2.2.1 a1.2.2.2 (none:Option (List Int))).bind fun r2=>(turns.f n a2 r2.1 r2.2.1 r2.2.2.1 r2.2.2.2.1 r2.2.2.2.2.1 r2.2.2.2.2.2.1 r2.2.2.2.2.2.2.1 r2.2.2.2.2.2.2.2.1 r2.2.2.2.2.2.2.2.2.1).bind fun r3=>(quiet.f n ((r3.1,r3.2.1),(r3.2.2.2.2.1,r3.2.2.2.2.2.1,r3.2.2.2.2.2.2.1,r3.2.2.1),r3.2.2.2.2.2.2.2.1,r3.2.2.2.2.2.2.2.2.1,r3.2.2.2.1)).bind fun r4=>some ((r3.2.2.2.2.1,r3.2.2.2.2.2.1,r3.2.2.2.2.2.2.1,r3.2.2.1),r4.1,()))
def xU.ae (n:Nat):ar:=⟨[.val bZ,.val dk,.val I],[.val dk,.val .bool],fun x=>xU.f n x.1 x.2.1 x.2.2.1⟩
theorem xU.ok (n:Nat):aH 168 (xU.ae n):=aJ n [] [] (ai (mq.ok n) (ai (quiet.ok n) aC)) (dI (ku.ok n) (dI (turns.ok n) aD)) func168
end Go.AmT
namespace Go.AmT
noncomputable def pN (nt:ak) (s:State) (most:Int):State×Bool:=if gk nt s=true then (runT nt none most s,!kF nt (runT nt none most s)) else (([],[],[],0),false)
theorem afp {n:Nat} {nt:ak} {s:State} {most:Int} (h:cL nt) (hs:gP s) (hn:1048576<n):xU.f n nt s most=some ((pN nt s most).1,(pN nt s most).2,()):=by
 unfold xU.f pN;rw [B8 h hs hn];cases e1:gk nt s
 ·rfl
 have o:=ru e1;simp only [aA,bo,aw,if_true];refine eM.1 (dt.2 (bA (Ed (caps:=none) o.cb hs hn) (fun r ⟨to,fr,e,T,F⟩=>eM.2 ?_)));subst e;have R:kQ nt s (nt,s,to,fr,none):=⟨rfl,rfl,T,F⟩
 simp only;rw [Wl (most:=most) R o (fun _ h=>by cases h) hn];simp only [aA];have hq:quiet.f n ((nt.1,nt.2),((runT nt none most s).1,(runT nt none most s).2.1,(runT nt none most s).2.2.1,(runT nt none most s).2.2.2),to,fr,none)=some (!kF nt (runT nt none most s),()):=Pq (kQ.step R) (Kn o) hn
 grind
theorem afq {n:Nat} {nt:ak} {s:State} {most:Int} (h:cL nt) (hs:gP s) (hn:1048576<n):z8.f n nt s most=some ((pN nt s most).1,(pN nt s most).2,()):=by
 unfold z8.f pN;rw [D9 h hs hn];cases e1:gk nt s
 ·rfl
 have o:=ru e1;have hp:=o.cb.dZ;simp only [aA,bo,aw,if_true];rw [Cg hs hn];simp only [aA];refine Wg (g:=dw nt) (st:=eY nt) (most:=most) (K:=nt.1.length) (J:=JS nt) (μ:=xN) aeV (fun _=>Pm)
  (fun made s=>(made,s.2.2.2,s.1,s.2.1,s.2.2.1,())) (fun made k s=>(made,(k:Int),s.2.2.2,s.1,s.2.1,s.2.2.1,()))
  (G:=fun _ s=>some (s,!kF nt s,())) (fun ih made s h=>?_) (by omega) (by omega) (x:=(0,s)) ⟨o,G7 _,o.steps.1⟩
 refine ⟨_,(ae0 (s:=s) (made:=made) (most:=most) h.1 hn _ _).trans (Wu (Wv (s:=s) h.1 hn (fun b=>some (s,b,())))),fun ij made k s h hk hm=>?_,fun ij made k s h hk hm=>?_⟩
 ·have c1:(k:Int)<(nt.1.length:Int):=by omega
  have hc:kx.f n nt (s.1,s.2.1,s.2.2.1,s.2.2.2) (k:Int)=some (dw nt s k,()):=Cb h.1 hk hn;have hle:=h.le;simp only [aM c1,bg,decide_eq_true hm,ax,hc,aA];cases hg:dw nt s k
  ·simp only [aw,fM,if_false];rw [ba (by omega)]
  simp only [ax,if_true];rw [Kj h.1 (my h.1) hk hg hn];simp only [aA];rw [ba (by omega),bM (n:=made+1) (by omega) (by omega)]
 by_cases c1:(k:Int)<(nt.1.length:Int)
 ·have hm:¬ made<most:=fun h=>hm ⟨by omega,h⟩;simp only [aM c1,bg,decide_eq_false hm,aw]
 simp only [au c1,bg,aw]
end Go.AmT
namespace Go.AmT
open Go.Proofs Go.Proofs.Tryz
def vI.f (n:Nat) (a0:ak) (a1:Int):Option (List Int×Unit):=cut ((eO.f n a0).bind fun r4=>br (!r4.1) (some (.inr (true,()))) ((ch.f n a1 0 400).bind fun r5=>some (.inr (!r5.1,())))) fun y3=>br y3.1 (some ([],())) (iter n (fun Px ly=>br (decide (ly.1<(a0.2.length:Int))) (ab (0≤ly.1∧ly.1<(a0.2.length:Int)) (let tX:=(a0.2.getD ly.1.toNat ay); ab ((ly.2.1.length+([(max a1 (tX.2.2.2.2.length:Int))]:List Int).length)*8≤bn) (Px (ag (ly.1+1),ly.2.1++[(max a1 (tX.2.2.2.2.length:Int))],())))) (some (ly.2.1,()))) (0,[],()))
def vI.ae (n:Nat):ar:=⟨[.val bZ,.val I],[.sh IS],fun x=>vI.f n x.1 x.2.1⟩
theorem vI.ok (n:Nat):aH 77 (vI.ae n):=aJ n [(1,⟨[(15,.bool)],[],[1,2],[]⟩),(7,⟨[(5,.own 1000 I),(20,.int .i64)],[(1000,.row true I)],[1,18,19],[]⟩)] [] (ai ⟨eO.sound n,eO.av⟩ (ai ⟨ch.sound n,ch.av⟩ aC)) aD func77
def uf.f (n:Nat) (a0:ak) (a1:Int):Option (List Int×Unit):=cut ((dS.f n a0).bind fun r3=>br (!r3.1) (some (.inr (true,()))) (br (decide (a1<0)) (some (.inr (true,()))) (some (.inr (decide (400<a1),()))))) fun y2=>br y2.1 (some ([],())) (iter n (fun oc x9=>br (decide (x9.1<(a0.2.length:Int))) (ab (0≤x9.1∧x9.1<(a0.2.length:Int)) (let v11:=(a0.2.getD x9.1.toNat ay); ab ((x9.2.1.length+([(max a1 (v11.2.2.2.2.length:Int))]:List Int).length)*8≤bn) (oc (ag (x9.1+1),x9.2.1++[(max a1 (v11.2.2.2.2.length:Int))],())))) (some (x9.2.1,()))) (0,[],()))
def uf.ae (n:Nat):ar:=⟨[.val bZ,.val I],[.val IS],fun x=>uf.f n x.1 x.2.1⟩
theorem uf.ok (n:Nat):aH 152 (uf.ae n):=aJ n [(1,⟨[(18,.bool)],[],[1,2],[]⟩),(7,⟨[(5,.own 1000 I),(23,.int .i64)],[(1000,.row true I)],[1,21,22],[]⟩)] [] (ai ⟨dS.sound n,dS.av⟩ aC) aD func152
end Go.AmT
namespace Go.AmT
theorem WK {α β ρ:Type} (l:List α) (g:α→β) {F:(Int×List β×Unit→Option ρ)→Int×List β×Unit→Option ρ} {R:List β→Option ρ}
  (h1:∀ ih i (hi:i<l.length) (s:List β),s.length=i→F ih ((i:Int),s,())=ih (((i+1:Nat):Int),s++[g l[i]],()))
  (h2:∀ ih s,F ih ((l.length:Int),s,())=R s) {n:Nat} (hn:l.length<n):iter n F (0,[],())=R (l.map g):=by
 have:=mu (F:=F) (fun i=>((i:Int),(l.take i).map g,())) l.length (R:=R (l.map g)) (fun ih i hi=>by
  show F ih ((i:Int),(l.take i).map g,())=_;rw [h1 ih i hi _ (by grind),List.take_succ_eq_append_getElem hi,List.map_append]; rfl) (fun ih=>by
  grind) hn
 grind
noncomputable def vJ (nt:ak) (c:Int):List Int:=if (cr nt&&decide (0≤c∧c≤400))=true then nt.2.map fun l=>max c (l.2.2.2.2.length:Int) else []
theorem WL {n:Nat} {nt:ak} {c:Int} (h:cL nt) (hn:1048576<n):vI.f n nt c=some (vJ nt c,()):=by
 have hl:=h.dp;unfold vI.f vJ;rw [sb h hn,n_];simp only [aA];have e:cut (α:=(Bool×Unit)) (ρ:=List Int×Unit) (br (!cr nt) (some (.inr (true,()))) (some (.inr (!(decide (0≤c)&&decide (c≤400)),()))))=fun f=>f (!(cr nt&&decide (0≤c∧c≤400)),()):=by funext f;by_cases a:0≤c<;>by_cases b:c≤400<;>cases cr nt<;>simp [a,b,br,cut]
 rw [e];simp only;cases hb:(cr nt&&decide (0≤c∧c≤400))
 ·rfl
 simp only [bo,aw,if_true];refine WK nt.2 (fun l=>max c (l.2.2.2.2.length:Int)) (R:=fun s=>some (s,())) (fun ih i hi s hs=>?_) (fun ih s=>au (Int.lt_irrefl _)) (by omega);have c0:0≤(i:Int):=by omega
 have c1:(i:Int)<(nt.2.length:Int):=by omega
 have hm:=iR;have e1:nt.2.getD i ay=nt.2[i]:=aU hi _;simp only [c1,c0,and_self,iC,decide_true,ax,az,e1];rw [af (by grind),ba (by omega)]
theorem WM {n:Nat} {nt:ak} {c:Int} (h:cL nt) (hn:1048576<n):uf.f n nt c=some (vJ nt c,()):=by
 have hl:=h.dp;unfold uf.f vJ;rw [tW h hn];simp only [aA];have e:cut (α:=(Bool×Unit)) (ρ:=List Int×Unit) (br (!cr nt) (some (.inr (true,()))) (br (decide (c<0)) (some (.inr (true,()))) (some (.inr (decide (400<c),())))))=fun f=>f (!(cr nt&&decide (0≤c∧c≤400)),()):=by funext f;by_cases a:c<0<;>by_cases b:400<c<;>cases cr nt<;>simp [a,b,br,cut]<;>(congr 2; simp; omega)
 rw [e];simp only;cases hb:(cr nt&&decide (0≤c∧c≤400))
 ·rfl
 simp only [bo,aw,if_true];refine WK nt.2 (fun l=>max c (l.2.2.2.2.length:Int)) (R:=fun s=>some (s,())) (fun ih i hi s hs=>?_) (fun ih s=>au (Int.lt_irrefl _)) (by omega);have c0:0≤(i:Int):=by omega
 have c1:(i:Int)<(nt.2.length:Int):=by omega
 have e1:nt.2.getD i ay=nt.2[i]:=aU hi _;simp only [c1,c0,and_self,iC,decide_true,ax,az,e1];rw [af (by simp only [List.length_singleton]; simp only [bn]; omega),ba (by omega)]
end Go.AmT
