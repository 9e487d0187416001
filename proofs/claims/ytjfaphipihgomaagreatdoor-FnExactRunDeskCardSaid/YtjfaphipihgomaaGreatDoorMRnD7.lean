/- Runs with capacities, in plain Lean: both programs make the same. -/
import Derived.Test.YtjfaphipihgomaaGreatDoorMRnD6
open Go Go.Am
noncomputable section
set_option linter.unusedVariables false
set_option linter.unusedSimpArgs false
set_option maxRecDepth 100000
open Bool renaming and_eq_true → aw, false_eq_true → fF, not_false → iR, not_true → bf
open Int renaming le_refl → Ge, toNat_natCast → ay
open Option renaming bind_some → aC
namespace Go.AmT
variable {n:Nat} {nt:aq} {s:State} {caps:List Int} {most:Int}
def uW (nt:aq) (s:State) (caps:List Int):Int:=if kj nt s=true then (if mY nt s caps=true then 3 else 2) else 1
def oS (nt:aq) (s:State) (caps:List Int) (most:Int):State×Int:=(runT nt (some caps) most s,uW nt (runT nt (some caps) most s) caps)
theorem adL {made:Int} (o:bG nt s) (hc:caps.length=nt.2.length) (hn:1048576<n) {ρ:Type} (X Y:Option ρ) :
  cut (α:=Bool×Unit) ((rH.f n nt s caps).bind fun r=>br r.1 (some (.inr (decide (made<most),()))) (some (.inr (false,())))) (fun y=>br y.1 X Y)=if (List.range nt.1.length).any (tb nt (some caps) s)=true∧made<most then X else Y:=by
 rw [VA o hc hn];show _=if mY nt s caps=true∧made<most then _ else _
 simp only [aC];cases mY nt s caps
 ·simp only [ar,aY,fF,false_and,if_false]
 simp only [aB,aY,true_and,iF]
theorem VF (o:bG nt s) (hc:caps.length=nt.2.length) (hn:1048576<n) :
  pR.f n nt.1 nt.2 s.2.2.2 caps most s.1 s.2.1 s.2.2.1=some ((oS nt s caps most).1.2.2.2,(oS nt s caps most).2,(oS nt s caps most).1.1,(oS nt s caps most).1.2.1,(oS nt s caps most).1.2.2.1,()):=by
 have hp:=o.cf.eX;unfold pR.f oS runT;refine Vi (g:=tb nt (some caps)) (st:=cX nt) (most:=most) (K:=nt.1.length) (J:=JS nt) (μ:=wX) (Dv (fun _ _=>Bn)) (fun _=>Ot)
  (fun made s=>(made,s.2.2.2,s.1,s.2.1,s.2.2.1,())) (fun made k s=>(made,(k:Int),s.2.2.2,s.1,s.2.1,s.2.2.1,()))
  (G:=fun _ s=>some (s.2.2.2,uW nt s caps,s.1,s.2.1,s.2.2.1,())) (fun ih made s h=>?_) (by omega) (by omega) (x:=(0,s)) ⟨o,Ge _,o.steps.1⟩
 refine ⟨_,(adL (s:=s) (made:=made) (most:=most) h.1 hc hn _ _).trans (Vx ?_),fun gY made k s h hk hm=>?_,fun gY made k s h hk hm=>?_⟩
 ·have o:bG nt s:=h.1;have e1:rH.f n (nt.1,nt.2) (s.1,s.2.1,s.2.2.1,s.2.2.2) caps=some (mY nt s caps,()):=VA o hc hn;have e2:=Vy (n:=n) (s:=s) o hn (fun b=>br b (some (s.2.2.2,(1:Int),s.1,s.2.1,s.2.2.1,())) ((rH.f n (nt.1,nt.2) (s.1,s.2.1,s.2.2.1,s.2.2.2) caps).bind fun OB=>br (!OB.1) (some (s.2.2.2,2,s.1,s.2.1,s.2.2.1,())) (some (s.2.2.2,3,s.1,s.2.1,s.2.2.1,()))));refine e2.trans ?_;rw [e1];unfold uW;cases kj nt s
  ·rfl
  cases mY nt s caps<;>rfl
 ·have c1:(k:Int)<(nt.1.length:Int):=by omega
  have JE:s8.f n (nt.1,nt.2) (s.1,s.2.1,s.2.2.1,s.2.2.2) caps (k:Int)=some (mX nt s caps k,()):=Va h.1 hc hk hn;have hle:=h.le;simp only [aG c1,aY,decide_eq_true hm,aB,JE,aC];show _=if mX nt s caps k=true then _ else _
  cases hg:mX nt s caps k
  ·simp only [ar,fF,if_false];rw [a_ (by omega)]
  simp only [aB,if_true];rw [Jr h.1 (mg h.1) hk (Vm hg) hn];simp only [aC];rw [a_ (by omega),bP (n:=made+1) (by simp only at hle; omega) (by simp only at hle; omega)]
 by_cases c1:(k:Int)<(nt.1.length:Int)
 ·have hm:¬ made<most:=fun h=>hm ⟨by omega,h⟩;simp only [aG c1,aY,decide_eq_false hm,ar]
 simp only [av c1,aY,ar]
noncomputable def mi (nt:aq) (s:State) (caps:List Int) (most:Int):State×Int:=if ij nt s&&fi nt.2 caps then oS nt s caps most else (([],[],[],0),0)
theorem VG (h:dq nt) (hs:kf s) (hc:caps.length≤1048576) (hn:1048576<n):pS.f n nt s caps most=some ((mi nt s caps most).1,(mi nt s caps most).2,()):=by
 unfold pS.f mi;rw [Oh h hs hc hn];cases e:ij nt s&&fi nt.2 caps
 ·rfl
 rw [aw] at e;have o:=qF e.1;have eO:=qG e.2;simp only [aC,bf,ar,if_true];refine dZ.1 (c8.2 (bz (Oi o hs hc hn) (fun r ⟨R,e⟩=>dZ.2 ?_)));obtain ⟨r1,r2,r3,r4,r5,r6,r7,r8,r9,⟨⟩⟩:=r;have e:r4=some caps:=e;subst e;obtain ⟨e1,e2,T,F⟩:=R;have e1:(r1,r2)=nt:=e1;have e2:(r5,r6,r7,r3)=s:=e2;subst e1 e2;have R:kH (r1,r2) (r5,r6,r7,r3) ((r1,r2),(r5,r6,r7,r3),r8,r9,some caps):=⟨rfl,rfl,T,F⟩
 have ht:=Vn (n:=n) (most:=most) R o (fun c h=>by cases h; exact eO) hn;simp only at ht ⊢;rw [ht];unfold oS;generalize hr:runT (r1,r2) (some caps) most (r5,r6,r7,r3)=t;have ot:bG (r1,r2) t:=by rw [← hr]; exact Jw o
 have R':kH (r1,r2) t ((r1,r2),t,r8,r9,some caps):=R.step;have hq:quiet.f n ((r1,r2),(t.1,t.2.1,t.2.2.1,t.2.2.2),r8,r9,some caps)=some (!kj (r1,r2) t,()):=Ow R' ot hn;have hk:stuck.f n ((r1,r2),(t.1,t.2.1,t.2.2.1,t.2.2.2),r8,r9,some caps)=some (!mY (r1,r2) t caps,()):=VB R' ot eO rfl hn;simp only [aC];unfold Br.f;rw [hq,hk];unfold uW;cases kj (r1,r2) t
 ·rfl
 cases mY (r1,r2) t caps<;>rfl
theorem DD (o:bG nt s):bG nt (oS nt s caps most).1:=Jw o
end Go.AmT
namespace Go.AmT
open Go.Proofs Go.Proofs.Tryz
def yZ.f (n:Nat) (a0:aq) (a1:State) (a2:List Int) (a3:Int):Option (State×List Int×Int×Unit):=(rB.f n a0 a1 a2).bind fun r1=>br (!r1.1) (some (([],[],[],0),[],0,())) ((mh.f n a1).bind fun r2=>(gJ.f n a2).bind fun r3=>iter n (fun Gf ir=>(pR.f n a0.1 a0.2 ir.1 ir.2.2.2.2.1 (ah ((ah (a1.2.2.2+(max 0 (min a3 20000))))-ir.1)) ir.2.1 ir.2.2.1 ir.2.2.2.1).bind fun cV=>br (!decide (cV.2.1=2)) (some ((cV.2.2.1,cV.2.2.2.1,cV.2.2.2.2.1,cV.1),ir.2.2.2.2.1,cV.2.1,())) ((wZ.f n a0 (cV.2.2.1,cV.2.2.2.1,cV.2.2.2.2.1,cV.1) ir.2.2.2.2.1).bind fun gA=>br (!gA.2.2.1) (some ((cV.2.2.1,cV.2.2.2.1,cV.2.2.2.2.1,cV.1),ir.2.2.2.2.1,cV.2.1,())) (Gf (cV.1,cV.2.2.1,cV.2.2.2.1,cV.2.2.2.2.1,gA.1,())))) (r2.1.2.2.2,r2.1.1,r2.1.2.1,r2.1.2.2.1,r3.1,()))
def yZ.ae (n:Nat):au:=⟨[.val cd,.val dG,.val IS,.val I],[.sh dG,.sh IS,.val I],fun x=>yZ.f n x.1 x.2.1 x.2.2.1 x.2.2.2.1⟩
theorem yZ.ok (n:Nat):aP 76 (yZ.ae n):=aU n [(8,⟨[(11,.bn 1000 0),(12,.own 1004 I)],[(1000,.cells [] [.own 1001 bp,.own 1002 IS,.own 1003 IS,.int .i64]),(1001,.row true bp),(1002,.row true IS),(1003,.row true IS),(1004,.row true I)],[3,4,5,8],[]⟩)] [] (ai (rB.ok n) (ai (mh.ok n) (ai (gJ.ok n) (ai (wZ.ok n) aK)))) (eM (pR.ok n) aL) func76
def w4.f (n:Nat) (a0:aq) (a1:State) (a2:List Int) (a3:Int):Option (State×List Int×Int×Unit):=(rG.f n a0 a1 a2).bind fun r1=>br (!r1.1) (some (([],[],[],0),[],0,())) ((cR.f n a2).bind fun r2=>(pS.f n a0 a1 r2.1 (ah (a3-(ah (a1.2.2.2-a1.2.2.2))))).bind fun r3=>(td.f n a0 r3.1 r2.1).bind fun r4=>cut (br (!decide (r3.2.1=2)) (some (.inr (true,()))) (some (.inr (!r4.2.2.1,())))) fun y5=>br y5.1 (some (r3.1,r2.1,r3.2.1,())) (iter n (fun Gf ir=>(pS.f n a0 (ir.2.1,ir.2.2.1,ir.2.2.2.1,ir.1) ir.2.2.2.2.1 (ah (a3-(ah (ir.1-a1.2.2.2))))).bind fun cV=>(td.f n a0 cV.1 ir.2.2.2.2.1).bind fun gA=>cut (br (!decide (cV.2.1=2)) (some (.inr (true,()))) (some (.inr (!gA.2.2.1,())))) fun w5=>br w5.1 (some (cV.1,ir.2.2.2.2.1,cV.2.1,())) (Gf (cV.1.2.2.2,cV.1.1,cV.1.2.1,cV.1.2.2.1,gA.1,()))) (r3.1.2.2.2,r3.1.1,r3.1.2.1,r3.1.2.2.1,r4.1,())))
def w4.ae (n:Nat):au:=⟨[.val cd,.val dG,.val IS,.val I],[.val dG,.val IS,.val I],fun x=>w4.f n x.1 x.2.1 x.2.2.1 x.2.2.2.1⟩
theorem w4.ok (n:Nat):aP 171 (w4.ae n):=aU n [(6,⟨[(5,.bn 1000 0),(12,.own 1004 I)],[(1000,.cells [] [.own 1001 bp,.own 1002 IS,.own 1003 IS,.int .i64]),(1001,.row true bp),(1002,.row true IS),(1003,.row true IS),(1004,.row true I)],[3,4,8,11],[]⟩),(11,⟨[(55,.bool)],[],[3,4,5,8,11,12,14,15],[]⟩),(1000006,⟨[],[],[],[]⟩),(2000011,⟨[(55,.bool)],[],[3,4,5,8,11,12,14,15],[]⟩)] [] (ai (rG.ok n) (ai ⟨cR.sound n,cR.aD⟩ (ai (pS.ok n) (ai (td.ok n) aK)))) aL func171
end Go.AmT
namespace Go.AmT
variable {nt:aq} {t s:State} {most:Int} {caps:List Int} {n:Nat}
def clip (most:Int):Int:=max 0 (min most 20000)
theorem adM {c:Option (List Int)} {d:Int} (o:bG nt t) (hd:0≤d) (oq:d≤t.2.2.2) (JF:most<0→d=0):runT nt c (most-d) t=runT nt c (clip most-d) t:=by
 unfold runT nN;have hG:Good (tb nt c) (cX nt) (most-d) nt.1.length (fun x=>JS nt x∧x.2.2.2.2=t.2.2.2+x.1) wX:=by
  rintro ⟨m,s⟩ k ⟨hx,he⟩ hk hm hg;have:=Dv (most:=most-d) (fun _ _=>Bn) (m,s) k hx hk hm hg;refine ⟨⟨this.1,?_⟩,this.2⟩;have he:s.2.2.2=t.2.2.2+m:=he;show s.2.2.2+1=t.2.2.2+(m+1)
  omega
 rw [Vj (m2:=clip most-d) hG ?_ 20001 (x:=(0,t)) ⟨⟨o,Ge _,o.steps.1⟩,by show t.2.2.2=t.2.2.2+0; omega⟩];rintro ⟨m,s⟩ ⟨hx,he⟩;have hle:=hx.le;have he:s.2.2.2=t.2.2.2+m:=he;simp only at hle ⊢;unfold clip;by_cases h:s.2.2.2<20000
 ·refine .inl ?_;omega
 refine .inr (fun k hk=>?_);cases hm:tb nt c s k
 ·rfl
 exact absurd (s7 (Bn hm)).2.1 h
theorem adN {d:Int} (o:bG nt t) (hd:0≤d) (oq:d≤t.2.2.2) (JF:most<0→d=0):oS nt t caps (most-d)=oS nt t caps (clip most-d):=by unfold oS;rw [adM o hd oq JF]
def room (caps:List Int):Nat:=(caps.map fun c=>(400-c).toNat).sum
theorem VH:∀ {caps:List Int} {b:Nat} (hb:b<caps.length),caps[b]<400→room (caps.set b (caps[b]+1))<room caps
 | c::l,0,_,h=>by
  have h:c<400:=h
  show (400-(c+1)).toNat+room l<(400-c).toNat+room l
  omega
 | c::l,b+1,hb,h=>by
  have cD:b<l.length:=by simpa using hb
  have:=VH (caps:=l) (b:=b) (by simpa using hb) (by simpa using h)
  show (400-c).toNat+room (l.set b (l[b]+1))<(400-c).toNat+room l
  omega
theorem room_le:∀ {caps:List Int},(∀ c∈caps,0≤c)→room caps≤400*caps.length
 | [],_=>Nat.le_refl _
 | c::l,h=>by
  have h1:=h c (by simp)
  have:=room_le (caps:=l) (fun x hx=>h x (by simp [hx]))
  show (400-c).toNat+room l≤400*(l.length+1)
  omega
theorem VI {nt:aq} {caps:List Int} (o:cK nt) (h:fi nt.2 caps=true):room caps≤12000:=by
 have hl:=qG h
 have hL:=o.dB
 have:=room_le (caps:=caps) (fun c hc=>by
  obtain ⟨i,hi,rfl⟩:=List.mem_iff_getElem.1 hc
  have:=Bq h (show i<nt.2.length by omega)
  unfold dP at this
  rw [aJ hi] at this
  omega)
 omega
theorem adO {ls:List bb} (hl:caps.length=ls.length) (h:∀ j,j<ls.length→((ls.getD j aE).2.2.2.2.length:Int)≤dP caps j∧dP caps j≤400):fi ls caps=true:=by unfold fi;simp only [aw,decide_eq_true_eq,List.all_eq_true,List.mem_range];exact ⟨hl,fun j hj=>h j (by omega)⟩
theorem adP {b j:Nat} {x:Int} (hb:b<caps.length):dP (caps.set b x) j=if j=b then x else dP caps j:=by
 unfold dP;by_cases h:j=b
 ·subst h; rw [mW hb,if_pos rfl]
 rw [getD_set_ne (Ne.symm h),if_neg h]
theorem adQ (o:bG nt s) (hc:fi nt.2 caps=true) (h:(lI nt s caps).2.2=true):∃ b:Nat,b<nt.2.length∧Dy nt s caps=(b:Int)∧dP caps b<400∧(lI nt s caps).1=caps.set b (dP caps b+1)∧fi nt.2 (lI nt s caps).1=true∧room (lI nt s caps).1<room caps:=by
 have hl:=qG hc;unfold lI JC at h ⊢;split at h
 ·cases h
 rename_i hn;rw [if_neg hn];have B:=Oz (caps:=caps) o;have ax:=JB o (Nat.le_refl _) B (by omega);obtain ⟨b,hb⟩:∃ b:Nat,Dy nt s caps=(b:Int):=⟨(Dy nt s caps).toNat,by omega⟩
 rw [hb] at hn ax ⊢;rw [ay] at hn ⊢;have qJ:b<nt.2.length:=by omega
 have fu:=Bq hc qJ;have h4:dP caps b<400:=by omega
 refine ⟨b,qJ,rfl,h4,rfl,adO (by rw [List.length_set]; exact hl) (fun j hj=>?_),?_⟩
 ·rw [adP (by omega)];have:=Bq hc hj;split
  ·rename_i e; subst e; omega
  exact this
 have dE:b<caps.length:=by omega
 have e:dP caps b=caps[b]:=by unfold dP; rw [aJ dE]
 rw [e] at h4 ⊢;exact VH dE h4
abbrev Pk:Type:=State×List Int
def gM (nt:aq) (s0 M:Int) (x:Pk):State×Int:=oS nt x.1 x.2 (M-(x.1.2.2.2-s0))
def lh (nt:aq) (s0 M:Int) (x:Pk):Bool:=decide ((gM nt s0 M x).2=2)&&(lI nt (gM nt s0 M x).1 x.2).2.2
def iS (nt:aq) (s0 M:Int) (x:Pk):Pk:=((gM nt s0 M x).1,(lI nt (gM nt s0 M x).1 x.2).1)
structure y_ (nt:aq) (s0 most:Int) (x:Pk):Prop where
 ok:bG nt x.1
 cap:fi nt.2 x.2=true
 le:s0≤x.1.2.2.2
 neg:most≤0→x.1.2.2.2=s0
theorem adR {c:Option (List Int)} (o:bG nt t):t.2.2.2≤(runT nt c most t).2.2.2∧(most≤0→runT nt c most t=t):=by
 constructor
 ·have hG:Good (tb nt c) (cX nt) most nt.1.length (fun x=>JS nt x∧x.2.2.2.2=t.2.2.2+x.1) wX:=by
   rintro ⟨m,s⟩ k ⟨hx,he⟩ hk hm hg;have:=Dv (most:=most) (fun _ _=>Bn) (m,s) k hx hk hm hg;refine ⟨⟨this.1,?_⟩,this.2⟩;have he:s.2.2.2=t.2.2.2+m:=he;show s.2.2.2+1=t.2.2.2+(m+1)
   omega
  have:=Vh hG (x:=(0,t)) ⟨⟨o,Ge _,o.steps.1⟩,by show t.2.2.2=t.2.2.2+0; omega⟩;obtain ⟨hJ,he⟩:=this;have:=hJ.2.1;unfold runT;omega
 intro h;unfold runT;rw [Ju];rintro ⟨-,h2⟩;have h2:(0:Int)<most:=h2;omega
theorem Gg {s0:Int} (x:Pk) (hx:y_ nt s0 most x) (h:lh nt s0 (clip most) x=true):y_ nt s0 most (iS nt s0 (clip most) x)∧room (iS nt s0 (clip most) x).2<room x.2:=by
 unfold lh at h;rw [aw] at h;have o1:bG nt (gM nt s0 (clip most) x).1:=DD hx.ok;obtain ⟨b,-,-,-,-,h1,h2⟩:=adQ o1 hx.cap h.2;have hs:=adR (c:=some x.2) (most:=clip most-(x.1.2.2.2-s0)) hx.ok;refine ⟨⟨o1,h1,?_,fun hm=>?_⟩,h2⟩
 ·have:=hx.le;show s0≤(runT nt (some x.2) (clip most-(x.1.2.2.2-s0)) x.1).2.2.2;omega
 have e:=hx.neg hm;show (runT nt (some x.2) (clip most-(x.1.2.2.2-s0)) x.1).2.2.2=s0;rw [hs.2 (by unfold clip; omega)]; exact e
noncomputable def lj (nt:aq) (s:State) (caps:List Int) (most:Int):State×List Int×Int:=
 if ij nt s&&fi nt.2 caps then
  ((gM nt s.2.2.2 (clip most) (lF (lh nt s.2.2.2 (clip most)) (iS nt s.2.2.2 (clip most)) 12001 (s,caps))).1,(lF (lh nt s.2.2.2 (clip most)) (iS nt s.2.2.2 (clip most)) 12001 (s,caps)).2,(gM nt s.2.2.2 (clip most) (lF (lh nt s.2.2.2 (clip most)) (iS nt s.2.2.2 (clip most)) 12001 (s,caps))).2)
 else (([],[],[],0),[],0)
theorem OC (o:bG nt s) (hc:fi nt.2 caps=true):y_ nt s.2.2.2 most (s,caps):=⟨o,hc,Ge _,fun _=>rfl⟩
theorem adS (o:bG nt s) (hc:fi nt.2 caps=true) (m:Nat):y_ nt s.2.2.2 most (lF (lh nt s.2.2.2 (clip most)) (iS nt s.2.2.2 (clip most)) m (s,caps)):=
 Vk (fun x hx h=>(Gg x hx h).1) m _ (OC o hc)
theorem adT (h:dq nt) (hs:kf s) (hc:caps.length≤1048576) (hn:1048576<n) :
  yZ.f n nt s caps most=some ((lj nt s caps most).1,(lj nt s caps most).2.1,(lj nt s caps most).2.2,()):=by
 unfold yZ.f lj;rw [NV h hs hc hn];cases e:ij nt s&&fi nt.2 caps
 ·rfl
 rw [aw] at e;have o:=qF e.1;have hr:=VI o.cf e.2;simp only [aC,bf,ar,if_true];rw [Dx hs hn,wV hc];simp only [aC];refine Oq (c:=lh nt s.2.2.2 (clip most)) (f:=iS nt s.2.2.2 (clip most)) (J:=y_ nt s.2.2.2 most) (μ:=fun x=>room x.2) Gg (fun x=>(x.1.2.2.2,x.1.1,x.1.2.1,x.1.2.2.1,x.2,()))
  (G:=fun x=>some ((gM nt s.2.2.2 (clip most) x).1,x.2,(gM nt s.2.2.2 (clip most) x).2,())) (fun ih x hx=>?_) (x:=(s,caps)) (OC o e.2) (by show room caps<n; omega) (by show room caps<12001; omega)
 obtain ⟨t,c⟩:=x;have ot:bG nt t:=hx.ok;have eO:c.length=nt.2.length:=qG hx.cap;have hle:s.2.2.2≤t.2.2.2:=hx.le;have s1:=o.steps;have s2:=ot.steps;have hw:ah (ah (s.2.2.2+max 0 (min most 20000))-t.2.2.2)=clip most-(t.2.2.2-s.2.2.2):=by unfold clip;rw [bP (n:=s.2.2.2+_) (by omega) (by omega),bP (by omega) (by omega)]; omega
 simp only [hw];rw [VF ot eO hn];simp only [aC];have eR:oS nt t c (clip most-(t.2.2.2-s.2.2.2))=gM nt s.2.2.2 (clip most) (t,c):=rfl;rw [eR];generalize hR:gM nt s.2.2.2 (clip most) (t,c)=R;have oR:bG nt R.1:=by rw [← hR]; exact DD ot
 unfold lh iS;rw [hR];by_cases h2:R.2=2
 ·rw [decide_eq_true h2,bf,ar];have OD:wZ.f n nt (R.1.1,R.1.2.1,R.1.2.2.1,R.1.2.2.2) c=some ((lI nt R.1 c).1,(lI nt R.1 c).2.1,(lI nt R.1 c).2.2,()):=adF oR hx.cap hn;rw [OD];simp only [aC,Bool.true_and];cases (lI nt R.1 c).2.2
  ·rw [iR,aB,if_neg (by simp)]
  rw [bf,ar,if_pos rfl]
 rw [decide_eq_false h2,iR,aB,Bool.false_and,if_neg (by simp)]
theorem adU {s0 M:Int} {x:Pk} (o:bG nt x.1) (hc:fi nt.2 x.2=true) (h:(gM nt s0 M x).2=2):w_ nt (gM nt s0 M x).1 x.2=true:=by
 have o1:bG nt (gM nt s0 M x).1:=DD o;have h:uW nt (gM nt s0 M x).1 x.2=2:=h;unfold w_;rw [show ij nt (gM nt s0 M x).1=true from decide_eq_true o1,hc];unfold uW at h;cases h1:kj nt (gM nt s0 M x).1
 ·rw [h1] at h; simp at h
 rw [h1] at h;cases h2:mY nt (gM nt s0 M x).1 x.2
 ·rfl
 rw [h2] at h; simp at h
theorem VJ {s0:Int} {x:Pk} (h:dq nt) (hx:y_ nt s0 most x) (h0:0≤s0) (hn:1048576<n) (uX : -9223372036854775808≤most) (uY:most≤9223372036854775807) {ρ:Type} {G:State→Int→Option ρ} {H:State→List Int→Option ρ} {st:State} (dz:st=x.1) :
  ((pS.f n nt st x.2 (ah (most-ah (x.1.2.2.2-s0)))).bind fun cV=>(td.f n nt cV.1 x.2).bind fun gA=>cut (α:=(Bool×Unit)) (br (!decide (cV.2.1=2)) (some (.inr (true,()))) (some (.inr (!gA.2.2.1,())))) fun w5=>br w5.1 (G cV.1 cV.2.1) (H cV.1 gA.1)) =
   if lh nt s0 (clip most) x=true then H (iS nt s0 (clip most) x).1 (iS nt s0 (clip most) x).2 else G (gM nt s0 (clip most) x).1 (gM nt s0 (clip most) x).2:=by
 subst dz;obtain ⟨t,c⟩:=x;have ot:bG nt t:=hx.ok;have eO:c.length=nt.2.length:=qG hx.cap;have hL:=ot.cf.dB;have hle:s0≤t.2.2.2:=hx.le;have JF:most≤0→t.2.2.2=s0:=hx.neg;have s2:=ot.steps;have hw:ah (most-ah (t.2.2.2-s0))=most-(t.2.2.2-s0):=by rw [bP (n:=t.2.2.2-s0) (by omega) (by omega),bP (by omega) (by omega)]
 simp only [hw];rw [VG h (mg ot) (by omega) hn];have eR:mi nt t c (most-(t.2.2.2-s0))=gM nt s0 (clip most) (t,c):=by unfold mi;rw [show ij nt t=true from decide_eq_true ot,show fi nt.2 c=true from hx.cap];exact adN ot (by omega) (by omega) (fun hh=>by have:=JF (by omega); omega)
 rw [eR];have adV:=adU (x:=(t,c)) (s0:=s0) (M:=clip most) ot (show fi nt.2 c=true from hx.cap);have oR:bG nt (gM nt s0 (clip most) (t,c)).1:=DD ot;simp only [aC];rw [adI h (mg oR) (by omega) hn];simp only [aC];unfold lh iS;generalize hR:gM nt s0 (clip most) (t,c)=R at *;by_cases h2:R.2=2
 ·have hj:w_ nt R.1 c=true:=adV h2;have OD:Dz nt R.1 c=lI nt R.1 c:=by unfold Dz; rw [hj]; rfl
  rw [OD,decide_eq_true h2,bf,ar,aY];simp only [Bool.true_and];cases (lI nt R.1 c).2.2
  ·rw [iR,aB,if_neg (by simp)]
  rw [bf,ar,if_pos rfl]
 rw [decide_eq_false h2,iR,aB,aY,aB,Bool.false_and,if_neg (by simp)]
theorem VK {α:Type} {c:α→Bool} {f:α→α} {J:α→Prop} {μ:α→Nat} (hJ:∀ x,J x→c x=true→J (f x)∧μ (f x)<μ x):∀ (m:Nat) (x:α),J x→μ x<m→lF c f (m+1) x=lF c f m x
 | 0,x,_,h=>absurd h (Nat.not_lt_zero _)
 | m+1,x,hx,h=>by
  show (if c x=true then lF c f (m+1) (f x) else x)=(if c x=true then lF c f m (f x) else x)
  split
  ·rename_i hc;have:=hJ x hx hc;exact VK hJ m _ this.1 (by omega)
  rfl
theorem adW (h:dq nt) (hs:kf s) (hc:caps.length≤1048576) (hn:1048576<n) (uX : -9223372036854775808≤most) (uY:most≤9223372036854775807) :
  w4.f n nt s caps most=some ((lj nt s caps most).1,(lj nt s caps most).2.1,(lj nt s caps most).2.2,()):=by
 unfold w4.f lj;rw [Oh h hs hc hn];cases e:ij nt s&&fi nt.2 caps
 ·rfl
 rw [aw] at e;have o:=qF e.1;have hr:=VI o.cf e.2;simp only [aC,bf,ar,if_true];rw [wS hc];simp only [aC];have P0:=OC (most:=most) o e.2;have key:∀ (F:(Int×List bM×List (List Int)×List (List Int)×List Int×Unit→Option (State×List Int×Int×Unit))→Int×List bM×List (List Int)×List (List Int)×List Int×Unit→Option (State×List Int×Int×Unit)),
   (∀ ih x,y_ nt s.2.2.2 most x→F ih (x.1.2.2.2,x.1.1,x.1.2.1,x.1.2.2.1,x.2,())=if lh nt s.2.2.2 (clip most) x=true then ih ((iS nt s.2.2.2 (clip most) x).1.2.2.2,(iS nt s.2.2.2 (clip most) x).1.1,(iS nt s.2.2.2 (clip most) x).1.2.1,(iS nt s.2.2.2 (clip most) x).1.2.2.1,(iS nt s.2.2.2 (clip most) x).2,()) else some ((gM nt s.2.2.2 (clip most) x).1,x.2,(gM nt s.2.2.2 (clip most) x).2,()))→
   ((pS.f n nt s caps (ah (most-ah (s.2.2.2-s.2.2.2)))).bind fun r3=>(td.f n nt r3.1 caps).bind fun r4=>cut (α:=(Bool×Unit)) (br (!decide (r3.2.1=2)) (some (.inr (true,()))) (some (.inr (!r4.2.2.1,())))) fun y5=>br y5.1 (some (r3.1,caps,r3.2.1,())) (iter n F (r3.1.2.2.2,r3.1.1,r3.1.2.1,r3.1.2.2.1,r4.1,()))) =
   some ((gM nt s.2.2.2 (clip most) (lF (lh nt s.2.2.2 (clip most)) (iS nt s.2.2.2 (clip most)) 12001 (s,caps))).1,(lF (lh nt s.2.2.2 (clip most)) (iS nt s.2.2.2 (clip most)) 12001 (s,caps)).2,(gM nt s.2.2.2 (clip most) (lF (lh nt s.2.2.2 (clip most)) (iS nt s.2.2.2 (clip most)) 12001 (s,caps))).2,()):=by
  intro F hF;refine (VJ (x:=(s,caps)) h P0 o.steps.1 hn uX uY (G:=fun t w=>some (t,caps,w,())) (H:=fun t cc=>iter n F (t.2.2.2,t.1,t.2.1,t.2.2.1,cc,())) rfl).trans ?_;rw [← VK (μ:=fun x:Pk=>room x.2) Gg 12001 (s,caps) P0 (by show room caps<12001; omega)];have e1:lF (lh nt s.2.2.2 (clip most)) (iS nt s.2.2.2 (clip most)) (12001+1) (s,caps)=if lh nt s.2.2.2 (clip most) (s,caps)=true then lF (lh nt s.2.2.2 (clip most)) (iS nt s.2.2.2 (clip most)) 12001 (iS nt s.2.2.2 (clip most) (s,caps)) else (s,caps):=rfl
  rw [e1];cases hC:lh nt s.2.2.2 (clip most) (s,caps)
  ·rfl
  simp only [if_true];obtain ⟨P1,ax⟩:=Gg _ P0 hC;have ax:room (iS nt s.2.2.2 (clip most) (s,caps)).2<room caps:=ax;exact Oq (c:=lh nt s.2.2.2 (clip most)) (f:=iS nt s.2.2.2 (clip most)) (J:=y_ nt s.2.2.2 most) (μ:=fun x=>room x.2) Gg (fun x=>(x.1.2.2.2,x.1.1,x.1.2.1,x.1.2.2.1,x.2,()))
   (G:=fun x=>some ((gM nt s.2.2.2 (clip most) x).1,x.2,(gM nt s.2.2.2 (clip most) x).2,())) hF (x:=iS nt s.2.2.2 (clip most) (s,caps)) P1 (by show room _<n; omega) (by show room _<12001; omega)
 exact key _ (fun ih x hx=>VJ (x:=x) h hx o.steps.1 hn uX uY (G:=fun t w=>some (t,x.2,w,())) (H:=fun t cc=>ih (t.2.2.2,t.1,t.2.1,t.2.2.1,cc,())) rfl)
end Go.AmT
namespace Go.AmT
open Go.Proofs Go.Proofs.Tryz
def y0.f (n:Nat) (a0:aq) (a1:State) (a2:Int):Option (State×Bool×Unit):=(nI.f n a0 a1).bind fun r1=>br (!r1.1) (some (([],[],[],0),false,())) ((mh.f n a1).bind fun r2=>iter n (fun adX mj=>cut ((qH.f n a0 (mj.2.2.1,mj.2.2.2.1,mj.2.2.2.2.1,mj.2.1)).bind fun r59=>br (decide (0≤r59.1)) (some (.inr (decide (mj.1<a2),()))) (some (.inr (false,())))) fun y58=>br y58.1 (iter n (fun VL jn=>cut (br (decide (jn.2.1<(a0.1.length:Int))) (some (.inr (decide (jn.1<a2),()))) (some (.inr (false,())))) fun De=>br De.1 ((ki.f n a0 (jn.2.2.2.1,jn.2.2.2.2.1,jn.2.2.2.2.2.1,jn.2.2.1) jn.2.1).bind fun N5=>br N5.1 ((k_.f n a0.1 a0.2 jn.2.2.1 jn.2.1 jn.2.2.2.1 jn.2.2.2.2.1 jn.2.2.2.2.2.1).bind fun DB=>VL (ah (jn.1+1),ah (jn.2.1+1),DB.1,DB.2.1,DB.2.2.1,DB.2.2.2.1,())) (VL (jn.1,ah (jn.2.1+1),jn.2.2.1,jn.2.2.2.1,jn.2.2.2.2.1,jn.2.2.2.2.2.1,()))) (adX (jn.1,jn.2.2.1,jn.2.2.2.1,jn.2.2.2.2.1,jn.2.2.2.2.2.1,()))) (mj.1,0,mj.2.1,mj.2.2.1,mj.2.2.2.1,mj.2.2.2.2.1,())) ((qH.f n a0 (mj.2.2.1,mj.2.2.2.1,mj.2.2.2.2.1,mj.2.1)).bind fun DC=>some ((mj.2.2.1,mj.2.2.2.1,mj.2.2.2.2.1,mj.2.1),decide (DC.1<0),()))) (0,r2.1.2.2.2,r2.1.1,r2.1.2.1,r2.1.2.2.1,()))
def y0.ae (n:Nat):au:=⟨[.val cd,.val dG,.val I],[.sh dG,.val .bool],fun x=>y0.f n x.1 x.2.1 x.2.2.1⟩
theorem y0.ok (n:Nat):aP 74 (y0.ae n):=aU n [(7,⟨[(8,.bn 1000 0),(9,.int .i64)],[(1000,.cells [] [.own 1001 bp,.own 1002 IS,.own 1003 IS,.int .i64]),(1001,.row true bp),(1002,.row true IS),(1003,.row true IS)],[2,3,6],[]⟩),(8,⟨[(26,.bool)],[],[2,3,6,8,9],[]⟩),(13,⟨[(8,.bn 1000 0),(9,.int .i64),(10,.int .i64)],[(1000,.cells [] [.own 1001 bp,.own 1002 IS,.own 1003 IS,.int .i64]),(1001,.row true bp),(1002,.row true IS),(1003,.row true IS)],[2,3,6],[]⟩),(14,⟨[(36,.bool)],[],[2,3,6,8,9,10],[]⟩)] [] (ai (nI.ok n) (ai (mh.ok n) (ai (qH.ok n) (ai (ki.ok n) aK)))) (eM (k_.ok n) aL) func74
def w6.f (n:Nat) (a0:aq) (a1:State) (a2:Int):Option (State×Bool×Unit):=(mb.f n a0 a1).bind fun r1=>br (!r1.1) (some (([],[],[],0),false,())) ((kg.f n a0.1 a0.2 a1.1 a1.2.1 a1.2.2.1 a1.2.2.2 (none:Option (List Int))).bind fun r2=>(turns.f n a2 r2.1 r2.2.1 r2.2.2.1 r2.2.2.2.1 r2.2.2.2.2.1 r2.2.2.2.2.2.1 r2.2.2.2.2.2.2.1 r2.2.2.2.2.2.2.2.1 r2.2.2.2.2.2.2.2.2.1).bind fun r3=>(quiet.f n ((r3.1,r3.2.1),(r3.2.2.2.2.1,r3.2.2.2.2.2.1,r3.2.2.2.2.2.2.1,r3.2.2.1),r3.2.2.2.2.2.2.2.1,r3.2.2.2.2.2.2.2.2.1,r3.2.2.2.1)).bind fun r4=>some ((r3.2.2.2.2.1,r3.2.2.2.2.2.1,r3.2.2.2.2.2.2.1,r3.2.2.1),r4.1,()))
def w6.ae (n:Nat):au:=⟨[.val cd,.val dG,.val I],[.val dG,.val .bool],fun x=>w6.f n x.1 x.2.1 x.2.2.1⟩
theorem w6.ok (n:Nat):aP 168 (w6.ae n):=aU n [] [] (ai (mb.ok n) (ai (quiet.ok n) aK)) (eM (kg.ok n) (eM (turns.ok n) aL)) func168
end Go.AmT
namespace Go.AmT
noncomputable def oT (nt:aq) (s:State) (most:Int):State×Bool:=if ij nt s=true then (runT nt none most s,!kj nt (runT nt none most s)) else (([],[],[],0),false)
theorem adY {n:Nat} {nt:aq} {s:State} {most:Int} (h:dq nt) (hs:kf s) (hn:1048576<n):w6.f n nt s most=some ((oT nt s most).1,(oT nt s most).2,()):=by
 unfold w6.f oT;rw [Dj h hs hn];cases e1:ij nt s
 ·rfl
 have o:=qF e1;simp only [aC,bf,ar,if_true];refine dZ.1 (c8.2 (bz (Dl (caps:=none) o.cf hs hn) (fun r ⟨to,fr,e,T,F⟩=>dZ.2 ?_)));subst e;have R:kH nt s (nt,s,to,fr,none):=⟨rfl,rfl,T,F⟩
 simp only;rw [Vn (most:=most) R o (fun _ h=>by cases h) hn];simp only [aC];have hq:quiet.f n ((nt.1,nt.2),((runT nt none most s).1,(runT nt none most s).2.1,(runT nt none most s).2.2.1,(runT nt none most s).2.2.2),to,fr,none)=some (!kj nt (runT nt none most s),()):=Ow (kH.step R) (Jw o) hn;rw [hq];rfl
theorem adZ {n:Nat} {nt:aq} {s:State} {most:Int} (h:dq nt) (hs:kf s) (hn:1048576<n):y0.f n nt s most=some ((oT nt s most).1,(oT nt s most).2,()):=by
 unfold y0.f oT;rw [Di h hs hn];cases e1:ij nt s
 ·rfl
 have o:=qF e1;have hp:=o.cf.eX;simp only [aC,bf,ar,if_true];rw [Dx hs hn];simp only [aC];refine Vi (g:=cS nt) (st:=cX nt) (most:=most) (K:=nt.1.length) (J:=JS nt) (μ:=wX) adu (fun _=>Ot)
  (fun made s=>(made,s.2.2.2,s.1,s.2.1,s.2.2.1,())) (fun made k s=>(made,(k:Int),s.2.2.2,s.1,s.2.1,s.2.2.1,()))
  (G:=fun _ s=>some (s,!kj nt s,())) (fun ih made s h=>?_) (by omega) (by omega) (x:=(0,s)) ⟨o,Ge _,o.steps.1⟩
 refine ⟨_,(adz (s:=s) (made:=made) (most:=most) h.1 hn _ _).trans (Vx (Vy (s:=s) h.1 hn (fun b=>some (s,b,())))),fun gY made k s h hk hm=>?_,fun gY made k s h hk hm=>?_⟩
 ·have c1:(k:Int)<(nt.1.length:Int):=by omega
  have hc:ki.f n nt (s.1,s.2.1,s.2.2.1,s.2.2.2) (k:Int)=some (cS nt s k,()):=Bh h.1 hk hn;have hle:=h.le;simp only [aG c1,aY,decide_eq_true hm,aB,hc,aC];cases hg:cS nt s k
  ·simp only [ar,fF,if_false];rw [a_ (by omega)]
  simp only [aB,if_true];rw [Jr h.1 (mg h.1) hk hg hn];simp only [aC];rw [a_ (by omega),bP (n:=made+1) (by simp only at hle; omega) (by simp only at hle; omega)]
 by_cases c1:(k:Int)<(nt.1.length:Int)
 ·have hm:¬ made<most:=fun h=>hm ⟨by omega,h⟩;simp only [aG c1,aY,decide_eq_false hm,ar]
 simp only [av c1,aY,ar]
end Go.AmT
namespace Go.AmT
open Go.Proofs Go.Proofs.Tryz
def uZ.f (n:Nat) (a0:aq) (a1:Int):Option (List Int×Unit):=cut ((eH.f n a0).bind fun r4=>br (!r4.1) (some (.inr (true,()))) ((bY.f n a1 0 400).bind fun r5=>some (.inr (!r5.1,())))) fun y3=>br y3.1 (some ([],())) (iter n (fun OE lk=>br (decide (lk.1<(a0.2.length:Int))) (ab (0≤lk.1∧lk.1<(a0.2.length:Int)) (let Dq:=(a0.2.getD lk.1.toNat aE); ab ((lk.2.1.length+([(max a1 (Dq.2.2.2.2.length:Int))]:List Int).length)*8≤bo) (OE (ah (lk.1+1),lk.2.1++[(max a1 (Dq.2.2.2.2.length:Int))],())))) (some (lk.2.1,()))) (0,[],()))
def uZ.ae (n:Nat):au:=⟨[.val cd,.val I],[.sh IS],fun x=>uZ.f n x.1 x.2.1⟩
theorem uZ.ok (n:Nat):aP 77 (uZ.ae n):=aU n [(1,⟨[(15,.bool)],[],[1,2],[]⟩),(7,⟨[(5,.own 1000 I),(20,.int .i64)],[(1000,.row true I)],[1,18,19],[]⟩)] [] (ai ⟨eH.sound n,eH.aD⟩ (ai ⟨bY.sound n,bY.aD⟩ aK)) aL func77
def tf.f (n:Nat) (a0:aq) (a1:Int):Option (List Int×Unit):=cut ((ez.f n a0).bind fun r3=>br (!r3.1) (some (.inr (true,()))) (br (decide (a1<0)) (some (.inr (true,()))) (some (.inr (decide (400<a1),()))))) fun y2=>br y2.1 (some ([],())) (iter n (fun rA x9=>br (decide (x9.1<(a0.2.length:Int))) (ab (0≤x9.1∧x9.1<(a0.2.length:Int)) (let v11:=(a0.2.getD x9.1.toNat aE); ab ((x9.2.1.length+([(max a1 (v11.2.2.2.2.length:Int))]:List Int).length)*8≤bo) (rA (ah (x9.1+1),x9.2.1++[(max a1 (v11.2.2.2.2.length:Int))],())))) (some (x9.2.1,()))) (0,[],()))
def tf.ae (n:Nat):au:=⟨[.val cd,.val I],[.val IS],fun x=>tf.f n x.1 x.2.1⟩
theorem tf.ok (n:Nat):aP 152 (tf.ae n):=aU n [(1,⟨[(18,.bool)],[],[1,2],[]⟩),(7,⟨[(5,.own 1000 I),(23,.int .i64)],[(1000,.row true I)],[1,21,22],[]⟩)] [] (ai ⟨ez.sound n,ez.aD⟩ aK) aL func152
end Go.AmT
namespace Go.AmT
theorem VM {α β ρ:Type} (l:List α) (g:α→β) {F:(Int×List β×Unit→Option ρ)→Int×List β×Unit→Option ρ} {R:List β→Option ρ}
  (h1:∀ ih i (hi:i<l.length) (s:List β),s.length=i→F ih ((i:Int),s,())=ih (((i+1:Nat):Int),s++[g l[i]],()))
  (h2:∀ ih s,F ih ((l.length:Int),s,())=R s) {n:Nat} (hn:l.length<n):iter n F (0,[],())=R (l.map g):=by
 have:=mc (F:=F) (fun i=>((i:Int),(l.take i).map g,())) l.length (R:=R (l.map g)) (fun ih i hi=>by
  show F ih ((i:Int),(l.take i).map g,())=_;rw [h1 ih i hi _ (by simp; omega),List.take_succ_eq_append_getElem hi,List.map_append]; rfl) (fun ih=>by
  show F ih ((l.length:Int),_)=_;rw [h2]; simp) hn
 simpa using this
noncomputable def u_ (nt:aq) (c:Int):List Int:=if (cm nt&&decide (0≤c∧c≤400))=true then nt.2.map fun l=>max c (l.2.2.2.2.length:Int) else []
theorem VN {n:Nat} {nt:aq} {c:Int} (h:dq nt) (hn:1048576<n):uZ.f n nt c=some (u_ nt c,()):=by
 have hl:=h.dB;unfold uZ.f u_;rw [rz h hn,nG];simp only [aC];have e:cut (α:=(Bool×Unit)) (ρ:=List Int×Unit) (br (!cm nt) (some (.inr (true,()))) (some (.inr (!(decide (0≤c)&&decide (c≤400)),()))))=fun f=>f (!(cm nt&&decide (0≤c∧c≤400)),()):=by funext f;by_cases a:0≤c<;>by_cases b:c≤400<;>cases cm nt<;>simp [a,b,br,cut]
 rw [e];simp only;cases hb:(cm nt&&decide (0≤c∧c≤400))
 ·rfl
 simp only [bf,ar,if_true];refine VM nt.2 (fun l=>max c (l.2.2.2.2.length:Int)) (R:=fun s=>some (s,())) (fun ih i hi s hs=>?_) (fun ih s=>av (Int.lt_irrefl _)) (by omega);have c0:0≤(i:Int):=by omega
 have c1:(i:Int)<(nt.2.length:Int):=by omega
 have hm:=iD;have e1:nt.2.getD i aE=nt.2[i]:=aJ hi _;simp only [c1,c0,and_self,qA,decide_true,aB,ay,e1];rw [af (by simp only [List.length_singleton]; simp only [bo]; omega),a_ (by omega)]
theorem VO {n:Nat} {nt:aq} {c:Int} (h:dq nt) (hn:1048576<n):tf.f n nt c=some (u_ nt c,()):=by
 have hl:=h.dB;unfold tf.f u_;rw [s6 h hn];simp only [aC];have e:cut (α:=(Bool×Unit)) (ρ:=List Int×Unit) (br (!cm nt) (some (.inr (true,()))) (br (decide (c<0)) (some (.inr (true,()))) (some (.inr (decide (400<c),())))))=fun f=>f (!(cm nt&&decide (0≤c∧c≤400)),()):=by funext f;by_cases a:c<0<;>by_cases b:400<c<;>cases cm nt<;>simp [a,b,br,cut]<;>(congr 2; simp; omega)
 rw [e];simp only;cases hb:(cm nt&&decide (0≤c∧c≤400))
 ·rfl
 simp only [bf,ar,if_true];refine VM nt.2 (fun l=>max c (l.2.2.2.2.length:Int)) (R:=fun s=>some (s,())) (fun ih i hi s hs=>?_) (fun ih s=>av (Int.lt_irrefl _)) (by omega);have c0:0≤(i:Int):=by omega
 have c1:(i:Int)<(nt.2.length:Int):=by omega
 have e1:nt.2.getD i aE=nt.2[i]:=aJ hi _;simp only [c1,c0,and_self,qA,decide_true,aB,ay,e1];rw [af (by simp only [List.length_singleton]; simp only [bo]; omega),a_ (by omega)]
end Go.AmT
