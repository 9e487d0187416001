/- Functions of the program, each as a plain Lean function. No condition. -/
import Derived.Test.YtjfaphipihgomaaGreatDoorMExL25
open Go Go.Am
noncomputable section
set_option linter.unusedVariables false
set_option maxRecDepth 100000
set_option linter.unusedSimpArgs false
open Option renaming bind_some → aA
namespace Go.AmT
open Go.Proofs Go.Proofs.Tryz
def yv.f (n:Nat) (a0:bR) (a1:Int):Option (Int×Unit):=(qe.f n a0.1 a1).bind fun r1=>br (decide (r1.1<0)) (some (-1,())) ((zA.f n a0.2.1 r1.1).bind fun r2=>br (decide (r2.1<0)) (some (-1,())) ((jk.f n a0.2.2 r2.1).bind fun r3=>br (decide (r3.1<0)) (some (-1,())) (some (r3.1,()))))
def yv.ae (n:Nat):ar:=⟨[.val gh,.val I],[.val I],fun x=>yv.f n x.1 x.2.1⟩
theorem yv.ok (n:Nat):aH 10 (yv.ae n):=aJ n [] [] (ai ⟨qe.sound n,qe.av⟩ (ai (zA.ok n) (ai ⟨jk.sound n,jk.av⟩ aC))) aD func10
def uJ.f (n:Nat) (a0:bR):Option (bR×Unit):=(nh.f n a0.1).bind fun r1=>(toState.f n a0.2.1).bind fun r2=>(iA.f n a0.2.2).bind fun r3=>some ((r1.1,r2.1,r3.1),())
def uJ.ae (n:Nat):ar:=⟨[.val gh],[.val gh],fun x=>uJ.f n x.1⟩
theorem uJ.ok (n:Nat):aH 12 (uJ.ae n):=aJ n [] [] (ai ⟨nh.sound n,nh.av⟩ (ai (toState.ok n) (ai ⟨iA.sound n,iA.av⟩ aC))) aD func12
def sY.f (n:Nat) (a0 a1:bR):Option (Bool×Unit):=(qg.f n a0.1 a1.1).bind fun r1=>br (!r1.1) (some (false,())) ((zG.f n a0.2.1 a1.2.1).bind fun r2=>br (!r2.1) (some (false,())) ((jl.f n a0.2.2 a1.2.2).bind fun r3=>br (!r3.1) (some (false,())) (some (true,()))))
def sY.ae (n:Nat):ar:=⟨[.val gh,.val gh],[.val .bool],fun x=>sY.f n x.1 x.2.1⟩
theorem sY.ok (n:Nat):aH 14 (sY.ae n):=aJ n [] [] (ai ⟨qg.sound n,qg.av⟩ (ai (zG.ok n) (ai ⟨jl.sound n,jl.av⟩ aC))) aD func14
def v_.f (n:Nat) (a0:bR) (a1:Int):Option (Int×List Program×List aK×List aY×List (List Int)×List (List Int)×List Int×Unit):=(zJ.f n a0.1 a1).bind fun r1=>(zR.f n a0.2.1 r1.1).bind fun r2=>(zK.f n a0.2.2 r2.1).bind fun r3=>some (r3.1,r1.2.1,r1.2.2.1,r2.2.1,r2.2.2.1,r2.2.2.2.1,r3.2.1,())
def v_.ae (n:Nat):ar:=⟨[.io gh,.val I],[.val I],fun x=>v_.f n x.1 x.2.1⟩
theorem v_.ok (n:Nat):aH 15 (v_.ae n):=aJ n [] [] (ai (zJ.ok n) (ai (zR.ok n) (ai (zK.ok n) aC))) aD func15
def wa.f (n:Nat) (a0:bR) (a1:Int):Option (Int×Unit):=(xB.f n a0.1 a1).bind fun r1=>br (decide (r1.1<0)) (some (-1,())) ((xH.f n a0.2.1 r1.1).bind fun r2=>br (decide (r2.1<0)) (some (-1,())) ((qu.f n a0.2.2 r2.1).bind fun r3=>br (decide (r3.1<0)) (some (-1,())) (some (r3.1,()))))
def wa.ae (n:Nat):ar:=⟨[.val gh,.val I],[.val I],fun x=>wa.f n x.1 x.2.1⟩
theorem wa.ok (n:Nat):aH 16 (wa.ae n):=aJ n [] [] (ai (xB.ok n) (ai (xH.ok n) (ai (qu.ok n) aC))) aD func16
def A0.f (n:Nat) (a0:bR):Option (bR×Unit):=(nh.f n a0.1).bind fun r1=>(toState.f n a0.2.1).bind fun r2=>(iA.f n a0.2.2).bind fun r3=>some ((r1.1,r2.1,r3.1),())
def A0.ae (n:Nat):ar:=⟨[.val gh],[.sh gh],fun x=>A0.f n x.1⟩
theorem A0.ok (n:Nat):aH 12 (A0.ae n):=aJ n [] [] (ai ⟨nh.sound n,nh.av⟩ (ai (toState.ok n) (ai ⟨iA.sound n,iA.av⟩ aC))) aD func12
def law.bq:List (Nat×LA):=[(12,⟨[(47,.bool)],[],[1,2,6,7,8,9,10],[]⟩),(20,⟨[(68,.bool)],[],[1,2,6,7,9],[]⟩),(34,⟨[(95,.bool)],[],[9,12],[]⟩)]
def law.f (n:Nat) (a0:bR) (a1:BB):Option (Bool×Unit):=br (decide (1048576<(a1.length:Int))) (some (true,())) ((yv.f n a0 1048576).bind fun r1=>br (decide (r1.1<0)) (some (true,())) ((A0.f n a0).bind fun r2=>(uG.f n r2.1 a1).bind fun r3=>(uJ.f n a0).bind fun r4=>(sU.f n r4.1 a1).bind fun r5=>cut ((sY.f n r5.1 r3.1).bind fun r8=>br (!r8.1) (some (.inr (true,()))) (some (.inr (!decide (r5.2.1=r3.2.1),())))) fun y7=>br y7.1 (some (false,())) ((uJ.f n a0).bind fun r9=>(sY.f n r4.1 r9.1).bind fun gi=>br (!gi.1) (some (false,())) ((v_.f n r4.1 1).bind fun cW=>cut (br (decide (cW.1<0)) (some (.inr (true,()))) ((sY.f n r5.1 r3.1).bind fun ie=>br (!ie.1) (some (.inr (true,()))) (some (.inr (!decide (r5.2.1=r3.2.1),()))))) fun vC=>br vC.1 (some (false,())) ((v_.f n r5.1 1).bind fun dz=>(wa.f n ((dz.2.1,dz.2.2.1),(dz.2.2.2.1,dz.2.2.2.2.1,dz.2.2.2.2.2.1,r5.1.2.1.2.2.2),dz.2.2.2.2.2.2.1) 1).bind fun iB=>br (decide (iB.1<0)) (some (false,())) (br (!decide (iB.1=dz.1)) (some (false,())) ((uJ.f n a0).bind fun eN=>(sU.f n eN.1 a1).bind fun gm=>cut ((sY.f n gm.1 r3.1).bind fun cE=>br (!cE.1) (some (.inr (true,()))) (some (.inr (!decide (gm.2.1=r3.2.1),())))) fun y20=>br y20.1 (some (false,())) ((wa.f n ((dz.2.1,dz.2.2.1),(dz.2.2.2.1,dz.2.2.2.2.1,dz.2.2.2.2.2.1,r5.1.2.1.2.2.2),dz.2.2.2.2.2.2.1) 1).bind fun eA=>br (decide (eA.1<0)) (some (false,())) (br (!decide (eA.1=dz.1)) (some (false,())) (some (true,())))))))))))
def law.ae (n:Nat):ar:=⟨[.val gh,.val .str],[.val .bool],fun x=>law.f n x.1 x.2.1⟩
def law.cfg (n:Nat):bd:=⟨m_,[(10,yv.ae n),(1000012,A0.ae n),(11,uG.ae n),(12,uJ.ae n),(13,sU.ae n),(14,sY.ae n),(15,v_.ae n),(16,wa.ae n)],[],[2000033]⟩
theorem law.sound (n:Nat):Sound Tryz.prog 4 (law.ae n):=dR (c:=law.cfg n) (n:=n) (an:=cT f4 law.bq) ⟨yv.ok n,⟨A0.ok n,⟨uG.ok n,⟨uJ.ok n,⟨sU.ok n,⟨sY.ok n,⟨v_.ok n,⟨wa.ok n,trivial⟩⟩⟩⟩⟩⟩⟩⟩ trivial (cB kL) func4 (fun x=>by kernel_rfl)
end Go.AmT
namespace Go.AmT
variable {n:Nat} {d:bR}
structure yw (d:bR):Prop where
 cb:cL d.1
 st:gP d.2.1
 caps:d.2.2.length≤1048576
theorem ahO {left:Int} (hn:1048576<n) (hx:qd gh d) (h0:0≤left) (h1:left≤1048576):Left left (yv.f n d left) (yw d):=by
 obtain ⟨x1,x2,x3,-⟩:=hx;unfold yv.f;refine Left.next (adK hn x1 h0 h1) h0 h1 (fun b1 r r0 r1 rl=>Left.mono ?_ rl)
 refine Left.next (ad6 hn x2 r0 r1) r0 r1 (fun b2 r' r0 r1 rl=>Left.mono ?_ rl)
 refine Left.next (J4 n x3 r0 r1) r0 r1 (fun b3 r' r0 r1 rl=>.done rl ⟨b1,b2,b3⟩)
theorem Y8 (h:yw d) (hn:1048576<n):uJ.f n d=some (d,()):=by unfold uJ.f;rw [adQ h.cb hn,ad9 h.st hn,J5 h.caps hn]; rfl
theorem Y9 (h:yw d) (hn:1048576<n):sY.f n d d=some (true,()):=by unfold sY.f;rw [adX h.cb hn,aec h.st hn,J6 h.caps hn]; rfl
theorem ahP {nt:ak} {s:State} (h:gk nt s=true):cr nt=true:=by have:bU nt s:=of_decide_eq_true h;simp [cr,this.cb]
theorem ahQ (h:yw d) (hn:1048576<n):vY.f n d=some (gk d.1 d.2.1&&eQ d.1.2 d.2.2,()):=by unfold vY.f;rw [Kb h.cb h.st h.caps hn]; rfl
theorem ahR (h:yw d) (hn:1048576<n):vU.f n d=some (gk d.1 d.2.1&&eQ d.1.2 d.2.2,()):=by
 unfold vU.f;rw [B8 h.cb h.st hn,OG h.cb h.caps hn];cases e:gk d.1 d.2.1
 ·rfl
 simp [ahP e,br]
theorem ahS (h:yw d) (hn:1048576<n):A0.f n d=some (d,()):=Y8 h hn
theorem Za (h:yw d) (hn:1048576<n):∃ (m:bR) (q:Int),0≤q∧v_.f n d 1=some (q,m.1.1,m.1.2,m.2.1.1,m.2.1.2.1,m.2.1.2.2.1,m.2.2,())∧wa.f n ((m.1.1,m.1.2),(m.2.1.1,m.2.1.2.1,m.2.1.2.2.1,d.2.1.2.2.2),m.2.2) 1=some (q,()):=by
 have k1:=OR (k:=1) h.cb;have k2:=O0 (k:=(iM d.1 1).2) h.st;have k3:=sf (k:=(ln d.2.1 (iM d.1 1).2).2) h.caps d.2.2.length;rw [rj] at k3;have a1:=aew (n:=n) h.cb (show (0:Int)≤1 by omega) (show (1:Int)≤281474976710656 by omega) hn;have a2:=aeI (n:=n) (k:=(iM d.1 1).2) h.st (by omega) (by omega) hn;have a3:=aer (n:=n) (k:=(ln d.2.1 (iM d.1 1).2).2) h.caps (by omega) (by omega) hn;have b1:xB.f n ((iM d.1 1).1.1,(iM d.1 1).1.2) 1=some ((iM d.1 1).2,()):=aeA (n:=n) h.cb (show (0:Int)≤1 by omega) (show (1:Int)≤281474976710656 by omega) hn;have b2:xH.f n ((ln d.2.1 (iM d.1 1).2).1.1,(ln d.2.1 (iM d.1 1).2).1.2.1,(ln d.2.1 (iM d.1 1).2).1.2.2.1,d.2.1.2.2.2) (iM d.1 1).2=some ((ln d.2.1 (iM d.1 1).2).2,()):=aeJ (n:=n) (k:=(iM d.1 1).2) h.st (by omega) (by omega) hn;have b3:=GX (n:=n) (k:=(ln d.2.1 (iM d.1 1).2).2) h.caps (by omega) (by omega) hn;refine ⟨((iM d.1 1).1,(ln d.2.1 (iM d.1 1).2).1,(aX fE d.2.2 (ln d.2.1 (iM d.1 1).2).2).1),(aX fE d.2.2 (ln d.2.1 (iM d.1 1).2).2).2,by omega,?_,?_⟩
 ·unfold v_.f
  grind
 unfold wa.f;dsimp only;rw [b1,aq];dsimp only;rw [au (by omega),b2,aq];dsimp only;rw [au (by omega),b3,aq];dsimp only;rw [au (by omega)]
theorem ahT {l:BB} (h:yw d) (hl:l.length≤1048576) (hn:1048577<n):∃ R:bR×BB,uG.f n d l=some (jd R)∧sU.f n d l=some (jd R)∧yw R.1:=by
 have ep:1048576<n:=by omega
 cases hv:gk d.1 d.2.1&&eQ d.1.2 d.2.2
 ·refine ⟨(d,bI),?_,?_,h⟩
  ·unfold uG.f uF.f;rw [K7 h.cb ep,aq];dsimp only;rw [Cg h.st ep,aq];dsimp only;rw [Q4 h.caps,aq,aq];dsimp only;rw [ahQ h ep,hv,aq];rfl
  unfold sU.f;rw [ahR h ep,hv,aq];simp only [Bool.not_false,ax];rw [Y2 h.cb h.st h.caps ep,aq]
 rw [Bool.and_eq_true] at hv;have o:fP d:=⟨of_decide_eq_true hv.1,hv.2,h.cb⟩
 have e:=ahq (n:=n) o hl hn;exact ⟨yt n d l,ahM o hl hn,e.1,⟨e.2.small,e.2.rJ,e.2.ym⟩⟩
theorem ahU (d:bR) (l:BB) (h:qd gh d):∃ n,law.f n d l=some (true,()):=by
 refine ⟨1048578,?_⟩;have hn:1048576<1048578:=by omega
 unfold law.f;by_cases hl:l.length≤1048576;rotate_left
 ·rw [aM (by omega)]
 rw [au (show ¬ (1048576<(l.length:Int)) by omega)];obtain ⟨r,e,r1,r2⟩:=ahO (n:=1048578) (left:=1048576) (by omega) h (by omega) (by omega);simp only [e,aA];by_cases hr:r<0
 ·simp [hr,br]
 rw [au hr];have hS:=r2 (by omega);obtain ⟨R,e1,e2,hR⟩:=ahT (n:=1048578) (l:=l) hS hl (by omega);obtain ⟨m1,q1,c1,a1,b1⟩:=Za (n:=1048578) hS hn;obtain ⟨m2,q2,c2,a2,b2⟩:=Za (n:=1048578) hR hn;have OZ:¬ q1<0:=by omega
 have c2':¬ q2<0:=by omega
 simp only [ahS hS hn,Y8 hS hn,e1,e2,Y9 hR hn,Y9 hS hn,a1,a2,b2,aA,decide_true,Bool.not_true,aw,bg,OZ,c2',decide_false]
end Go.AmT
