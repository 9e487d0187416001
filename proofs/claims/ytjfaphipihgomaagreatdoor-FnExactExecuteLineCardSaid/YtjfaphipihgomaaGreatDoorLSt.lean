/- Functions of the program, each as a plain Lean function. No condition. -/
import Derived.Test.YtjfaphipihgomaaGreatDoorMExL2
open Go Go.Am
noncomputable section
set_option linter.unusedVariables false
set_option maxRecDepth 100000
namespace Go.AmT
open Go.Proofs Go.Proofs.Tryz
abbrev aY:Type:=Int×List Int
def bz:aY:=(0,[])
abbrev State:Type:=List aY×(List (List Int)×List (List Int)×Int)
def xn.f (n:Nat) (a0:aY) (a1:Int):Option (Int×Unit):=(jk.f n a0.2 a1).bind fun r1=>br (decide (r1.1<0)) (some (-1,())) (some (r1.1,()))
def xn.ae (n:Nat):ar:=⟨[.val a_,.val I],[.val I],fun x=>xn.f n x.1 x.2.1⟩
theorem xn.ok (n:Nat):aH 115 (xn.ae n):=aJ n [] [] (ai ⟨jk.sound n,jk.av⟩ aC) aD func115
def zz.f (n:Nat) (a0:List aY) (a1:Int):Option (Int×Unit):=br (decide ((ag (a1-(a0.length:Int)))<0)) (some (-1,())) (iter n (fun fC x6=>br (decide (x6.2.1<(a0.length:Int))) (ab (0≤x6.2.1∧x6.2.1<(a0.length:Int)) (let v8:=(a0.getD x6.2.1.toNat bz); (xn.f n v8 x6.1).bind fun r9=>br (decide (r9.1<0)) (some (-1,())) (fC (r9.1,ag (x6.2.1+1),())))) (some (x6.1,()))) (ag (a1-(a0.length:Int)),0,()))
def zz.ae (n:Nat):ar:=⟨[.val (.sl a_),.val I],[.val I],fun x=>zz.f n x.1 x.2.1⟩
theorem zz.ok (n:Nat):aH 51 (zz.ae n):=aJ n [(7,⟨[(1,.int .i64),(5,.int .i64)],[],[0],[]⟩)] [] (ai (xn.ok n) aC) aD func51
def xo.f (n:Nat) (a0:List (List Int)) (a1:Int):Option (Int×Unit):=br (decide ((ag (a1-(a0.length:Int)))<0)) (some (-1,())) (iter n (fun fa x5=>br (decide (x5.2.1<(a0.length:Int))) (ab (0≤x5.2.1∧x5.2.1<(a0.length:Int)) (let v7:=(a0.getD x5.2.1.toNat []); (jk.f n v7 x5.1).bind fun r8=>br (decide (r8.1<0)) (some (-1,())) (fa (r8.1,ag (x5.2.1+1),())))) (some (x5.1,()))) (ag (a1-(a0.length:Int)),0,()))
def xo.ae (n:Nat):ar:=⟨[.val (.sl IS),.val I],[.val I],fun x=>xo.f n x.1 x.2.1⟩
theorem xo.ok (n:Nat):aH 52 (xo.ae n):=aJ n [(7,⟨[(1,.int .i64),(5,.int .i64)],[],[0],[]⟩)] [] (ai ⟨jk.sound n,jk.av⟩ aC) aD func52
def zA.f (n:Nat) (a0:State) (a1:Int):Option (Int×Unit):=(zz.f n a0.1 a1).bind fun r1=>br (decide (r1.1<0)) (some (-1,())) ((xo.f n a0.2.1 r1.1).bind fun r2=>br (decide (r2.1<0)) (some (-1,())) ((xo.f n a0.2.2.1 r2.1).bind fun r3=>br (decide (r3.1<0)) (some (-1,())) (some (r3.1,()))))
def zA.ae (n:Nat):ar:=⟨[.val dk,.val I],[.val I],fun x=>zA.f n x.1 x.2.1⟩
theorem zA.ok (n:Nat):aH 23 (zA.ae n):=aJ n [] [] (ai (zz.ok n) (ai (xo.ok n) aC)) aD func23
def xp.f (n:Nat) (a0:aY):Option (aY×Unit):=(iA.f n a0.2).bind fun r1=>some ((a0.1,r1.1),())
def xp.ae (n:Nat):ar:=⟨[.val a_],[.val a_],fun x=>xp.f n x.1⟩
theorem xp.ok (n:Nat):aH 142 (xp.ae n):=aJ n [] [] (ai ⟨iA.sound n,iA.av⟩ aC) aD func142
def zB.f (n:Nat) (a0:List aY):Option (List aY×Unit):=ab ((a0.length:Int)=(a0.length:Int)∧0≤(a0.length:Int)∧(a0.length:Int)*(32:Int)≤(bn:Int)) (iter n (fun fC x6=>br (decide (x6.1<(a0.length:Int))) (ab (0≤x6.1∧x6.1<(a0.length:Int)) (let v8:=(a0.getD x6.1.toNat bz); (xp.f n v8).bind fun r9=>ab (0≤x6.1∧x6.1<(x6.2.1.length:Int)) (let v10:=(x6.2.1.set x6.1.toNat r9.1); fC (ag (x6.1+1),v10,())))) (some (x6.2.1,()))) (0,List.replicate (a0.length:Int).toNat ((0,[]):aY),()))
def zB.ae (n:Nat):ar:=⟨[.val (.sl a_)],[.val (.sl a_)],fun x=>zB.f n x.1⟩
theorem zB.ok (n:Nat):aH 81 (zB.ae n):=aJ n [(4,⟨[(3,.own 1000 a_),(4,.int .i64)],[(1000,.row true a_)],[0],[]⟩)] [] (ai (xp.ok n) aC) aD func81
def xq.f (n:Nat) (a0:List (List Int)):Option (List (List Int)×Unit):=ab ((a0.length:Int)=(a0.length:Int)∧0≤(a0.length:Int)∧(a0.length:Int)*(24:Int)≤(bn:Int)) (iter n (fun fa x5=>br (decide (x5.1<(a0.length:Int))) (ab (0≤x5.1∧x5.1<(a0.length:Int)) ((iA.f n (a0.getD x5.1.toNat [])).bind fun r7=>ab (0≤x5.1∧x5.1<(x5.2.1.length:Int)) (let v8:=(x5.2.1.set x5.1.toNat r7.1); fa (ag (x5.1+1),v8,())))) (some (x5.2.1,()))) (0,List.replicate (a0.length:Int).toNat ([]:List Int),()))
def xq.ae (n:Nat):ar:=⟨[.val (.sl IS)],[.val (.sl IS)],fun x=>xq.f n x.1⟩
theorem xq.ok (n:Nat):aH 82 (xq.ae n):=aJ n [(4,⟨[(3,.own 1000 IS),(4,.int .i64)],[(1000,.row true IS)],[0],[]⟩)] [] (ai ⟨iA.sound n,iA.av⟩ aC) aD func82
def toState.f (n:Nat) (a0:State):Option (State×Unit):=(zB.f n a0.1).bind fun r1=>(xq.f n a0.2.1).bind fun r2=>(xq.f n a0.2.2.1).bind fun r3=>some ((r1.1,r2.1,r3.1,a0.2.2.2),())
def toState.ae (n:Nat):ar:=⟨[.val dk],[.val dk],fun x=>toState.f n x.1⟩
theorem toState.ok (n:Nat):aH 34 (toState.ae n):=aJ n [] [] (ai (zB.ok n) (ai (xq.ok n) aC)) aD func34
def zC.f (n:Nat) (a0:Program) (a1:aY):Option (Bool×Unit):=(ch.f n a1.1 0 (a0.2.2.length:Int)).bind fun r1=>br r1.1 (br (decide ((a1.2.length:Int)=4)) ((fL.f n a1.2).bind fun r2=>some (r2.1,())) (some (false,()))) (some (false,()))
def zC.ae (n:Nat):ar:=⟨[.val bp,.val a_],[.val .bool],fun x=>zC.f n x.1 x.2.1⟩
theorem zC.ok (n:Nat):aH 185 (zC.ae n):=aJ n [] [] (ai ⟨ch.sound n,ch.av⟩ (ai ⟨fL.sound n,fL.av⟩ aC)) aD func185
def qo.f (n:Nat) (a0 a1:List Int):Option (Bool×Unit):=br (decide ((a1.length:Int)<(a0.length:Int))) (some (false,())) (iter n (fun fa x5=>br (decide (x5.1<(a0.length:Int))) (ab (0≤x5.1∧x5.1<(a0.length:Int)) (ab (0≤x5.1∧x5.1<(a1.length:Int)) (br (!decide ((a1.getD x5.1.toNat 0)=(a0.getD x5.1.toNat 0))) (some (false,())) (fa (ag (x5.1+1),()))))) (some (true,()))) (0,()))
def qo.ae (n:Nat):ar:=⟨[.val IS,.val IS],[.val .bool],fun x=>qo.f n x.1 x.2.1⟩
theorem qo.ok (n:Nat):aH 186 (qo.ae n):=aJ n [(6,⟨[(14,.int .i64)],[],[1,12,13],[]⟩)] [] aC aD func186
def xt.f (n:Nat) (a0 a1:List Int):Option (Bool×Unit):=br (decide ((a0.length:Int)≤(a1.length:Int))) (ab (0≤(ag ((a1.length:Int)-(a0.length:Int)))∧(ag ((a1.length:Int)-(a0.length:Int)))≤(a1.length:Int)∧(a1.length:Int)≤(a1.length:Int)) ((qo.f n a0 ((a1.take (a1.length:Int).toNat).drop (ag ((a1.length:Int)-(a0.length:Int))).toNat)).bind fun r1=>some (r1.1,()))) (some (false,()))
def xt.ae (n:Nat):ar:=⟨[.val IS,.val IS],[.val .bool],fun x=>xt.f n x.1 x.2.1⟩
theorem xt.ok (n:Nat):aH 187 (xt.ae n):=aJ n [] [] (ai (qo.ok n) aC) aD func187
def od.f (n:Nat) (a0:ak) (a1:State):Option (Bool×Unit):=cut ((eO.f n a0).bind fun r4=>br (!r4.1) (some (.inr (true,()))) (br (!decide ((a1.1.length:Int)=(a0.1.length:Int))) (some (.inr (true,()))) (br (!decide ((a1.2.1.length:Int)=(a0.2.length:Int))) (some (.inr (true,()))) (br (!decide ((a1.2.2.1.length:Int)=(a0.2.length:Int))) (some (.inr (true,()))) ((ch.f n a1.2.2.2 0 20000).bind fun r5=>some (.inr (!r5.1,()))))))) fun y3=>br y3.1 (some (false,())) (iter n (fun GR gN=>br (decide (gN.1<(a1.1.length:Int))) (ab (0≤gN.1∧gN.1<(a1.1.length:Int)) (let GS:=(a1.1.getD gN.1.toNat bz); ab (0≤gN.1∧gN.1<(a0.1.length:Int)) (let v26:=(a0.1.getD gN.1.toNat bf); (zC.f n v26 GS).bind fun dA=>br (!dA.1) (some (false,())) (GR (ag (gN.1+1),()))))) (iter n (fun J7 qp=>br (decide (qp.1<(a0.2.length:Int))) (ab (0≤qp.1∧qp.1<(a0.2.length:Int)) (let GU:=(a0.2.getD qp.1.toNat ay); ab (0≤qp.1∧qp.1<(a1.2.1.length:Int)) (let vu:=(a1.2.1.getD qp.1.toNat []); ab (0≤qp.1∧qp.1<(a1.2.2.1.length:Int)) (let v49:=(a1.2.2.1.getD qp.1.toNat []); cut ((fL.f n vu).bind fun OH=>br (!OH.1) (some (.inr (true,()))) ((fL.f n v49).bind fun xu=>br (!xu.1) (some (.inr (true,()))) ((qo.f n GU.2.2.2.2 v49).bind fun nk=>br (!nk.1) (some (.inr (true,()))) ((xt.f n vu v49).bind fun J8=>some (.inr (!J8.1,())))))) fun OI=>br OI.1 (some (false,())) (br (decide (GU.1=(-1))) (br (!decide ((v49.length:Int)=(GU.2.2.2.2.length:Int))) (some (false,())) (br (decide (GU.2.2.1=(-1))) (br (!decide ((v49.length:Int)=(vu.length:Int))) (some (false,())) (J7 (ag (qp.1+1),()))) (J7 (ag (qp.1+1),())))) (br (decide (GU.2.2.1=(-1))) (br (!decide ((v49.length:Int)=(vu.length:Int))) (some (false,())) (J7 (ag (qp.1+1),()))) (J7 (ag (qp.1+1),())))))))) (some (true,()))) (0,()))) (0,()))
def od.ae (n:Nat):ar:=⟨[.val bZ,.val dk],[.val .bool],fun x=>od.f n x.1 x.2.1⟩
theorem od.ok (n:Nat):aH 119 (od.ae n):=aJ n [(1,⟨[(46,.bool)],[],[2,3],[]⟩),(6,⟨[(50,.int .i64)],[],[2,3,48,49],[]⟩),(17,⟨[(67,.int .i64)],[],[3,65,66],[]⟩),(24,⟨[(102,.bool)],[],[3,8,9,10,65,66,67],[]⟩)] [] (ai ⟨eO.sound n,eO.av⟩ (ai ⟨ch.sound n,ch.av⟩ (ai (zC.ok n) (ai ⟨fL.sound n,fL.av⟩ (ai (qo.ok n) (ai (xt.ok n) aC)))))) aD func119
def sc.f (n:Nat) (a0:ak) (a1:State) (a2:List Int):Option (Bool×Unit):=(zy.f n a0 a2).bind fun r1=>br r1.1 ((od.f n a0 a1).bind fun r2=>some (r2.1,())) (some (false,()))
def sc.ae (n:Nat):ar:=⟨[.val bZ,.val dk,.val IS],[.val .bool],fun x=>sc.f n x.1 x.2.1 x.2.2.1⟩
theorem sc.ok (n:Nat):aH 56 (sc.ae n):=aJ n [] [] (ai (zy.ok n) (ai (od.ok n) aC)) aD func56
def zD.f (n:Nat) (a0:Program) (a1:aY):Option (Bool×Unit):=br (decide (0≤a1.1)) (br (decide (a1.1≤(a0.2.2.length:Int))) (br (decide ((a1.2.length:Int)=4)) ((fb.f n a1.2).bind fun r1=>some (r1.1,())) (some (false,()))) (some (false,()))) (some (false,()))
def zD.ae (n:Nat):ar:=⟨[.val bp,.val a_],[.val .bool],fun x=>zD.f n x.1 x.2.1⟩
theorem zD.ok (n:Nat):aH 144 (zD.ae n):=aJ n [] [] (ai ⟨fb.sound n,fb.av⟩ aC) aD func144
def ri.f (n:Nat) (a0 a1:List Int):Option (Bool×Unit):=br (!decide ((a0.length:Int)=(a1.length:Int))) (some (false,())) (iter n (fun fa x5=>br (decide (x5.1<(a0.length:Int))) (ab (0≤x5.1∧x5.1<(a0.length:Int)) (ab (0≤x5.1∧x5.1<(a1.length:Int)) (br (!decide ((a0.getD x5.1.toNat 0)=(a1.getD x5.1.toNat 0))) (some (false,())) (fa (ag (x5.1+1),()))))) (some (true,()))) (0,()))
def ri.ae (n:Nat):ar:=⟨[.val IS,.val IS],[.val .bool],fun x=>ri.f n x.1 x.2.1⟩
theorem ri.ok (n:Nat):aH 147 (ri.ae n):=aJ n [(6,⟨[(13,.int .i64)],[],[0,1,12],[]⟩)] [] aC aD func147
def xw.f (n:Nat) (a0 a1:List Int):Option (Bool×Unit):=(fb.f n a0).bind fun r1=>br r1.1 ((fb.f n a1).bind fun r2=>br r2.1 (br (decide ((a0.length:Int)≤(a1.length:Int))) (ab ((0:Int)≤0∧(0:Int)≤(a0.length:Int)∧(a0.length:Int)≤(a1.length:Int)) ((ri.f n a0 ((a1.take (a0.length:Int).toNat).drop 0)).bind fun r3=>some (r3.1,()))) (some (false,()))) (some (false,()))) (some (false,()))
def xw.ae (n:Nat):ar:=⟨[.val IS,.val IS],[.val .bool],fun x=>xw.f n x.1 x.2.1⟩
theorem xw.ok (n:Nat):aH 146 (xw.ae n):=aJ n [] [] (ai ⟨fb.sound n,fb.av⟩ (ai (ri.ok n) aC)) aD func146
def mq.f (n:Nat) (a0:ak) (a1:State):Option (Bool×Unit):=cut ((dS.f n a0).bind fun r3=>br (!r3.1) (some (.inr (true,()))) (br (!decide ((a1.1.length:Int)=(a0.1.length:Int))) (some (.inr (true,()))) (br (!decide ((a1.2.1.length:Int)=(a0.2.length:Int))) (some (.inr (true,()))) (br (!decide ((a1.2.2.1.length:Int)=(a0.2.length:Int))) (some (.inr (true,()))) (br (decide (a1.2.2.2<0)) (some (.inr (true,()))) (some (.inr (decide (20000<a1.2.2.2),())))))))) fun y2=>br y2.1 (some (false,())) (iter n (fun vv dq=>br (decide (dq.1<(a0.1.length:Int))) (ab (0≤dq.1∧dq.1<(a0.1.length:Int)) (let v23:=(a0.1.getD dq.1.toNat bf); ab (0≤dq.1∧dq.1<(a1.1.length:Int)) (let v24:=(a1.1.getD dq.1.toNat bz); (zD.f n v23 v24).bind fun pk=>br (!pk.1) (some (false,())) (vv (ag (dq.1+1),()))))) (iter n (fun J9 qt=>br (decide (qt.1<(a0.2.length:Int))) (ab (0≤qt.1∧qt.1<(a0.2.length:Int)) (let GV:=(a0.2.getD qt.1.toNat ay); ab (0≤qt.1∧qt.1<(a1.2.1.length:Int)) (let zE:=(a1.2.1.getD qt.1.toNat []); ab (0≤qt.1∧qt.1<(a1.2.2.1.length:Int)) (let lQ:=(a1.2.2.1.getD qt.1.toNat []); cut ((fb.f n zE).bind fun ez=>br (!ez.1) (some (.inr (true,()))) ((xw.f n GV.2.2.2.2 lQ).bind fun GW=>br (!GW.1) (some (.inr (true,()))) (br (decide ((lQ.length:Int)<(zE.length:Int))) (some (.inr (true,()))) (ab (0≤(ag ((lQ.length:Int)-(zE.length:Int)))∧(ag ((lQ.length:Int)-(zE.length:Int)))≤(lQ.length:Int)∧(lQ.length:Int)≤(lQ.length:Int)) ((ri.f n zE ((lQ.take (lQ.length:Int).toNat).drop (ag ((lQ.length:Int)-(zE.length:Int))).toNat)).bind fun pn=>some (.inr (!pn.1,()))))))) fun OJ=>br OJ.1 (some (false,())) (br (decide (GV.1=(-1))) (br (!decide ((lQ.length:Int)=(GV.2.2.2.2.length:Int))) (some (false,())) (br (decide (GV.2.2.1=(-1))) (br (!decide ((zE.length:Int)=(lQ.length:Int))) (some (false,())) (J9 (ag (qt.1+1),()))) (J9 (ag (qt.1+1),())))) (br (decide (GV.2.2.1=(-1))) (br (!decide ((zE.length:Int)=(lQ.length:Int))) (some (false,())) (J9 (ag (qt.1+1),()))) (J9 (ag (qt.1+1),())))))))) (some (true,()))) (0,()))) (0,()))
def mq.ae (n:Nat):ar:=⟨[.val bZ,.val dk],[.val .bool],fun x=>mq.f n x.1 x.2.1⟩
theorem mq.ok (n:Nat):aH 83 (mq.ae n):=aJ n [(1,⟨[(50,.bool)],[],[2,3],[]⟩),(6,⟨[(54,.int .i64)],[],[2,3,52,53],[]⟩),(17,⟨[(71,.int .i64)],[],[3,69,70],[]⟩),(23,⟨[(114,.bool)],[],[3,8,9,10,69,70,71],[]⟩)] [] (ai ⟨dS.sound n,dS.av⟩ (ai (zD.ok n) (ai ⟨fb.sound n,fb.av⟩ (ai (xw.ok n) (ai (ri.ok n) aC))))) aD func83
def xx.f (n:Nat) (a0 a1:aY):Option (Bool×Unit):=br (!decide (a0.1=a1.1)) (some (false,())) ((jl.f n a0.2 a1.2).bind fun r1=>br (!r1.1) (some (false,())) (some (true,())))
def xx.ae (n:Nat):ar:=⟨[.val a_,.val a_],[.val .bool],fun x=>xx.f n x.1 x.2.1⟩
theorem xx.ok (n:Nat):aH 177 (xx.ae n):=aJ n [] [] (ai ⟨jl.sound n,jl.av⟩ aC) aD func177
def zF.f (n:Nat) (a0 a1:List aY):Option (Bool×Unit):=br (!decide ((a0.length:Int)=(a1.length:Int))) (some (false,())) (iter n (fun ml x7=>br (decide (x7.1<(a0.length:Int))) (ab (0≤x7.1∧x7.1<(a0.length:Int)) (let v9:=(a0.getD x7.1.toNat bz); ab (0≤x7.1∧x7.1<(a1.length:Int)) (let v10:=(a1.getD x7.1.toNat bz); (xx.f n v9 v10).bind fun cW=>br (!cW.1) (some (false,())) (ml (ag (x7.1+1),()))))) (some (true,()))) (0,()))
def zF.ae (n:Nat):ar:=⟨[.val (.sl a_),.val (.sl a_)],[.val .bool],fun x=>zF.f n x.1 x.2.1⟩
theorem zF.ok (n:Nat):aH 100 (zF.ae n):=aJ n [(6,⟨[(5,.int .i64)],[],[0,1],[]⟩)] [] (ai (xx.ok n) aC) aD func100
def xy.f (n:Nat) (a0 a1:List (List Int)):Option (Bool×Unit):=br (!decide ((a0.length:Int)=(a1.length:Int))) (some (false,())) (iter n (fun fa x5=>br (decide (x5.1<(a0.length:Int))) (ab (0≤x5.1∧x5.1<(a0.length:Int)) (ab (0≤x5.1∧x5.1<(a1.length:Int)) ((jl.f n (a0.getD x5.1.toNat []) (a1.getD x5.1.toNat [])).bind fun r7=>br (!r7.1) (some (false,())) (fa (ag (x5.1+1),()))))) (some (true,()))) (0,()))
def xy.ae (n:Nat):ar:=⟨[.val (.sl IS),.val (.sl IS)],[.val .bool],fun x=>xy.f n x.1 x.2.1⟩
theorem xy.ok (n:Nat):aH 101 (xy.ae n):=aJ n [(6,⟨[(5,.int .i64)],[],[0,1],[]⟩)] [] (ai ⟨jl.sound n,jl.av⟩ aC) aD func101
def zG.f (n:Nat) (a0 a1:State):Option (Bool×Unit):=(zF.f n a0.1 a1.1).bind fun r1=>br (!r1.1) (some (false,())) ((xy.f n a0.2.1 a1.2.1).bind fun r2=>br (!r2.1) (some (false,())) ((xy.f n a0.2.2.1 a1.2.2.1).bind fun r3=>br (!r3.1) (some (false,())) (br (!decide (a0.2.2.2=a1.2.2.2)) (some (false,())) (some (true,())))))
def zG.ae (n:Nat):ar:=⟨[.val dk,.val dk],[.val .bool],fun x=>zG.f n x.1 x.2.1⟩
theorem zG.ok (n:Nat):aH 40 (zG.ae n):=aJ n [] [] (ai (zF.ok n) (ai (xy.ok n) aC)) aD func40
end Go.AmT
