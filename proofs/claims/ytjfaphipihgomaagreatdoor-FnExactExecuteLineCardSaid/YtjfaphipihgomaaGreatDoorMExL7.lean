/- Functions of the program, each as a plain Lean function. No condition. -/
import Derived.Test.YtjfaphipihgomaaGreatDoorMExL6
open Go Go.Am
noncomputable section
set_option linter.unusedVariables false
set_option maxRecDepth 100000
set_option linter.unusedSimpArgs false
open Bool renaming and_eq_true → aB
open Int renaming reduceEq → fT, tmod_lt_of_pos → LG, tmod_nonneg → LH, toNat_natCast → az
open List renaming all_eq_true → iy, getD_eq_getElem?_getD → lG, getElem?_eq_none → HW, getElem_mem → bV, length_append → cY, length_singleton → nE, mem_iff_getElem → tD, take_of_length_le → Cc
open Option renaming bind_some → aA
namespace Go.AmT
open Go.Proofs Go.Proofs.Tryz
def gQ.f (n:Nat) (a0:List Int):Option (List Int×Unit):=ab ((([]:List Int).length+a0.length)*8≤bn) (some (([]:List Int)++a0,()))
def gQ.ae (n:Nat):ar:=⟨[.val IS],[.val IS],fun x=>gQ.f n x.1⟩
theorem gQ.ok (n:Nat):aH 55 (gQ.ae n):=aJ n [] [] aC aD func55
def rn.f (n:Nat) (a0:Int):Option (Int×Unit):=cut (br (decide (999999<(a0.tmod 1999999))) (some (.inr (ag ((a0.tmod 1999999)-1999999),()))) (some (.inr (a0.tmod 1999999,())))) fun y1=>br (decide (y1.1<(-999999))) (some (ag (y1.1+1999999),())) (some (y1.1,()))
def rn.ae (n:Nat):ar:=⟨[.val I],[.val I],fun x=>rn.f n x.1⟩
theorem rn.ok (n:Nat):aH 280 (rn.ae n):=aJ n [(3,⟨[(3,.int .i64)],[],[],[]⟩)] [] aC aD func280
def xI.f (n:Nat) (a0 a1:Int):Option (Int×Unit):=br (decide ((max a1 (ag (0-a1)))=0)) (some (0,())) (if (max a1 (ag (0-a1)))=0 then none else br (decide ((a0.tmod (max a1 (ag (0-a1))))<0)) (some (ag ((a0.tmod (max a1 (ag (0-a1))))+(max a1 (ag (0-a1)))),())) (some (a0.tmod (max a1 (ag (0-a1))),())))
def xI.ae (n:Nat):ar:=⟨[.val I,.val I],[.val I],fun x=>xI.f n x.1 x.2.1⟩
theorem xI.ok (n:Nat):aH 281 (xI.ae n):=aJ n [] [] aC aD func281
def zS.f (n:Nat) (a0:Instr) (a1:List Int) (a2:Int):Option (Int×Unit):=br (decide (a0.1=1)) (some (a2,())) (br (decide (a0.1=3)) (some (a0.2.2.1,())) (br (decide (a0.1=4)) (ab (0≤a0.2.2.1∧a0.2.2.1<(a1.length:Int)) (let v49:=(a1.getD a0.2.2.1.toNat 0); ab (0≤a0.2.2.2∧a0.2.2.2<(a1.length:Int)) (let v50:=(a1.getD a0.2.2.2.toNat 0); (rn.f n (ag (v49+v50))).bind fun GW=>some (GW.1,())))) (br (decide (a0.1=5)) (ab (0≤a0.2.2.1∧a0.2.2.1<(a1.length:Int)) (let fc:=(a1.getD a0.2.2.1.toNat 0); ab (0≤a0.2.2.2∧a0.2.2.2<(a1.length:Int)) (let v62:=(a1.getD a0.2.2.2.toNat 0); (rn.f n (ag (fc-v62))).bind fun O1=>some (O1.1,())))) (br (decide (a0.1=6)) (ab (0≤a0.2.2.1∧a0.2.2.1<(a1.length:Int)) (let v70:=(a1.getD a0.2.2.1.toNat 0); ab (0≤a0.2.2.2∧a0.2.2.2<(a1.length:Int)) (let O2:=(a1.getD a0.2.2.2.toNat 0); (rn.f n (ag (v70*O2))).bind fun r72=>some (r72.1,())))) (br (decide (a0.1=7)) (ab (0≤a0.2.2.1∧a0.2.2.1<(a1.length:Int)) (let v76:=(a1.getD a0.2.2.1.toNat 0); ab (0≤a0.2.2.2∧a0.2.2.2<(a1.length:Int)) (let O3:=(a1.getD a0.2.2.2.toNat 0); (xI.f n v76 O3).bind fun O4=>some (O4.1,())))) (ab (0≤a0.2.1∧a0.2.1<(a1.length:Int)) (some (a1.getD a0.2.1.toNat 0,()))))))))
def zS.ae (n:Nat):ar:=⟨[.val cV,.val IS,.val I],[.val I],fun x=>zS.f n x.1 x.2.1 x.2.2.1⟩
theorem zS.ok (n:Nat):aH 246 (zS.ae n):=aJ n [] [] (ai (rn.ok n) (ai (xI.ok n) aC)) aD func246
def sn.f (n:Nat) (a0:Program) (a1:aY) (a2:Int):Option (aY×Int×Unit):=ab (0≤a1.1∧a1.1<(a0.2.2.length:Int)) (let v1:=(a0.2.2.getD a1.1.toNat fK); (gQ.f n a1.2).bind fun r2=>cut (br (decide (v1.1=2)) (ab (0≤v1.2.1∧v1.2.1<(a1.2.length:Int)) (let v5:=(a1.2.getD v1.2.1.toNat 0); some (.inr (v5,())))) (some (.inr (0,())))) fun y4=>cut (br (decide (v1.1=8)) (some (.inr (true,()))) (br (decide (v1.1=9)) (ab (0≤v1.2.1∧v1.2.1<(a1.2.length:Int)) (let v10:=(a1.2.getD v1.2.1.toNat 0); br (decide (v10=0)) (some (.inr (true,()))) (br (decide (v1.1=10)) (ab (0≤v1.2.1∧v1.2.1<(a1.2.length:Int)) (let v11:=(a1.2.getD v1.2.1.toNat 0); some (.inr (decide (v11<0),())))) (some (.inr (false,())))))) (br (decide (v1.1=10)) (ab (0≤v1.2.1∧v1.2.1<(a1.2.length:Int)) (let v12:=(a1.2.getD v1.2.1.toNat 0); some (.inr (decide (v12<0),())))) (some (.inr (false,())))))) fun y9=>cut (br y9.1 (some (.inr (v1.2.2.1,r2.1,()))) (some (.inr (ag (a1.1+1),r2.1,())))) fun vC=>(zS.f n v1 a1.2 a2).bind fun ie=>ab (0≤v1.2.1∧v1.2.1<(vC.2.1.length:Int)) (let xd:=(vC.2.1.set v1.2.1.toNat ie.1); some ((vC.1,xd),y4.1,())))
def sn.ae (n:Nat):ar:=⟨[.val bp,.val a_,.val I],[.val a_,.val I],fun x=>sn.f n x.1 x.2.1 x.2.2.1⟩
theorem sn.ok (n:Nat):aH 196 (sn.ae n):=aJ n [(5,⟨[(10,.int .i64)],[],[2,4,6,8,9],[]⟩),(7,⟨[(63,.bool)],[],[2,4,6,8,9,10],[]⟩),(8,⟨[(9,.bt 1000 0)],[(1000,.cells [] [.int .i64,.own 1001 I]),(1001,.row true I)],[2,4,6,8,10],[]⟩)] [] (ai (gQ.ok n) (ai (zS.ok n) aC)) aD func196
def lp.la:LA:=⟨[(0,.agg [.sh bp,.sh bJ]),(1,.agg [.own 0 a_,.own 1 IS,.own 2 IS,.int .i64]),(2,.int .i64)],[(0,.row true a_),(1,.row true IS),(2,.row true IS)],[],[]⟩
def lp.lb:LA:=⟨[(0,.agg [.own 0 a_,.own 1 IS,.own 2 IS,.int .i64])],[(0,.row true a_),(1,.row true IS),(2,.row true IS)],[],[]⟩
def lp.f (n:Nat) (a0:List Program) (a1:List aK) (a2 a3:Int) (a4:List aY) (a5 a6:List (List Int)):Option (Int×List aY×List (List Int)×List (List Int)×Unit):=ab (0≤a3∧a3<(a0.length:Int)) (let v1:=(a0.getD a3.toNat bf); ab (0≤a3∧a3<(a4.length:Int)) ((ig.f n v1 (a4.getD a3.toNat bz)).bind fun r2=>(ll.f n (a0,a1) (a4,a5,a6,a2) a3).bind fun r3=>cut (br (decide (r2.1=2)) (ab (0≤r3.1∧r3.1<(a5.length:Int)) (ab ((0:Int)≤0∧0<((a5.getD r3.1.toNat []).length:Int)) (ab (0≤r3.1∧r3.1<(a5.length:Int)) (ab ((0:Int)≤1∧(1:Int)≤((a5.getD r3.1.toNat []).length:Int)∧((a5.getD r3.1.toNat []).length:Int)≤((a5.getD r3.1.toNat []).length:Int)) ((gQ.f n (((a5.getD r3.1.toNat []).drop 1).take (((a5.getD r3.1.toNat []).length:Int).toNat-1))).bind fun r6=>ab (0≤r3.1∧r3.1<(a5.length:Int)) (some (.inr ((a5.getD r3.1.toNat []).getD 0 0,a2,a4,a5.set r3.1.toNat r6.1,a6,())))))))) (some (.inr (0,a2,a4,a5,a6,())))) fun y5=>ab (0≤a3∧a3<(a0.length:Int)) (let v7:=(a0.getD a3.toNat bf); ab (0≤a3∧a3<(y5.2.2.1.length:Int)) ((sn.f n v7 (y5.2.2.1.getD a3.toNat bz) y5.1).bind fun r8=>ab (0≤a3∧a3<(y5.2.2.1.length:Int)) (let v9:=(y5.2.2.1.set a3.toNat r8.1); cut (br (decide (r2.1=3)) (ab (0≤r3.1∧r3.1<(y5.2.2.2.1.length:Int)) (ab (((y5.2.2.2.1.getD r3.1.toNat []).length+([r8.2.1]:List Int).length)*8≤bn) (ab (0≤r3.1∧r3.1<(y5.2.2.2.1.length:Int)) (ab (r3.1.toNat=r3.1.toNat) (let jr:=(y5.2.2.2.1.set r3.1.toNat ((y5.2.2.2.1.getD r3.1.toNat [])++[r8.2.1])); ab (0≤r3.1∧r3.1<(y5.2.2.2.2.1.length:Int)) (ab (((y5.2.2.2.2.1.getD r3.1.toNat []).length+([r8.2.1]:List Int).length)*8≤bn) (ab (0≤r3.1∧r3.1<(y5.2.2.2.2.1.length:Int)) (ab (r3.1.toNat=r3.1.toNat) (let tX:=(y5.2.2.2.2.1.set r3.1.toNat ((y5.2.2.2.2.1.getD r3.1.toNat [])++[r8.2.1])); some (.inr (y5.2.1,v9,jr,tX,()))))))))))) (some (.inr (y5.2.1,v9,y5.2.2.2.1,y5.2.2.2.2.1,())))) fun Eg=>some (ag (Eg.1+1),Eg.2.1,Eg.2.2.1,Eg.2.2.2.1,()))))))
def lp.ae (n:Nat):cM:=⟨lp.la,lp.lb,fun x=>lp.f n x.1 x.2.1 x.2.2.1 x.2.2.2.1 x.2.2.2.2.1 x.2.2.2.2.2.1 x.2.2.2.2.2.2.1⟩
theorem lp.ok (n:Nat):ks 135 (lp.ae n):=lj n [(5,⟨[(4,.bt 1000 0),(10,.int .i64)],[(1000,.cells [] [.own 0 a_,.own 1 IS,.own 2 IS,.int .i64]),(0,.row true a_),(1,.row true IS),(2,.row true IS)],[2,3,6,7,9],[]⟩),(11,⟨[(4,.bt 1000 0)],[(1000,.cells [] [.own 0 a_,.own 1 IS,.own 2 IS,.int .i64]),(0,.row true a_),(1,.row true IS),(2,.row true IS)],[6],[]⟩)] [] (ai (ig.ok n) (ai (ll.ok n) (ai (gQ.ok n) (ai (sn.ok n) aC)))) aD func135
def qx.f (n:Nat) (a0:Int):Option (Int×Unit):=br (decide (999999<(a0.tmod 1999999))) (some (ag ((a0.tmod 1999999)-1999999),())) (br (decide ((a0.tmod 1999999)<(-999999))) (some (ag ((a0.tmod 1999999)+1999999),())) (some (a0.tmod 1999999,())))
def qx.ae (n:Nat):ar:=⟨[.val I],[.val I],fun x=>qx.f n x.1⟩
theorem qx.ok (n:Nat):aH 295 (qx.ae n):=aJ n [] [] aC aD func295
def vD.f (n:Nat) (a0 a1:Int):Option (Int×Unit):=br (decide (a1=0)) (some (0,())) (if (max a1 (ag (0-a1)))=0 then none else br (decide ((a0.tmod (max a1 (ag (0-a1))))<0)) (some (ag ((a0.tmod (max a1 (ag (0-a1))))+(max a1 (ag (0-a1)))),())) (some (a0.tmod (max a1 (ag (0-a1))),())))
def vD.ae (n:Nat):ar:=⟨[.val I,.val I],[.val I],fun x=>vD.f n x.1 x.2.1⟩
theorem vD.ok (n:Nat):aH 296 (vD.ae n):=aJ n [] [] aC aD func296
def rp.la:LA:=⟨[(0,.agg [.int .i64,.int .i64,.sh cV]),(1,.fl 0 a_ 0),(2,.int .i64)],[(0,.row true a_)],[],[]⟩
def rp.lb:LA:=⟨[(0,.int .i64)],[(0,.row true a_)],[],[]⟩
def rp.f (n:Nat) (a0 a1:Int) (a2:List Instr) (a3:Nat) (a4:Int) (a5:List aY):Option (Int×List aY×Unit):=ab (0≤(a5.getD a3 bz).1∧(a5.getD a3 bz).1<(a2.length:Int)) (let v1:=(a2.getD (a5.getD a3 bz).1.toNat fK); let v2:=(a5.set a3 (ag ((a5.getD a3 bz).1+1),(a5.getD a3 bz).2)); br (decide (v1.1=1)) (ab (0≤v1.2.1∧v1.2.1<((v2.getD a3 bz).2.length:Int)) (let v3:=(v2.set a3 ((v2.getD a3 bz).1,(v2.getD a3 bz).2.set v1.2.1.toNat a4)); some (0,v3,()))) (br (decide (v1.1=2)) (ab (0≤v1.2.1∧v1.2.1<((v2.getD a3 bz).2.length:Int)) (some ((v2.getD a3 bz).2.getD v1.2.1.toNat 0,v2,()))) (br (decide (v1.1=3)) (ab (0≤v1.2.1∧v1.2.1<((v2.getD a3 bz).2.length:Int)) (let v4:=(v2.set a3 ((v2.getD a3 bz).1,(v2.getD a3 bz).2.set v1.2.1.toNat v1.2.2.1)); some (0,v4,()))) (br (decide (v1.1=4)) (ab (0≤v1.2.2.1∧v1.2.2.1<((v2.getD a3 bz).2.length:Int)) (ab (0≤v1.2.2.2∧v1.2.2.2<((v2.getD a3 bz).2.length:Int)) ((qx.f n (ag (((v2.getD a3 bz).2.getD v1.2.2.1.toNat 0)+((v2.getD a3 bz).2.getD v1.2.2.2.toNat 0)))).bind fun r5=>ab (0≤v1.2.1∧v1.2.1<((v2.getD a3 bz).2.length:Int)) (let v6:=(v2.set a3 ((v2.getD a3 bz).1,(v2.getD a3 bz).2.set v1.2.1.toNat r5.1)); some (0,v6,()))))) (br (decide (v1.1=5)) (ab (0≤v1.2.2.1∧v1.2.2.1<((v2.getD a3 bz).2.length:Int)) (ab (0≤v1.2.2.2∧v1.2.2.2<((v2.getD a3 bz).2.length:Int)) ((qx.f n (ag (((v2.getD a3 bz).2.getD v1.2.2.1.toNat 0)-((v2.getD a3 bz).2.getD v1.2.2.2.toNat 0)))).bind fun r7=>ab (0≤v1.2.1∧v1.2.1<((v2.getD a3 bz).2.length:Int)) (let v8:=(v2.set a3 ((v2.getD a3 bz).1,(v2.getD a3 bz).2.set v1.2.1.toNat r7.1)); some (0,v8,()))))) (br (decide (v1.1=6)) (ab (0≤v1.2.2.1∧v1.2.2.1<((v2.getD a3 bz).2.length:Int)) (ab (0≤v1.2.2.2∧v1.2.2.2<((v2.getD a3 bz).2.length:Int)) ((qx.f n (ag (((v2.getD a3 bz).2.getD v1.2.2.1.toNat 0)*((v2.getD a3 bz).2.getD v1.2.2.2.toNat 0)))).bind fun r9=>ab (0≤v1.2.1∧v1.2.1<((v2.getD a3 bz).2.length:Int)) (let v10:=(v2.set a3 ((v2.getD a3 bz).1,(v2.getD a3 bz).2.set v1.2.1.toNat r9.1)); some (0,v10,()))))) (br (decide (v1.1=7)) (ab (0≤v1.2.2.1∧v1.2.2.1<((v2.getD a3 bz).2.length:Int)) (ab (0≤v1.2.2.2∧v1.2.2.2<((v2.getD a3 bz).2.length:Int)) ((vD.f n ((v2.getD a3 bz).2.getD v1.2.2.1.toNat 0) ((v2.getD a3 bz).2.getD v1.2.2.2.toNat 0)).bind fun cW=>ab (0≤v1.2.1∧v1.2.1<((v2.getD a3 bz).2.length:Int)) (let v12:=(v2.set a3 ((v2.getD a3 bz).1,(v2.getD a3 bz).2.set v1.2.1.toNat cW.1)); some (0,v12,()))))) (br (decide (v1.1=8)) (let jr:=(v2.set a3 (v1.2.2.1,(v2.getD a3 bz).2)); some (0,jr,())) (br (decide (v1.1=9)) (ab (0≤v1.2.1∧v1.2.1<((v2.getD a3 bz).2.length:Int)) (br (decide (((v2.getD a3 bz).2.getD v1.2.1.toNat 0)=0)) (let tX:=(v2.set a3 (v1.2.2.1,(v2.getD a3 bz).2)); some (0,tX,())) (some (0,v2,())))) (br (decide (v1.1=10)) (ab (0≤v1.2.1∧v1.2.1<((v2.getD a3 bz).2.length:Int)) (br (decide (((v2.getD a3 bz).2.getD v1.2.1.toNat 0)<0)) (let xd:=(v2.set a3 (v1.2.2.1,(v2.getD a3 bz).2)); some (0,xd,())) (some (0,v2,())))) (some (0,v2,()))))))))))))
def rp.ae (n:Nat):cM:=⟨rp.la,rp.lb,fun x=>rp.f n x.1 x.2.1 x.2.2.1 x.2.2.2.1 x.2.2.2.2.1 x.2.2.2.2.2.1⟩
theorem rp.ok (n:Nat):ks 269 (rp.ae n):=lj n [] [] (ai (qx.ok n) (ai (vD.ok n) aC)) aD func269
def lq.la:LA:=⟨[(0,.bt 0 0),(1,.int .i64)],[(0,.cells [true,true,false,false,false,false,false,false,true] [.sh bp,.sh bJ,.own 1 a_,.own 2 IS,.own 3 IS,.int .i64,.own 4 IS,.own 5 IS,.dn I]),(1,.row true a_),(2,.row true IS),(3,.row true IS),(4,.row true IS),(5,.row true IS)],[],[]⟩
def lq.lb:LA:=⟨[],[(0,.cells [true,true,false,false,false,false,false,false,true] [.sh bp,.sh bJ,.own 1 a_,.own 2 IS,.own 3 IS,.int .i64,.own 4 IS,.own 5 IS,.dn I]),(1,.row true a_),(2,.row true IS),(3,.row true IS),(4,.row true IS),(5,.row true IS)],[],[]⟩
def lq.f (n:Nat) (a0:Int) (a1:List Program) (a2:List aK) (a3:Int) (a4:Option (List Int)) (a5:List aY) (a6 a7:List (List Int)) (a8 a9:List (List Int)):Option (List Program×List aK×Int×Option (List Int)×List aY×List (List Int)×List (List Int)×List (List Int)×List (List Int)×Unit):=(iY.f n ((a1,a2),(a5,a6,a7,a3),a8,a9,a4) a0).bind fun r1=>cut (br (decide (r1.1=2)) (ab (0≤r1.2.1∧r1.2.1<(a6.length:Int)) (ab ((0:Int)≤0∧0<((a6.getD r1.2.1.toNat []).length:Int)) (ab (0≤r1.2.1∧r1.2.1<(a6.length:Int)) (ab ((0:Int)≤1∧(1:Int)≤((a6.getD r1.2.1.toNat []).length:Int)∧((a6.getD r1.2.1.toNat []).length:Int)≤((a6.getD r1.2.1.toNat []).length:Int)) (ab (0≤r1.2.1∧r1.2.1<(a6.length:Int)) (ab (r1.2.1.toNat=r1.2.1.toNat) (let v4:=(a6.set r1.2.1.toNat (((a6.getD r1.2.1.toNat []).drop 1).take (((a6.getD r1.2.1.toNat []).length:Int).toNat-1))); some (.inr ((a6.getD r1.2.1.toNat []).getD 0 0,a1,a2,a3,a4,a5,v4,a7,a8,a9,()))))))))) (some (.inr (0,a1,a2,a3,a4,a5,a6,a7,a8,a9,())))) fun y3=>ab (0≤a0∧a0<(y3.2.1.length:Int)) (let v5:=(y3.2.1.getD a0.toNat bf); ab (0≤a0∧a0<(y3.2.2.2.2.2.1.length:Int)) ((rp.f n v5.1 v5.2.1 v5.2.2 a0.toNat y3.1 y3.2.2.2.2.2.1).bind fun r6=>cut (br (decide (r1.1=3)) (ab (0≤r1.2.1∧r1.2.1<(y3.2.2.2.2.2.2.1.length:Int)) (ab (((y3.2.2.2.2.2.2.1.getD r1.2.1.toNat []).length+([r6.1]:List Int).length)*8≤bn) (ab (0≤r1.2.1∧r1.2.1<(y3.2.2.2.2.2.2.1.length:Int)) (ab (r1.2.1.toNat=r1.2.1.toNat) (let v10:=(y3.2.2.2.2.2.2.1.set r1.2.1.toNat ((y3.2.2.2.2.2.2.1.getD r1.2.1.toNat [])++[r6.1])); ab (0≤r1.2.1∧r1.2.1<(y3.2.2.2.2.2.2.2.1.length:Int)) (ab (((y3.2.2.2.2.2.2.2.1.getD r1.2.1.toNat []).length+([r6.1]:List Int).length)*8≤bn) (ab (0≤r1.2.1∧r1.2.1<(y3.2.2.2.2.2.2.2.1.length:Int)) (ab (r1.2.1.toNat=r1.2.1.toNat) (let v11:=(y3.2.2.2.2.2.2.2.1.set r1.2.1.toNat ((y3.2.2.2.2.2.2.2.1.getD r1.2.1.toNat [])++[r6.1])); some (.inr (y3.2.1,y3.2.2.1,y3.2.2.2.1,y3.2.2.2.2.1,r6.2.1,v10,v11,y3.2.2.2.2.2.2.2.2.1,y3.2.2.2.2.2.2.2.2.2.1,()))))))))))) (some (.inr (y3.2.1,y3.2.2.1,y3.2.2.2.1,y3.2.2.2.2.1,r6.2.1,y3.2.2.2.2.2.2.1,y3.2.2.2.2.2.2.2.1,y3.2.2.2.2.2.2.2.2.1,y3.2.2.2.2.2.2.2.2.2.1,())))) fun y9=>some (y9.1,y9.2.1,ag (y9.2.2.1+1),y9.2.2.2.1,y9.2.2.2.2.1,y9.2.2.2.2.2.1,y9.2.2.2.2.2.2.1,y9.2.2.2.2.2.2.2.1,y9.2.2.2.2.2.2.2.2.1,())))
def lq.ae (n:Nat):cM:=⟨lq.la,lq.lb,fun x=>lq.f n x.1 x.2.1 x.2.2.1 x.2.2.2.1 x.2.2.2.2.1 x.2.2.2.2.2.1 x.2.2.2.2.2.2.1 x.2.2.2.2.2.2.2.1 x.2.2.2.2.2.2.2.2.1 x.2.2.2.2.2.2.2.2.2.1⟩
theorem lq.ok (n:Nat):ks 225 (lq.ae n):=lj n [(3,⟨[(0,.bt 0 0),(6,.int .i64)],[(0,.cells [true,true,false,false,false,false,false,false,true] [.sh bp,.sh bJ,.own 1 a_,.own 2 IS,.own 3 IS,.int .i64,.own 4 IS,.own 5 IS,.dn I]),(1,.row true a_),(2,.row true IS),(3,.row true IS),(4,.row true IS),(5,.row true IS)],[1,4,5],[]⟩),(8,⟨[(0,.bt 0 0)],[(0,.cells [true,true,false,false,false,false,false,false,true] [.sh bp,.sh bJ,.own 1 a_,.own 2 IS,.own 3 IS,.int .i64,.own 4 IS,.own 5 IS,.dn I]),(1,.row true a_),(2,.row true IS),(3,.row true IS),(4,.row true IS),(5,.row true IS)],[],[]⟩)] [] (ai (iY.ok n) aC) (dI (rp.ok n) aD) func225
end Go.AmT
namespace Go.AmT
variable {size token:Int} {x:Instr} {gR:List Int} {n k:Nat} {p:Program} {a:aY} {nt:ak} {s:State}
def wr (x:Int):Int:=if 999999<x.tmod 1999999 then x.tmod 1999999-1999999 else if x.tmod 1999999 < -999999 then x.tmod 1999999+1999999 else x.tmod 1999999
theorem O5 (x:Int) : -1999999<x.tmod 1999999∧x.tmod 1999999<1999999:=by grind
theorem O6 (x:Int):tok (wr x)=true:=by have:=O5 x;unfold wr tok;simp only [aB,decide_eq_true_eq];omega
theorem Eh (n:Nat) (x:Int):qx.f n x=some (wr x,()):=by
 have:=O5 x;unfold qx.f wr;generalize x.tmod 1999999=r at this;simp only [iN];split
 ·rw [bM (by omega) (by omega)]
 split
 ·rw [bM (by omega) (by omega)]
 rfl
theorem O7 (n:Nat) (x:Int):rn.f n x=some (wr x,()):=by
 have:=O5 x;unfold rn.f wr;generalize x.tmod 1999999=r at this;by_cases h:999999<r
 ·rw [aM h,if_pos h,bM (by omega) (by omega)];simp only [bg];rw [au (by omega)]
 rw [au h,if_neg h];simp only [bg,iN];split
 ·rw [bM (by omega) (by omega)]
 rfl
def rs (x c:Int):Int:=if c=0 then 0 else if x.tmod (max c (-c))<0 then x.tmod (max c (-c))+max c (-c) else x.tmod (max c (-c))
theorem xJ {x:Int} (h:tok x=true) : -999999≤x∧x≤999999:=by
 unfold tok at h
 grind
theorem O8 (x m:Int) (hm:0<m) : -m<x.tmod m∧x.tmod m<m:=by
 rcases Int.lt_or_le x 0 with h | h
 ·have h1:=LG (-x) hm;have h2:=LH m (show 0≤-x by omega);rw [Int.neg_tmod] at h1 h2;omega
 have h1:=LG x hm;have h2:=LH m h;omega
theorem aeK {x c:Int} (hc:tok c=true):tok (rs x c)=true:=by
 have hc:=xJ hc;unfold rs;by_cases h:c=0
 ·grind
 rw [if_neg h];have:=O8 x (max c (-c)) (by omega);unfold tok;simp only [aB,decide_eq_true_eq];omega
theorem V_ (n:Nat) {x c:Int} (hc:tok c=true):vD.f n x c=some (rs x c,()):=by
 have hc:=xJ hc;unfold vD.f rs;rw [bM (by omega) (by omega),Int.zero_sub];by_cases h:c=0
 ·rw [aM h,if_pos h]
 have hm:=O8 x (max c (-c)) (by omega);rw [au h,if_neg h,if_neg (by omega)];simp only [iN];split
 ·rw [bM (by omega) (by omega)]
 rfl
theorem aeL (n:Nat) {x c:Int} (hc:tok c=true):xI.f n x c=some (rs x c,()):=by
 have hc:=xJ hc;unfold xI.f rs;rw [bM (by omega) (by omega),Int.zero_sub];by_cases h:c=0
 ·rw [aM (by omega),if_pos h]
 have hm:=O8 x (max c (-c)) (by omega);rw [au (by omega),if_neg h,if_neg (by omega)];simp only [iN];split
 ·rw [bM (by omega) (by omega)]
 rfl
structure Kh (size:Int) (x:Instr):Prop where
 op:1≤x.1∧x.1≤11
 a:0≤x.2.1∧x.2.1≤3
 bc:x.1=4∨x.1=5∨x.1=6∨x.1=7→(0≤x.2.2.1∧x.2.2.1≤3)∧0≤x.2.2.2∧x.2.2.2≤3
 b:x.1=8∨x.1=9∨x.1=10→0≤x.2.2.1∧x.2.2.1≤size
 t:x.1=3→tok x.2.2.1=true
theorem aeM {ins outs:Int} (h:fH ins outs size x=true):Kh size x:=by
 unfold fH at h;simp only [gF] at h;split at h
 ·rename_i c;simp only [aB,decide_eq_true_eq] at h;exact ⟨by omega,by omega,by omega,by omega,by omega⟩
 split at h
 ·rename_i c;simp only [aB,decide_eq_true_eq] at h;exact ⟨by omega,by omega,by omega,by omega,by omega⟩
 split at h
 ·rename_i c;simp only [aB,decide_eq_true_eq] at h;exact ⟨by omega,by omega,by omega,by omega,fun _=>h.2.1⟩
 split at h
 ·rename_i c;simp only [aB,decide_eq_true_eq] at h;exact ⟨by omega,by omega,by omega,by omega,by omega⟩
 split at h
 ·rename_i c;simp only [aB,decide_eq_true_eq] at h;exact ⟨by omega,by omega,by omega,by omega,by omega⟩
 split at h
 ·rename_i c;simp only [aB,decide_eq_true_eq] at h;exact ⟨by omega,by omega,by omega,by omega,by omega⟩
 split at h
 ·rename_i c;simp only [aB,decide_eq_true_eq] at h;exact ⟨by omega,by omega,by omega,by omega,by omega⟩
 grind
def rg (gR:List Int) (i:Int):Int:=gR.getD i.toNat 0
def Cd (x:Instr) (gR:List Int) (token:Int):Int:=
 if x.1=1 then token else if x.1=3 then x.2.2.1 else if x.1=4 then wr (rg gR x.2.2.1+rg gR x.2.2.2) else if x.1=5 then wr (rg gR x.2.2.1-rg gR x.2.2.2)
 else if x.1=6 then wr (rg gR x.2.2.1*rg gR x.2.2.2) else if x.1=7 then rs (rg gR x.2.2.1) (rg gR x.2.2.2) else rg gR x.2.1
def Ei (x:Instr) (a:aY):Int:=if x.1=8∨(x.1=9∧rg a.2 x.2.1=0)∨(x.1=10∧rg a.2 x.2.1<0) then x.2.2.1 else a.1+1
def pq (x:Instr) (a:aY):Int:=if x.1=2 then rg a.2 x.2.1 else 0
def kR (p:Program) (a:aY):Instr:=p.2.2.getD a.1.toNat fK
def jR (p:Program) (a:aY) (token:Int):aY:=(Ei (kR p a) a,a.2.set (kR p a).2.1.toNat (Cd (kR p a) a.2 token))
theorem rq {i:Int} (h:bX gR=true):tok (rg gR i)=true:=by
 unfold bX at h;simp only [aB,decide_eq_true_eq,iy] at h;unfold rg;by_cases hi:i.toNat<gR.length
 ·grind
 rw [lG,HW (by omega)]; decide
theorem O9 {x y:Int} (hx : -999999≤x∧x≤999999) (hy : -999999≤y∧y≤999999) : -1000000000000≤x*y∧x*y≤1000000000000:=by
 have h:(x*y).natAbs≤999999*999999:=by rw [Int.natAbs_mul]; exact Nat.mul_le_mul (by omega) (by omega)
 omega
theorem aeN (ho:Kh size x) (hl:gR.length=4) (hr:bX gR=true):zS.f n x gR token=some (Cd x gR token,()):=by
 unfold zS.f Cd;have hb:=xJ (rq (i:=x.2.2.1) hr);have hc:=xJ (rq (i:=x.2.2.2) hr);have hm:=O9 hb hc;simp only [iN];split
 ·rfl
 split
 ·rfl
 split
 ·rename_i h; have:=ho.bc (by omega);rw [af (by omega),af (by omega)];show ((rn.f n (ag (rg gR x.2.2.1+rg gR x.2.2.2))).bind _)=_;rw [bM (by omega) (by omega),O7]; rfl
 split
 ·rename_i h; have:=ho.bc (by omega);rw [af (by omega),af (by omega)];show ((rn.f n (ag (rg gR x.2.2.1-rg gR x.2.2.2))).bind _)=_;rw [bM (by omega) (by omega),O7]; rfl
 split
 ·rename_i h; have:=ho.bc (by omega);rw [af (by omega),af (by omega)];show ((rn.f n (ag (rg gR x.2.2.1*rg gR x.2.2.2))).bind _)=_;rw [bM (by omega) (by omega),O7]; rfl
 split
 ·rename_i h; have:=ho.bc (by omega);rw [af (by omega),af (by omega)];show ((xI.f n (rg gR x.2.2.1) (rg gR x.2.2.2)).bind _)=_;rw [aeL n (rq hr)]; rfl
 have:=ho.a;rw [af (by omega)]; rfl
theorem aeO (ho:Kh size x) (hr:bX gR=true) (ht:tok token=true):tok (Cd x gR token)=true:=by
 unfold Cd
 repeat' split
 ·exact ht
 ·rename_i h; exact ho.t h
 ·exact O6 _
 ·exact O6 _
 ·exact O6 _
 ·exact aeK (rq hr)
 exact rq hr
theorem Ki (hp:cP p=true) (h0:0≤a.1) (h1:a.1<(p.2.2.length:Int)):Kh (p.2.2.length:Int) (kR p a):=by
 unfold cP at hp;simp only [aB,iy] at hp;have aF:a.1.toNat<p.2.2.length:=by omega
 unfold kR;rw [aU aF];exact aeM (hp.2 _ (bV aF))
theorem G0 (h:gj p a=true):a.2.length=4∧bX a.2=true:=by
 unfold gj at h
 grind
theorem xK {a:List Int} (h:a.length≤1048576):gQ.f n a=some (a,()):=by unfold gQ.f;rw [dD (by grind)]; rfl
theorem V0 (hp:cP p=true) (ha:gj p a=true) (h1:a.1<(p.2.2.length:Int)):sn.f n p a token=some (jR p a token,pq (kR p a) a,()):=by
 have mb:=rm ha;obtain ⟨hl,hr⟩:=G0 ha;have O:=Ki hp mb.1 h1;have hlen:p.2.2.length≤24:=by unfold cP at hp;simp only [aB,decide_eq_true_eq] at hp;omega
 unfold sn.f jR;rw [af (by omega),xK (by omega)];simp only [aA];rw [show p.2.2.getD a.1.toNat fK=kR p a from rfl];generalize kR p a=x at O;have hA:=O.a;have cA:0≤x.2.1∧x.2.1<(a.2.length:Int):=by omega
 simp only [af cA];have e1:br (decide (x.1=2)) (some (Sum.inr (α:=aY×Int×Unit) (a.2.getD x.2.1.toNat 0,()))) (some (.inr (0,())))=some (.inr (pq x a,())):=by unfold pq rg; by_cases h:x.1=2<;>simp [h,br]
 rw [e1];simp only [bg];have e2:br (decide (x.1=8)) (some (Sum.inr (α:=aY×Int×Unit) (true,()))) (br (decide (x.1=9)) (br (decide (a.2.getD x.2.1.toNat 0=0)) (some (.inr (true,()))) (br (decide (x.1=10)) (some (.inr (decide (a.2.getD x.2.1.toNat 0<0),()))) (some (.inr (false,()))))) (br (decide (x.1=10)) (some (.inr (decide (a.2.getD x.2.1.toNat 0<0),()))) (some (.inr (false,()))))) =
   some (.inr (decide (x.1=8∨(x.1=9∧rg a.2 x.2.1=0)∨(x.1=10∧rg a.2 x.2.1<0)),())):=by
  unfold rg;generalize a.2.getD x.2.1.toNat 0=v;by_cases h8:x.1=8
  ·simp [h8,br]
  by_cases h9:x.1=9
  ·by_cases hz:v=0<;>simp [h9,hz,br]
  by_cases lE:x.1=10
  ·simp [h8,h9,lE,br]
  simp [h8,h9,lE,br]
 rw [e2];simp only [bg];have e3:br (decide (x.1=8∨(x.1=9∧rg a.2 x.2.1=0)∨(x.1=10∧rg a.2 x.2.1<0))) (some (Sum.inr (α:=aY×Int×Unit) (x.2.2.1,a.2,()))) (some (.inr (ag (a.1+1),a.2,())))=some (.inr (Ei x a,a.2,())):=by unfold Ei;rw [bM (by omega) (by omega),iN];split<;>rfl
 rw [e3];simp only [bg];rw [aeN O hl hr];simp only [aA];rw [af (by omega)]
theorem V1 {l:List Int} {i:Int} (h:0≤i∧i<(l.length:Int)):l.set i.toNat (rg l i)=l:=by unfold rg;simp_all
theorem aeP {al:List aY} (hk:k<al.length) (hp:cP p=true) (ha:gj p al[k]=true) (h1:al[k].1<(p.2.2.length:Int)) :
  rp.f n p.1 p.2.1 p.2.2 k token al=some (pq (kR p al[k]) al[k],al.set k (jR p al[k] token),()):=by
 have mb:=rm ha;obtain ⟨hl,hr⟩:=G0 ha;have O:=Ki hp mb.1 h1;have hlen:p.2.2.length≤24:=by unfold cP at hp;simp only [aB,decide_eq_true_eq] at hp;omega
 unfold rp.f jR;rw [aU hk];generalize al[k]=a at *;rw [af (by omega),bM (n:=a.1+1) (by omega) (by omega),show p.2.2.getD a.1.toNat fK=kR p a from rfl];generalize kR p a=x at O;have hA:=O.a;have cA:0≤x.2.1∧x.2.1<(a.2.length:Int):=by omega
 have hs:=V1 cA;have hb:=xJ (rq (i:=x.2.2.1) hr);have hc:=xJ (rq (i:=x.2.2.2) hr);have hm:=O9 hb hc;simp only [jD hk,List.set_set,af cA];have aP:x.1=1∨x.1=2∨x.1=3∨x.1=4∨x.1=5∨x.1=6∨x.1=7∨x.1=8∨x.1=9∨x.1=10∨x.1=11:=by have:=O.op; omega
 have xL:=O.bc;unfold Ei pq Cd;have r0:∀ i,a.2.getD (Int.toNat i) 0=rg a.2 i:=fun i=>rfl;simp only [r0];rcases aP with h | h | h | h | h | h | h | h | h | h | h
 ·simp only [h,decide_true,decide_false,ax,aw,fT,↓reduceIte,false_or,false_and,or_false]
 ·simp only [h,decide_true,decide_false,ax,aw,fT,↓reduceIte,false_or,false_and,or_false,hs]
 ·simp only [h,decide_true,decide_false,ax,aw,fT,↓reduceIte,false_or,false_and,or_false]
 ·have:=xL (by omega);simp only [h,decide_true,decide_false,ax,aw,fT,↓reduceIte,false_or,false_and,or_false];rw [af (by omega),af (by omega),bM (by omega) (by omega),Eh]; rfl
 ·have:=xL (by omega);simp only [h,decide_true,decide_false,ax,aw,fT,↓reduceIte,false_or,false_and,or_false];rw [af (by omega),af (by omega),bM (by omega) (by omega),Eh]; rfl
 ·have:=xL (by omega);simp only [h,decide_true,decide_false,ax,aw,fT,↓reduceIte,false_or,false_and,or_false];rw [af (by omega),af (by omega),bM (by omega) (by omega),Eh]; rfl
 ·have:=xL (by omega);simp only [h,decide_true,decide_false,ax,aw,fT,↓reduceIte,false_or,false_and,or_false];rw [af (by omega),af (by omega),V_ n (rq hr)]; rfl
 ·simp only [h,decide_true,decide_false,ax,aw,fT,↓reduceIte,true_or,false_or,false_and,or_false,hs]
 ·simp only [h,decide_true,decide_false,ax,aw,fT,↓reduceIte,false_or,false_and,or_false,true_and,hs,iN]
  grind
 ·simp only [h,decide_true,decide_false,ax,aw,fT,↓reduceIte,false_or,false_and,or_false,true_and,hs,iN]
  grind
 simp only [h,decide_true,decide_false,ax,aw,fT,↓reduceIte,false_or,false_and,or_false,hs]
theorem G1 (hp:cP p=true) (ha:gj p a=true) (h1:a.1<(p.2.2.length:Int)) (ht:tok token=true):gj p (jR p a token)=true∧tok (pq (kR p a) a)=true:=by
 have mb:=rm ha;obtain ⟨hl,hr⟩:=G0 ha;have O:=Ki hp mb.1 h1;have hv:=aeO O hr ht;have hb:=O.b;refine ⟨?_,?_⟩
 ·unfold gj jR Ei;simp only [aB,decide_eq_true_eq,List.length_set];refine ⟨?_,?_,hl,?_⟩
  ·omega
  ·omega
  unfold bX at hr ⊢
  grind
 unfold pq;split
 ·exact rq hr
 decide
def G2 (nt:ak) (s:State) (k:Nat):Int:=if (bE nt s k).1=2 then (s.2.1.getD (bL nt s k).toNat []).getD 0 0 else 0
def G3 (nt:ak) (s:State) (k:Nat):Int:=pq (kR (prog nt k) (mr s k)) (mr s k)
def eY (nt : ak) (s : State) (k : Nat) : State :=
  (s.1.set k (jR (prog nt k) (mr s k) (G2 nt s k)),
   if (bE nt s k).1 = 2 then s.2.1.set (bL nt s k).toNat ((s.2.1.getD (bL nt s k).toNat []).drop 1) else if (bE nt s k).1 = 3 then s.2.1.set (bL nt s k).toNat (s.2.1.getD (bL nt s k).toNat [] ++ [G3 nt s k]) else s.2.1,
   if (bE nt s k).1 = 3 then s.2.2.1.set (bL nt s k).toNat (s.2.2.1.getD (bL nt s k).toNat [] ++ [G3 nt s k]) else s.2.2.1,
   s.2.2.2 + 1)
theorem Ce (h:(ct p a).1≠0):a.1≠(p.2.2.length:Int):=by
 intro e;unfold ct at h
 grind
theorem xM (h:dw nt s k=true):(bE nt s k).1≠0∧s.2.2.2<20000∧((bE nt s k).1=2→0<(s.2.1.getD (bL nt s k).toNat []).length)∧((bE nt s k).1=3→(s.2.2.1.getD (bL nt s k).toNat []).length<400):=by
 unfold dw at h
 grind
theorem Kj (o:bU nt s) (hs:gP s) (hk:k<nt.1.length) (hc:dw nt s k=true) (hn:1048576<n) :
  lp.f n nt.1 nt.2 s.2.2.2 (k:Int) s.1 s.2.1 s.2.2.1=some ((eY nt s k).2.2.2,(eY nt s k).1,(eY nt s k).2.1,(eY nt s k).2.2.1,()):=by
 obtain ⟨w0,V2,w2,w3⟩:=xM hc;have uP:k<s.1.length:=by rw [o.na]; exact hk
 have ha:=o.act k hk;have hp:=o.cb.prog k hk;have dK:=o.steps;have hw:ig.f n (nt.1.getD k bf) (s.1.getD k bz)=some ((bE nt s k).1,(bE nt s k).2,()):=Ca ha;have mb:(s.1.getD k bz).1<((nt.1.getD k bf).2.2.length:Int):=by have h1:=(rm ha).2;have h2:=Ce (p:=nt.1.getD k bf) (a:=s.1.getD k bz) w0;omega
 have G4:∀ token,sn.f n (nt.1.getD k bf) (s.1.getD k bz) token=some (jR (prog nt k) (mr s k) token,G3 nt s k,()):=fun token=>V0 (by grind) ha mb;have hq:=o.nq;have nC:=o.ns;have jY:=G_ (n:=n) o hk hn;unfold lp.f eY G2;simp only [az];rw [af (by omega),af (by omega),hw];simp only [aA];rw [show ((nt.1,nt.2):ak)=nt from rfl,show ((s.1,s.2.1,s.2.2.1,s.2.2.2):State)=s from rfl,jY];simp only [aA];by_cases c2:(bE nt s k).1=2
 ·obtain ⟨j,hj,e,-⟩:=qw o hk c2;have hlen:=w2 c2;rw [e,az] at hlen ⊢;have V3:(s.2.1.getD j []).length≤1048576:=by rw [aU (by omega)]; exact hs.queue _ (bV (by omega))
  have c3:¬ (bE nt s k).1=3:=by omega
  rw [aM c2,af (by omega),af (by omega),af (by omega),af (by omega),Cc (by simp),xK (by grind)];simp only [aA];rw [af (by omega)];simp only [bg];rw [af (by omega),af (by omega),G4];simp only [aA];rw [af (by omega),au c3];simp only [bg];rw [bM (by omega) (by omega),if_pos c2,if_pos c2,if_neg c3]
 rw [au c2];simp only [bg];rw [af (by omega),af (by omega),G4];simp only [aA];rw [af (by omega)];by_cases c3:(bE nt s k).1=3
 ·obtain ⟨j,hj,e,-⟩:=vB o hk c3;have hlen:=w3 c3;rw [e,az] at hlen ⊢;have V3:(s.2.1.getD j []).length≤1048576:=by rw [aU (by omega)]; exact hs.queue _ (bV (by omega))
  rw [aM c3,af (by omega),dD (by grind),af (by omega),af (by trivial),af (by omega),dD (by grind),af (by omega),af (by trivial)];simp only [bg];rw [bM (by omega) (by omega),if_neg c2,if_neg c2,if_pos c3,if_pos c3]
 rw [au c3];simp only [bg];rw [bM (by omega) (by omega),if_neg c2,if_neg c2,if_neg c3,if_neg c3]
theorem Pa {r:oe} (R:kQ nt s r) (o:bU nt s) (hs:gP s) (hk:k<nt.1.length) (hc:dw nt s k=true) (hn:1048576<n) :
  lq.f n (k:Int) r.1.1 r.1.2 r.2.1.2.2.2 r.2.2.2.2 r.2.1.1 r.2.1.2.1 r.2.1.2.2.1 r.2.2.1 r.2.2.2.1 =
   some (r.1.1,r.1.2,(eY nt s k).2.2.2,r.2.2.2.2,(eY nt s k).1,(eY nt s k).2.1,(eY nt s k).2.2.1,r.2.2.1,r.2.2.2.1,()):=by
 obtain ⟨w0,V2,w2,w3⟩:=xM hc;have uP:k<s.1.length:=by rw [o.na]; exact hk
 have ha:=o.act k hk;have hp:=o.cb.prog k hk;have dK:=o.steps;have mb:(s.1.getD k bz).1<((nt.1.getD k bf).2.2.length:Int):=by have h1:=(rm ha).2;have h2:=Ce (p:=nt.1.getD k bf) (a:=s.1.getD k bz) w0;omega
 have G4:∀ token,rp.f n (nt.1.getD k bf).1 (nt.1.getD k bf).2.1 (nt.1.getD k bf).2.2 k token s.1=some (G3 nt s k,s.1.set k (jR (prog nt k) (mr s k) token),()):=fun token=>by have:=aeP (n:=n) (p:=nt.1.getD k bf) (al:=s.1) (token:=token) uP (by grind) (by grind) (by grind);rw [this,← aU uP bz]; rfl
 have hq:=o.nq;have nC:=o.ns;have Pb:=Ee (n:=n) R o hk;obtain ⟨r1,r2,to,fr,cp⟩:=r;obtain ⟨e1,e2,-,-⟩:=R;have e1:r1=nt:=e1;have e2:r2=s:=e2;subst e1 e2;unfold lq.f eY G2;simp only;have Pb:iY.f n ((r1.1,r1.2),(r2.1,r2.2.1,r2.2.2.1,r2.2.2.2),to,fr,cp) (k:Int)=some ((bE r1 r2 k).1,bL r1 r2 k,()):=Pb;rw [Pb];simp only [aA,az];by_cases c2:(bE r1 r2 k).1=2
 ·obtain ⟨j,hj,e,-⟩:=qw o hk c2;have hlen:=w2 c2;rw [e,az] at hlen ⊢;have c3:¬ (bE r1 r2 k).1=3:=by omega
  rw [aM c2,af (by omega),af (by omega),af (by omega),af (by omega),af (by omega),af (by trivial),Cc (by simp)];simp only [bg];rw [af (by omega),af (by omega),G4];simp only [aA];rw [au c3];simp only [bg];rw [bM (by omega) (by omega),if_pos c2,if_pos c2,if_neg c3]
 rw [au c2];simp only [bg];rw [af (by omega),af (by omega),G4];simp only [aA];by_cases c3:(bE r1 r2 k).1=3
 ·obtain ⟨j,hj,e,-⟩:=vB o hk c3;have hlen:=w3 c3;rw [e,az] at hlen ⊢;have V3:(r2.2.1.getD j []).length≤1048576:=by rw [aU (by omega)]; exact hs.queue _ (bV (by omega))
  rw [aM c3,af (by omega),dD (by grind),af (by omega),af (by trivial),af (by omega),dD (by grind),af (by omega),af (by trivial)];simp only [bg];rw [bM (by omega) (by omega),if_neg c2,if_neg c2,if_pos c3,if_pos c3]
 rw [au c3];simp only [bg];rw [bM (by omega) (by omega),if_neg c2,if_neg c2,if_neg c3,if_neg c3]
theorem kQ.step {s':State} {r:oe} (R:kQ nt s r):kQ nt s' (r.1,s',r.2.2):=⟨R.cb,rfl,R.to,R.fr⟩
theorem lS {q:List Int} (h:bX q=true):q.length≤400∧∀ x∈q,tok x=true:=by
 unfold bX at h
 grind
theorem Pc {q:List Int} (h1:q.length≤400) (h2:∀ x∈q,tok x=true):bX q=true:=by
 unfold bX
 grind
theorem my (o:bU nt s):gP s:=by
 have h1:=o.na;have h2:=o.nq;have h3:=o.ns;have hp:=o.cb.dZ;have hl:=o.cb.dp;refine ⟨by omega,fun a ha=>?_,by omega,fun q hq=>?_,by omega,fun q hq=>?_⟩
 ·obtain ⟨i,hi,rfl⟩:=tD.1 ha;have:=o.act i (by omega);rw [aU hi] at this;have:=(G0 this).1; omega
 ·obtain ⟨i,hi,rfl⟩:=tD.1 hq;have:=(o.bN i (by omega)).qs;rw [aU hi] at this;have:=(lS this).1; omega
 obtain ⟨i,hi,rfl⟩:=tD.1 hq;have:=(o.bN i (by omega)).hs;rw [aU hi] at this;have:=(lS this).1; omega
theorem aeQ (o:bU nt s) (hk:k<nt.1.length):tok (G2 nt s k)=true:=by
 unfold G2;split
 ·rename_i h;obtain ⟨j,hj,e,-⟩:=qw o hk h;rw [e,az];have hq:=(lS (o.bN j hj).qs).2;by_cases h0:0<(s.2.1.getD j []).length
  ·grind
  rw [lG,HW (by omega)]; decide
 decide
theorem Ej {nt:ak} {s:State} {k:Nat} (o:bU nt s) (hk:k<nt.1.length) (hc:dw nt s k=true):bU nt (eY nt s k):=by
 obtain ⟨w0,V2,w2,w3⟩:=xM hc
 have uP:k<s.1.length:=by rw [o.na]; exact hk
 have ha:=o.act k hk
 have hp:=o.cb.prog k hk
 have dK:=o.steps
 have mb:(s.1.getD k bz).1<((nt.1.getD k bf).2.2.length:Int):=by
  have h1:=(rm ha).2
  have h2:=Ce (p:=nt.1.getD k bf) (a:=s.1.getD k bz) w0
  omega
 have hA:=G1 (p:=nt.1.getD k bf) (a:=s.1.getD k bz) (by rw [aU hk]; exact hp) ha mb (aeQ o hk)
 have hO:tok (G3 nt s k)=true:=hA.2
 have hq:=o.nq
 have nC:=o.ns
 refine ⟨o.cb,by simp [eY,o.na],?_,?_,?_,fun i hi=>?_,fun i hi=>?_⟩
 ·unfold eY; simp only
  split
  ·simp [hq]
  ·split<;>simp [hq]
 ·unfold eY; simp only
  split<;>simp [nC]
 ·show 0≤s.2.2.2+1∧s.2.2.2+1≤20000
  omega
 ·show gj _ ((s.1.set k _).getD i bz)=true
  by_cases V4:k=i
  ·subst V4
   rw [jD uP]; exact hA.1
  ·rw [getD_set_ne V4]; exact o.act i hi
 ·have L:=o.bN i hi
  show vw _ ((eY nt s k).2.1.getD i []) ((eY nt s k).2.2.1.getD i [])
  unfold eY
  simp only
  by_cases c2:(bE nt s k).1=2
  ·obtain ⟨j,hj,e,e2,-⟩:=qw o hk c2
   rw [if_pos c2,if_neg (show ¬ (bE nt s k).1=3 by omega),e,az]
   by_cases A8:j=i
   ·subst A8
    rw [jD (by omega)]
    have h1:=lS L.qs
    refine ⟨Pc (by rw [List.length_drop]; omega) (fun x hx=>h1.2 x (List.mem_of_mem_drop hx)),L.hs,L.pre,(List.drop_suffix 1 _).trans L.Ka,L.VK,fun h=>?_⟩
    rw [aU hj] at h
    omega
   ·rw [getD_set_ne A8]; exact L
  ·rw [if_neg c2]
   by_cases c3:(bE nt s k).1=3
   ·obtain ⟨j,hj,e,e2,-⟩:=vB o hk c3
    have hlen:=w3 c3
    rw [if_pos c3,if_pos c3]
    rw [e,az] at hlen ⊢
    by_cases A8:j=i
    ·subst A8
     rw [jD (by omega),jD (by omega)]
     have h1:=lS L.qs
     have h2:=lS L.hs
     have h3:=L.Ka.length_le
     refine ⟨Pc (by rw [cY,nE]; omega) (fun x hx=>?_),Pc (by rw [cY,nE]; omega) (fun x hx=>?_),L.pre.trans (List.prefix_append _ _),?_,fun h=>?_,fun h=>?_⟩
     ·rcases List.mem_append.1 hx with hx | hx
      ·exact h1.2 x hx
      ·rw [List.mem_singleton.1 hx]; exact hO
     ·rcases List.mem_append.1 hx with hx | hx
      ·exact h2.2 x hx
      ·rw [List.mem_singleton.1 hx]; exact hO
     ·obtain ⟨t,ht⟩:=L.Ka
      exact ⟨t,by rw [← ht,List.append_assoc]⟩
     ·rw [aU hj] at h; omega
     ·have:=L.out h
      rw [cY,cY,this]
    ·rw [getD_set_ne A8,getD_set_ne A8]; exact L
   ·rw [if_neg c3,if_neg c3]; exact L
theorem aeR {s:List Int} (h:bX s=true) (i:Nat):tok (s.getD i 0)=true:=rq (i:=(i:Int)) h
theorem V5 (hp:cP p=true):0≤p.1∧p.1≤3∧0≤p.2.1∧p.2.1≤3∧p.2.2.length≤24:=by
 unfold cP at hp
 grind
end Go.AmT
