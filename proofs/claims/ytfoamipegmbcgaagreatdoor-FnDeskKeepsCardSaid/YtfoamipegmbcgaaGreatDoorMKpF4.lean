/- Functions that the law FnDeskKeeps reaches, each as a plain Lean function, and that each does what that says. No condition. -/
import Derived.Test.YtfoamipegmbcgaaGreatDoorMKpF3
namespace Go.AmT
noncomputable section
open Go Go.Am Go.Proofs
set_option linter.unusedVariables false
set_option maxRecDepth 100000
def mA.f (n:Nat) (a0:List Int):Option ((List Int)×Unit):=ab ((([]:List Int).length+a0.length)*8≤aW) (some ((([]:List Int)++a0),()))
def mA.ae (n:Nat):ar:=⟨[.val IS],[.val IS],fun x=>mA.f n x.1⟩
theorem mA.ok (n:Nat):aN 83 (mA.ae n):=aQ n [] [] aC aD Tryz.func83
def nu.f (n:Nat) (a0:Int):Option (Int×Unit):=cut (α:=(Int×Unit)) (br (decide (999999<(a0.tmod 1999999))) (some (.inr ((ag ((a0.tmod 1999999)-1999999)),()))) (some (.inr ((a0.tmod 1999999),())))) fun y1=>br (decide (y1.1<(-999999))) (some ((ag (y1.1+1999999)),())) (some (y1.1,()))
def nu.ae (n:Nat):ar:=⟨[.val I],[.val I],fun x=>nu.f n x.1⟩
theorem nu.ok (n:Nat):aN 213 (nu.ae n):=aQ n [(3,⟨[(3,.int .i64)],[],[],[]⟩)] [] aC aD Tryz.func213
def sV.f (n:Nat) (a0:Int) (a1:Int):Option (Int×Unit):=br (decide ((max a1 (ag (0-a1)))=0)) (some (0,())) (if (max a1 (ag (0-a1)))=0 then none else br (decide ((a0.tmod (max a1 (ag (0-a1))))<0)) (some ((ag ((a0.tmod (max a1 (ag (0-a1))))+(max a1 (ag (0-a1))))),())) (some ((a0.tmod (max a1 (ag (0-a1)))),())))
def sV.ae (n:Nat):ar:=⟨[.val I,.val I],[.val I],fun x=>sV.f n x.1 x.2.1⟩
theorem sV.ok (n:Nat):aN 214 (sV.ae n):=aQ n [] [] aC aD Tryz.func214
def uS.f (n:Nat) (a0:Instr) (a1:List Int) (a2:Int):Option (Int×Unit):=br (decide (a0.1=1)) (some (a2,())) (br (decide (a0.1=3)) (some (a0.2.2.1,())) (br (decide (a0.1=4)) (ab (0≤a0.2.2.1∧a0.2.2.1<(a1.length:Int)) (let v49:=(a1.getD a0.2.2.1.toNat 0); ab (0≤a0.2.2.2∧a0.2.2.2<(a1.length:Int)) (let VG:=(a1.getD a0.2.2.2.toNat 0); (nu.f n (ag (v49+VG))).bind fun BN=>some (BN.1,())))) (br (decide (a0.1=5)) (ab (0≤a0.2.2.1∧a0.2.2.1<(a1.length:Int)) (let dU:=(a1.getD a0.2.2.1.toNat 0); ab (0≤a0.2.2.2∧a0.2.2.2<(a1.length:Int)) (let VH:=(a1.getD a0.2.2.2.toNat 0); (nu.f n (ag (dU-VH))).bind fun VI=>some (VI.1,())))) (br (decide (a0.1=6)) (ab (0≤a0.2.2.1∧a0.2.2.1<(a1.length:Int)) (let v70:=(a1.getD a0.2.2.1.toNat 0); ab (0≤a0.2.2.2∧a0.2.2.2<(a1.length:Int)) (let VJ:=(a1.getD a0.2.2.2.toNat 0); (nu.f n (ag (v70*VJ))).bind fun VK=>some (VK.1,())))) (br (decide (a0.1=7)) (ab (0≤a0.2.2.1∧a0.2.2.1<(a1.length:Int)) (let v76:=(a1.getD a0.2.2.1.toNat 0); ab (0≤a0.2.2.2∧a0.2.2.2<(a1.length:Int)) (let VL:=(a1.getD a0.2.2.2.toNat 0); (sV.f n v76 VL).bind fun pE=>some (pE.1,())))) (ab (0≤a0.2.1∧a0.2.1<(a1.length:Int)) (some ((a1.getD a0.2.1.toNat 0),()))))))))
def uS.ae (n:Nat):ar:=⟨[.val df,.val IS,.val I],[.val I],fun x=>uS.f n x.1 x.2.1 x.2.2.1⟩
theorem uS.ok (n:Nat):aN 184 (uS.ae n):=aQ n [] [] (ak (nu.ok n) (ak (sV.ok n) aC)) aD Tryz.func184
def sW.f (n:Nat) (a0:Program) (a1:a_) (a2:Int):Option (a_×(Int×Unit)):=ab (0≤a1.1∧a1.1<(a0.2.2.length:Int)) (let v1:=(a0.2.2.getD a1.1.toNat je); (mA.f n a1.2).bind fun r2=>cut (α:=(Int×Unit)) (br (decide (v1.1=2)) (ab (0≤v1.2.1∧v1.2.1<(a1.2.length:Int)) (let v5:=(a1.2.getD v1.2.1.toNat 0); some (.inr (v5,())))) (some (.inr (0,())))) fun y4=>cut (α:=(Bool×Unit)) (br (decide (v1.1=8)) (some (.inr (true,()))) (br (decide (v1.1=9)) (ab (0≤v1.2.1∧v1.2.1<(a1.2.length:Int)) (let v10:=(a1.2.getD v1.2.1.toNat 0); br (decide (v10=0)) (some (.inr (true,()))) (br (decide (v1.1=10)) (ab (0≤v1.2.1∧v1.2.1<(a1.2.length:Int)) (let v11:=(a1.2.getD v1.2.1.toNat 0); some (.inr ((decide (v11<0)),())))) (some (.inr (false,())))))) (br (decide (v1.1=10)) (ab (0≤v1.2.1∧v1.2.1<(a1.2.length:Int)) (let v12:=(a1.2.getD v1.2.1.toNat 0); some (.inr ((decide (v12<0)),())))) (some (.inr (false,())))))) fun y9=>cut (α:=(Int×(List Int)×Unit)) (br y9.1 (some (.inr (v1.2.2.1,(r2.1,())))) (some (.inr ((ag (a1.1+1)),(r2.1,()))))) fun BQ=>(uS.f n v1 a1.2 a2).bind fun dp=>ab (0≤v1.2.1∧v1.2.1<(BQ.2.1.length:Int)) (let sD:=(BQ.2.1.set v1.2.1.toNat dp.1); some ((BQ.1,sD),(y4.1,()))))
def sW.ae (n:Nat):ar:=⟨[.val bn,.val bu,.val I],[.val bu,.val I],fun x=>sW.f n x.1 x.2.1 x.2.2.1⟩
theorem sW.ok (n:Nat):aN 147 (sW.ae n):=aQ n [(5,⟨[(10,.int .i64)],[],[2,4,6,8,9],[]⟩),(7,⟨[(63,.bool)],[],[2,4,6,8,9,10],[]⟩),(8,⟨[(9,.aJ 1000 0)],[(1000,.cells [] [.int .i64,.own 1001 I]),(1001,.row true I)],[2,4,6,8,10],[]⟩)] [] (ak (mA.ok n) (ak (uS.ok n) aC)) aD Tryz.func147
def og.la:LA:=⟨[(0,.agg [.sh bn,.sh cq]),(1,.agg [.own 0 bu,.own 1 IS,.own 2 IS,.int .i64]),(2,.int .i64)],[(0,.row true bu),(1,.row true IS),(2,.row true IS)],[],[]⟩
def og.lb:LA:=⟨[(0,.agg [.own 0 bu,.own 1 IS,.own 2 IS,.int .i64])],[(0,.row true bu),(1,.row true IS),(2,.row true IS)],[],[]⟩
def og.f (n:Nat) (a0:List Program) (a1:List aG) (a2:Int) (a3:Int) (a4:List a_) (a5:List (List Int)) (a6:List (List Int)):Option (Int×(List a_)×(List (List Int))×(List (List Int))×Unit):=ab (0≤a3∧a3<(a0.length:Int)) (let v1:=(a0.getD a3.toNat bp); ab (0≤a3∧a3<(a4.length:Int)) ((my.f n v1 (a4.getD a3.toNat ba)).bind fun r2=>(qO.f n (a0,a1) (a4,(a5,(a6,a2))) a3).bind fun r3=>cut (α:=(Int×(Int×(List a_)×(List (List Int))×(List (List Int))×Unit))) (br (decide (r2.1=2)) (ab (0≤r3.1∧r3.1<(a5.length:Int)) (ab ((0:Int)≤0∧(0:Int)<((a5.getD r3.1.toNat []).length:Int)) (ab (0≤r3.1∧r3.1<(a5.length:Int)) (ab ((0:Int)≤1∧(1:Int)≤((a5.getD r3.1.toNat []).length:Int)∧((a5.getD r3.1.toNat []).length:Int)≤((a5.getD r3.1.toNat []).length:Int)) ((mA.f n (((a5.getD r3.1.toNat []).drop 1).take (((a5.getD r3.1.toNat []).length:Int).toNat-1))).bind fun r6=>ab (0≤r3.1∧r3.1<(a5.length:Int)) (some (.inr (((a5.getD r3.1.toNat []).getD 0 0),(a2,(a4,((a5.set r3.1.toNat r6.1),(a6,())))))))))))) (some (.inr (0,(a2,(a4,(a5,(a6,())))))))) fun y5=>ab (0≤a3∧a3<(a0.length:Int)) (let v7:=(a0.getD a3.toNat bp); ab (0≤a3∧a3<(y5.2.2.1.length:Int)) ((sW.f n v7 (y5.2.2.1.getD a3.toNat ba) y5.1).bind fun r8=>ab (0≤a3∧a3<(y5.2.2.1.length:Int)) (let v9:=(y5.2.2.1.set a3.toNat r8.1); cut (α:=(Int×(List a_)×(List (List Int))×(List (List Int))×Unit)) (br (decide (r2.1=3)) (ab (0≤r3.1∧r3.1<(y5.2.2.2.1.length:Int)) (ab (((y5.2.2.2.1.getD r3.1.toNat []).length+([r8.2.1]:List Int).length)*8≤aW) (ab (0≤r3.1∧r3.1<(y5.2.2.2.1.length:Int)) (ab (r3.1.toNat=r3.1.toNat) (let w8:=(y5.2.2.2.1.set r3.1.toNat ((y5.2.2.2.1.getD r3.1.toNat [])++[r8.2.1])); ab (0≤r3.1∧r3.1<(y5.2.2.2.2.1.length:Int)) (ab (((y5.2.2.2.2.1.getD r3.1.toNat []).length+([r8.2.1]:List Int).length)*8≤aW) (ab (0≤r3.1∧r3.1<(y5.2.2.2.2.1.length:Int)) (ab (r3.1.toNat=r3.1.toNat) (let zp:=(y5.2.2.2.2.1.set r3.1.toNat ((y5.2.2.2.2.1.getD r3.1.toNat [])++[r8.2.1])); some (.inr (y5.2.1,(v9,(w8,(zp,())))))))))))))) (some (.inr (y5.2.1,(v9,(y5.2.2.2.1,(y5.2.2.2.2.1,()))))))) fun Ea=>some ((ag (Ea.1+1)),(Ea.2.1,(Ea.2.2.1,(Ea.2.2.2.1,())))))))))
def og.ae (n:Nat):bS:=⟨og.la,og.lb,fun x=>og.f n x.1 x.2.1 x.2.2.1 x.2.2.2.1 x.2.2.2.2.1 x.2.2.2.2.2.1 x.2.2.2.2.2.2.1⟩
theorem og.ok (n:Nat):eP 154 (og.ae n):=fm n [(5,⟨[(4,.aJ 1000 0),(10,.int .i64)],[(1000,.cells [] [.own 0 bu,.own 1 IS,.own 2 IS,.int .i64]),(0,.row true bu),(1,.row true IS),(2,.row true IS)],[2,3,6,7,9],[]⟩),(11,⟨[(4,.aJ 1000 0)],[(1000,.cells [] [.own 0 bu,.own 1 IS,.own 2 IS,.int .i64]),(0,.row true bu),(1,.row true IS),(2,.row true IS)],[6],[]⟩)] [] (ak (my.ok n) (ak (qO.ok n) (ak (mA.ok n) (ak (sW.ok n) aC)))) aD Tryz.func154
def mB.f (n:Nat) (a0:Int):Option (Int×Unit):=br (decide (999999<(a0.tmod 1999999))) (some ((ag ((a0.tmod 1999999)-1999999)),())) (br (decide ((a0.tmod 1999999)<(-999999))) (some ((ag ((a0.tmod 1999999)+1999999)),())) (some ((a0.tmod 1999999),())))
def mB.ae (n:Nat):ar:=⟨[.val I],[.val I],fun x=>mB.f n x.1⟩
theorem mB.ok (n:Nat):aN 180 (mB.ae n):=aQ n [] [] aC aD Tryz.func180
def qP.f (n:Nat) (a0:Int) (a1:Int):Option (Int×Unit):=br (decide (a1=0)) (some (0,())) (if (max a1 (ag (0-a1)))=0 then none else br (decide ((a0.tmod (max a1 (ag (0-a1))))<0)) (some ((ag ((a0.tmod (max a1 (ag (0-a1))))+(max a1 (ag (0-a1))))),())) (some ((a0.tmod (max a1 (ag (0-a1)))),())))
def qP.ae (n:Nat):ar:=⟨[.val I,.val I],[.val I],fun x=>qP.f n x.1 x.2.1⟩
theorem qP.ok (n:Nat):aN 181 (qP.ae n):=aQ n [] [] aC aD Tryz.func181
def nv.la:LA:=⟨[(0,.agg [.int .i64,.int .i64,.sh df]),(1,.dI 0 bu 0),(2,.int .i64)],[(0,.row true bu)],[],[]⟩
def nv.lb:LA:=⟨[(0,.int .i64)],[(0,.row true bu)],[],[]⟩
def nv.f (n:Nat) (a0:Int) (a1:Int) (a2:List Instr) (a3:Nat) (a4:Int) (a5:List a_):Option (Int×(List a_)×Unit):=ab (0≤(a5.getD a3 ba).1∧(a5.getD a3 ba).1<(a2.length:Int)) (let v1:=(a2.getD (a5.getD a3 ba).1.toNat je); let v2:=(a5.set a3 ((ag ((a5.getD a3 ba).1+1)),(a5.getD a3 ba).2)); br (decide (v1.1=1)) (ab (0≤v1.2.1∧v1.2.1<((v2.getD a3 ba).2.length:Int)) (let v3:=(v2.set a3 ((v2.getD a3 ba).1,((v2.getD a3 ba).2.set v1.2.1.toNat a4))); some (0,(v3,())))) (br (decide (v1.1=2)) (ab (0≤v1.2.1∧v1.2.1<((v2.getD a3 ba).2.length:Int)) (some (((v2.getD a3 ba).2.getD v1.2.1.toNat 0),(v2,())))) (br (decide (v1.1=3)) (ab (0≤v1.2.1∧v1.2.1<((v2.getD a3 ba).2.length:Int)) (let v4:=(v2.set a3 ((v2.getD a3 ba).1,((v2.getD a3 ba).2.set v1.2.1.toNat v1.2.2.1))); some (0,(v4,())))) (br (decide (v1.1=4)) (ab (0≤v1.2.2.1∧v1.2.2.1<((v2.getD a3 ba).2.length:Int)) (ab (0≤v1.2.2.2∧v1.2.2.2<((v2.getD a3 ba).2.length:Int)) ((mB.f n (ag (((v2.getD a3 ba).2.getD v1.2.2.1.toNat 0)+((v2.getD a3 ba).2.getD v1.2.2.2.toNat 0)))).bind fun r5=>ab (0≤v1.2.1∧v1.2.1<((v2.getD a3 ba).2.length:Int)) (let v6:=(v2.set a3 ((v2.getD a3 ba).1,((v2.getD a3 ba).2.set v1.2.1.toNat r5.1))); some (0,(v6,())))))) (br (decide (v1.1=5)) (ab (0≤v1.2.2.1∧v1.2.2.1<((v2.getD a3 ba).2.length:Int)) (ab (0≤v1.2.2.2∧v1.2.2.2<((v2.getD a3 ba).2.length:Int)) ((mB.f n (ag (((v2.getD a3 ba).2.getD v1.2.2.1.toNat 0)-((v2.getD a3 ba).2.getD v1.2.2.2.toNat 0)))).bind fun r7=>ab (0≤v1.2.1∧v1.2.1<((v2.getD a3 ba).2.length:Int)) (let v8:=(v2.set a3 ((v2.getD a3 ba).1,((v2.getD a3 ba).2.set v1.2.1.toNat r7.1))); some (0,(v8,())))))) (br (decide (v1.1=6)) (ab (0≤v1.2.2.1∧v1.2.2.1<((v2.getD a3 ba).2.length:Int)) (ab (0≤v1.2.2.2∧v1.2.2.2<((v2.getD a3 ba).2.length:Int)) ((mB.f n (ag (((v2.getD a3 ba).2.getD v1.2.2.1.toNat 0)*((v2.getD a3 ba).2.getD v1.2.2.2.toNat 0)))).bind fun r9=>ab (0≤v1.2.1∧v1.2.1<((v2.getD a3 ba).2.length:Int)) (let v10:=(v2.set a3 ((v2.getD a3 ba).1,((v2.getD a3 ba).2.set v1.2.1.toNat r9.1))); some (0,(v10,())))))) (br (decide (v1.1=7)) (ab (0≤v1.2.2.1∧v1.2.2.1<((v2.getD a3 ba).2.length:Int)) (ab (0≤v1.2.2.2∧v1.2.2.2<((v2.getD a3 ba).2.length:Int)) ((qP.f n ((v2.getD a3 ba).2.getD v1.2.2.1.toNat 0) ((v2.getD a3 ba).2.getD v1.2.2.2.toNat 0)).bind fun dA=>ab (0≤v1.2.1∧v1.2.1<((v2.getD a3 ba).2.length:Int)) (let v12:=(v2.set a3 ((v2.getD a3 ba).1,((v2.getD a3 ba).2.set v1.2.1.toNat dA.1))); some (0,(v12,())))))) (br (decide (v1.1=8)) (let w8:=(v2.set a3 (v1.2.2.1,(v2.getD a3 ba).2)); some (0,(w8,()))) (br (decide (v1.1=9)) (ab (0≤v1.2.1∧v1.2.1<((v2.getD a3 ba).2.length:Int)) (br (decide (((v2.getD a3 ba).2.getD v1.2.1.toNat 0)=0)) (let zp:=(v2.set a3 (v1.2.2.1,(v2.getD a3 ba).2)); some (0,(zp,()))) (some (0,(v2,()))))) (br (decide (v1.1=10)) (ab (0≤v1.2.1∧v1.2.1<((v2.getD a3 ba).2.length:Int)) (br (decide (((v2.getD a3 ba).2.getD v1.2.1.toNat 0)<0)) (let sD:=(v2.set a3 (v1.2.2.1,(v2.getD a3 ba).2)); some (0,(sD,()))) (some (0,(v2,()))))) (some (0,(v2,())))))))))))))
def nv.ae (n:Nat):bS:=⟨nv.la,nv.lb,fun x=>nv.f n x.1 x.2.1 x.2.2.1 x.2.2.2.1 x.2.2.2.2.1 x.2.2.2.2.2.1⟩
theorem nv.ok (n:Nat):eP 142 (nv.ae n):=fm n [] [] (ak (mB.ok n) (ak (qP.ok n) aC)) aD Tryz.func142
def jg.la:LA:=⟨[(0,.aJ 0 0),(1,.int .i64)],[(0,.cells [true,true,false,false,false,false,false,false,true] [.sh bn,.sh cq,.own 1 bu,.own 2 IS,.own 3 IS,.int .i64,.own 4 IS,.own 5 IS,.cu I]),(1,.row true bu),(2,.row true IS),(3,.row true IS),(4,.row true IS),(5,.row true IS)],[],[]⟩
def jg.lb:LA:=⟨[],[(0,.cells [true,true,false,false,false,false,false,false,true] [.sh bn,.sh cq,.own 1 bu,.own 2 IS,.own 3 IS,.int .i64,.own 4 IS,.own 5 IS,.cu I]),(1,.row true bu),(2,.row true IS),(3,.row true IS),(4,.row true IS),(5,.row true IS)],[],[]⟩
def jg.f (n:Nat) (a0:Int) (a1:List Program) (a2:List aG) (a3:Int) (a4:Option (List Int)) (a5:List a_) (a6:List (List Int)) (a7:List (List Int)) (a8:List (List Int)) (a9:List (List Int)):Option ((List Program)×(List aG)×(Int×(Option (List Int))×(List a_)×(List (List Int))×(List (List Int))×(List (List Int))×(List (List Int))×Unit)):=(fY.f n ((a1,a2),((a5,(a6,(a7,a3))),(a8,(a9,a4)))) a0).bind fun r1=>cut (α:=(Int×(List Program)×(List aG)×(Int×(Option (List Int))×(List a_)×(List (List Int))×(List (List Int))×(List (List Int))×(List (List Int))×Unit))) (br (decide (r1.1=2)) (ab (0≤r1.2.1∧r1.2.1<(a6.length:Int)) (ab ((0:Int)≤0∧(0:Int)<((a6.getD r1.2.1.toNat []).length:Int)) (ab (0≤r1.2.1∧r1.2.1<(a6.length:Int)) (ab ((0:Int)≤1∧(1:Int)≤((a6.getD r1.2.1.toNat []).length:Int)∧((a6.getD r1.2.1.toNat []).length:Int)≤((a6.getD r1.2.1.toNat []).length:Int)) (ab (0≤r1.2.1∧r1.2.1<(a6.length:Int)) (ab (r1.2.1.toNat=r1.2.1.toNat) (let v4:=(a6.set r1.2.1.toNat (((a6.getD r1.2.1.toNat []).drop 1).take (((a6.getD r1.2.1.toNat []).length:Int).toNat-1))); some (.inr (((a6.getD r1.2.1.toNat []).getD 0 0),(a1,(a2,(a3,(a4,(a5,(v4,(a7,(a8,(a9,())))))))))))))))))) (some (.inr (0,(a1,(a2,(a3,(a4,(a5,(a6,(a7,(a8,(a9,()))))))))))))) fun y3=>ab (0≤a0∧a0<(y3.2.1.length:Int)) (let v5:=(y3.2.1.getD a0.toNat bp); ab (0≤a0∧a0<(y3.2.2.2.2.2.1.length:Int)) ((nv.f n v5.1 v5.2.1 v5.2.2 a0.toNat y3.1 y3.2.2.2.2.2.1).bind fun r6=>cut (α:=((List Program)×(List aG)×(Int×(Option (List Int))×(List a_)×(List (List Int))×(List (List Int))×(List (List Int))×(List (List Int))×Unit))) (br (decide (r1.1=3)) (ab (0≤r1.2.1∧r1.2.1<(y3.2.2.2.2.2.2.1.length:Int)) (ab (((y3.2.2.2.2.2.2.1.getD r1.2.1.toNat []).length+([r6.1]:List Int).length)*8≤aW) (ab (0≤r1.2.1∧r1.2.1<(y3.2.2.2.2.2.2.1.length:Int)) (ab (r1.2.1.toNat=r1.2.1.toNat) (let v10:=(y3.2.2.2.2.2.2.1.set r1.2.1.toNat ((y3.2.2.2.2.2.2.1.getD r1.2.1.toNat [])++[r6.1])); ab (0≤r1.2.1∧r1.2.1<(y3.2.2.2.2.2.2.2.1.length:Int)) (ab (((y3.2.2.2.2.2.2.2.1.getD r1.2.1.toNat []).length+([r6.1]:List Int).length)*8≤aW) (ab (0≤r1.2.1∧r1.2.1<(y3.2.2.2.2.2.2.2.1.length:Int)) (ab (r1.2.1.toNat=r1.2.1.toNat) (let v11:=(y3.2.2.2.2.2.2.2.1.set r1.2.1.toNat ((y3.2.2.2.2.2.2.2.1.getD r1.2.1.toNat [])++[r6.1])); some (.inr (y3.2.1,(y3.2.2.1,(y3.2.2.2.1,(y3.2.2.2.2.1,(r6.2.1,(v10,(v11,(y3.2.2.2.2.2.2.2.2.1,(y3.2.2.2.2.2.2.2.2.2.1,()))))))))))))))))))) (some (.inr (y3.2.1,(y3.2.2.1,(y3.2.2.2.1,(y3.2.2.2.2.1,(r6.2.1,(y3.2.2.2.2.2.2.1,(y3.2.2.2.2.2.2.2.1,(y3.2.2.2.2.2.2.2.2.1,(y3.2.2.2.2.2.2.2.2.2.1,())))))))))))) fun y9=>some (y9.1,(y9.2.1,((ag (y9.2.2.1+1)),(y9.2.2.2.1,(y9.2.2.2.2.1,(y9.2.2.2.2.2.1,(y9.2.2.2.2.2.2.1,(y9.2.2.2.2.2.2.2.1,(y9.2.2.2.2.2.2.2.2.1,())))))))))))
def jg.ae (n:Nat):bS:=⟨jg.la,jg.lb,fun x=>jg.f n x.1 x.2.1 x.2.2.1 x.2.2.2.1 x.2.2.2.2.1 x.2.2.2.2.2.1 x.2.2.2.2.2.2.1 x.2.2.2.2.2.2.2.1 x.2.2.2.2.2.2.2.2.1 x.2.2.2.2.2.2.2.2.2.1⟩
theorem jg.ok (n:Nat):eP 88 (jg.ae n):=fm n [(3,⟨[(0,.aJ 0 0),(6,.int .i64)],[(0,.cells [true,true,false,false,false,false,false,false,true] [.sh bn,.sh cq,.own 1 bu,.own 2 IS,.own 3 IS,.int .i64,.own 4 IS,.own 5 IS,.cu I]),(1,.row true bu),(2,.row true IS),(3,.row true IS),(4,.row true IS),(5,.row true IS)],[1,4,5],[]⟩),(8,⟨[(0,.aJ 0 0)],[(0,.cells [true,true,false,false,false,false,false,false,true] [.sh bn,.sh cq,.own 1 bu,.own 2 IS,.own 3 IS,.int .i64,.own 4 IS,.own 5 IS,.cu I]),(1,.row true bu),(2,.row true IS),(3,.row true IS),(4,.row true IS),(5,.row true IS)],[],[]⟩)] [] (ak (fY.ok n) aC) (bA (nv.ok n) aD) Tryz.func88
end
end Go.AmT
namespace Go.AmT
open Go Go.Am
set_option linter.unusedVariables false
set_option linter.unusedSimpArgs false
def wr (x:Int):Int:=if 999999<x.tmod 1999999 then x.tmod 1999999-1999999 else if x.tmod 1999999 < -999999 then x.tmod 1999999+1999999 else x.tmod 1999999
theorem HV (x:Int) : -1999999<x.tmod 1999999∧x.tmod 1999999<1999999:=by
 rcases Int.lt_or_le x 0 with h | h
 ·have h1:=Int.tmod_lt_of_pos (-x) (show (0:Int)<1999999 by omega)
  have h2:=Int.tmod_nonneg (1999999:Int) (show 0≤-x by omega)
  rw [Int.neg_tmod] at h1 h2
  omega
 ·have h1:=Int.tmod_lt_of_pos x (show (0:Int)<1999999 by omega)
  have h2:=Int.tmod_nonneg (1999999:Int) h
  omega
theorem HW (x:Int):tok (wr x)=true:=by
 have:=HV x
 unfold wr tok
 simp only [Bool.and_eq_true,decide_eq_true_eq]
 split
 ·omega
 ·split<;>omega
theorem zq (n:Nat) (x:Int):mB.f n x=some (wr x,()):=by
 have:=HV x
 unfold mB.f wr
 generalize x.tmod 1999999=r at this
 simp only [iT]
 split
 ·rw [bo (by omega) (by omega)]
 ·split
  ·rw [bo (by omega) (by omega)]
  ·rfl
theorem HX (n:Nat) (x:Int):nu.f n x=some (wr x,()):=by
 have:=HV x
 unfold nu.f wr
 generalize x.tmod 1999999=r at this
 by_cases h:999999<r
 ·rw [aZ h,if_pos h,bo (by omega) (by omega)]
  simp only [bF]
  rw [aK (by omega)]
 ·rw [aK h,if_neg h]
  simp only [bF,iT]
  split
  ·rw [bo (by omega) (by omega)]
  ·rfl
def rs (x c:Int):Int:=if c=0 then 0 else if x.tmod (max c (-c))<0 then x.tmod (max c (-c))+max c (-c) else x.tmod (max c (-c))
theorem sX {x:Int} (h:tok x=true) : -999999≤x∧x≤999999:=by
 unfold tok at h
 simpa using h
theorem HY (x m:Int) (hm:0<m) : -m<x.tmod m∧x.tmod m<m:=by
 rcases Int.lt_or_le x 0 with h | h
 ·have h1:=Int.tmod_lt_of_pos (-x) hm
  have h2:=Int.tmod_nonneg m (show 0≤-x by omega)
  rw [Int.neg_tmod] at h1 h2
  omega
 ·have h1:=Int.tmod_lt_of_pos x hm
  have h2:=Int.tmod_nonneg m h
  omega
theorem VM {x c:Int} (hc:tok c=true):tok (rs x c)=true:=by
 have hc:=sX hc
 unfold rs
 by_cases h:c=0
 ·rw [if_pos h]; decide
 ·rw [if_neg h]
  have:=HY x (max c (-c)) (by omega)
  unfold tok
  simp only [Bool.and_eq_true,decide_eq_true_eq]
  split<;>omega
theorem Nd (n:Nat) {x c:Int} (hc:tok c=true):qP.f n x c=some (rs x c,()):=by
 have hc:=sX hc
 unfold qP.f rs
 rw [bo (by omega) (by omega),Int.zero_sub]
 by_cases h:c=0
 ·rw [aZ h,if_pos h]
 ·have hm:=HY x (max c (-c)) (by omega)
  rw [aK h,if_neg h,if_neg (by omega)]
  simp only [iT]
  split
  ·rw [bo (by omega) (by omega)]
  ·rfl
theorem VN (n:Nat) {x c:Int} (hc:tok c=true):sV.f n x c=some (rs x c,()):=by
 have hc:=sX hc
 unfold sV.f rs
 rw [bo (by omega) (by omega),Int.zero_sub]
 by_cases h:c=0
 ·rw [aZ (by omega),if_pos h]
 ·have hm:=HY x (max c (-c)) (by omega)
  rw [aK (by omega),if_neg h,if_neg (by omega)]
  simp only [iT]
  split
  ·rw [bo (by omega) (by omega)]
  ·rfl
structure Eb (size:Int) (x:Instr):Prop where
 op:1≤x.1∧x.1≤11
 a:0≤x.2.1∧x.2.1≤3
 bc:x.1=4∨x.1=5∨x.1=6∨x.1=7→(0≤x.2.2.1∧x.2.2.1≤3)∧0≤x.2.2.2∧x.2.2.2≤3
 b:x.1=8∨x.1=9∨x.1=10→0≤x.2.2.1∧x.2.2.1≤size
 t:x.1=3→tok x.2.2.1=true
theorem VO {ins outs size:Int} {x:Instr} (h:eG ins outs size x=true):Eb size x:=by
 unfold eG at h
 simp only [eQ] at h
 split at h
 ·rename_i c
  simp only [Bool.and_eq_true,decide_eq_true_eq] at h
  exact ⟨by omega,by omega,by omega,by omega,by omega⟩
 ·split at h
  ·rename_i c
   simp only [Bool.and_eq_true,decide_eq_true_eq] at h
   exact ⟨by omega,by omega,by omega,by omega,by omega⟩
  ·split at h
   ·rename_i c
    simp only [Bool.and_eq_true,decide_eq_true_eq] at h
    exact ⟨by omega,by omega,by omega,by omega,fun _=>h.2.1⟩
   ·split at h
    ·rename_i c
     simp only [Bool.and_eq_true,decide_eq_true_eq] at h
     exact ⟨by omega,by omega,by omega,by omega,by omega⟩
    ·split at h
     ·rename_i c
      simp only [Bool.and_eq_true,decide_eq_true_eq] at h
      exact ⟨by omega,by omega,by omega,by omega,by omega⟩
     ·split at h
      ·rename_i c
       simp only [Bool.and_eq_true,decide_eq_true_eq] at h
       exact ⟨by omega,by omega,by omega,by omega,by omega⟩
      ·split at h
       ·rename_i c
        simp only [Bool.and_eq_true,decide_eq_true_eq] at h
        exact ⟨by omega,by omega,by omega,by omega,by omega⟩
       ·simp at h
def rg (eT:List Int) (i:Int):Int:=eT.getD i.toNat 0
def w9 (x:Instr) (eT:List Int) (token:Int):Int:=
 if x.1=1 then token else if x.1=3 then x.2.2.1 else if x.1=4 then wr (rg eT x.2.2.1+rg eT x.2.2.2) else if x.1=5 then wr (rg eT x.2.2.1-rg eT x.2.2.2)
 else if x.1=6 then wr (rg eT x.2.2.1*rg eT x.2.2.2) else if x.1=7 then rs (rg eT x.2.2.1) (rg eT x.2.2.2) else rg eT x.2.1
def zr (x:Instr) (a:a_):Int:=if x.1=8∨(x.1=9∧rg a.2 x.2.1=0)∨(x.1=10∧rg a.2 x.2.1<0) then x.2.2.1 else a.1+1
def ny (x:Instr) (a:a_):Int:=if x.1=2 then rg a.2 x.2.1 else 0
def ju (p:Program) (a:a_):Instr:=p.2.2.getD a.1.toNat je
def iV (p:Program) (a:a_) (token:Int):a_:=(zr (ju p a) a,a.2.set (ju p a).2.1.toNat (w9 (ju p a) a.2 token))
theorem nz {eT:List Int} {i:Int} (h:bG eT=true):tok (rg eT i)=true:=by
 unfold bG at h
 simp only [Bool.and_eq_true,decide_eq_true_eq,List.all_eq_true] at h
 unfold rg
 by_cases hi:i.toNat<eT.length
 ·rw [aH hi]; exact h.2 _ (List.getElem_mem hi)
 ·rw [List.getD_eq_getElem?_getD,List.getElem?_eq_none (by omega)]; decide
theorem HZ {x y:Int} (hx : -999999≤x∧x≤999999) (hy : -999999≤y∧y≤999999) : -1000000000000≤x*y∧x*y≤1000000000000:=by
 have h:(x*y).natAbs≤999999*999999:=by
  rw [Int.natAbs_mul]; exact Nat.mul_le_mul (by omega) (by omega)
 omega
theorem VP {n:Nat} {size:Int} {x:Instr} {eT:List Int} {token:Int} (ho:Eb size x) (hl:eT.length=4) (hr:bG eT=true):uS.f n x eT token=some (w9 x eT token,()):=by
 unfold uS.f w9
 have hb:=sX (nz (i:=x.2.2.1) hr)
 have hc:=sX (nz (i:=x.2.2.2) hr)
 have hm:=HZ hb hc
 simp only [iT]
 split
 ·rfl
 ·split
  ·rfl
  ·split
   ·rename_i h; have:=ho.bc (by omega)
    rw [ah (by omega),ah (by omega)]
    show ((nu.f n (ag (rg eT x.2.2.1+rg eT x.2.2.2))).bind _)=_
    rw [bo (by omega) (by omega),HX]; rfl
   ·split
    ·rename_i h; have:=ho.bc (by omega)
     rw [ah (by omega),ah (by omega)]
     show ((nu.f n (ag (rg eT x.2.2.1-rg eT x.2.2.2))).bind _)=_
     rw [bo (by omega) (by omega),HX]; rfl
    ·split
     ·rename_i h; have:=ho.bc (by omega)
      rw [ah (by omega),ah (by omega)]
      show ((nu.f n (ag (rg eT x.2.2.1*rg eT x.2.2.2))).bind _)=_
      rw [bo (by omega) (by omega),HX]; rfl
     ·split
      ·rename_i h; have:=ho.bc (by omega)
       rw [ah (by omega),ah (by omega)]
       show ((sV.f n (rg eT x.2.2.1) (rg eT x.2.2.2)).bind _)=_
       rw [VN n (nz hr)]; rfl
      ·have:=ho.a
       rw [ah (by omega)]; rfl
theorem VQ {size:Int} {x:Instr} {eT:List Int} {token:Int} (ho:Eb size x) (hr:bG eT=true) (ht:tok token=true):tok (w9 x eT token)=true:=by
 unfold w9
 repeat' split
 ·exact ht
 ·rename_i h; exact ho.t h
 ·exact HW _
 ·exact HW _
 ·exact HW _
 ·exact VM (nz hr)
 ·exact nz hr
theorem Ec {p:Program} {a:a_} (hp:cr p=true) (h0:0≤a.1) (h1:a.1<(p.2.2.length:Int)):Eb (p.2.2.length:Int) (ju p a):=by
 unfold cr at hp
 simp only [Bool.and_eq_true,List.all_eq_true] at hp
 have ao:a.1.toNat<p.2.2.length:=by omega
 unfold ju
 rw [aH ao]
 exact VO (hp.2 _ (List.getElem_mem ao))
theorem BR {p:Program} {a:a_} (h:eH p a=true):a.2.length=4∧bG a.2=true:=by
 unfold eH at h
 simp only [Bool.and_eq_true,decide_eq_true_eq] at h
 exact ⟨h.2.2.1,h.2.2.2⟩
theorem Ed {n:Nat} {a:List Int} (h:a.length≤1048576):mA.f n a=some (a,()):=by
 unfold mA.f
 rw [bZ (by simp; omega)]; rfl
theorem VR {n:Nat} {p:Program} {a:a_} {token:Int} (hp:cr p=true) (ha:eH p a=true) (h1:a.1<(p.2.2.length:Int)):sW.f n p a token=some (iV p a token,(ny (ju p a) a,())):=by
 have jU:=oa ha
 obtain ⟨hl,hr⟩:=BR ha
 have O:=Ec hp jU.1 h1
 have hlen:p.2.2.length≤24:=by
  unfold cr at hp
  simp only [Bool.and_eq_true,decide_eq_true_eq] at hp
  omega
 unfold sW.f iV
 rw [ah (by omega),Ed (by omega)]
 simp only [Option.bind_some]
 rw [show p.2.2.getD a.1.toNat je=ju p a from rfl]
 generalize ju p a=x at O
 have hA:=O.a
 have cA:0≤x.2.1∧x.2.1<(a.2.length:Int):=by omega
 simp only [ah cA]
 have e1:br (decide (x.1=2)) (some (Sum.inr (α:=a_×(Int×Unit)) (a.2.getD x.2.1.toNat 0,()))) (some (.inr (0,())))=some (.inr (ny x a,())):=by
  unfold ny rg; by_cases h:x.1=2<;>simp [h,br]
 rw [e1]
 simp only [bF]
 have e2:br (decide (x.1=8)) (some (Sum.inr (α:=a_×(Int×Unit)) (true,()))) (br (decide (x.1=9)) (br (decide (a.2.getD x.2.1.toNat 0=0)) (some (.inr (true,()))) (br (decide (x.1=10)) (some (.inr ((decide (a.2.getD x.2.1.toNat 0<0)),()))) (some (.inr (false,()))))) (br (decide (x.1=10)) (some (.inr ((decide (a.2.getD x.2.1.toNat 0<0)),()))) (some (.inr (false,()))))) =
   some (.inr (decide (x.1=8∨(x.1=9∧rg a.2 x.2.1=0)∨(x.1=10∧rg a.2 x.2.1<0)),())):=by
  unfold rg
  generalize a.2.getD x.2.1.toNat 0=v
  by_cases h8:x.1=8
  ·simp [h8,br]
  ·by_cases h9:x.1=9
   ·by_cases hz:v=0<;>simp [h9,hz,br]
   ·by_cases iv:x.1=10
    ·simp [h8,h9,iv,br]
    ·simp [h8,h9,iv,br]
 rw [e2]
 simp only [bF]
 have e3:br (decide (x.1=8∨(x.1=9∧rg a.2 x.2.1=0)∨(x.1=10∧rg a.2 x.2.1<0))) (some (Sum.inr (α:=a_×(Int×Unit)) (x.2.2.1,(a.2,())))) (some (.inr ((ag (a.1+1)),(a.2,()))))=some (.inr (zr x a,(a.2,()))):=by
  unfold zr
  rw [bo (by omega) (by omega),iT]
  split<;>rfl
 rw [e3]
 simp only [bF]
 rw [VP O hl hr]
 simp only [Option.bind_some]
 rw [ah (by omega)]
theorem Nf {l:List Int} {i:Int} (h:0≤i∧i<(l.length:Int)):l.set i.toNat (rg l i)=l:=by
 unfold rg
 rw [aH (by omega)]; exact List.set_getElem_self _
theorem VS {n:Nat} {p:Program} {al:List a_} {k:Nat} {token:Int} (hk:k<al.length) (hp:cr p=true) (ha:eH p al[k]=true) (h1:al[k].1<(p.2.2.length:Int)) :
  nv.f n p.1 p.2.1 p.2.2 k token al=some (ny (ju p al[k]) al[k],(al.set k (iV p al[k] token),())):=by
 have jU:=oa ha
 obtain ⟨hl,hr⟩:=BR ha
 have O:=Ec hp jU.1 h1
 have hlen:p.2.2.length≤24:=by
  unfold cr at hp
  simp only [Bool.and_eq_true,decide_eq_true_eq] at hp
  omega
 unfold nv.f iV
 rw [aH hk]
 generalize al[k]=a at *
 rw [ah (by omega),bo (n:=a.1+1) (by omega) (by omega),show p.2.2.getD a.1.toNat je=ju p a from rfl]
 generalize ju p a=x at O
 have hA:=O.a
 have cA:0≤x.2.1∧x.2.1<(a.2.length:Int):=by omega
 have hs:=Nf cA
 have hb:=sX (nz (i:=x.2.2.1) hr)
 have hc:=sX (nz (i:=x.2.2.2) hr)
 have hm:=HZ hb hc
 simp only [lF hk,List.set_set,ah cA]
 have aw:x.1=1∨x.1=2∨x.1=3∨x.1=4∨x.1=5∨x.1=6∨x.1=7∨x.1=8∨x.1=9∨x.1=10∨x.1=11:=by have:=O.op; omega
 have sY:=O.bc
 unfold zr ny w9
 have r0:∀ i,a.2.getD (Int.toNat i) 0=rg a.2 i:=fun i=>rfl
 simp only [r0]
 rcases aw with h | h | h | h | h | h | h | h | h | h | h
 ·simp only [h,decide_true,decide_false,aL,aF,Int.reduceEq,↓reduceIte,false_or,false_and,or_false]
 ·simp only [h,decide_true,decide_false,aL,aF,Int.reduceEq,↓reduceIte,false_or,false_and,or_false,hs]
 ·simp only [h,decide_true,decide_false,aL,aF,Int.reduceEq,↓reduceIte,false_or,false_and,or_false]
 ·have:=sY (by omega)
  simp only [h,decide_true,decide_false,aL,aF,Int.reduceEq,↓reduceIte,false_or,false_and,or_false]
  rw [ah (by omega),ah (by omega),bo (by omega) (by omega),zq]; rfl
 ·have:=sY (by omega)
  simp only [h,decide_true,decide_false,aL,aF,Int.reduceEq,↓reduceIte,false_or,false_and,or_false]
  rw [ah (by omega),ah (by omega),bo (by omega) (by omega),zq]; rfl
 ·have:=sY (by omega)
  simp only [h,decide_true,decide_false,aL,aF,Int.reduceEq,↓reduceIte,false_or,false_and,or_false]
  rw [ah (by omega),ah (by omega),bo (by omega) (by omega),zq]; rfl
 ·have:=sY (by omega)
  simp only [h,decide_true,decide_false,aL,aF,Int.reduceEq,↓reduceIte,false_or,false_and,or_false]
  rw [ah (by omega),ah (by omega),Nd n (nz hr)]; rfl
 ·simp only [h,decide_true,decide_false,aL,aF,Int.reduceEq,↓reduceIte,true_or,false_or,false_and,or_false,hs]
 ·simp only [h,decide_true,decide_false,aL,aF,Int.reduceEq,↓reduceIte,false_or,false_and,or_false,true_and,hs,iT]
  split<;>rfl
 ·simp only [h,decide_true,decide_false,aL,aF,Int.reduceEq,↓reduceIte,false_or,false_and,or_false,true_and,hs,iT]
  split<;>rfl
 ·simp only [h,decide_true,decide_false,aL,aF,Int.reduceEq,↓reduceIte,false_or,false_and,or_false,hs]
theorem BS {p:Program} {a:a_} {token:Int} (hp:cr p=true) (ha:eH p a=true) (h1:a.1<(p.2.2.length:Int)) (ht:tok token=true):eH p (iV p a token)=true∧tok (ny (ju p a) a)=true:=by
 have jU:=oa ha
 obtain ⟨hl,hr⟩:=BR ha
 have O:=Ec hp jU.1 h1
 have hv:=VQ O hr ht
 have hb:=O.b
 refine ⟨?_,?_⟩
 ·unfold eH iV zr
  simp only [Bool.and_eq_true,decide_eq_true_eq,List.length_set]
  refine ⟨?_,?_,hl,?_⟩
  ·split<;>omega
  ·split<;>omega
  ·unfold bG at hr ⊢
   simp only [Bool.and_eq_true,decide_eq_true_eq,List.all_eq_true,List.length_set] at hr ⊢
   refine ⟨hr.1,fun y hy=>?_⟩
   rcases List.mem_or_eq_of_mem_set hy with hy | rfl
   ·exact hr.2 y hy
   ·exact hv
 ·unfold ny
  split
  ·exact nz hr
  ·decide
def qQ (nt:ai) (s:State) (k:Nat):Int:=if (bf nt s k).1=2 then (s.2.1.getD (bQ nt s k).toNat []).getD 0 0 else 0
def qR (nt:ai) (s:State) (k:Nat):Int:=ny (ju (prog nt k) (lE s k)) (lE s k)
def cX (nt : ai) (s : State) (k : Nat) : State :=
  (s.1.set k (iV (prog nt k) (lE s k) (qQ nt s k)),
   if (bf nt s k).1 = 2 then s.2.1.set (bQ nt s k).toNat ((s.2.1.getD (bQ nt s k).toNat []).drop 1) else if (bf nt s k).1 = 3 then s.2.1.set (bQ nt s k).toNat (s.2.1.getD (bQ nt s k).toNat [] ++ [qR nt s k]) else s.2.1,
   if (bf nt s k).1 = 3 then s.2.2.1.set (bQ nt s k).toNat (s.2.2.1.getD (bQ nt s k).toNat [] ++ [qR nt s k]) else s.2.2.1,
   s.2.2.2 + 1)
theorem zt {p:Program} {a:a_} (h:(bT p a).1≠0):a.1≠(p.2.2.length:Int):=by
 intro e
 unfold bT at h
 rw [if_pos e] at h
 exact h rfl
theorem qS {nt:ai} {s:State} {k:Nat} (h:dH nt s k=true):(bf nt s k).1≠0∧s.2.2.2<20000∧((bf nt s k).1=2→0<(s.2.1.getD (bQ nt s k).toNat []).length)∧((bf nt s k).1=3→(s.2.2.1.getD (bQ nt s k).toNat []).length<400):=by
 unfold dH at h
 split at h
 ·simp at h
 ·rename_i h0
  have h0:(bf nt s k).1≠0∧¬ 20000≤s.2.2.2:=by
   constructor
   ·exact fun e=>h0 (.inl e)
   ·exact fun e=>h0 (.inr e)
  refine ⟨h0.1,by omega,fun h2=>?_,fun h3=>?_⟩
  ·rw [if_pos h2,decide_eq_true_eq] at h; omega
  ·rw [if_neg (by omega),if_pos h3,decide_eq_true_eq] at h; omega
theorem VT {n:Nat} {nt:ai} {s:State} {k:Nat} (o:bq nt s) (hs:jt s) (hk:k<nt.1.length) (hc:dH nt s k=true) (hn:1048576<n) :
  og.f n nt.1 nt.2 s.2.2.2 (k:Int) s.1 s.2.1 s.2.2.1=some ((cX nt s k).2.2.2,((cX nt s k).1,((cX nt s k).2.1,((cX nt s k).2.2.1,())))):=by
 obtain ⟨w0,Ee,w2,w3⟩:=qS hc
 have mz:k<s.1.length:=by rw [o.na]; exact hk
 have ha:=o.act k hk
 have hp:=o.ck.prog k hk
 have cI:=o.steps
 have hw:my.f n (nt.1.getD k bp) (s.1.getD k ba)=some ((bf nt s k).1,((bf nt s k).2,())):=HS ha
 have jU:(s.1.getD k ba).1<((nt.1.getD k bp).2.2.length:Int):=by
  have h1:=(oa ha).2
  have h2:=zt (p:=nt.1.getD k bp) (a:=s.1.getD k ba) w0
  omega
 have BT:∀ token,sW.f n (nt.1.getD k bp) (s.1.getD k ba) token=some (iV (prog nt k) (lE s k) token,(qR nt s k,())):=fun token=>VR (by rw [aH hk]; exact hp) ha jU
 have hq:=o.nq
 have ki:=o.ns
 have gM:=Nc (n:=n) o hk hn
 unfold og.f cX qQ
 simp only [Int.toNat_natCast]
 rw [ah (by omega),ah (by omega),hw]
 simp only [Option.bind_some]
 rw [show ((nt.1,nt.2):ai)=nt from rfl,show ((s.1,(s.2.1,(s.2.2.1,s.2.2.2))):State)=s from rfl,gM]
 simp only [Option.bind_some]
 by_cases c2:(bf nt s k).1=2
 ·obtain ⟨j,hj,e,-⟩:=oc o hk c2
  have hlen:=w2 c2
  rw [e,Int.toNat_natCast] at hlen ⊢
  have Ng:(s.2.1.getD j []).length≤1048576:=by rw [aH (by omega)]; exact hs.queue _ (List.getElem_mem (by omega))
  have c3:¬ (bf nt s k).1=3:=by omega
  rw [aZ c2,ah (by omega),ah (by omega),ah (by omega),ah (by omega),List.take_of_length_le (by simp),Ed (by rw [List.length_drop]; omega)]
  simp only [Option.bind_some]
  rw [ah (by omega)]
  simp only [bF]
  rw [ah (by omega),ah (by omega),BT]
  simp only [Option.bind_some]
  rw [ah (by omega),aK c3]
  simp only [bF]
  rw [bo (by omega) (by omega),if_pos c2,if_pos c2,if_neg c3]
 ·rw [aK c2]
  simp only [bF]
  rw [ah (by omega),ah (by omega),BT]
  simp only [Option.bind_some]
  rw [ah (by omega)]
  by_cases c3:(bf nt s k).1=3
  ·obtain ⟨j,hj,e,-⟩:=sU o hk c3
   have hlen:=w3 c3
   rw [e,Int.toNat_natCast] at hlen ⊢
   have Ng:(s.2.1.getD j []).length≤1048576:=by rw [aH (by omega)]; exact hs.queue _ (List.getElem_mem (by omega))
   rw [aZ c3,ah (by omega),bZ (by simp only [List.length_singleton]; omega),ah (by omega),ah (by trivial),ah (by omega),bZ (by simp only [List.length_singleton]; omega),ah (by omega),ah (by trivial)]
   simp only [bF]
   rw [bo (by omega) (by omega),if_neg c2,if_neg c2,if_pos c3,if_pos c3]
  ·rw [aK c3]
   simp only [bF]
   rw [bo (by omega) (by omega),if_neg c2,if_neg c2,if_neg c3,if_neg c3]
theorem H_ {n:Nat} {nt:ai} {s:State} {k:Nat} {r:kK} (R:iU nt s r) (o:bq nt s) (hs:jt s) (hk:k<nt.1.length) (hc:dH nt s k=true) (hn:1048576<n) :
  jg.f n (k:Int) r.1.1 r.1.2 r.2.1.2.2.2 r.2.2.2.2 r.2.1.1 r.2.1.2.1 r.2.1.2.2.1 r.2.2.1 r.2.2.2.1 =
   some (r.1.1,(r.1.2,((cX nt s k).2.2.2,(r.2.2.2.2,((cX nt s k).1,((cX nt s k).2.1,((cX nt s k).2.2.1,(r.2.2.1,(r.2.2.2.1,()))))))))):=by
 obtain ⟨w0,Ee,w2,w3⟩:=qS hc
 have mz:k<s.1.length:=by rw [o.na]; exact hk
 have ha:=o.act k hk
 have hp:=o.ck.prog k hk
 have cI:=o.steps
 have jU:(s.1.getD k ba).1<((nt.1.getD k bp).2.2.length:Int):=by
  have h1:=(oa ha).2
  have h2:=zt (p:=nt.1.getD k bp) (a:=s.1.getD k ba) w0
  omega
 have BT:∀ token,nv.f n (nt.1.getD k bp).1 (nt.1.getD k bp).2.1 (nt.1.getD k bp).2.2 k token s.1=some (qR nt s k,(s.1.set k (iV (prog nt k) (lE s k) token),())):=fun token=>by
  have:=VS (n:=n) (p:=nt.1.getD k bp) (al:=s.1) (token:=token) mz (by rw [aH hk]; exact hp) (by rw [aH mz] at ha; exact ha) (by rw [aH mz] at jU; exact jU)
  rw [this,← aH mz ba]; rfl
 have hq:=o.nq
 have ki:=o.ns
 have H0:=zm (n:=n) R o hk
 obtain ⟨r1,r2,to,fr,cp⟩:=r
 obtain ⟨e1,e2,-,-⟩:=R
 have e1:r1=nt:=e1
 have e2:r2=s:=e2
 subst e1 e2
 unfold jg.f cX qQ
 simp only
 have H0:fY.f n ((r1.1,r1.2),((r2.1,(r2.2.1,(r2.2.2.1,r2.2.2.2))),(to,(fr,cp)))) (k:Int)=some ((bf r1 r2 k).1,(bQ r1 r2 k,())):=H0
 rw [H0]
 simp only [Option.bind_some,Int.toNat_natCast]
 by_cases c2:(bf r1 r2 k).1=2
 ·obtain ⟨j,hj,e,-⟩:=oc o hk c2
  have hlen:=w2 c2
  rw [e,Int.toNat_natCast] at hlen ⊢
  have c3:¬ (bf r1 r2 k).1=3:=by omega
  rw [aZ c2,ah (by omega),ah (by omega),ah (by omega),ah (by omega),ah (by omega),ah (by trivial),List.take_of_length_le (by simp)]
  simp only [bF]
  rw [ah (by omega),ah (by omega),BT]
  simp only [Option.bind_some]
  rw [aK c3]
  simp only [bF]
  rw [bo (by omega) (by omega),if_pos c2,if_pos c2,if_neg c3]
 ·rw [aK c2]
  simp only [bF]
  rw [ah (by omega),ah (by omega),BT]
  simp only [Option.bind_some]
  by_cases c3:(bf r1 r2 k).1=3
  ·obtain ⟨j,hj,e,-⟩:=sU o hk c3
   have hlen:=w3 c3
   rw [e,Int.toNat_natCast] at hlen ⊢
   have Ng:(r2.2.1.getD j []).length≤1048576:=by rw [aH (by omega)]; exact hs.queue _ (List.getElem_mem (by omega))
   rw [aZ c3,ah (by omega),bZ (by simp only [List.length_singleton]; omega),ah (by omega),ah (by trivial),ah (by omega),bZ (by simp only [List.length_singleton]; omega),ah (by omega),ah (by trivial)]
   simp only [bF]
   rw [bo (by omega) (by omega),if_neg c2,if_neg c2,if_pos c3,if_pos c3]
  ·rw [aK c3]
   simp only [bF]
   rw [bo (by omega) (by omega),if_neg c2,if_neg c2,if_neg c3,if_neg c3]
theorem iU.step {nt:ai} {s s':State} {r:kK} (R:iU nt s r):iU nt s' (r.1,(s',r.2.2)):=⟨R.ck,rfl,R.to,R.fr⟩
theorem nA {q:List Int} (h:bG q=true):q.length≤400∧∀ x∈q,tok x=true:=by
 unfold bG at h
 simpa only [Bool.and_eq_true,decide_eq_true_eq,List.all_eq_true] using h
theorem H2 {q:List Int} (h1:q.length≤400) (h2:∀ x∈q,tok x=true):bG q=true:=by
 unfold bG
 simpa only [Bool.and_eq_true,decide_eq_true_eq,List.all_eq_true] using ⟨h1,h2⟩
theorem nB {nt:ai} {s:State} (o:bq nt s):jt s:=by
 have h1:=o.na
 have h2:=o.nq
 have h3:=o.ns
 have hp:=o.ck.ew
 have hl:=o.ck.dt
 refine ⟨by omega,fun a ha=>?_,by omega,fun q hq=>?_,by omega,fun q hq=>?_⟩
 ·obtain ⟨i,hi,rfl⟩:=List.mem_iff_getElem.1 ha
  have:=o.act i (by omega)
  rw [aH hi] at this
  have:=(BR this).1; omega
 ·obtain ⟨i,hi,rfl⟩:=List.mem_iff_getElem.1 hq
  have:=(o.bW i (by omega)).qs
  rw [aH hi] at this
  have:=(nA this).1; omega
 ·obtain ⟨i,hi,rfl⟩:=List.mem_iff_getElem.1 hq
  have:=(o.bW i (by omega)).hs
  rw [aH hi] at this
  have:=(nA this).1; omega
theorem VU {nt:ai} {s:State} {k:Nat} (o:bq nt s) (hk:k<nt.1.length):tok (qQ nt s k)=true:=by
 unfold qQ
 split
 ·rename_i h
  obtain ⟨j,hj,e,-⟩:=oc o hk h
  rw [e,Int.toNat_natCast]
  have hq:=(nA (o.bW j hj).qs).2
  by_cases h0:0<(s.2.1.getD j []).length
  ·rw [aH h0]; exact hq _ (List.getElem_mem h0)
  ·rw [List.getD_eq_getElem?_getD,List.getElem?_eq_none (by omega)]; decide
 ·decide
theorem zu {nt:ai} {s:State} {k:Nat} (o:bq nt s) (hk:k<nt.1.length) (hc:dH nt s k=true):bq nt (cX nt s k):=by
 obtain ⟨w0,Ee,w2,w3⟩:=qS hc
 have mz:k<s.1.length:=by rw [o.na]; exact hk
 have ha:=o.act k hk
 have hp:=o.ck.prog k hk
 have cI:=o.steps
 have jU:(s.1.getD k ba).1<((nt.1.getD k bp).2.2.length:Int):=by
  have h1:=(oa ha).2
  have h2:=zt (p:=nt.1.getD k bp) (a:=s.1.getD k ba) w0
  omega
 have hA:=BS (p:=nt.1.getD k bp) (a:=s.1.getD k ba) (by rw [aH hk]; exact hp) ha jU (VU o hk)
 have hO:tok (qR nt s k)=true:=hA.2
 have hq:=o.nq
 have ki:=o.ns
 refine ⟨o.ck,by simp [cX,o.na],?_,?_,?_,fun i hi=>?_,fun i hi=>?_⟩
 ·unfold cX; simp only
  split
  ·simp [hq]
  ·split<;>simp [hq]
 ·unfold cX; simp only
  split<;>simp [ki]
 ·show 0≤s.2.2.2+1∧s.2.2.2+1≤20000
  omega
 ·show eH _ ((s.1.set k _).getD i ba)=true
  by_cases Nh:k=i
  ·subst Nh
   rw [lF mz]; exact hA.1
  ·rw [getD_set_ne Nh]; exact o.act i hi
 ·have L:=o.bW i hi
  show qL _ ((cX nt s k).2.1.getD i []) ((cX nt s k).2.2.1.getD i [])
  unfold cX
  simp only
  by_cases c2:(bf nt s k).1=2
  ·obtain ⟨j,hj,e,e2,-⟩:=oc o hk c2
   rw [if_pos c2,if_neg (show ¬ (bf nt s k).1=3 by omega),e,Int.toNat_natCast]
   by_cases qG:j=i
   ·subst qG
    rw [lF (by omega)]
    have h1:=nA L.qs
    refine ⟨H2 (by rw [List.length_drop]; omega) (fun x hx=>h1.2 x (List.mem_of_mem_drop hx)),L.hs,L.pre,(List.drop_suffix 1 _).trans L.zi,L.MQ,fun h=>?_⟩
    rw [aH hj] at h
    omega
   ·rw [getD_set_ne qG]; exact L
  ·rw [if_neg c2]
   by_cases c3:(bf nt s k).1=3
   ·obtain ⟨j,hj,e,e2,-⟩:=sU o hk c3
    have hlen:=w3 c3
    rw [if_pos c3,if_pos c3]
    rw [e,Int.toNat_natCast] at hlen ⊢
    by_cases qG:j=i
    ·subst qG
     rw [lF (by omega),lF (by omega)]
     have h1:=nA L.qs
     have h2:=nA L.hs
     have h3:=L.zi.length_le
     refine ⟨H2 (by rw [List.length_append,List.length_singleton]; omega) (fun x hx=>?_),H2 (by rw [List.length_append,List.length_singleton]; omega) (fun x hx=>?_),L.pre.trans (List.prefix_append _ _),?_,fun h=>?_,fun h=>?_⟩
     ·rcases List.mem_append.1 hx with hx | hx
      ·exact h1.2 x hx
      ·rw [List.mem_singleton.1 hx]; exact hO
     ·rcases List.mem_append.1 hx with hx | hx
      ·exact h2.2 x hx
      ·rw [List.mem_singleton.1 hx]; exact hO
     ·obtain ⟨t,ht⟩:=L.zi
      exact ⟨t,by rw [← ht,List.append_assoc]⟩
     ·rw [aH hj] at h; omega
     ·have:=L.out h
      rw [List.length_append,List.length_append,this]
    ·rw [getD_set_ne qG,getD_set_ne qG]; exact L
   ·rw [if_neg c3,if_neg c3]; exact L
theorem VV {s:List Int} (h:bG s=true) (i:Nat):tok (s.getD i 0)=true:=nz (i:=(i:Int)) h
theorem VW {p:Program} (hp:cr p=true):0≤p.1∧p.1≤3∧0≤p.2.1∧p.2.1≤3∧p.2.2.length≤24:=by
 unfold cr at hp
 simp only [Bool.and_eq_true,decide_eq_true_eq] at hp
 omega
end Go.AmT
