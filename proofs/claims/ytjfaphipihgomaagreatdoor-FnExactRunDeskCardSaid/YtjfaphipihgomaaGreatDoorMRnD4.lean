/- Functions of the program, each as a plain Lean function. No condition. -/
import Derived.Test.YtjfaphipihgomaaGreatDoorMRnD3
open Go Go.Am
noncomputable section
set_option linter.unusedVariables false
set_option maxRecDepth 100000
set_option linter.unusedSimpArgs false
open Bool renaming and_eq_true → aw
open Int renaming reduceEq → fN, tmod_lt_of_pos → Jn, tmod_nonneg → Jo, toNat_natCast → ay
open List renaming all_eq_true → gp, getD_eq_getElem?_getD → jN, getElem?_eq_none → F9, getElem_mem → ct, length_append → cg, length_singleton → iQ, mem_iff_getElem → sF, take_of_length_le → Bi
open Option renaming bind_some → aC
namespace Go.AmT
open Go.Proofs Go.Proofs.Tryz
def gJ.f (n:Nat) (a0:List Int):Option (List Int×Unit):=ab ((([]:List Int).length+a0.length)*8≤bo) (some (([]:List Int)++a0,()))
def gJ.ae (n:Nat):au:=⟨[.val IS],[.val IS],fun x=>gJ.f n x.1⟩
theorem gJ.ok (n:Nat):aP 55 (gJ.ae n):=aU n [] [] aK aL func55
def qC.f (n:Nat) (a0:Int):Option (Int×Unit):=cut (br (decide (999999<(a0.tmod 1999999))) (some (.inr (ah ((a0.tmod 1999999)-1999999),()))) (some (.inr (a0.tmod 1999999,())))) fun y1=>br (decide (y1.1<(-999999))) (some (ah (y1.1+1999999),())) (some (y1.1,()))
def qC.ae (n:Nat):au:=⟨[.val I],[.val I],fun x=>qC.f n x.1⟩
theorem qC.ok (n:Nat):aP 280 (qC.ae n):=aU n [(3,⟨[(3,.int .i64)],[],[],[]⟩)] [] aK aL func280
def wT.f (n:Nat) (a0 a1:Int):Option (Int×Unit):=br (decide ((max a1 (ah (0-a1)))=0)) (some (0,())) (if (max a1 (ah (0-a1)))=0 then none else br (decide ((a0.tmod (max a1 (ah (0-a1))))<0)) (some (ah ((a0.tmod (max a1 (ah (0-a1))))+(max a1 (ah (0-a1)))),())) (some (a0.tmod (max a1 (ah (0-a1))),())))
def wT.ae (n:Nat):au:=⟨[.val I,.val I],[.val I],fun x=>wT.f n x.1 x.2.1⟩
theorem wT.ok (n:Nat):aP 281 (wT.ae n):=aU n [] [] aK aL func281
def yR.f (n:Nat) (a0:Instr) (a1:List Int) (a2:Int):Option (Int×Unit):=br (decide (a0.1=1)) (some (a2,())) (br (decide (a0.1=3)) (some (a0.2.2.1,())) (br (decide (a0.1=4)) (ab (0≤a0.2.2.1∧a0.2.2.1<(a1.length:Int)) (let v49:=(a1.getD a0.2.2.1.toNat 0); ab (0≤a0.2.2.2∧a0.2.2.2<(a1.length:Int)) (let v50:=(a1.getD a0.2.2.2.toNat 0); (qC.f n (ah (v49+v50))).bind fun F5=>some (F5.1,())))) (br (decide (a0.1=5)) (ab (0≤a0.2.2.1∧a0.2.2.1<(a1.length:Int)) (let eW:=(a1.getD a0.2.2.1.toNat 0); ab (0≤a0.2.2.2∧a0.2.2.2<(a1.length:Int)) (let v62:=(a1.getD a0.2.2.2.toNat 0); (qC.f n (ah (eW-v62))).bind fun N5=>some (N5.1,())))) (br (decide (a0.1=6)) (ab (0≤a0.2.2.1∧a0.2.2.1<(a1.length:Int)) (let v70:=(a1.getD a0.2.2.1.toNat 0); ab (0≤a0.2.2.2∧a0.2.2.2<(a1.length:Int)) (let N6:=(a1.getD a0.2.2.2.toNat 0); (qC.f n (ah (v70*N6))).bind fun r72=>some (r72.1,())))) (br (decide (a0.1=7)) (ab (0≤a0.2.2.1∧a0.2.2.1<(a1.length:Int)) (let v76:=(a1.getD a0.2.2.1.toNat 0); ab (0≤a0.2.2.2∧a0.2.2.2<(a1.length:Int)) (let N7:=(a1.getD a0.2.2.2.toNat 0); (wT.f n v76 N7).bind fun N8=>some (N8.1,())))) (ab (0≤a0.2.1∧a0.2.1<(a1.length:Int)) (some (a1.getD a0.2.1.toNat 0,()))))))))
def yR.ae (n:Nat):au:=⟨[.val dO,.val IS,.val I],[.val I],fun x=>yR.f n x.1 x.2.1 x.2.2.1⟩
theorem yR.ok (n:Nat):aP 246 (yR.ae n):=aU n [] [] (ai (qC.ok n) (ai (wT.ok n) aK)) aL func246
def rF.f (n:Nat) (a0:Program) (a1:bM) (a2:Int):Option (bM×Int×Unit):=ab (0≤a1.1∧a1.1<(a0.2.2.length:Int)) (let v1:=(a0.2.2.getD a1.1.toNat kX); (gJ.f n a1.2).bind fun r2=>cut (br (decide (v1.1=2)) (ab (0≤v1.2.1∧v1.2.1<(a1.2.length:Int)) (let v5:=(a1.2.getD v1.2.1.toNat 0); some (.inr (v5,())))) (some (.inr (0,())))) fun y4=>cut (br (decide (v1.1=8)) (some (.inr (true,()))) (br (decide (v1.1=9)) (ab (0≤v1.2.1∧v1.2.1<(a1.2.length:Int)) (let v10:=(a1.2.getD v1.2.1.toNat 0); br (decide (v10=0)) (some (.inr (true,()))) (br (decide (v1.1=10)) (ab (0≤v1.2.1∧v1.2.1<(a1.2.length:Int)) (let v11:=(a1.2.getD v1.2.1.toNat 0); some (.inr (decide (v11<0),())))) (some (.inr (false,())))))) (br (decide (v1.1=10)) (ab (0≤v1.2.1∧v1.2.1<(a1.2.length:Int)) (let v12:=(a1.2.getD v1.2.1.toNat 0); some (.inr (decide (v12<0),())))) (some (.inr (false,())))))) fun y9=>cut (br y9.1 (some (.inr (v1.2.2.1,r2.1,()))) (some (.inr (ah (a1.1+1),r2.1,())))) fun yS=>(yR.f n v1 a1.2 a2).bind fun iA=>ab (0≤v1.2.1∧v1.2.1<(yS.2.1.length:Int)) (let wE:=(yS.2.1.set v1.2.1.toNat iA.1); some ((yS.1,wE),y4.1,())))
def rF.ae (n:Nat):au:=⟨[.val b_,.val bp,.val I],[.val bp,.val I],fun x=>rF.f n x.1 x.2.1 x.2.2.1⟩
theorem rF.ok (n:Nat):aP 196 (rF.ae n):=aU n [(5,⟨[(10,.int .i64)],[],[2,4,6,8,9],[]⟩),(7,⟨[(63,.bool)],[],[2,4,6,8,9,10],[]⟩),(8,⟨[(9,.bn 1000 0)],[(1000,.cells [] [.int .i64,.own 1001 I]),(1001,.row true I)],[2,4,6,8,10],[]⟩)] [] (ai (gJ.ok n) (ai (yR.ok n) aK)) aL func196
def k_.la:LA:=⟨[(0,.agg [.sh b_,.sh du]),(1,.agg [.own 0 bp,.own 1 IS,.own 2 IS,.int .i64]),(2,.int .i64)],[(0,.row true bp),(1,.row true IS),(2,.row true IS)],[],[]⟩
def k_.lb:LA:=⟨[(0,.agg [.own 0 bp,.own 1 IS,.own 2 IS,.int .i64])],[(0,.row true bp),(1,.row true IS),(2,.row true IS)],[],[]⟩
def k_.f (n:Nat) (a0:List Program) (a1:List bb) (a2 a3:Int) (a4:List bM) (a5 a6:List (List Int)):Option (Int×List bM×List (List Int)×List (List Int)×Unit):=ab (0≤a3∧a3<(a0.length:Int)) (let v1:=(a0.getD a3.toNat bC); ab (0≤a3∧a3<(a4.length:Int)) ((gW.f n v1 (a4.getD a3.toNat bK)).bind fun r2=>(kZ.f n (a0,a1) (a4,a5,a6,a2) a3).bind fun r3=>cut (br (decide (r2.1=2)) (ab (0≤r3.1∧r3.1<(a5.length:Int)) (ab ((0:Int)≤0∧0<((a5.getD r3.1.toNat []).length:Int)) (ab (0≤r3.1∧r3.1<(a5.length:Int)) (ab ((0:Int)≤1∧(1:Int)≤((a5.getD r3.1.toNat []).length:Int)∧((a5.getD r3.1.toNat []).length:Int)≤((a5.getD r3.1.toNat []).length:Int)) ((gJ.f n (((a5.getD r3.1.toNat []).drop 1).take (((a5.getD r3.1.toNat []).length:Int).toNat-1))).bind fun r6=>ab (0≤r3.1∧r3.1<(a5.length:Int)) (some (.inr ((a5.getD r3.1.toNat []).getD 0 0,a2,a4,a5.set r3.1.toNat r6.1,a6,())))))))) (some (.inr (0,a2,a4,a5,a6,())))) fun y5=>ab (0≤a3∧a3<(a0.length:Int)) (let v7:=(a0.getD a3.toNat bC); ab (0≤a3∧a3<(y5.2.2.1.length:Int)) ((rF.f n v7 (y5.2.2.1.getD a3.toNat bK) y5.1).bind fun r8=>ab (0≤a3∧a3<(y5.2.2.1.length:Int)) (let v9:=(y5.2.2.1.set a3.toNat r8.1); cut (br (decide (r2.1=3)) (ab (0≤r3.1∧r3.1<(y5.2.2.2.1.length:Int)) (ab (((y5.2.2.2.1.getD r3.1.toNat []).length+([r8.2.1]:List Int).length)*8≤bo) (ab (0≤r3.1∧r3.1<(y5.2.2.2.1.length:Int)) (ab (r3.1.toNat=r3.1.toNat) (let Bj:=(y5.2.2.2.1.set r3.1.toNat ((y5.2.2.2.1.getD r3.1.toNat [])++[r8.2.1])); ab (0≤r3.1∧r3.1<(y5.2.2.2.2.1.length:Int)) (ab (((y5.2.2.2.2.1.getD r3.1.toNat []).length+([r8.2.1]:List Int).length)*8≤bo) (ab (0≤r3.1∧r3.1<(y5.2.2.2.2.1.length:Int)) (ab (r3.1.toNat=r3.1.toNat) (let Dq:=(y5.2.2.2.2.1.set r3.1.toNat ((y5.2.2.2.2.1.getD r3.1.toNat [])++[r8.2.1])); some (.inr (y5.2.1,v9,Bj,Dq,()))))))))))) (some (.inr (y5.2.1,v9,y5.2.2.2.1,y5.2.2.2.2.1,())))) fun Dr=>some (ah (Dr.1+1),Dr.2.1,Dr.2.2.1,Dr.2.2.2.1,()))))))
def k_.ae (n:Nat):dn:=⟨k_.la,k_.lb,fun x=>k_.f n x.1 x.2.1 x.2.2.1 x.2.2.2.1 x.2.2.2.2.1 x.2.2.2.2.2.1 x.2.2.2.2.2.2.1⟩
theorem k_.ok (n:Nat):pD 135 (k_.ae n):=rv n [(5,⟨[(4,.bn 1000 0),(10,.int .i64)],[(1000,.cells [] [.own 0 bp,.own 1 IS,.own 2 IS,.int .i64]),(0,.row true bp),(1,.row true IS),(2,.row true IS)],[2,3,6,7,9],[]⟩),(11,⟨[(4,.bn 1000 0)],[(1000,.cells [] [.own 0 bp,.own 1 IS,.own 2 IS,.int .i64]),(0,.row true bp),(1,.row true IS),(2,.row true IS)],[6],[]⟩)] [] (ai (gW.ok n) (ai (kZ.ok n) (ai (gJ.ok n) (ai (rF.ok n) aK)))) aL func135
def pP.f (n:Nat) (a0:Int):Option (Int×Unit):=br (decide (999999<(a0.tmod 1999999))) (some (ah ((a0.tmod 1999999)-1999999),())) (br (decide ((a0.tmod 1999999)<(-999999))) (some (ah ((a0.tmod 1999999)+1999999),())) (some (a0.tmod 1999999,())))
def pP.ae (n:Nat):au:=⟨[.val I],[.val I],fun x=>pP.f n x.1⟩
theorem pP.ok (n:Nat):aP 295 (pP.ae n):=aU n [] [] aK aL func295
def uN.f (n:Nat) (a0 a1:Int):Option (Int×Unit):=br (decide (a1=0)) (some (0,())) (if (max a1 (ah (0-a1)))=0 then none else br (decide ((a0.tmod (max a1 (ah (0-a1))))<0)) (some (ah ((a0.tmod (max a1 (ah (0-a1))))+(max a1 (ah (0-a1)))),())) (some (a0.tmod (max a1 (ah (0-a1))),())))
def uN.ae (n:Nat):au:=⟨[.val I,.val I],[.val I],fun x=>uN.f n x.1 x.2.1⟩
theorem uN.ok (n:Nat):aP 296 (uN.ae n):=aU n [] [] aK aL func296
def qD.la:LA:=⟨[(0,.agg [.int .i64,.int .i64,.sh dO]),(1,.fb 0 bp 0),(2,.int .i64)],[(0,.row true bp)],[],[]⟩
def qD.lb:LA:=⟨[(0,.int .i64)],[(0,.row true bp)],[],[]⟩
def qD.f (n:Nat) (a0 a1:Int) (a2:List Instr) (a3:Nat) (a4:Int) (a5:List bM):Option (Int×List bM×Unit):=ab (0≤(a5.getD a3 bK).1∧(a5.getD a3 bK).1<(a2.length:Int)) (let v1:=(a2.getD (a5.getD a3 bK).1.toNat kX); let v2:=(a5.set a3 (ah ((a5.getD a3 bK).1+1),(a5.getD a3 bK).2)); br (decide (v1.1=1)) (ab (0≤v1.2.1∧v1.2.1<((v2.getD a3 bK).2.length:Int)) (let v3:=(v2.set a3 ((v2.getD a3 bK).1,(v2.getD a3 bK).2.set v1.2.1.toNat a4)); some (0,v3,()))) (br (decide (v1.1=2)) (ab (0≤v1.2.1∧v1.2.1<((v2.getD a3 bK).2.length:Int)) (some ((v2.getD a3 bK).2.getD v1.2.1.toNat 0,v2,()))) (br (decide (v1.1=3)) (ab (0≤v1.2.1∧v1.2.1<((v2.getD a3 bK).2.length:Int)) (let v4:=(v2.set a3 ((v2.getD a3 bK).1,(v2.getD a3 bK).2.set v1.2.1.toNat v1.2.2.1)); some (0,v4,()))) (br (decide (v1.1=4)) (ab (0≤v1.2.2.1∧v1.2.2.1<((v2.getD a3 bK).2.length:Int)) (ab (0≤v1.2.2.2∧v1.2.2.2<((v2.getD a3 bK).2.length:Int)) ((pP.f n (ah (((v2.getD a3 bK).2.getD v1.2.2.1.toNat 0)+((v2.getD a3 bK).2.getD v1.2.2.2.toNat 0)))).bind fun r5=>ab (0≤v1.2.1∧v1.2.1<((v2.getD a3 bK).2.length:Int)) (let v6:=(v2.set a3 ((v2.getD a3 bK).1,(v2.getD a3 bK).2.set v1.2.1.toNat r5.1)); some (0,v6,()))))) (br (decide (v1.1=5)) (ab (0≤v1.2.2.1∧v1.2.2.1<((v2.getD a3 bK).2.length:Int)) (ab (0≤v1.2.2.2∧v1.2.2.2<((v2.getD a3 bK).2.length:Int)) ((pP.f n (ah (((v2.getD a3 bK).2.getD v1.2.2.1.toNat 0)-((v2.getD a3 bK).2.getD v1.2.2.2.toNat 0)))).bind fun r7=>ab (0≤v1.2.1∧v1.2.1<((v2.getD a3 bK).2.length:Int)) (let v8:=(v2.set a3 ((v2.getD a3 bK).1,(v2.getD a3 bK).2.set v1.2.1.toNat r7.1)); some (0,v8,()))))) (br (decide (v1.1=6)) (ab (0≤v1.2.2.1∧v1.2.2.1<((v2.getD a3 bK).2.length:Int)) (ab (0≤v1.2.2.2∧v1.2.2.2<((v2.getD a3 bK).2.length:Int)) ((pP.f n (ah (((v2.getD a3 bK).2.getD v1.2.2.1.toNat 0)*((v2.getD a3 bK).2.getD v1.2.2.2.toNat 0)))).bind fun r9=>ab (0≤v1.2.1∧v1.2.1<((v2.getD a3 bK).2.length:Int)) (let v10:=(v2.set a3 ((v2.getD a3 bK).1,(v2.getD a3 bK).2.set v1.2.1.toNat r9.1)); some (0,v10,()))))) (br (decide (v1.1=7)) (ab (0≤v1.2.2.1∧v1.2.2.1<((v2.getD a3 bK).2.length:Int)) (ab (0≤v1.2.2.2∧v1.2.2.2<((v2.getD a3 bK).2.length:Int)) ((uN.f n ((v2.getD a3 bK).2.getD v1.2.2.1.toNat 0) ((v2.getD a3 bK).2.getD v1.2.2.2.toNat 0)).bind fun dT=>ab (0≤v1.2.1∧v1.2.1<((v2.getD a3 bK).2.length:Int)) (let v12:=(v2.set a3 ((v2.getD a3 bK).1,(v2.getD a3 bK).2.set v1.2.1.toNat dT.1)); some (0,v12,()))))) (br (decide (v1.1=8)) (let Bj:=(v2.set a3 (v1.2.2.1,(v2.getD a3 bK).2)); some (0,Bj,())) (br (decide (v1.1=9)) (ab (0≤v1.2.1∧v1.2.1<((v2.getD a3 bK).2.length:Int)) (br (decide (((v2.getD a3 bK).2.getD v1.2.1.toNat 0)=0)) (let Dq:=(v2.set a3 (v1.2.2.1,(v2.getD a3 bK).2)); some (0,Dq,())) (some (0,v2,())))) (br (decide (v1.1=10)) (ab (0≤v1.2.1∧v1.2.1<((v2.getD a3 bK).2.length:Int)) (br (decide (((v2.getD a3 bK).2.getD v1.2.1.toNat 0)<0)) (let wE:=(v2.set a3 (v1.2.2.1,(v2.getD a3 bK).2)); some (0,wE,())) (some (0,v2,())))) (some (0,v2,()))))))))))))
def qD.ae (n:Nat):dn:=⟨qD.la,qD.lb,fun x=>qD.f n x.1 x.2.1 x.2.2.1 x.2.2.2.1 x.2.2.2.2.1 x.2.2.2.2.2.1⟩
theorem qD.ok (n:Nat):pD 269 (qD.ae n):=rv n [] [] (ai (pP.ok n) (ai (uN.ok n) aK)) aL func269
def k9.la:LA:=⟨[(0,.bn 0 0),(1,.int .i64)],[(0,.cells [true,true,false,false,false,false,false,false,true] [.sh b_,.sh du,.own 1 bp,.own 2 IS,.own 3 IS,.int .i64,.own 4 IS,.own 5 IS,.cZ I]),(1,.row true bp),(2,.row true IS),(3,.row true IS),(4,.row true IS),(5,.row true IS)],[],[]⟩
def k9.lb:LA:=⟨[],[(0,.cells [true,true,false,false,false,false,false,false,true] [.sh b_,.sh du,.own 1 bp,.own 2 IS,.own 3 IS,.int .i64,.own 4 IS,.own 5 IS,.cZ I]),(1,.row true bp),(2,.row true IS),(3,.row true IS),(4,.row true IS),(5,.row true IS)],[],[]⟩
def k9.f (n:Nat) (a0:Int) (a1:List Program) (a2:List bb) (a3:Int) (a4:Option (List Int)) (a5:List bM) (a6 a7:List (List Int)) (a8 a9:List (List Int)):Option (List Program×List bb×Int×Option (List Int)×List bM×List (List Int)×List (List Int)×List (List Int)×List (List Int)×Unit):=(iP.f n ((a1,a2),(a5,a6,a7,a3),a8,a9,a4) a0).bind fun r1=>cut (br (decide (r1.1=2)) (ab (0≤r1.2.1∧r1.2.1<(a6.length:Int)) (ab ((0:Int)≤0∧0<((a6.getD r1.2.1.toNat []).length:Int)) (ab (0≤r1.2.1∧r1.2.1<(a6.length:Int)) (ab ((0:Int)≤1∧(1:Int)≤((a6.getD r1.2.1.toNat []).length:Int)∧((a6.getD r1.2.1.toNat []).length:Int)≤((a6.getD r1.2.1.toNat []).length:Int)) (ab (0≤r1.2.1∧r1.2.1<(a6.length:Int)) (ab (r1.2.1.toNat=r1.2.1.toNat) (let v4:=(a6.set r1.2.1.toNat (((a6.getD r1.2.1.toNat []).drop 1).take (((a6.getD r1.2.1.toNat []).length:Int).toNat-1))); some (.inr ((a6.getD r1.2.1.toNat []).getD 0 0,a1,a2,a3,a4,a5,v4,a7,a8,a9,()))))))))) (some (.inr (0,a1,a2,a3,a4,a5,a6,a7,a8,a9,())))) fun y3=>ab (0≤a0∧a0<(y3.2.1.length:Int)) (let v5:=(y3.2.1.getD a0.toNat bC); ab (0≤a0∧a0<(y3.2.2.2.2.2.1.length:Int)) ((qD.f n v5.1 v5.2.1 v5.2.2 a0.toNat y3.1 y3.2.2.2.2.2.1).bind fun r6=>cut (br (decide (r1.1=3)) (ab (0≤r1.2.1∧r1.2.1<(y3.2.2.2.2.2.2.1.length:Int)) (ab (((y3.2.2.2.2.2.2.1.getD r1.2.1.toNat []).length+([r6.1]:List Int).length)*8≤bo) (ab (0≤r1.2.1∧r1.2.1<(y3.2.2.2.2.2.2.1.length:Int)) (ab (r1.2.1.toNat=r1.2.1.toNat) (let v10:=(y3.2.2.2.2.2.2.1.set r1.2.1.toNat ((y3.2.2.2.2.2.2.1.getD r1.2.1.toNat [])++[r6.1])); ab (0≤r1.2.1∧r1.2.1<(y3.2.2.2.2.2.2.2.1.length:Int)) (ab (((y3.2.2.2.2.2.2.2.1.getD r1.2.1.toNat []).length+([r6.1]:List Int).length)*8≤bo) (ab (0≤r1.2.1∧r1.2.1<(y3.2.2.2.2.2.2.2.1.length:Int)) (ab (r1.2.1.toNat=r1.2.1.toNat) (let v11:=(y3.2.2.2.2.2.2.2.1.set r1.2.1.toNat ((y3.2.2.2.2.2.2.2.1.getD r1.2.1.toNat [])++[r6.1])); some (.inr (y3.2.1,y3.2.2.1,y3.2.2.2.1,y3.2.2.2.2.1,r6.2.1,v10,v11,y3.2.2.2.2.2.2.2.2.1,y3.2.2.2.2.2.2.2.2.2.1,()))))))))))) (some (.inr (y3.2.1,y3.2.2.1,y3.2.2.2.1,y3.2.2.2.2.1,r6.2.1,y3.2.2.2.2.2.2.1,y3.2.2.2.2.2.2.2.1,y3.2.2.2.2.2.2.2.2.1,y3.2.2.2.2.2.2.2.2.2.1,())))) fun y9=>some (y9.1,y9.2.1,ah (y9.2.2.1+1),y9.2.2.2.1,y9.2.2.2.2.1,y9.2.2.2.2.2.1,y9.2.2.2.2.2.2.1,y9.2.2.2.2.2.2.2.1,y9.2.2.2.2.2.2.2.2.1,())))
def k9.ae (n:Nat):dn:=⟨k9.la,k9.lb,fun x=>k9.f n x.1 x.2.1 x.2.2.1 x.2.2.2.1 x.2.2.2.2.1 x.2.2.2.2.2.1 x.2.2.2.2.2.2.1 x.2.2.2.2.2.2.2.1 x.2.2.2.2.2.2.2.2.1 x.2.2.2.2.2.2.2.2.2.1⟩
theorem k9.ok (n:Nat):pD 225 (k9.ae n):=rv n [(3,⟨[(0,.bn 0 0),(6,.int .i64)],[(0,.cells [true,true,false,false,false,false,false,false,true] [.sh b_,.sh du,.own 1 bp,.own 2 IS,.own 3 IS,.int .i64,.own 4 IS,.own 5 IS,.cZ I]),(1,.row true bp),(2,.row true IS),(3,.row true IS),(4,.row true IS),(5,.row true IS)],[1,4,5],[]⟩),(8,⟨[(0,.bn 0 0)],[(0,.cells [true,true,false,false,false,false,false,false,true] [.sh b_,.sh du,.own 1 bp,.own 2 IS,.own 3 IS,.int .i64,.own 4 IS,.own 5 IS,.cZ I]),(1,.row true bp),(2,.row true IS),(3,.row true IS),(4,.row true IS),(5,.row true IS)],[],[]⟩)] [] (ai (iP.ok n) aK) (eM (qD.ok n) aL) func225
end Go.AmT
namespace Go.AmT
variable {size token:Int} {x:Instr} {gX:List Int} {n k:Nat} {p:Program} {a:bM} {nt:aq} {s:State}
def wr (x:Int):Int:=if 999999<x.tmod 1999999 then x.tmod 1999999-1999999 else if x.tmod 1999999 < -999999 then x.tmod 1999999+1999999 else x.tmod 1999999
theorem N9 (x:Int) : -1999999<x.tmod 1999999∧x.tmod 1999999<1999999:=by
 rcases Int.lt_or_le x 0 with h | h
 ·have h1:=Jn (-x) (show (0:Int)<1999999 by omega);have h2:=Jo (1999999:Int) (show 0≤-x by omega);rw [Int.neg_tmod] at h1 h2;omega
 have h1:=Jn x (show (0:Int)<1999999 by omega);have h2:=Jo (1999999:Int) h;omega
theorem Oa (x:Int):tok (wr x)=true:=by
 have:=N9 x;unfold wr tok;simp only [aw,decide_eq_true_eq];split
 ·omega
 split<;>omega
theorem Ds (n:Nat) (x:Int):pP.f n x=some (wr x,()):=by
 have:=N9 x;unfold pP.f wr;generalize x.tmod 1999999=r at this;simp only [iF];split
 ·rw [bP (by omega) (by omega)]
 split
 ·rw [bP (by omega) (by omega)]
 rfl
theorem Ob (n:Nat) (x:Int):qC.f n x=some (wr x,()):=by
 have:=N9 x;unfold qC.f wr;generalize x.tmod 1999999=r at this;by_cases h:999999<r
 ·rw [aG h,if_pos h,bP (by omega) (by omega)];simp only [aY];rw [av (by omega)]
 rw [av h,if_neg h];simp only [aY,iF];split
 ·rw [bP (by omega) (by omega)]
 rfl
def rs (x c:Int):Int:=if c=0 then 0 else if x.tmod (max c (-c))<0 then x.tmod (max c (-c))+max c (-c) else x.tmod (max c (-c))
theorem wU {x:Int} (h:tok x=true) : -999999≤x∧x≤999999:=by unfold tok at h;simpa using h
theorem Oc (x m:Int) (hm:0<m) : -m<x.tmod m∧x.tmod m<m:=by
 rcases Int.lt_or_le x 0 with h | h
 ·have h1:=Jn (-x) hm;have h2:=Jo m (show 0≤-x by omega);rw [Int.neg_tmod] at h1 h2;omega
 have h1:=Jn x hm;have h2:=Jo m h;omega
theorem adj {x c:Int} (hc:tok c=true):tok (rs x c)=true:=by
 have hc:=wU hc;unfold rs;by_cases h:c=0
 ·rw [if_pos h]; decide
 rw [if_neg h];have:=Oc x (max c (-c)) (by omega);unfold tok;simp only [aw,decide_eq_true_eq];split<;>omega
theorem UZ (n:Nat) {x c:Int} (hc:tok c=true):uN.f n x c=some (rs x c,()):=by
 have hc:=wU hc;unfold uN.f rs;rw [bP (by omega) (by omega),Int.zero_sub];by_cases h:c=0
 ·rw [aG h,if_pos h]
 have hm:=Oc x (max c (-c)) (by omega);rw [av h,if_neg h,if_neg (by omega)];simp only [iF];split
 ·rw [bP (by omega) (by omega)]
 rfl
theorem adk (n:Nat) {x c:Int} (hc:tok c=true):wT.f n x c=some (rs x c,()):=by
 have hc:=wU hc;unfold wT.f rs;rw [bP (by omega) (by omega),Int.zero_sub];by_cases h:c=0
 ·rw [aG (by omega),if_pos h]
 have hm:=Oc x (max c (-c)) (by omega);rw [av (by omega),if_neg h,if_neg (by omega)];simp only [iF];split
 ·rw [bP (by omega) (by omega)]
 rfl
structure Jp (size:Int) (x:Instr):Prop where
 op:1≤x.1∧x.1≤11
 a:0≤x.2.1∧x.2.1≤3
 bc:x.1=4∨x.1=5∨x.1=6∨x.1=7→(0≤x.2.2.1∧x.2.2.1≤3)∧0≤x.2.2.2∧x.2.2.2≤3
 b:x.1=8∨x.1=9∨x.1=10→0≤x.2.2.1∧x.2.2.1≤size
 t:x.1=3→tok x.2.2.1=true
theorem adl {ins outs:Int} (h:fy ins outs size x=true):Jp size x:=by
 unfold fy at h;simp only [gz] at h;split at h
 ·rename_i c;simp only [aw,decide_eq_true_eq] at h;exact ⟨by omega,by omega,by omega,by omega,by omega⟩
 split at h
 ·rename_i c;simp only [aw,decide_eq_true_eq] at h;exact ⟨by omega,by omega,by omega,by omega,by omega⟩
 split at h
 ·rename_i c;simp only [aw,decide_eq_true_eq] at h;exact ⟨by omega,by omega,by omega,by omega,fun _=>h.2.1⟩
 split at h
 ·rename_i c;simp only [aw,decide_eq_true_eq] at h;exact ⟨by omega,by omega,by omega,by omega,by omega⟩
 split at h
 ·rename_i c;simp only [aw,decide_eq_true_eq] at h;exact ⟨by omega,by omega,by omega,by omega,by omega⟩
 split at h
 ·rename_i c;simp only [aw,decide_eq_true_eq] at h;exact ⟨by omega,by omega,by omega,by omega,by omega⟩
 split at h
 ·rename_i c;simp only [aw,decide_eq_true_eq] at h;exact ⟨by omega,by omega,by omega,by omega,by omega⟩
 simp at h
def rg (gX:List Int) (i:Int):Int:=gX.getD i.toNat 0
def Bk (x:Instr) (gX:List Int) (token:Int):Int:=
 if x.1=1 then token else if x.1=3 then x.2.2.1 else if x.1=4 then wr (rg gX x.2.2.1+rg gX x.2.2.2) else if x.1=5 then wr (rg gX x.2.2.1-rg gX x.2.2.2)
 else if x.1=6 then wr (rg gX x.2.2.1*rg gX x.2.2.2) else if x.1=7 then rs (rg gX x.2.2.1) (rg gX x.2.2.2) else rg gX x.2.1
def Dt (x:Instr) (a:bM):Int:=if x.1=8∨(x.1=9∧rg a.2 x.2.1=0)∨(x.1=10∧rg a.2 x.2.1<0) then x.2.2.1 else a.1+1
def oP (x:Instr) (a:bM):Int:=if x.1=2 then rg a.2 x.2.1 else 0
def kI (p:Program) (a:bM):Instr:=p.2.2.getD a.1.toNat kX
def jk (p:Program) (a:bM) (token:Int):bM:=(Dt (kI p a) a,a.2.set (kI p a).2.1.toNat (Bk (kI p a) a.2 token))
theorem qE {i:Int} (h:bS gX=true):tok (rg gX i)=true:=by
 unfold bS at h;simp only [aw,decide_eq_true_eq,gp] at h;unfold rg;by_cases hi:i.toNat<gX.length
 ·rw [aJ hi]; exact h.2 _ (ct hi)
 rw [jN,F9 (by omega)]; decide
theorem Od {x y:Int} (hx : -999999≤x∧x≤999999) (hy : -999999≤y∧y≤999999) : -1000000000000≤x*y∧x*y≤1000000000000:=by
 have h:(x*y).natAbs≤999999*999999:=by rw [Int.natAbs_mul]; exact Nat.mul_le_mul (by omega) (by omega)
 omega
theorem adm (ho:Jp size x) (hl:gX.length=4) (hr:bS gX=true):yR.f n x gX token=some (Bk x gX token,()):=by
 unfold yR.f Bk;have hb:=wU (qE (i:=x.2.2.1) hr);have hc:=wU (qE (i:=x.2.2.2) hr);have hm:=Od hb hc;simp only [iF];split
 ·rfl
 split
 ·rfl
 split
 ·rename_i h; have:=ho.bc (by omega);rw [af (by omega),af (by omega)];show ((qC.f n (ah (rg gX x.2.2.1+rg gX x.2.2.2))).bind _)=_;rw [bP (by omega) (by omega),Ob]; rfl
 split
 ·rename_i h; have:=ho.bc (by omega);rw [af (by omega),af (by omega)];show ((qC.f n (ah (rg gX x.2.2.1-rg gX x.2.2.2))).bind _)=_;rw [bP (by omega) (by omega),Ob]; rfl
 split
 ·rename_i h; have:=ho.bc (by omega);rw [af (by omega),af (by omega)];show ((qC.f n (ah (rg gX x.2.2.1*rg gX x.2.2.2))).bind _)=_;rw [bP (by omega) (by omega),Ob]; rfl
 split
 ·rename_i h; have:=ho.bc (by omega);rw [af (by omega),af (by omega)];show ((wT.f n (rg gX x.2.2.1) (rg gX x.2.2.2)).bind _)=_;rw [adk n (qE hr)]; rfl
 have:=ho.a;rw [af (by omega)]; rfl
theorem adn (ho:Jp size x) (hr:bS gX=true) (ht:tok token=true):tok (Bk x gX token)=true:=by
 unfold Bk
 repeat' split
 ·exact ht
 ·rename_i h; exact ho.t h
 ·exact Oa _
 ·exact Oa _
 ·exact Oa _
 ·exact adj (qE hr)
 exact qE hr
theorem Jq (hp:cJ p=true) (h0:0≤a.1) (h1:a.1<(p.2.2.length:Int)):Jp (p.2.2.length:Int) (kI p a):=by
 unfold cJ at hp;simp only [aw,gp] at hp;have ax:a.1.toNat<p.2.2.length:=by omega
 unfold kI;rw [aJ ax];exact adl (hp.2 _ (ct ax))
theorem Ga (h:f_ p a=true):a.2.length=4∧bS a.2=true:=by unfold f_ at h;simp only [aw,decide_eq_true_eq] at h;exact ⟨h.2.2.1,h.2.2.2⟩
theorem wV {a:List Int} (h:a.length≤1048576):gJ.f n a=some (a,()):=by unfold gJ.f;rw [db (by simp; omega)]; rfl
theorem U_ (hp:cJ p=true) (ha:f_ p a=true) (h1:a.1<(p.2.2.length:Int)):rF.f n p a token=some (jk p a token,oP (kI p a) a,()):=by
 have lD:=qB ha;obtain ⟨hl,hr⟩:=Ga ha;have O:=Jq hp lD.1 h1;have hlen:p.2.2.length≤24:=by unfold cJ at hp;simp only [aw,decide_eq_true_eq] at hp;omega
 unfold rF.f jk;rw [af (by omega),wV (by omega)];simp only [aC];rw [show p.2.2.getD a.1.toNat kX=kI p a from rfl];generalize kI p a=x at O;have hA:=O.a;have cA:0≤x.2.1∧x.2.1<(a.2.length:Int):=by omega
 simp only [af cA];have e1:br (decide (x.1=2)) (some (Sum.inr (α:=bM×Int×Unit) (a.2.getD x.2.1.toNat 0,()))) (some (.inr (0,())))=some (.inr (oP x a,())):=by unfold oP rg; by_cases h:x.1=2<;>simp [h,br]
 rw [e1];simp only [aY];have e2:br (decide (x.1=8)) (some (Sum.inr (α:=bM×Int×Unit) (true,()))) (br (decide (x.1=9)) (br (decide (a.2.getD x.2.1.toNat 0=0)) (some (.inr (true,()))) (br (decide (x.1=10)) (some (.inr (decide (a.2.getD x.2.1.toNat 0<0),()))) (some (.inr (false,()))))) (br (decide (x.1=10)) (some (.inr (decide (a.2.getD x.2.1.toNat 0<0),()))) (some (.inr (false,()))))) =
   some (.inr (decide (x.1=8∨(x.1=9∧rg a.2 x.2.1=0)∨(x.1=10∧rg a.2 x.2.1<0)),())):=by
  unfold rg;generalize a.2.getD x.2.1.toNat 0=v;by_cases h8:x.1=8
  ·simp [h8,br]
  by_cases h9:x.1=9
  ·by_cases hz:v=0<;>simp [h9,hz,br]
  by_cases kr:x.1=10
  ·simp [h8,h9,kr,br]
  simp [h8,h9,kr,br]
 rw [e2];simp only [aY];have e3:br (decide (x.1=8∨(x.1=9∧rg a.2 x.2.1=0)∨(x.1=10∧rg a.2 x.2.1<0))) (some (Sum.inr (α:=bM×Int×Unit) (x.2.2.1,a.2,()))) (some (.inr (ah (a.1+1),a.2,())))=some (.inr (Dt x a,a.2,())):=by unfold Dt;rw [bP (by omega) (by omega),iF];split<;>rfl
 rw [e3];simp only [aY];rw [adm O hl hr];simp only [aC];rw [af (by omega)]
theorem U4 {l:List Int} {i:Int} (h:0≤i∧i<(l.length:Int)):l.set i.toNat (rg l i)=l:=by unfold rg;rw [aJ (by omega)]; exact List.set_getElem_self _
theorem ado {al:List bM} (hk:k<al.length) (hp:cJ p=true) (ha:f_ p al[k]=true) (h1:al[k].1<(p.2.2.length:Int)) :
  qD.f n p.1 p.2.1 p.2.2 k token al=some (oP (kI p al[k]) al[k],al.set k (jk p al[k] token),()):=by
 have lD:=qB ha;obtain ⟨hl,hr⟩:=Ga ha;have O:=Jq hp lD.1 h1;have hlen:p.2.2.length≤24:=by unfold cJ at hp;simp only [aw,decide_eq_true_eq] at hp;omega
 unfold qD.f jk;rw [aJ hk];generalize al[k]=a at *;rw [af (by omega),bP (n:=a.1+1) (by omega) (by omega),show p.2.2.getD a.1.toNat kX=kI p a from rfl];generalize kI p a=x at O;have hA:=O.a;have cA:0≤x.2.1∧x.2.1<(a.2.length:Int):=by omega
 have hs:=U4 cA;have hb:=wU (qE (i:=x.2.2.1) hr);have hc:=wU (qE (i:=x.2.2.2) hr);have hm:=Od hb hc;simp only [mW hk,List.set_set,af cA];have aH:x.1=1∨x.1=2∨x.1=3∨x.1=4∨x.1=5∨x.1=6∨x.1=7∨x.1=8∨x.1=9∨x.1=10∨x.1=11:=by have:=O.op; omega
 have wW:=O.bc;unfold Dt oP Bk;have r0:∀ i,a.2.getD (Int.toNat i) 0=rg a.2 i:=fun i=>rfl;simp only [r0];rcases aH with h | h | h | h | h | h | h | h | h | h | h
 ·simp only [h,decide_true,decide_false,aB,ar,fN,↓reduceIte,false_or,false_and,or_false]
 ·simp only [h,decide_true,decide_false,aB,ar,fN,↓reduceIte,false_or,false_and,or_false,hs]
 ·simp only [h,decide_true,decide_false,aB,ar,fN,↓reduceIte,false_or,false_and,or_false]
 ·have:=wW (by omega);simp only [h,decide_true,decide_false,aB,ar,fN,↓reduceIte,false_or,false_and,or_false];rw [af (by omega),af (by omega),bP (by omega) (by omega),Ds]; rfl
 ·have:=wW (by omega);simp only [h,decide_true,decide_false,aB,ar,fN,↓reduceIte,false_or,false_and,or_false];rw [af (by omega),af (by omega),bP (by omega) (by omega),Ds]; rfl
 ·have:=wW (by omega);simp only [h,decide_true,decide_false,aB,ar,fN,↓reduceIte,false_or,false_and,or_false];rw [af (by omega),af (by omega),bP (by omega) (by omega),Ds]; rfl
 ·have:=wW (by omega);simp only [h,decide_true,decide_false,aB,ar,fN,↓reduceIte,false_or,false_and,or_false];rw [af (by omega),af (by omega),UZ n (qE hr)]; rfl
 ·simp only [h,decide_true,decide_false,aB,ar,fN,↓reduceIte,true_or,false_or,false_and,or_false,hs]
 ·simp only [h,decide_true,decide_false,aB,ar,fN,↓reduceIte,false_or,false_and,or_false,true_and,hs,iF];split<;>rfl
 ·simp only [h,decide_true,decide_false,aB,ar,fN,↓reduceIte,false_or,false_and,or_false,true_and,hs,iF];split<;>rfl
 simp only [h,decide_true,decide_false,aB,ar,fN,↓reduceIte,false_or,false_and,or_false,hs]
theorem Gb (hp:cJ p=true) (ha:f_ p a=true) (h1:a.1<(p.2.2.length:Int)) (ht:tok token=true):f_ p (jk p a token)=true∧tok (oP (kI p a) a)=true:=by
 have lD:=qB ha;obtain ⟨hl,hr⟩:=Ga ha;have O:=Jq hp lD.1 h1;have hv:=adn O hr ht;have hb:=O.b;refine ⟨?_,?_⟩
 ·unfold f_ jk Dt;simp only [aw,decide_eq_true_eq,List.length_set];refine ⟨?_,?_,hl,?_⟩
  ·split<;>omega
  ·split<;>omega
  unfold bS at hr ⊢;simp only [aw,decide_eq_true_eq,gp,List.length_set] at hr ⊢;refine ⟨hr.1,fun y hy=>?_⟩;rcases List.mem_or_eq_of_mem_set hy with hy | rfl
  ·exact hr.2 y hy
  exact hv
 unfold oP;split
 ·exact qE hr
 decide
def uO (nt:aq) (s:State) (k:Nat):Int:=if (bd nt s k).1=2 then (s.2.1.getD (bg nt s k).toNat []).getD 0 0 else 0
def uP (nt:aq) (s:State) (k:Nat):Int:=oP (kI (prog nt k) (mV s k)) (mV s k)
def cX (nt : aq) (s : State) (k : Nat) : State :=
  (s.1.set k (jk (prog nt k) (mV s k) (uO nt s k)),
   if (bd nt s k).1 = 2 then s.2.1.set (bg nt s k).toNat ((s.2.1.getD (bg nt s k).toNat []).drop 1) else if (bd nt s k).1 = 3 then s.2.1.set (bg nt s k).toNat (s.2.1.getD (bg nt s k).toNat [] ++ [uP nt s k]) else s.2.1,
   if (bd nt s k).1 = 3 then s.2.2.1.set (bg nt s k).toNat (s.2.2.1.getD (bg nt s k).toNat [] ++ [uP nt s k]) else s.2.2.1,
   s.2.2.2 + 1)
theorem Bl (h:(ch p a).1≠0):a.1≠(p.2.2.length:Int):=by intro e;unfold ch at h;rw [if_pos e] at h;exact h rfl
theorem s7 (h:cS nt s k=true):(bd nt s k).1≠0∧s.2.2.2<20000∧((bd nt s k).1=2→0<(s.2.1.getD (bg nt s k).toNat []).length)∧((bd nt s k).1=3→(s.2.2.1.getD (bg nt s k).toNat []).length<400):=by
 unfold cS at h;split at h
 ·simp at h
 rename_i h0;have h0:(bd nt s k).1≠0∧¬ 20000≤s.2.2.2:=by
  constructor
  ·exact fun e=>h0 (.inl e)
  exact fun e=>h0 (.inr e)
 refine ⟨h0.1,by omega,fun h2=>?_,fun h3=>?_⟩
 ·rw [if_pos h2,decide_eq_true_eq] at h; omega
 rw [if_neg (by omega),if_pos h3,decide_eq_true_eq] at h; omega
theorem Jr (o:bG nt s) (hs:kf s) (hk:k<nt.1.length) (hc:cS nt s k=true) (hn:1048576<n) :
  k_.f n nt.1 nt.2 s.2.2.2 (k:Int) s.1 s.2.1 s.2.2.1=some ((cX nt s k).2.2.2,(cX nt s k).1,(cX nt s k).2.1,(cX nt s k).2.2.1,()):=by
 obtain ⟨w0,Js,w2,w3⟩:=s7 hc;have oO:k<s.1.length:=by rw [o.na]; exact hk
 have ha:=o.act k hk;have hp:=o.cf.prog k hk;have dz:=o.steps;have hw:gW.f n (nt.1.getD k bC) (s.1.getD k bK)=some ((bd nt s k).1,(bd nt s k).2,()):=Bg ha;have lD:(s.1.getD k bK).1<((nt.1.getD k bC).2.2.length:Int):=by have h1:=(qB ha).2;have h2:=Bl (p:=nt.1.getD k bC) (a:=s.1.getD k bK) w0;omega
 have Gc:∀ token,rF.f n (nt.1.getD k bC) (s.1.getD k bK) token=some (jk (prog nt k) (mV s k) token,uP nt s k,()):=fun token=>U_ (by rw [aJ hk]; exact hp) ha lD;have hq:=o.nq;have mO:=o.ns;have iN:=F8 (n:=n) o hk hn;unfold k_.f cX uO;simp only [ay];rw [af (by omega),af (by omega),hw];simp only [aC];rw [show ((nt.1,nt.2):aq)=nt from rfl,show ((s.1,s.2.1,s.2.2.1,s.2.2.2):State)=s from rfl,iN];simp only [aC];by_cases c2:(bd nt s k).1=2
 ·obtain ⟨j,hj,e,-⟩:=nK o hk c2;have hlen:=w2 c2;rw [e,ay] at hlen ⊢;have U5:(s.2.1.getD j []).length≤1048576:=by rw [aJ (by omega)]; exact hs.queue _ (ct (by omega))
  have c3:¬ (bd nt s k).1=3:=by omega
  rw [aG c2,af (by omega),af (by omega),af (by omega),af (by omega),Bi (by simp),wV (by rw [List.length_drop]; omega)];simp only [aC];rw [af (by omega)];simp only [aY];rw [af (by omega),af (by omega),Gc];simp only [aC];rw [af (by omega),av c3];simp only [aY];rw [bP (by omega) (by omega),if_pos c2,if_pos c2,if_neg c3]
 rw [av c2];simp only [aY];rw [af (by omega),af (by omega),Gc];simp only [aC];rw [af (by omega)];by_cases c3:(bd nt s k).1=3
 ·obtain ⟨j,hj,e,-⟩:=rD o hk c3;have hlen:=w3 c3;rw [e,ay] at hlen ⊢;have U5:(s.2.1.getD j []).length≤1048576:=by rw [aJ (by omega)]; exact hs.queue _ (ct (by omega))
  rw [aG c3,af (by omega),db (by simp only [iQ]; omega),af (by omega),af (by trivial),af (by omega),db (by simp only [iQ]; omega),af (by omega),af (by trivial)];simp only [aY];rw [bP (by omega) (by omega),if_neg c2,if_neg c2,if_pos c3,if_pos c3]
 rw [av c3];simp only [aY];rw [bP (by omega) (by omega),if_neg c2,if_neg c2,if_neg c3,if_neg c3]
theorem Oe {r:nJ} (R:kH nt s r) (o:bG nt s) (hs:kf s) (hk:k<nt.1.length) (hc:cS nt s k=true) (hn:1048576<n) :
  k9.f n (k:Int) r.1.1 r.1.2 r.2.1.2.2.2 r.2.2.2.2 r.2.1.1 r.2.1.2.1 r.2.1.2.2.1 r.2.2.1 r.2.2.2.1 =
   some (r.1.1,r.1.2,(cX nt s k).2.2.2,r.2.2.2.2,(cX nt s k).1,(cX nt s k).2.1,(cX nt s k).2.2.1,r.2.2.1,r.2.2.2.1,()):=by
 obtain ⟨w0,Js,w2,w3⟩:=s7 hc;have oO:k<s.1.length:=by rw [o.na]; exact hk
 have ha:=o.act k hk;have hp:=o.cf.prog k hk;have dz:=o.steps;have lD:(s.1.getD k bK).1<((nt.1.getD k bC).2.2.length:Int):=by have h1:=(qB ha).2;have h2:=Bl (p:=nt.1.getD k bC) (a:=s.1.getD k bK) w0;omega
 have Gc:∀ token,qD.f n (nt.1.getD k bC).1 (nt.1.getD k bC).2.1 (nt.1.getD k bC).2.2 k token s.1=some (uP nt s k,s.1.set k (jk (prog nt k) (mV s k) token),()):=fun token=>by have:=ado (n:=n) (p:=nt.1.getD k bC) (al:=s.1) (token:=token) oO (by rw [aJ hk]; exact hp) (by rw [aJ oO] at ha; exact ha) (by rw [aJ oO] at lD; exact lD);rw [this,← aJ oO bK]; rfl
 have hq:=o.nq;have mO:=o.ns;have Of:=Dn (n:=n) R o hk;obtain ⟨r1,r2,to,fr,cp⟩:=r;obtain ⟨e1,e2,-,-⟩:=R;have e1:r1=nt:=e1;have e2:r2=s:=e2;subst e1 e2;unfold k9.f cX uO;simp only;have Of:iP.f n ((r1.1,r1.2),(r2.1,r2.2.1,r2.2.2.1,r2.2.2.2),to,fr,cp) (k:Int)=some ((bd r1 r2 k).1,bg r1 r2 k,()):=Of;rw [Of];simp only [aC,ay];by_cases c2:(bd r1 r2 k).1=2
 ·obtain ⟨j,hj,e,-⟩:=nK o hk c2;have hlen:=w2 c2;rw [e,ay] at hlen ⊢;have c3:¬ (bd r1 r2 k).1=3:=by omega
  rw [aG c2,af (by omega),af (by omega),af (by omega),af (by omega),af (by omega),af (by trivial),Bi (by simp)];simp only [aY];rw [af (by omega),af (by omega),Gc];simp only [aC];rw [av c3];simp only [aY];rw [bP (by omega) (by omega),if_pos c2,if_pos c2,if_neg c3]
 rw [av c2];simp only [aY];rw [af (by omega),af (by omega),Gc];simp only [aC];by_cases c3:(bd r1 r2 k).1=3
 ·obtain ⟨j,hj,e,-⟩:=rD o hk c3;have hlen:=w3 c3;rw [e,ay] at hlen ⊢;have U5:(r2.2.1.getD j []).length≤1048576:=by rw [aJ (by omega)]; exact hs.queue _ (ct (by omega))
  rw [aG c3,af (by omega),db (by simp only [iQ]; omega),af (by omega),af (by trivial),af (by omega),db (by simp only [iQ]; omega),af (by omega),af (by trivial)];simp only [aY];rw [bP (by omega) (by omega),if_neg c2,if_neg c2,if_pos c3,if_pos c3]
 rw [av c3];simp only [aY];rw [bP (by omega) (by omega),if_neg c2,if_neg c2,if_neg c3,if_neg c3]
theorem kH.step {s':State} {r:nJ} (R:kH nt s r):kH nt s' (r.1,s',r.2.2):=⟨R.cf,rfl,R.to,R.fr⟩
theorem lE {q:List Int} (h:bS q=true):q.length≤400∧∀ x∈q,tok x=true:=by unfold bS at h;simpa only [aw,decide_eq_true_eq,gp] using h
theorem Og {q:List Int} (h1:q.length≤400) (h2:∀ x∈q,tok x=true):bS q=true:=by unfold bS;simpa only [aw,decide_eq_true_eq,gp] using ⟨h1,h2⟩
theorem mg (o:bG nt s):kf s:=by
 have h1:=o.na;have h2:=o.nq;have h3:=o.ns;have hp:=o.cf.eX;have hl:=o.cf.dB;refine ⟨by omega,fun a ha=>?_,by omega,fun q hq=>?_,by omega,fun q hq=>?_⟩
 ·obtain ⟨i,hi,rfl⟩:=sF.1 ha;have:=o.act i (by omega);rw [aJ hi] at this;have:=(Ga this).1; omega
 ·obtain ⟨i,hi,rfl⟩:=sF.1 hq;have:=(o.bH i (by omega)).qs;rw [aJ hi] at this;have:=(lE this).1; omega
 obtain ⟨i,hi,rfl⟩:=sF.1 hq;have:=(o.bH i (by omega)).hs;rw [aJ hi] at this;have:=(lE this).1; omega
theorem adp (o:bG nt s) (hk:k<nt.1.length):tok (uO nt s k)=true:=by
 unfold uO;split
 ·rename_i h;obtain ⟨j,hj,e,-⟩:=nK o hk h;rw [e,ay];have hq:=(lE (o.bH j hj).qs).2;by_cases h0:0<(s.2.1.getD j []).length
  ·rw [aJ h0]; exact hq _ (ct h0)
  rw [jN,F9 (by omega)]; decide
 decide
theorem Bm (o:bG nt s) (hk:k<nt.1.length) (hc:cS nt s k=true):bG nt (cX nt s k):=by
 obtain ⟨w0,Js,w2,w3⟩:=s7 hc;have oO:k<s.1.length:=by rw [o.na]; exact hk
 have ha:=o.act k hk;have hp:=o.cf.prog k hk;have dz:=o.steps;have lD:(s.1.getD k bK).1<((nt.1.getD k bC).2.2.length:Int):=by have h1:=(qB ha).2;have h2:=Bl (p:=nt.1.getD k bC) (a:=s.1.getD k bK) w0;omega
 have hA:=Gb (p:=nt.1.getD k bC) (a:=s.1.getD k bK) (by rw [aJ hk]; exact hp) ha lD (adp o hk);have hO:tok (uP nt s k)=true:=hA.2;have hq:=o.nq;have mO:=o.ns;refine ⟨o.cf,by simp [cX,o.na],?_,?_,?_,fun i hi=>?_,fun i hi=>?_⟩
 ·unfold cX; simp only;split
  ·simp [hq]
  split<;>simp [hq]
 ·unfold cX; simp only;split<;>simp [mO]
 ·show 0≤s.2.2.2+1∧s.2.2.2+1≤20000;omega
 ·show f_ _ ((s.1.set k _).getD i bK)=true;by_cases U6:k=i
  ·subst U6;rw [mW oO]; exact hA.1
  rw [getD_set_ne U6]; exact o.act i hi
 have L:=o.bH i hi;show uK _ ((cX nt s k).2.1.getD i []) ((cX nt s k).2.2.1.getD i []);unfold cX;simp only;by_cases c2:(bd nt s k).1=2
 ·obtain ⟨j,hj,e,e2,-⟩:=nK o hk c2;rw [if_pos c2,if_neg (show ¬ (bd nt s k).1=3 by omega),e,ay];by_cases uG:j=i
  ·subst uG;rw [mW (by omega)];have h1:=lE L.qs;refine ⟨Og (by rw [List.length_drop]; omega) (fun x hx=>h1.2 x (List.mem_of_mem_drop hx)),L.hs,L.pre,(List.drop_suffix 1 _).trans L.Dh,L.UK,fun h=>?_⟩;rw [aJ hj] at h;omega
  rw [getD_set_ne uG]; exact L
 rw [if_neg c2];by_cases c3:(bd nt s k).1=3
 ·obtain ⟨j,hj,e,e2,-⟩:=rD o hk c3;have hlen:=w3 c3;rw [if_pos c3,if_pos c3];rw [e,ay] at hlen ⊢;by_cases uG:j=i
  ·subst uG;rw [mW (by omega),mW (by omega)];have h1:=lE L.qs;have h2:=lE L.hs;have h3:=L.Dh.length_le;refine ⟨Og (by rw [cg,iQ]; omega) (fun x hx=>?_),Og (by rw [cg,iQ]; omega) (fun x hx=>?_),L.pre.trans (List.prefix_append _ _),?_,fun h=>?_,fun h=>?_⟩
   ·rcases List.mem_append.1 hx with hx | hx
    ·exact h1.2 x hx
    rw [List.mem_singleton.1 hx]; exact hO
   ·rcases List.mem_append.1 hx with hx | hx
    ·exact h2.2 x hx
    rw [List.mem_singleton.1 hx]; exact hO
   ·obtain ⟨t,ht⟩:=L.Dh;exact ⟨t,by rw [← ht,List.append_assoc]⟩
   ·rw [aJ hj] at h; omega
   have:=L.out h;rw [cg,cg,this]
  rw [getD_set_ne uG,getD_set_ne uG]; exact L
 rw [if_neg c3,if_neg c3]; exact L
theorem adq {s:List Int} (h:bS s=true) (i:Nat):tok (s.getD i 0)=true:=qE (i:=(i:Int)) h
theorem U7 (hp:cJ p=true):0≤p.1∧p.1≤3∧0≤p.2.1∧p.2.1≤3∧p.2.2.length≤24:=by unfold cJ at hp;simp only [aw,decide_eq_true_eq] at hp;omega
end Go.AmT
