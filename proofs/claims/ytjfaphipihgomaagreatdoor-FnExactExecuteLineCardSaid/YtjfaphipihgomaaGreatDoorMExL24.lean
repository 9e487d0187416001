/- Functions of the program, each as a plain Lean function. No condition. -/
import Derived.Test.YtjfaphipihgomaaGreatDoorLDkC
open Go Go.Am
noncomputable section
set_option linter.unusedVariables false
set_option maxRecDepth 100000
set_option linter.unusedSimpArgs false
open Int renaming toNat_natCast → az
open Option renaming bind_some → aA
namespace Go.AmT
open Go.Proofs Go.Proofs.Tryz
def vZ.f (n:Nat) (a0:bR):Option (bR×Unit):=(oA.f n a0.1).bind fun r1=>(vA.f n a0.2.1).bind fun r2=>(cX.f n a0.2.2).bind fun r3=>some ((r1.1,r2.1,r3.1),())
def vZ.ae (n:Nat):ar:=⟨[.val gh],[.val gh],fun x=>vZ.f n x.1⟩
theorem vZ.ok (n:Nat):aH 37 (vZ.ae n):=aJ n [] [] (ai (oA.ok n) (ai (vA.ok n) (ai ⟨cX.sound n,cX.av⟩ aC))) aD func37
def CG.f (n:Nat) (a0:BB):Option (ak×Bool×Unit):=(qF.f n a0).bind fun r1=>iter n (fun rD b_=>br (decide (b_.2.1<(r1.1.length:Int))) (ab (0≤b_.2.1∧b_.2.1<(r1.1.length:Int)) (let v31:=(r1.1.getD b_.2.1.toNat []); (rE.f n v31 ([32]:BB)).bind fun gE=>cut (br (decide (gE.1=([112,114,111,99,101,115,115]:BB))) (some (.inr (decide ((b_.2.2.2.1.length:Int)=0),()))) (some (.inr (false,())))) fun QK=>br QK.1 ((rC.f n gE.2.1).bind fun kt=>ab ((b_.2.2.1.length+([kt.1]:List Program).length)*40≤bn) (br b_.1 (rD (kt.2.1,ag (b_.2.1+1),b_.2.2.1++[kt.1],b_.2.2.2.1,())) (rD (false,ag (b_.2.1+1),b_.2.2.1++[kt.1],b_.2.2.2.1,())))) (br (decide (gE.1=([108,105,110,107]:BB))) ((uB.f n gE.2.1).bind fun kb=>ab ((b_.2.2.2.1.length+([kb.1]:List aK).length)*56≤bn) (br b_.1 (rD (kb.2.1,ag (b_.2.1+1),b_.2.2.1,b_.2.2.2.1++[kb.1],())) (rD (false,ag (b_.2.1+1),b_.2.2.1,b_.2.2.2.1++[kb.1],())))) (rD (false,ag (b_.2.1+1),b_.2.2.1,b_.2.2.2.1,()))))) (cut (br (!b_.1) (some (.inr (true,()))) ((dS.f n (b_.2.2.1,b_.2.2.2.1)).bind fun Cv=>br (!Cv.1) (some (.inr (true,()))) ((vN.f n (b_.2.2.1,b_.2.2.2.1)).bind fun rF=>some (.inr (!decide (rF.1=a0),()))))) fun QL=>br QL.1 (some (([],[]),false,())) (some ((b_.2.2.1,b_.2.2.2.1),true,())))) (r1.2.1,0,[],[],())
def CG.ae (n:Nat):ar:=⟨[.val .str],[.val bZ,.val .bool],fun x=>CG.f n x.1⟩
theorem CG.ok (n:Nat):aH 90 (CG.ae n):=aJ n [(5,⟨[(5,.bool),(6,.bt 1000 0),(24,.int .i64)],[(1000,.cells [] [.own 1001 bp,.own 1002 bJ]),(1001,.row true bp),(1002,.row true bJ)],[0,2,22,23],[]⟩),(12,⟨[(34,.bool)],[],[0,2,5,6,9,10,22,23,24],[]⟩),(22,⟨[(89,.bool)],[],[2,6],[]⟩)] [] (ai (qF.ok n) (ai ⟨rE.sound n,rE.av⟩ (ai (rC.ok n) (ai (uB.ok n) (ai ⟨dS.sound n,dS.av⟩ (ai (vN.ok n) aC)))))) aD func90
def CH.f (n:Nat) (a0:ak) (a1:Int) (a2:List Int):Option (ak×Bool×Unit):=cut ((dS.f n a0).bind fun r3=>br (!r3.1) (some (.inr (true,()))) (br (decide (a1<0)) (some (.inr (true,()))) (some (.inr (decide ((a0.2.length:Int)≤a1),()))))) fun y2=>br y2.1 (some (([],[]),false,())) ((oA.f n a0).bind fun r4=>ab (0≤a1∧a1<(r4.1.2.length:Int)) ((vS.f n ([(r4.1.2.getD a1.toNat ay).2.2.2.2,a2]:List (List Int))).bind fun r5=>ab (0≤a1∧a1<(r4.1.2.length:Int)) (let v6:=(r4.1.2.set a1.toNat ((r4.1.2.getD a1.toNat ay).1,(r4.1.2.getD a1.toNat ay).2.1,(r4.1.2.getD a1.toNat ay).2.2.1,(r4.1.2.getD a1.toNat ay).2.2.2.1,r5.1)); (sM.f n (r4.1.1,v6)).bind fun r7=>some (r7.1,r7.2.1,()))))
def CH.ae (n:Nat):ar:=⟨[.val bZ,.val I,.val IS],[.val bZ,.val .bool],fun x=>CH.f n x.1 x.2.1 x.2.2.1⟩
theorem CH.ok (n:Nat):aH 94 (CH.ae n):=aJ n [(1,⟨[(22,.bool)],[],[1,2,3,6],[]⟩)] [] (ai ⟨dS.sound n,dS.av⟩ (ai (oA.ok n) (ai (vS.ok n) (ai (sM.ok n) aC)))) aD func94
def A_.f (n:Nat) (a0:ak) (a1:Int):Option (ak×Bool×Unit):=cut ((dS.f n a0).bind fun r3=>br (!r3.1) (some (.inr (true,()))) (br (decide (a1<0)) (some (.inr (true,()))) (some (.inr (decide ((a0.2.length:Int)≤a1),()))))) fun y2=>br y2.1 (some (([],[]),false,())) ((oA.f n a0).bind fun r4=>(yh.f n ([116,104,114,111,117,103,104]:BB)).bind fun r5=>ab ((r4.1.1.length+([r5.1]:List Program).length)*40≤bn) (ab (0≤a1∧a1<(r4.1.2.length:Int)) (let v6:=(r4.1.2.set a1.toNat ((r4.1.2.getD a1.toNat ay).1,(r4.1.2.getD a1.toNat ay).2.1,(r4.1.1.length:Int),(r4.1.2.getD a1.toNat ay).2.2.2)); let v7:=(v6.set a1.toNat ((v6.getD a1.toNat ay).1,(v6.getD a1.toNat ay).2.1,(v6.getD a1.toNat ay).2.2.1,0,(v6.getD a1.toNat ay).2.2.2.2)); ab ((v7.length+([((r4.1.1.length:Int),0,(r4.1.2.getD a1.toNat ay).2.2.1,(r4.1.2.getD a1.toNat ay).2.2.2.1,[])]:List aK).length)*56≤bn) ((sM.f n (r4.1.1++[r5.1],v7++[((r4.1.1.length:Int),0,(r4.1.2.getD a1.toNat ay).2.2.1,(r4.1.2.getD a1.toNat ay).2.2.2.1,[])])).bind fun r8=>some (r8.1,r8.2.1,())))))
def A_.ae (n:Nat):ar:=⟨[.val bZ,.val I],[.val bZ,.val .bool],fun x=>A_.f n x.1 x.2.1⟩
theorem A_.ok (n:Nat):aH 166 (A_.ae n):=aJ n [(1,⟨[(23,.bool)],[],[1,2,4],[]⟩)] [] (ai ⟨dS.sound n,dS.av⟩ (ai (oA.ok n) (ai (yh.ok n) (ai (sM.ok n) aC)))) aD func166
def yn.f (n:Nat) (a0:ak):Option (State×Unit):=(dS.f n a0).bind fun r1=>br (!r1.1) (some (([],[],[],0),())) (iter n (fun zW cJ=>br (decide (cJ.1<(a0.1.length:Int))) (ab (0≤cJ.1∧cJ.1<(a0.1.length:Int)) (let xO:=(a0.1.getD cJ.1.toNat bf); (ud.f n xO).bind fun ef=>ab ((cJ.2.2.1.length+([ef.1]:List aY).length)*32≤bn) (zW (ag (cJ.1+1),cJ.2.1,cJ.2.2.1++[ef.1],())))) (iter n (fun Pn gD=>br (decide (gD.1<(a0.2.length:Int))) (ab (0≤gD.1∧gD.1<(a0.2.length:Int)) (let v51:=(a0.2.getD gD.1.toNat ay); (cX.f n v51.2.2.2.2).bind fun pn=>ab ((gD.2.2.2.1.length+([pn.1]:List (List Int)).length)*24≤bn) ((cX.f n v51.2.2.2.2).bind fun G5=>ab ((gD.2.2.2.2.1.length+([G5.1]:List (List Int)).length)*24≤bn) (Pn (ag (gD.1+1),gD.2.1,gD.2.2.1,gD.2.2.2.1++[pn.1],gD.2.2.2.2.1++[G5.1],()))))) (some ((gD.2.2.1,gD.2.2.2.1,gD.2.2.2.2.1,gD.2.1),()))) (0,cJ.2.1,cJ.2.2.1,[],[],()))) (0,0,[],()))
def yn.ae (n:Nat):ar:=⟨[.val bZ],[.val dk],fun x=>yn.f n x.1⟩
theorem yn.ok (n:Nat):aH 151 (yn.ae n):=aJ n [(7,⟨[(3,.bt 1000 0),(16,.int .i64)],[(1000,.cells [] [.own 1001 a_,.mc (.nil),.mc (.nil),.int .i64]),(1001,.row true a_)],[1,2,14,15],[]⟩),(16,⟨[(3,.bt 1000 0),(31,.int .i64)],[(1000,.cells [] [.own 1001 a_,.own 1002 IS,.own 1003 IS,.int .i64]),(1001,.row true a_),(1002,.row true IS),(1003,.row true IS)],[2,29,30],[]⟩)] [] (ai ⟨dS.sound n,dS.av⟩ (ai (ud.ok n) (ai ⟨cX.sound n,cX.av⟩ aC))) aD func151
def oC.la:LA:=⟨[(0,.agg [.own 0 bp,.own 1 bJ]),(1,.bool)],[(0,.row true bp),(1,.row true bJ)],[],[]⟩
def oC.lb:LA:=⟨[(0,.agg [.own 1000 bp,.own 1001 bJ,.own 1002 a_,.own 1003 IS,.own 1004 IS,.int .i64,.own 1005 I]),(1,.str),(2,.bool)],[(1000,.row true bp),(1001,.row true bJ),(1002,.row true a_),(1003,.row true IS),(1004,.row true IS),(1005,.row true I)],[],[]⟩
def oC.f (n:Nat) (a0:Bool) (a1:List Program) (a2:List aK):Option (Int×(BB)×Bool×List Program×List aK×List aY×List (List Int)×List (List Int)×List Int×Unit):=br (!a0) (some (0,[],false,[],[],[],[],[],[],())) ((yn.f n (a1,a2)).bind fun r1=>(uf.f n (a1,a2) 0).bind fun r2=>some (r1.1.2.2.2,[111,107],true,a1,a2,r1.1.1,r1.1.2.1,r1.1.2.2.1,r2.1,()))
def oC.ae (n:Nat):cM:=⟨oC.la,oC.lb,fun x=>oC.f n x.1 x.2.1 x.2.2.1⟩
theorem oC.ok (n:Nat):ks 89 (oC.ae n):=lj n [] [] (ai (yn.ok n) (ai (uf.ok n) aC)) aD func89
def sQ.la:LA:=⟨[(0,.agg [.own 0 bp,.own 1 bJ,.own 2 a_,.own 3 IS,.own 4 IS,.int .i64,.own 5 I]),(1,.str)],[(0,.row true bp),(1,.row true bJ),(2,.row true a_),(3,.row true IS),(4,.row true IS),(5,.row true I)],[],[]⟩
def sQ.lb:LA:=⟨[(0,.agg [.own 1000 bp,.own 1001 bJ,.own 1002 a_,.own 1003 IS,.own 1004 IS,.int .i64,.own 1005 I]),(1,.str),(2,.bool)],[(1000,.row true bp),(1001,.row true bJ),(1002,.row true a_),(1003,.row true IS),(1004,.row true IS),(1005,.row true I)],[],[]⟩
def sQ.f (n:Nat) (a0:Int) (a1:BB) (a2:List Program) (a3:List aK) (a4:List aY) (a5 a6:List (List Int)) (a7:List Int):Option (Int×(BB)×Bool×List Program×List aK×List aY×List (List Int)×List (List Int)×List Int×Unit):=br (decide (a1=([115,116,97,114,116]:BB))) ((yn.f n (a2,a3)).bind fun r1=>some (r1.1.2.2.2,[111,107],true,a2,a3,r1.1.1,r1.1.2.1,r1.1.2.2.1,a7,())) (br (decide (a1=([119,97,105,116,115]:BB))) ((AS.f n (a2,a3) (a4,a5,a6,a0)).bind fun r2=>iter n (fun G8 iD=>br (decide (iD.1<(r2.1.length:Int))) (ab (0≤iD.1∧iD.1<(r2.1.length:Int)) ((dV.f n (r2.1.getD iD.1.toNat 0)).bind fun cE=>ab ((iD.2.1.length+([cE.1]:List (BB)).length)*16≤bn) (G8 (ag (iD.1+1),iD.2.1++[cE.1],())))) (cut (br (decide ((iD.2.1.length:Int)=0)) (some (.inr ([[110,111,110,101]],()))) (some (.inr (iD.2.1,())))) fun Qt=>(om.f n Qt.1 ([32]:BB)).bind fun eg=>some (a0,eg.1,true,a2,a3,a4,a5,a6,a7,()))) (0,[],())) (some (a0,[],false,a2,a3,a4,a5,a6,a7,())))
def sQ.ae (n:Nat):cM:=⟨sQ.la,sQ.lb,fun x=>sQ.f n x.1 x.2.1 x.2.2.1 x.2.2.2.1 x.2.2.2.2.1 x.2.2.2.2.2.1 x.2.2.2.2.2.2.1 x.2.2.2.2.2.2.2.1⟩
theorem sQ.ok (n:Nat):ks 95 (sQ.ae n):=lj n [(12,⟨[(7,.own 1000 .str),(27,.int .i64)],[(1000,.row true .str)],[2,4,25,26],[0,1,2,3,4,5]⟩),(20,⟨[(7,.own 1000 .str)],[(1000,.row true .str)],[2,4],[0,1,2,3,4,5]⟩)] [] (ai (yn.ok n) (ai (AS.ok n) (ai ⟨dV.sound n,dV.av⟩ (ai ⟨om.sound n,om.av⟩ aC)))) aD func95
theorem ix.ahe:Oi Tryz.prog 188 9 9:=⟨Tryz.underlying188,Tryz.underlying9,Tryz.underlying9,fun w=>by kernel_rfl⟩
def ix.bq:List (Nat×LA):=[(2,⟨[(11,.bool)],[],[1,2,3,6,9,10],[0,1,2,3,4,5]⟩),(10,⟨[(56,.bool)],[],[2,3,6,9],[0,1,2,3,4,5]⟩),(41,⟨[(141,.bool)],[],[2,3,6,21],[0,1,2,3,4,5]⟩),(46,⟨[(149,.bool)],[],[1,2,3,6,10,11],[0,1,2,3,4,5]⟩)]
def ix.la:LA:=⟨[(0,.agg [.own 0 bp,.own 1 bJ,.own 2 a_,.own 3 IS,.own 4 IS,.int .i64,.own 5 I]),(1,.str),(2,.int .i64)],[(0,.row true bp),(1,.row true bJ),(2,.row true a_),(3,.row true IS),(4,.row true IS),(5,.row true I)],[],[]⟩
def ix.lb:LA:=⟨[(0,.agg [.own 1000 bp,.own 1001 bJ,.own 1002 a_,.own 1003 IS,.own 1004 IS,.int .i64,.own 1005 I]),(1,.str),(2,.bool)],[(1000,.row true bp),(1001,.row true bJ),(1002,.row true a_),(1003,.row true IS),(1004,.row true IS),(1005,.row true I)],[],[]⟩
def ix.f (n:Nat) (a0:Int) (a1:BB) (a2:Int) (a3:List Program) (a4:List aK) (a5:List aY) (a6 a7:List (List Int)) (a8:List Int):Option (Int×(BB)×Bool×List Program×List aK×List aY×List (List Int)×List (List Int)×List Int×Unit):=cut (br (decide (0≤a2)) (some (.inr (decide (a2<(a4.length:Int)),()))) (some (.inr (false,())))) fun y1=>br (decide (a1=([115,112,108,105,99,101]:BB))) ((A_.f n (a3,a4) a2).bind fun r2=>(oC.f n r2.2.1 r2.1.1 r2.1.2).bind fun r3=>some (r3.1,r3.2.1,r3.2.2.1,r3.2.2.2.1,r3.2.2.2.2.1,r3.2.2.2.2.2.1,r3.2.2.2.2.2.2.1,r3.2.2.2.2.2.2.2.1,r3.2.2.2.2.2.2.2.2.1,())) (br (decide (a1=([99,97,112,115]:BB))) (cut (br (decide (a2<0)) (some (.inr (true,()))) (some (.inr (decide (400<a2),())))) fun y4=>br y4.1 (some (a0,[],false,a3,a4,a5,a6,a7,a8,())) ((uf.f n (a3,a4) a2).bind fun r5=>some (a0,[111,107],true,a3,a4,a5,a6,a7,r5.1,()))) (br (decide (a1=([115,116,101,112]:BB))) ((yj.f n (a3,a4) (a5,a6,a7,a0) a2).bind fun r6=>(dV.f n r6.1.2.2.2).bind fun r7=>some (r6.1.2.2.2,r7.1,r6.2.1,a3,a4,r6.1.1,r6.1.2.1,r6.1.2.2.1,a8,())) (br (decide (a1=([116,117,114,110,115]:BB))) ((xU.f n (a3,a4) (a5,a6,a7,a0) a2).bind fun r8=>br r8.2.1 (some (r8.1.2.2.2,[113,117,105,101,116],true,a3,a4,r8.1.1,r8.1.2.1,r8.1.2.2.1,a8,())) (some (r8.1.2.2.2,[98,117,115,121],true,a3,a4,r8.1.1,r8.1.2.1,r8.1.2.2.1,a8,()))) (br (decide (a1=([98,111,117,110,100,101,100]:BB))) ((qA.f n (a3,a4) (a5,a6,a7,a0) a8 a2).bind fun r9=>(sP.f n r9.2.1).bind fun gi=>some (r9.1.2.2.2,gi.1,true,a3,a4,r9.1.1,r9.1.2.1,r9.1.2.2.1,a8,())) (br (decide (a1=([112,97,114,107,115]:BB))) ((xS.f n (a3,a4) (a5,a6,a7,a0) a8 a2).bind fun cW=>(sP.f n cW.2.2.1).bind fun fq=>some (cW.1.2.2.2,fq.1,true,a3,a4,cW.1.1,cW.1.2.1,cW.1.2.2.1,cW.2.1,())) (br (decide (a1=([108,101,97,115,116]:BB))) ((yg.f n (a3,a4)).bind fun fD=>cut (br (!fD.2.2.1) (some (.inr (true,()))) (some (.inr (!y1.1,())))) fun pg=>br pg.1 (some (a0,[],false,a3,a4,a5,a6,a7,a8,())) (ab (0≤a2∧a2<(fD.1.length:Int)) ((lW.f n (fD.1.getD a2.toNat [])).bind fun dz=>some (a0,dz.1,true,a3,a4,a5,a6,a7,a8,())))) (cut (br (decide (a1=([115,101,110,116]:BB))) (some (.inr (decide (a1=([115,101,110,116]:BB)),()))) (br (decide (a1=([113,117,101,117,101]:BB))) (some (.inr (decide (a1=([113,117,101,117,101]:BB)),()))) (some (.inr (decide (a1=([114,111,111,109]:BB)),()))))) fun Rf=>br Rf.1 (br (!y1.1) (some (a0,[],false,a3,a4,a5,a6,a7,a8,())) (br (decide (a1=([115,101,110,116]:BB))) (ab (0≤a2∧a2<(a7.length:Int)) ((lW.f n (a7.getD a2.toNat [])).bind fun eN=>ab (0≤a2∧a2<(a6.length:Int)) ((lW.f n (a6.getD a2.toNat [])).bind fun gm=>ab (0≤a2∧a2<(a8.length:Int)) ((dV.f n (a8.getD a2.toNat 0)).bind fun jP=>ab (eN.1.length<ca) (ab (gm.1.length<ca) (ab (jP.1.length<ca) (some (a0,eN.1,true,a3,a4,a5,a6,a7,a8,())))))))) (br (decide (a1=([113,117,101,117,101]:BB))) (ab (0≤a2∧a2<(a7.length:Int)) ((lW.f n (a7.getD a2.toNat [])).bind fun jT=>ab (0≤a2∧a2<(a6.length:Int)) ((lW.f n (a6.getD a2.toNat [])).bind fun cE=>ab (0≤a2∧a2<(a8.length:Int)) ((dV.f n (a8.getD a2.toNat 0)).bind fun eA=>ab (jT.1.length<ca) (ab (cE.1.length<ca) (ab (eA.1.length<ca) (some (a0,cE.1,true,a3,a4,a5,a6,a7,a8,())))))))) (br (decide (a1=([114,111,111,109]:BB))) (ab (0≤a2∧a2<(a7.length:Int)) ((lW.f n (a7.getD a2.toNat [])).bind fun eg=>ab (0≤a2∧a2<(a6.length:Int)) ((lW.f n (a6.getD a2.toNat [])).bind fun rI=>ab (0≤a2∧a2<(a8.length:Int)) ((dV.f n (a8.getD a2.toNat 0)).bind fun pk=>ab (eg.1.length<ca) (ab (rI.1.length<ca) (ab (pk.1.length<ca) (some (a0,pk.1,true,a3,a4,a5,a6,a7,a8,())))))))) (none))))) (some (a0,[],false,a3,a4,a5,a6,a7,a8,())))))))))
def ix.ae (n:Nat):cM:=⟨ix.la,ix.lb,fun x=>ix.f n x.1 x.2.1 x.2.2.1 x.2.2.2.1 x.2.2.2.2.1 x.2.2.2.2.2.1 x.2.2.2.2.2.2.1 x.2.2.2.2.2.2.2.1 x.2.2.2.2.2.2.2.2.1⟩
def ix.cfg (n:Nat):bd:=⟨m_,[(166,A_.ae n),(152,uf.ae n),(167,yj.ae n),(164,dV.ae n),(168,xU.ae n),(169,qA.ae n),(170,sP.ae n),(171,xS.ae n),(172,yg.ae n),(173,lW.ae n)],[(89,oC.ae n)],[2900188]⟩
theorem ix.eq:∀ (n:Nat) (a0:Int) (a1:BB) (a2:Int) (a3:List Program) (a4:List aK) (a5:List aY) (a6:List (List Int)) (a7:List (List Int)) (a8:List Int) (mp:Mp),cM.run (ix.cfg n) n f96 (cT f96 ix.bq) ix.la ix.lb (a0,a1,a2,a3,a4,a5,a6,a7,a8,mp)=ix.f n a0 a1 a2 a3 a4 a5 a6 a7 a8:=by intros;kernel_rfl
theorem ix.av:ck Tryz.prog 96:=cD func96 (by kernel_rfl) (by kernel_rfl)
theorem ix.sound (n:Nat):oY Tryz.prog 96 (ix.ae n):=DV (fn:=f96) (M:=ix.ae n) (c:=ix.cfg n) (adu mixed (tP (.of (c:=ix.cfg n) ⟨A_.ok n,⟨uf.ok n,⟨yj.ok n,⟨⟨dV.sound n,dV.av⟩,⟨xU.ok n,⟨qA.ok n,⟨⟨sP.sound n,sP.av⟩,⟨xS.ok n,⟨yg.ok n,⟨lW.ok n,trivial⟩⟩⟩⟩⟩⟩⟩⟩⟩⟩) (.of (c:=ix.cfg n) ⟨oC.ok n,trivial⟩)) (cB kL) rfl ix.ahe) (cB kL) func96 (fun x=>(ix.eq n x.1 x.2.1 x.2.2.1 x.2.2.2.1 x.2.2.2.2.1 x.2.2.2.2.2.1 x.2.2.2.2.2.2.1 x.2.2.2.2.2.2.2.1 x.2.2.2.2.2.2.2.2.1 x.2.2.2.2.2.2.2.2.2).symm)
def sT.la:LA:=⟨[(0,.agg [.own 0 bp,.own 1 bJ,.own 2 a_,.own 3 IS,.own 4 IS,.int .i64,.own 5 I]),(1,.int .i64),(2,.int .i64)],[(0,.row true bp),(1,.row true bJ),(2,.row true a_),(3,.row true IS),(4,.row true IS),(5,.row true I)],[],[]⟩
def sT.lb:LA:=⟨[(0,.agg [.own 1000 bp,.own 1001 bJ,.own 1002 a_,.own 1003 IS,.own 1004 IS,.int .i64,.own 1005 I]),(1,.str),(2,.bool)],[(1000,.row true bp),(1001,.row true bJ),(1002,.row true a_),(1003,.row true IS),(1004,.row true IS),(1005,.row true I)],[],[]⟩
def sT.f (n:Nat) (a0 a1 a2:Int) (a3:List Program) (a4:List aK) (a5:List aY) (a6 a7:List (List Int)) (a8:List Int):Option (Int×(BB)×Bool×List Program×List aK×List aY×List (List Int)×List (List Int)×List Int×Unit):=cut (br (decide (a1<0)) (some (.inr (true,()))) (some (.inr (decide ((a4.length:Int)≤a1),())))) fun y1=>br y1.1 (some (a0,[],false,a3,a4,a5,a6,a7,a8,())) ((Ac.f n (a3,a4) (a5,a6,a7,a0) a1 a2 20000).bind fun r2=>br r2.2.1 (some (r2.1.2.2.2,[109,101,116],true,a3,a4,r2.1.1,r2.1.2.1,r2.1.2.2.1,a8,())) (some (r2.1.2.2.2,[102,97,105,108,101,100],true,a3,a4,r2.1.1,r2.1.2.1,r2.1.2.2.1,a8,())))
def sT.ae (n:Nat):cM:=⟨sT.la,sT.lb,fun x=>sT.f n x.1 x.2.1 x.2.2.1 x.2.2.2.1 x.2.2.2.2.1 x.2.2.2.2.2.1 x.2.2.2.2.2.2.1 x.2.2.2.2.2.2.2.1 x.2.2.2.2.2.2.2.2.1⟩
theorem sT.ok (n:Nat):ks 97 (sT.ae n):=lj n [(1,⟨[(20,.bool)],[],[1,2,3,6],[0,1,2,3,4,5]⟩)] [] (ai (Ac.ok n) aC) aD func97
def pC.la:LA:=⟨[(0,.agg [.own 0 bp,.own 1 bJ,.own 2 a_,.own 3 IS,.own 4 IS,.int .i64,.own 5 I]),(1,.str)],[(0,.row true bp),(1,.row true bJ),(2,.row true a_),(3,.row true IS),(4,.row true IS),(5,.row true I)],[],[]⟩
def pC.lb:LA:=⟨[(0,.agg [.own 1000 bp,.own 1001 bJ,.own 1002 a_,.own 1003 IS,.own 1004 IS,.int .i64,.own 1005 I]),(1,.str),(2,.bool)],[(1000,.row true bp),(1001,.row true bJ),(1002,.row true a_),(1003,.row true IS),(1004,.row true IS),(1005,.row true I)],[],[]⟩
def pC.f (n:Nat) (a0:Int) (a1:BB) (a2:List Program) (a3:List aK) (a4:List aY) (a5 a6:List (List Int)) (a7:List Int):Option (Int×(BB)×Bool×List Program×List aK×List aY×List (List Int)×List (List Int)×List Int×Unit):=(vW.f n a1 ([108,111,97,100,32]:BB)).bind fun r1=>br r1.2.1 ((vX.f n r1.1 ([124]:BB) ([10]:BB)).bind fun r5=>(CG.f n r5.1).bind fun r6=>(oC.f n r6.2.1 r6.1.1 r6.1.2).bind fun r7=>some (r7.1,r7.2.1,r7.2.2.1,r7.2.2.2.1,r7.2.2.2.2.1,r7.2.2.2.2.2.1,r7.2.2.2.2.2.2.1,r7.2.2.2.2.2.2.2.1,r7.2.2.2.2.2.2.2.2.1,())) ((iE.f n a1 ([32]:BB)).bind fun r8=>cut (ab ((0:Int)≤0∧0<(r8.1.length:Int)) (br (decide ((r8.1.getD 0 [])=([102,101,101,100]:BB))) (some (.inr (decide ((r8.1.length:Int)=3),()))) (some (.inr (false,()))))) fun y9=>br y9.1 (ab ((0:Int)≤1∧(1:Int)≤2∧2≤(r8.1.length:Int)) ((qH.f n ((r8.1.take 2).drop 1)).bind fun dz=>ab ((0:Int)≤2∧(2:Int)<(r8.1.length:Int)) ((CC.f n (r8.1.getD 2 [])).bind fun iB=>cut (br (!dz.2.1) (some (.inr (true,()))) (some (.inr (!iB.2.1,())))) fun Ou=>br Ou.1 (some (a0,[],false,a2,a3,a4,a5,a6,a7,())) (ab ((0:Int)≤0∧0<(dz.1.length:Int)) ((CH.f n (a2,a3) (dz.1.getD 0 0) iB.1).bind fun gm=>(oC.f n gm.2.1 gm.1.1 gm.1.2).bind fun jP=>some (jP.1,jP.2.1,jP.2.2.1,jP.2.2.2.1,jP.2.2.2.2.1,jP.2.2.2.2.2.1,jP.2.2.2.2.2.2.1,jP.2.2.2.2.2.2.2.1,jP.2.2.2.2.2.2.2.2.1,())))))) (ab ((0:Int)≤1∧(1:Int)≤(r8.1.length:Int)∧(r8.1.length:Int)≤(r8.1.length:Int)) ((qH.f n ((r8.1.take (r8.1.length:Int).toNat).drop 1)).bind fun jT=>br (!jT.2.1) (some (a0,[],false,a2,a3,a4,a5,a6,a7,())) (br (decide ((jT.1.length:Int)=0)) (ab ((0:Int)≤0∧0<(r8.1.length:Int)) ((sQ.f n a0 (r8.1.getD 0 []) a2 a3 a4 a5 a6 a7).bind fun cE=>some (cE.1,cE.2.1,cE.2.2.1,cE.2.2.2.1,cE.2.2.2.2.1,cE.2.2.2.2.2.1,cE.2.2.2.2.2.2.1,cE.2.2.2.2.2.2.2.1,cE.2.2.2.2.2.2.2.2.1,()))) (br (decide ((jT.1.length:Int)=1)) (ab ((0:Int)≤0∧0<(r8.1.length:Int)) (ab ((0:Int)≤0∧0<(jT.1.length:Int)) ((ix.f n a0 (r8.1.getD 0 []) (jT.1.getD 0 0) a2 a3 a4 a5 a6 a7).bind fun eA=>some (eA.1,eA.2.1,eA.2.2.1,eA.2.2.2.1,eA.2.2.2.2.1,eA.2.2.2.2.2.1,eA.2.2.2.2.2.2.1,eA.2.2.2.2.2.2.2.1,eA.2.2.2.2.2.2.2.2.1,())))) (cut (br (decide ((jT.1.length:Int)=2)) (ab ((0:Int)≤0∧0<(r8.1.length:Int)) (some (.inr (decide ((r8.1.getD 0 [])=([100,101,109,97,110,100]:BB)),())))) (some (.inr (false,())))) fun xT=>br xT.1 (ab ((0:Int)≤0∧0<(jT.1.length:Int)) (ab ((0:Int)≤1∧(1:Int)<(jT.1.length:Int)) ((sT.f n a0 (jT.1.getD 0 0) (jT.1.getD 1 0) a2 a3 a4 a5 a6 a7).bind fun rI=>some (rI.1,rI.2.1,rI.2.2.1,rI.2.2.2.1,rI.2.2.2.2.1,rI.2.2.2.2.2.1,rI.2.2.2.2.2.2.1,rI.2.2.2.2.2.2.2.1,rI.2.2.2.2.2.2.2.2.1,())))) (some (a0,[],false,a2,a3,a4,a5,a6,a7,()))))))))
def pC.ae (n:Nat):cM:=⟨pC.la,pC.lb,fun x=>pC.f n x.1 x.2.1 x.2.2.1 x.2.2.2.1 x.2.2.2.2.1 x.2.2.2.2.2.1 x.2.2.2.2.2.2.1 x.2.2.2.2.2.2.2.1⟩
theorem pC.ok (n:Nat):ks 38 (pC.ae n):=lj n [(6,⟨[(41,.bool)],[],[2,4,9],[0,1,2,3,4,5]⟩),(10,⟨[(60,.bool)],[],[2,4,10,12],[0,1,2,3,4,5]⟩),(25,⟨[(112,.bool)],[],[2,4,14],[0,1,2,3,4,5]⟩)] [] (ai (vW.ok n) (ai ⟨vX.sound n,vX.av⟩ (ai (CG.ok n) (ai ⟨iE.sound n,iE.av⟩ (ai (qH.ok n) (ai (CC.ok n) (ai (CH.ok n) aC))))))) (dI (oC.ok n) (dI (sQ.ok n) (dI ⟨ix.sound n,ix.av⟩ (dI (sT.ok n) aD)))) func38
def sU.f (n:Nat) (a0:bR) (a1:BB):Option (bR×(BB)×Unit):=(vU.f n a0).bind fun r1=>br (!r1.1) ((vZ.f n a0).bind fun r3=>some (r3.1,[110,111],())) ((vZ.f n a0).bind fun r4=>(pC.f n r4.1.2.1.2.2.2 a1 r4.1.1.1 r4.1.1.2 r4.1.2.1.1 r4.1.2.1.2.1 r4.1.2.1.2.2.1 r4.1.2.2).bind fun r5=>br (!r5.2.2.1) ((vZ.f n a0).bind fun r6=>some (r6.1,[110,111],())) (some (((r5.2.2.2.1,r5.2.2.2.2.1),(r5.2.2.2.2.2.1,r5.2.2.2.2.2.2.1,r5.2.2.2.2.2.2.2.1,r5.1),r5.2.2.2.2.2.2.2.2.1),r5.2.1,())))
def sU.ae (n:Nat):ar:=⟨[.val gh,.val .str],[.val gh,.val .str],fun x=>sU.f n x.1 x.2.1⟩
theorem sU.ok (n:Nat):aH 13 (sU.ae n):=aJ n [] [] (ai (vU.ok n) (ai (vZ.ok n) aC)) (dI (pC.ok n) aD) func13
end Go.AmT
namespace Go.AmT
variable {d:bR} {n:Nat} {nt:ak} {k:Int} {w:BB}
theorem HM {α β:Type} (p:α×β):(p.1,p.2)=p:=rfl
abbrev bI:BB:=[110,111]
abbrev ta:BB:=[111,107]
abbrev sV:BB:=[115,112,108,105,99,101]
abbrev Rg:BB:=[115,116,101,112]
abbrev Rh:BB:=[112,97,114,107,115]
abbrev Le:BB:=[113,117,101,117,101]
abbrev Lf:BB:=[114,111,111,109]
abbrev uH:BB:=[100,101,109,97,110,100]
abbrev ky:BB:=[108,111,97,100]
abbrev nz:BB:=[102,101,101,100]
def CI (nt:ak):bR:=(nt,start nt,vJ nt 0)
def oD (d:bR) (w:BB) (k:Int):BB:=
 if 0≤k∧k<(d.1.2.length:Int) then
  if w=Lb then (match ye d.1 with | some (g,_)=>fmtS (g.getD k.toNat []) | none=>bI)
  else if w=Ld then fmtS (d.2.1.2.2.1.getD k.toNat [])
  else if w=Le then fmtS (d.2.1.2.1.getD k.toNat [])
  else if w=Lf then Lib.itoa (d.2.2.getD k.toNat 0) else bI
 else bI
abbrev EJ (w:BB):Prop:=w=Lb∨w=Ld∨w=Le∨w=Lf
def mH (d:bR) (w:BB) (k:Int):bR×BB:=
 if w=Rg then (if l_ d.1 d.2.1 k=true then ((d.1,eY d.1 d.2.1 k.toNat,d.2.2),Lib.itoa (eY d.1 d.2.1 k.toNat).2.2.2) else (d,bI))
 else if w=Rb then ((d.1,(pN d.1 d.2.1 k).1,d.2.2),if (pN d.1 d.2.1 k).2=true then [113,117,105,101,116] else [98,117,115,121])
 else if w=Rc then ((d.1,(mA d.1 d.2.1 d.2.2 k).1,d.2.2),rf (mA d.1 d.2.1 d.2.2 k).2)
 else if w=Rh then ((d.1,(lx d.1 d.2.1 d.2.2 k).1,(lx d.1 d.2.1 d.2.2 k).2.1),rf (lx d.1 d.2.1 d.2.2 k).2.2)
 else if w=Ra then (if 0≤k∧k≤400 then ((d.1,d.2.1,vJ d.1 k),ta) else (d,bI))
 else (d,bI)
def sW (d:bR) (w:BB) (k:Int):bR×BB:=
 if w=sV then (if (lZ d.1 k).2.1=true then (CI (lZ d.1 k).1,ta) else (d,bI))
 else if EJ w then (d,oD d w k) else mH d w k
def nA (n:Nat) (d:bR) (k c:Int):bR×BB:=
 if 0≤k∧k<(d.1.2.length:Int) then ((d.1,(rT n d.1 d.2.1 k c 20000).1,d.2.2),if (rT n d.1 d.2.1 k c 20000).2=true then [109,101,116] else [102,97,105,108,101,100]) else (d,bI)
structure One (d:bR) (R:bR×BB) (r:bR×BB×Bool×Unit):Prop where
 yes:r.2.2.1=true→R=(r.1,r.2.1)∧fP r.1
 no:r.2.2.1=false→R=(d,bI)
abbrev FT:Type:=Int×(BB×Bool×List Program×List aK×List aY×List (List Int)×List (List Int)×List Int×Unit)
abbrev Zu (r:FT):bR×(BB×Bool×Unit):=(((r.2.2.2.1,r.2.2.2.2.1),(r.2.2.2.2.2.1,r.2.2.2.2.2.2.1,r.2.2.2.2.2.2.2.1,r.1),r.2.2.2.2.2.2.2.2.1),r.2.1,r.2.2.1,())
abbrev Ri (d:bR) (t:BB) (b:Bool):FT:=(d.2.1.2.2.2,t,b,d.1.1,d.1.2,d.2.1.1,d.2.1.2.1,d.2.1.2.2.1,d.2.2,())
def pD (d:bR) (R:bR×BB) (r:FT):Prop:=One d R (Zu r)
theorem pD.bad {R:bR×BB} {t:BB} {st:Int} {P:List Program} {K:List aK} {A:List aY} {Q S:List (List Int)} {C:List Int} (h:R=(d,bI)):pD d R (st,t,false,P,K,A,Q,S,C,()):=⟨fun h=>(by cases h),fun _=>h⟩
theorem pD.j6 {R:bR×BB} {t:BB} {st:Int} {P:List Program} {K:List aK} {A:List aY} {Q S:List (List Int)} {C:List Int} (h:R=(((P,K),(A,Q,S,st),C),t)) (o:fP ((P,K),(A,Q,S,st),C)):pD d R (st,t,true,P,K,A,Q,S,C,()):=⟨fun _=>⟨h,o⟩,fun h=>(by cases h)⟩
theorem YQ (h:cL nt) (o:cQ nt) (hn:1048576<n):yn.f n nt=some (start nt,()):=aeY h o hn
theorem ahf (h:cL nt) (hn:1048576<n):A_.f n nt k=some (lZ nt k):=agV h hn
theorem Rj {b:Bool} (o:b=true→cQ nt) (hn:1048576<n) {f:FT→Option FT} (hf:∀ r,f r=some r):W ((oC.f n b nt.1 nt.2).bind f) (pD d (if b=true then (CI nt,ta) else (d,bI))):=by
 unfold oC.f;simp only [HM];rw [dt,vm];refine ⟨fun h=>ao.2 ?_,fun h=>?_⟩
 ·rw [hf,h]; exact ao.2 (.bad rfl)
 have o:=o h;have hS:=KX o;rw [YQ hS o hn,aq];dsimp only;rw [WM hS hn,aq,ao,hf,h];exact ao.2 (.j6 (t:=[111,107]) rfl (ahb o hS (by omega) (by omega)))
theorem YR (h:(lZ nt k).2.1=true):cQ (lZ nt k).1:=by
 unfold lZ at h ⊢;split at h
 ·rename_i h1;rw [if_pos h1];split at h
  ·rename_i h2;rw [if_pos h2]; exact EC h2
  grind
 grind
theorem YS (nt:ak) (s:State) (caps:List Int):vG nt s caps=1∨vG nt s caps=2∨vG nt s caps=3:=by unfold vG;omega
theorem YT {w:Int} (h:w=1∨w=2∨w=3):sP.f n w=some (rf w,()):=by unfold sP.f GC;rw [if_pos (by omega)]; rfl
theorem ahg (h:fP d) (k:Int):fP (d.1,(pN d.1 d.2.1 k).1,d.2.2):=by refine ⟨?_,h.caps,h.small⟩;unfold pN;rw [if_pos (ua h.st)];exact Kn h.st
theorem Rk (h:fP d) (k:Int):fP (d.1,(mA d.1 d.2.1 d.2.2 k).1,d.2.2)∧((mA d.1 d.2.1 d.2.2 k).2=1∨(mA d.1 d.2.1 d.2.2 k).2=2∨(mA d.1 d.2.1 d.2.2 k).2=3):=by
 have e1:mA d.1 d.2.1 d.2.2 k=pt d.1 d.2.1 d.2.2 k:=by unfold mA;rw [if_pos (by rw [ua h.st,h.caps]; rfl)]
 rw [e1];exact ⟨⟨Ep h.st,h.caps,h.small⟩,YS d.1 (runT d.1 (some d.2.2) k d.2.1) d.2.2⟩
theorem Rl (h:fP d) (k:Int):fP (d.1,(lx d.1 d.2.1 d.2.2 k).1,(lx d.1 d.2.1 d.2.2 k).2.1)∧((lx d.1 d.2.1 d.2.2 k).2.2=1∨(lx d.1 d.2.1 d.2.2 k).2.2=2∨(lx d.1 d.2.1 d.2.2 k).2.2=3):=by have P:=afj (most:=k) h.st h.caps 12001;unfold lx;rw [if_pos (by rw [ua h.st,h.caps]; rfl)];dsimp only;generalize lT (lv d.1 d.2.1.2.2.2 (clip k)) (iZ d.1 d.2.1.2.2.2 (clip k)) 12001 (d.2.1,d.2.2)=x at P;unfold gW;exact ⟨⟨Ep P.ok,P.cap,h.small⟩,YS d.1 (runT d.1 (some x.2) (clip k-(x.1.2.2.2-d.2.1.2.2.2)) x.1) x.2⟩
theorem step_end (h:fP d) {k:Int} (hc:l_ d.1 d.2.1 k=true):fP (d.1,eY d.1 d.2.1 k.toNat,d.2.2):=by
 unfold l_ at hc;obtain ⟨h0,h1,h2⟩:=of_decide_eq_true hc;have hk:k.toNat<d.1.1.length:=by omega
 exact ⟨Ej h.st hk h2,h.caps,h.small⟩
theorem ahh (h:fP d) {k c:Int} (hl:0≤k∧k<(d.1.2.length:Int)):fP (d.1,(rT n d.1 d.2.1 k c 20000).1,d.2.2):=by refine ⟨?_,h.caps,h.small⟩;unfold rT;rw [if_pos ⟨ua h.st,hl⟩];exact (He h.st (by omega)).ok
theorem CJ {w:BB} (h1:w≠sV) (h2:¬ EJ w):sW d w k=mH d w k:=by
 unfold sW
 grind
theorem Lg {w:BB} (h:EJ w):sW d w k=(d,oD d w k):=by
 unfold sW
 grind
theorem HN {w:BB} (h:¬ (0≤k∧k<(d.1.2.length:Int))):oD d w k=bI:=if_neg h
theorem YU {w:BB} (h:¬ EJ w):oD d w k=bI:=by
 unfold oD
 grind
theorem ahi {w:BB} (h:fP d) (hk : -9223372036854775808≤k∧k≤9223372036854775807) (hn:1048576<n):W (ix.f n d.2.1.2.2.2 w k d.1.1 d.1.2 d.2.1.1 d.2.1.2.1 d.2.1.2.2.1 d.2.2) (pD d (sW d w k)):=by
 have HO:=h.st.cb;have J2:=h.st;have dK:=h.st.steps;unfold ix.f;simp only [HM];rw [fB];refine bA (P:=fun s=>∃ b:Bool,s=Sum.inr (b,())∧(b=true↔0≤k∧k<(d.1.2.length:Int))) ?_ (fun s ⟨b,e,hl⟩=>?_)
 ·rw [cZ];exact ⟨fun h0=>ao.2 ⟨_,rfl,⟨fun h=>⟨h0,of_decide_eq_true h⟩,fun h=>decide_eq_true h.2⟩⟩,fun h0=>ao.2 ⟨_,rfl,⟨fun h=>(by cases h),fun h=>absurd h.1 h0⟩⟩⟩
 subst e;dsimp only;rw [cZ]; refine ⟨fun e=>?_,fun n1=>?_⟩
 ·subst e;rw [ahf h.small hn,aA];exact Rj YR hn (fun r=>rfl)
 rw [cZ]; refine ⟨fun e=>?_,fun n2=>?_⟩
 ·subst e;rw [CJ (by decide) (by decide)];have eR:mH d Ra k=if 0≤k∧k≤400 then ((d.1,d.2.1,vJ d.1 k),ta) else (d,bI):=rfl
  rw [eR,fB];refine bA (P:=fun s=>∃ b:Bool,s=Sum.inr (b,())∧(b=false↔0≤k∧k≤400)) ?_ (fun s ⟨b,e,hk⟩=>?_)
  ·rw [cZ];exact ⟨fun h1=>ao.2 ⟨_,rfl,fun h=>(by cases h),fun h=>(by omega)⟩,fun h0=>ao.2 ⟨_,rfl,fun h=>⟨by omega,by grind⟩,fun h=>decide_eq_false (by omega)⟩⟩
  subst e;dsimp only;rw [cC];refine ⟨fun hb=>ao.2 (.bad (if_neg (fun hh=>by grind))),fun hb=>?_⟩;have hk:=hk.1 hb;rw [WM h.small hn,aq,if_pos hk];exact ao.2 (.j6 rfl ⟨J2,YK HO hk.1 hk.2,h.small⟩)
 rw [cZ]; refine ⟨fun e=>?_,fun n3=>?_⟩
 ·subst e;rw [CJ (by decide) (by decide)];have eR:mH d Rg k=if l_ d.1 d.2.1 k=true then ((d.1,eY d.1 d.2.1 k.toNat,d.2.2),Lib.itoa (eY d.1 d.2.1 k.toNat).2.2.2) else (d,bI):=rfl
  rw [eR,agZ h.small J2 hn,aA];cases hc:l_ d.1 d.2.1 k
  ·simp only [Bool.false_eq_true,if_false];rw [ui (by omega) (by omega),aq];exact ao.2 (.bad rfl)
  simp only [if_true];have o:=step_end h hc;have hs:=o.st.steps;simp only at hs;rw [ui (by omega) (by omega),aq];exact ao.2 (.j6 rfl o)
 rw [cZ]; refine ⟨fun e=>?_,fun n4=>?_⟩
 ·subst e;rw [CJ (by decide) (by decide)];have eR:mH d Rb k=((d.1,(pN d.1 d.2.1 k).1,d.2.2),if (pN d.1 d.2.1 k).2=true then [113,117,105,101,116] else [98,117,115,121]):=rfl;rw [eR,afp h.small h.rJ hn,aA];have o:=ahg h k;rw [cC];exact ⟨fun hb=>ao.2 (.j6 (by grind) o),fun hb=>ao.2 (.j6 (by grind) o)⟩
 rw [cZ]; refine ⟨fun e=>?_,fun n5=>?_⟩
 ·subst e;rw [CJ (by decide) (by decide)];have eR:mH d Rc k=((d.1,(mA d.1 d.2.1 d.2.2 k).1,d.2.2),rf (mA d.1 d.2.1 d.2.2 k).2):=rfl;have o:=Rk h k;rw [eR,WD h.small h.rJ h.ym hn,aA];dsimp only;rw [YT o.2,aq];exact ao.2 (.j6 rfl o.1)
 rw [cZ]; refine ⟨fun e=>?_,fun n6=>?_⟩
 ·subst e;rw [CJ (by decide) (by decide)];have eR:mH d Rh k=((d.1,(lx d.1 d.2.1 d.2.2 k).1,(lx d.1 d.2.1 d.2.2 k).2.1),rf (lx d.1 d.2.1 d.2.2 k).2.2):=rfl;have o:=Rl h k;rw [eR,afn h.small h.rJ h.ym hn hk.1 hk.2,aA];dsimp only;rw [YT o.2,aq];exact ao.2 (.j6 rfl o.1)
 rw [cZ]; refine ⟨fun e=>?_,fun n7=>?_⟩
 ·subst e;rw [Lg (.inl rfl),agJ h.small HO hn,aA];unfold EI;have eR:0≤k∧k<(d.1.2.length:Int)→oD d Lb k=(match ye d.1 with | some (g,_)=>fmtS (g.getD k.toNat []) | none=>bI):=fun hh=>if_pos hh;cases e:Az d.1 300 1 (uE d.1) with
  | none=>
   have e':ye d.1=none:=e;refine ao.2 (.bad ?_);by_cases hh:0≤k∧k<(d.1.2.length:Int)
   ·grind
   rw [HN hh]
  | some gr=>
   obtain ⟨g,r⟩:=gr;have e':ye d.1=some (g,r):=e;have lg:=Yh e';dsimp only;simp only [Bool.not_true,aw,bg];rw [vm];refine ⟨fun hb=>ao.2 (.bad (by rw [HN (fun hh=>by grind)])),fun hb=>?_⟩;have hh:=hl.1 hb;rw [eR hh,e'];obtain ⟨k0,k1⟩:=hh;obtain ⟨j,rfl⟩:∃ j:Nat,k=(j:Int):=⟨k.toNat,by omega⟩
   have ok:=Yi e' (j:=j) (by omega);rw [af (by omega),az];have Rm:(g.getD j []).length≤1048576:=by have:=(lS ok).1; unfold aW at this; omega
   rw [KH Rm hn,aq];exact ao.2 (.j6 rfl h)
 rw [fB];refine bA (P:=fun s=>∃ b:Bool,s=Sum.inr (b,())∧(b=true↔w=[115,101,110,116]∨w=[113,117,101,117,101]∨w=[114,111,111,109])) ?_ (fun s ⟨c,e,hw⟩=>?_)
 ·rw [cZ];refine ⟨fun e=>ao.2 ⟨_,rfl,⟨fun _=>.inl e,fun _=>(by grind)⟩⟩,fun m1=>?_⟩;rw [cZ];refine ⟨fun e=>ao.2 ⟨_,rfl,⟨fun _=>.inr (.inl e),fun _=>(by grind)⟩⟩,fun m2=>ao.2 ⟨_,rfl,⟨fun h=>.inr (.inr (of_decide_eq_true h)),fun h=>decide_eq_true ?_⟩⟩⟩;rcases h with h | h | h
  ·grind
  ·grind
  omega
 subst e;dsimp only;rw [cC];refine ⟨fun hc=>?_,fun hc=>ao.2 (.bad ?_)⟩;rotate_left
 ·have n8:¬ (w=[115,101,110,116]∨w=[113,117,101,117,101]∨w=[114,111,111,109]):=fun e=>by grind
  rw [CJ n1 (fun e=>e.elim n7 n8)];unfold mH
  grind
 have hw:=hw.1 hc;rw [Lg (.inr hw),vm];refine ⟨fun hb=>ao.2 (.bad (by rw [HN (fun hh=>by grind)])),fun hb=>?_⟩;have hh:=hl.1 hb;have eR:oD d w k=if w=Ld then fmtS (d.2.1.2.2.1.getD k.toNat []) else if w=Le then fmtS (d.2.1.2.1.getD k.toNat []) else if w=Lf then Lib.itoa (d.2.2.getD k.toNat 0) else bI:=by unfold oD;rw [if_pos hh,if_neg n7]
 obtain ⟨k0,k1⟩:=hh;obtain ⟨j,rfl⟩:∃ j:Nat,k=(j:Int):=⟨k.toNat,by omega⟩
 have hj:j<d.1.2.length:=by omega
 have hq:=h.st.nq;have hs:=h.st.ns;have fx:=rv h.caps;have L:=h.st.bN j hj;have l1:=lS L.qs;have l2:=lS L.hs;have fF:=Ci h.caps hj;unfold dW at fF;have hm:∀ s,(fmtS s).length<ca:=fun s=>by have:=Es s; unfold ca; omega
 have hi:=fv (x:=d.2.2.getD j 0) (by omega) (by omega);have E:∀ (f:BB×Unit→BB×Unit→BB×Unit→Option FT),
   (ab (0≤(j:Int)∧(j:Int)<(d.2.1.2.2.1.length:Int)) ((lW.f n (d.2.1.2.2.1.getD (j:Int).toNat [])).bind fun gm=>ab (0≤(j:Int)∧(j:Int)<(d.2.1.2.1.length:Int)) ((lW.f n (d.2.1.2.1.getD (j:Int).toNat [])).bind fun jT=>ab (0≤(j:Int)∧(j:Int)<(d.2.2.length:Int)) ((dV.f n (d.2.2.getD (j:Int).toNat 0)).bind fun cE=>ab (gm.1.length<ca) (ab (jT.1.length<ca) (ab (cE.1.length<ca) (f gm jT cE)))))))=f (fmtS (d.2.1.2.2.1.getD j []),()) (fmtS (d.2.1.2.1.getD j []),()) (Lib.itoa (d.2.2.getD j 0),()):=by
  intro f;simp only [az];rw [af (by omega),KH (by omega) hn,aq];dsimp only;rw [af (by omega),KH (by omega) hn,aq];dsimp only;rw [af (by omega),ui (by omega) (by omega),aq];dsimp only;rw [af (hm _),af (hm _),af (by unfold ca; omega)]
 rw [eR,az];rw [cZ];refine ⟨fun e=>?_,fun n1=>?_⟩
 ·rw [if_pos e];exact (congrArg (W · (pD d _)) (E fun a b c=>some (Ri d a.1 true))).mpr (ao.2 (.j6 rfl h))
 rw [if_neg n1,cZ];refine ⟨fun e=>?_,fun n2=>?_⟩
 ·rw [if_pos e];exact (congrArg (W · (pD d _)) (E fun a b c=>some (Ri d b.1 true))).mpr (ao.2 (.j6 rfl h))
 rw [if_neg n2,cZ];refine ⟨fun e=>?_,fun n3=>?_⟩
 ·rw [if_pos e];exact (congrArg (W · (pD d _)) (E fun a b c=>some (Ri d c.1 true))).mpr (ao.2 (.j6 rfl h))
 grind
theorem ahj {c:Int} (h:fP d) (hn:1048576<n):W (sT.f n d.2.1.2.2.2 k c d.1.1 d.1.2 d.2.1.1 d.2.1.2.1 d.2.1.2.2.1 d.2.2) (pD d (nA n d k c)):=by
 unfold sT.f;simp only [HM];rw [fB];refine bA (P:=fun s=>∃ b:Bool,s=Sum.inr (b,())∧(b=false↔0≤k∧k<(d.1.2.length:Int))) ?_ (fun s ⟨b,e,hl⟩=>?_)
 ·rw [cZ];exact ⟨fun _=>ao.2 ⟨_,rfl,fun h=>(by cases h),fun h=>(by omega)⟩,fun h0=>ao.2 ⟨_,rfl,fun h=>⟨by omega,by grind⟩,fun h=>decide_eq_false (by omega)⟩⟩
 subst e;dsimp only;unfold nA;rw [cC];refine ⟨fun hb=>ao.2 (.bad (if_neg (fun hh=>by grind))),fun hb=>?_⟩;have hl:=hl.1 hb;rw [afz h.small h.rJ hn (by omega) (by omega),aA,if_pos hl];have o:=ahh (n:=n) (c:=c) h hl;rw [cC];exact ⟨fun hb=>ao.2 (.j6 (by grind) o),fun hb=>ao.2 (.j6 (by grind) o)⟩
end Go.AmT
