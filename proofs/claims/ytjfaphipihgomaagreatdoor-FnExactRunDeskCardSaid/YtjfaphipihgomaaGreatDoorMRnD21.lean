/- Functions of the program, each as a plain Lean function. No condition. -/
import Derived.Test.YtjfaphipihgomaaGreatDoorMRnD20
open Go Go.Am
noncomputable section
set_option linter.unusedVariables false
set_option maxRecDepth 100000
set_option linter.unusedSimpArgs false
open Bool renaming and_eq_false_iff → FX, not_false → iR, not_true → bf
open Go.Lib renaming join → kV, join_cons → Qw
open Int renaming lt_irrefl → bR, toNat_natCast → ay
open List renaming drop_append_of_le_length → Yb, drop_eq_nil_of_le → Qx, length → lr, length_cons → aQ, length_singleton → iQ, length_take → ll, map_append → qT, take_length → jj, take_succ_eq_append_getElem → iC
open Option renaming bind_some → aC
namespace Go.AmT
open Go.Proofs Go.Proofs.Tryz
def BS.f (n:Nat) (a0:BB):Option (List Int×Bool×Unit):=br (decide (a0=([46]:BB))) (some ([],true,())) ((nd.f n a0 44).bind fun r1=>iter n (fun nH bO=>br (decide (bO.1<(r1.1.length:Int))) (ab (0≤bO.1∧bO.1<(r1.1.length:Int)) ((bN.f n (r1.1.getD bO.1.toNat [])).bind fun fh=>br (!fh.2.1) (some ([],false,())) (ab ((bO.2.1.length+([fh.1]:List Int).length)*8≤bo) (nH (ah (bO.1+1),bO.2.1++[fh.1],()))))) ((fE.f n bO.2.1).bind fun fU=>br (!fU.1) (some ([],false,())) (some (bO.2.1,true,())))) (0,[],()))
def BS.ae (n:Nat):au:=⟨[.val .str],[.sh IS,.val .bool],fun x=>BS.f n x.1⟩
theorem BS.ok (n:Nat):aP 68 (BS.ae n):=aU n [(7,⟨[(4,.own 1000 I),(16,.int .i64)],[(1000,.row true I)],[14,15],[]⟩)] [] (ai (nd.ok n) (ai ⟨fE.sound n,fE.aD⟩ aK)) (eM ⟨bN.sound n,bN.aD⟩ aL) func68
def xz.f (n:Nat) (a0:BB) (a1:Int):Option (List (BB)×Unit):=iter n (fun qx x8=>br (decide (x8.2.1<(a0.length:Int))) (ab (0≤x8.2.1∧x8.2.1<(a0.length:Int)) (br (decide (((a0.getD x8.2.1.toNat 0).toNat:Int)=a1)) (ab (0≤x8.1∧x8.1≤x8.2.1∧x8.2.1≤(a0.length:Int)) (ab ((x8.2.2.1.length+([((a0.take x8.2.1.toNat).drop x8.1.toNat)]:List (BB)).length)*16≤bo) (qx (ah (x8.2.1+1),ah (x8.2.1+1),x8.2.2.1++[((a0.take x8.2.1.toNat).drop x8.1.toNat)],())))) (qx (x8.1,ah (x8.2.1+1),x8.2.2.1,())))) (ab (0≤x8.1∧x8.1≤(a0.length:Int)∧(a0.length:Int)≤(a0.length:Int)) (ab ((x8.2.2.1.length+([((a0.take (a0.length:Int).toNat).drop x8.1.toNat)]:List (BB)).length)*16≤bo) (some (x8.2.2.1++[((a0.take (a0.length:Int).toNat).drop x8.1.toNat)],()))))) (0,0,[],())
def xz.ae (n:Nat):au:=⟨[.val .str,.val U8],[.sh (.sl .str)],fun x=>xz.f n x.1 x.2.1⟩
theorem xz.ok (n:Nat):aP 17 (xz.ae n):=aU n [(5,⟨[(5,.own 1000 .str),(6,.int .i64),(7,.int .i64)],[(1000,.row true .str)],[0,1],[]⟩)] [] aK aL func17
def BT.f (n:Nat)  : Option (bV×Unit):=some ((([],[]),([],[],[],0),[]),())
def BT.ae (n:Nat):au:=⟨[],[.sh gu],fun x=>BT.f n ⟩
theorem BT.ok (n:Nat):aP 18 (BT.ae n):=aU n [] [] aK aL func18
def Aa.f (n:Nat) (a0:bV):Option (Bool×Unit):=(rB.f n a0.1 a0.2.1 a0.2.2).bind fun r1=>some (r1.1,())
def Aa.ae (n:Nat):au:=⟨[.val gu],[.val .bool],fun x=>Aa.f n x.1⟩
theorem Aa.ok (n:Nat):aP 26 (Aa.ae n):=aU n [] [] (ai (rB.ok n) aK) aL func26
def vn.f (n:Nat) (a0:bV):Option (bV×Unit):=(r_.f n a0.1).bind fun r1=>(mh.f n a0.2.1).bind fun r2=>(gJ.f n a0.2.2).bind fun r3=>some ((r1.1,r2.1,r3.1),())
def vn.ae (n:Nat):au:=⟨[.val gu],[.sh gu],fun x=>vn.f n x.1⟩
theorem vn.ok (n:Nat):aP 25 (vn.ae n):=aU n [] [] (ai (r_.ok n) (ai (mh.ok n) (ai (gJ.ok n) aK))) aL func25
def Ab.f (n:Nat) (a0:aq):Option (bV×Unit):=(uS.f n a0).bind fun r1=>(uZ.f n a0 0).bind fun r2=>some ((a0,r1.1,r2.1),())
def Ab.ae (n:Nat):au:=⟨[.val cd],[.sh gu],fun x=>Ab.f n x.1⟩
theorem Ab.ok (n:Nat):aP 71 (Ab.ae n):=aU n [] [] (ai (uS.ok n) (ai (uZ.ok n) aK)) aL func71
def Ac.f (n:Nat) (a0:BB):Option ((BB)×Unit):=iter n (fun yG x7=>br (decide (x7.2.2.1<(a0.length:Int))) (cut (br x7.2.1 (ab (0≤x7.2.2.1∧x7.2.2.1<(a0.length:Int)) (some (.inr (decide (((a0.getD x7.2.2.1.toNat 0).toNat:Int)=124),())))) (some (.inr (false,())))) fun y9=>cut (br y9.1 (ab (x7.1.length+([10]:BB).length<bU) (some (.inr (x7.1++([10]:BB),())))) (br x7.2.1 (ab (0≤x7.2.2.1∧x7.2.2.1≤(ah (x7.2.2.1+1))∧(ah (x7.2.2.1+1))≤(a0.length:Int)) (ab (x7.1.length+((a0.take (ah (x7.2.2.1+1)).toNat).drop x7.2.2.1.toNat).length<bU) (some (.inr (x7.1++((a0.take (ah (x7.2.2.1+1)).toNat).drop x7.2.2.1.toNat),()))))) (some (.inr (x7.1,()))))) fun s_=>br x7.2.1 (yG (s_.1,true,ah (x7.2.2.1+1),())) (ab (0≤x7.2.2.1∧x7.2.2.1<(a0.length:Int)) (yG (s_.1,decide (((a0.getD x7.2.2.1.toNat 0).toNat:Int)=32),ah (x7.2.2.1+1),())))) (some (x7.1,()))) ([],false,0,())
def Ac.ae (n:Nat):au:=⟨[.val .str],[.val .str],fun x=>Ac.f n x.1⟩
theorem Ac.ok (n:Nat):aP 67 (Ac.ae n):=aU n [(5,⟨[(3,.str),(4,.bool),(5,.int .i64)],[],[0],[]⟩),(9,⟨[(18,.bool)],[],[0,3,4,5],[]⟩),(10,⟨[(3,.str)],[],[0,4,5],[]⟩)] [] aK aL func67
def BU.f (n:Nat) (a0:Int):Option ((BB)×Unit):=br (decide (a0=3)) (some ([98,117,115,121],())) (br (decide (a0=2)) (some ([106,97,109,109,101,100],())) (br (decide (a0=1)) (some ([113,117,105,101,116],())) (br (decide (a0=0)) (some ([110,111],())) (none))))
def BU.ae (n:Nat):au:=⟨[.val I],[.val .str],fun x=>BU.f n x.1⟩
theorem BU.ok (n:Nat):aP 78 (BU.ae n):=aU n [] [2000023] aK aL func78
def Ad.f (n:Nat) (a0:bV):Option ((BB)×Unit):=(zX.f n a0.1 a0.2.1).bind fun r1=>iter n (fun OE lk=>br (decide (lk.2.1<(r1.1.length:Int))) (ab (0≤lk.2.1∧lk.2.1<(r1.1.length:Int)) (cut (br (decide (0<lk.2.1)) (ab (lk.1.length+([32]:BB).length<bU) (some (.inr (lk.1++([32]:BB),())))) (some (.inr (lk.1,())))) fun oH=>(bX.f n (r1.1.getD lk.2.1.toNat 0)).bind fun fV=>ab (oH.1.length+fV.1.length<bU) (OE (oH.1++fV.1,ah (lk.2.1+1),())))) (br (decide (lk.1=([]:BB))) (some ([110,111,110,101],())) (some (lk.1,())))) ([],0,())
def Ad.ae (n:Nat):au:=⟨[.val gu],[.val .str],fun x=>Ad.f n x.1⟩
theorem Ad.ok (n:Nat):aP 28 (Ad.ae n):=aU n [(4,⟨[(3,.str),(12,.int .i64)],[],[10,11],[]⟩),(10,⟨[(3,.str)],[],[5,10,11,12],[]⟩)] [] (ai (zX.ok n) aK) (eM ⟨bX.sound n,bX.aD⟩ aL) func28
def Ae.f (n:Nat) (a0:List (BB)):Option (List Int×Unit):=iter n (fun yG x7=>br (decide (x7.1<(a0.length:Int))) (ab (0≤x7.1∧x7.1<(a0.length:Int)) ((bN.f n (a0.getD x7.1.toNat [])).bind fun r9=>cut (br (!r9.2.1) (some (.inr (-9223372036854775808,()))) (some (.inr (r9.1,())))) fun s_=>ab ((x7.2.1.length+([s_.1]:List Int).length)*8≤bo) (yG (ah (x7.1+1),x7.2.1++[s_.1],())))) (some (x7.2.1,()))) (0,[],())
def Ae.ae (n:Nat):au:=⟨[.val (.sl .str)],[.sh IS],fun x=>Ae.f n x.1⟩
theorem Ae.ok (n:Nat):aP 29 (Ae.ae n):=aU n [(4,⟨[(3,.own 1000 I),(11,.int .i64)],[(1000,.row true I)],[9,10],[]⟩),(11,⟨[(6,.int .i64)],[],[3,9,10,11],[]⟩)] [] aK (eM ⟨bN.sound n,bN.aD⟩ aL) func29
def Af.f (n:Nat) (a0:bV) (a1:BB) (a2:Int):Option ((BB)×Unit):=(bY.f n a2 0 (ah ((a0.1.2.length:Int)-1))).bind fun r1=>br (!r1.1) (some ([110,111],())) (br (decide (a1=([108,101,97,115,116]:BB))) ((zL.f n a0.1).bind fun r2=>br r2.2.2.1 (ab (0≤a2∧a2<(r2.1.length:Int)) ((rP.f n (r2.1.getD a2.toNat [])).bind fun r3=>some (r3.1,()))) (some ([110,111],()))) (br (decide (a1=([115,101,110,116]:BB))) (ab (0≤a2∧a2<(a0.2.1.2.2.1.length:Int)) (let v4:=(a0.2.1.2.2.1.getD a2.toNat []); (rP.f n v4).bind fun r5=>some (r5.1,()))) (br (decide (a1=([113,117,101,117,101]:BB))) (ab (0≤a2∧a2<(a0.2.1.2.1.length:Int)) (let v6:=(a0.2.1.2.1.getD a2.toNat []); (rP.f n v6).bind fun r7=>some (r7.1,()))) (br (decide (a1=([114,111,111,109]:BB))) (ab (0≤a2∧a2<(a0.2.2.length:Int)) ((bX.f n (a0.2.2.getD a2.toNat 0)).bind fun r8=>some (r8.1,()))) (some ([110,111],()))))))
def Af.ae (n:Nat):au:=⟨[.val gu,.val .str,.val I],[.val .str],fun x=>Af.f n x.1 x.2.1 x.2.2.1⟩
theorem Af.ok (n:Nat):aP 30 (Af.ae n):=aU n [] [] (ai ⟨bY.sound n,bY.aD⟩ (ai (zL.ok n) (ai (rP.ok n) aK))) (eM ⟨bX.sound n,bX.aD⟩ aL) func30
def lq.f (n:Nat) (a0:bV) (a1:BB) (a2:List (BB)) (a3:List Int):Option (bV×(BB)×Unit):=cut (cut (ab ((0:Int)≤0∧0<(a2.length:Int)) (br (decide ((a2.getD 0 [])=([108,111,97,100]:BB))) (some (.inr (decide (1<(a2.length:Int)),()))) (some (.inr (false,()))))) fun s_=>br s_.1 ((Ac.f n a1).bind fun dT=>(tC.f n dT.1).bind fun fh=>some (.inr (fh.2.1,fh.1.1,fh.1.2,()))) (cut (ab ((0:Int)≤0∧0<(a2.length:Int)) (br (decide ((a2.getD 0 [])=([102,101,101,100]:BB))) (some (.inr (decide ((a2.length:Int)=3),()))) (some (.inr (false,()))))) fun yS=>br yS.1 (ab ((0:Int)≤2∧(2:Int)<(a2.length:Int)) ((BS.f n (a2.getD 2 [])).bind fun iA=>ab ((0:Int)≤1∧(1:Int)<(a3.length:Int)) ((zQ.f n a0.1 (a3.getD 1 0) iA.1).bind fun fV=>br fV.2.1 (some (.inr (iA.2.1,fV.1.1,fV.1.2,()))) (some (.inr (false,fV.1.1,fV.1.2,())))))) (cut (ab ((0:Int)≤0∧0<(a2.length:Int)) (br (decide ((a2.getD 0 [])=([115,112,108,105,99,101]:BB))) (some (.inr (decide ((a2.length:Int)=2),()))) (some (.inr (false,()))))) fun Qg=>br Qg.1 (ab ((0:Int)≤1∧(1:Int)<(a3.length:Int)) ((zS.f n a0.1 (a3.getD 1 0)).bind fun fD=>some (.inr (fD.2.1,fD.1.1,fD.1.2,())))) (some (.inr (false,[],[],())))))) fun y9=>br (!y9.1) (some (a0,[110,111],())) ((Ab.f n (y9.2.1,y9.2.2.1)).bind fun dw=>some (dw.1,[111,107],()))
def lq.ae (n:Nat):au:=⟨[.val gu,.val .str,.val (.sl .str),.val IS],[.sh gu,.val .str],fun x=>lq.f n x.1 x.2.1 x.2.2.1 x.2.2.2.1⟩
theorem lq.ok (n:Nat):aP 31 (lq.ae n):=aU n [(3,⟨[(10,.bn 1000 0),(11,.bool)],[(1000,.cells [] [.sh b_,.sh du])],[4,8],[]⟩),(4,⟨[(15,.bool)],[],[1,2,3,4,8,10,11],[]⟩),(7,⟨[(31,.bool)],[],[2,3,4,8,10,11],[]⟩),(12,⟨[(62,.bool)],[],[3,4,8,10,11],[]⟩)] [] (ai (Ac.ok n) (ai (tC.ok n) (ai (BS.ok n) (ai (zQ.ok n) (ai (zS.ok n) (ai (Ab.ok n) aK)))))) aL func31
def lO.f (n:Nat) (a0:bV) (a1:List (BB)) (a2:List Int):Option (bV×(BB)×Unit):=cut (br (decide ((a1.length:Int)=3)) (ab ((0:Int)≤0∧0<(a1.length:Int)) (br (decide ((a1.getD 0 [])=([100,101,109,97,110,100]:BB))) (ab ((0:Int)≤2∧(2:Int)<(a2.length:Int)) (br (decide ((-999999999)≤(a2.getD 2 0))) (ab ((0:Int)≤1∧(1:Int)<(a2.length:Int)) ((bY.f n (a2.getD 1 0) 0 (ah ((a0.1.2.length:Int)-1))).bind fun r3=>some (.inr (r3.1,())))) (some (.inr (false,()))))) (some (.inr (false,()))))) (some (.inr (false,())))) fun y2=>br y2.1 (ab ((0:Int)≤1∧(1:Int)<(a2.length:Int)) (ab ((0:Int)≤2∧(2:Int)<(a2.length:Int)) ((y7.f n a0.1 a0.2.1 (a2.getD 1 0) (a2.getD 2 0) 20000).bind fun r5=>br r5.2.1 (some ((a0.1,r5.1,a0.2.2),[109,101,116],())) (some ((a0.1,r5.1,a0.2.2),[102,97,105,108,101,100],()))))) (cut (br (!decide ((a1.length:Int)=2)) (some (.inr (true,()))) (ab ((0:Int)≤1∧(1:Int)<(a2.length:Int)) (some (.inr (decide ((a2.getD 1 0)<(-999999999)),()))))) fun y6=>br y6.1 (some (a0,[110,111],())) (ab ((0:Int)≤0∧0<(a1.length:Int)) (cut (br (decide ((a1.getD 0 [])=([115,116,101,112]:BB))) (ab ((0:Int)≤1∧(1:Int)<(a2.length:Int)) ((zV.f n a0.1 a0.2.1 (a2.getD 1 0)).bind fun fV=>br fV.2.1 ((bX.f n fV.1.2.2.2).bind fun jf=>some (.inl ((a0.1,fV.1,a0.2.2),jf.1,()))) (some (.inr (0,a0.1.1,a0.1.2,a0.2.1.1,a0.2.1.2.1,a0.2.1.2.2.1,a0.2.1.2.2.2,a0.2.2,()))))) (br (decide ((a1.getD 0 [])=([116,117,114,110,115]:BB))) (ab ((0:Int)≤1∧(1:Int)<(a2.length:Int)) ((y0.f n a0.1 a0.2.1 (a2.getD 1 0)).bind fun fD=>br fD.2.1 (some (.inr (1,a0.1.1,a0.1.2,fD.1.1,fD.1.2.1,fD.1.2.2.1,fD.1.2.2.2,a0.2.2,()))) (some (.inr (3,a0.1.1,a0.1.2,fD.1.1,fD.1.2.1,fD.1.2.2.1,fD.1.2.2.2,a0.2.2,()))))) (br (decide ((a1.getD 0 [])=([98,111,117,110,100,101,100]:BB))) (ab ((0:Int)≤1∧(1:Int)<(a2.length:Int)) ((yY.f n a0.1 a0.2.1 a0.2.2 (a2.getD 1 0)).bind fun dw=>some (.inr (dw.2.1,a0.1.1,a0.1.2,dw.1.1,dw.1.2.1,dw.1.2.2.1,dw.1.2.2.2,a0.2.2,())))) (br (decide ((a1.getD 0 [])=([112,97,114,107,115]:BB))) (ab ((0:Int)≤1∧(1:Int)<(a2.length:Int)) ((yZ.f n a0.1 a0.2.1 a0.2.2 (a2.getD 1 0)).bind fun nF=>some (.inr (nF.2.2.1,a0.1.1,a0.1.2,nF.1.1,nF.1.2.1,nF.1.2.2.1,nF.1.2.2.2,nF.2.1,())))) (br (decide ((a1.getD 0 [])=([99,97,112,115]:BB))) (ab ((0:Int)≤1∧(1:Int)<(a2.length:Int)) ((uZ.f n a0.1 (a2.getD 1 0)).bind fun jM=>ab ((0:Int)≤1∧(1:Int)<(a2.length:Int)) ((bY.f n (a2.getD 1 0) 0 400).bind fun cV=>br cV.1 (some (.inl ((a0.1,a0.2.1,jM.1),[111,107],()))) (some (.inr (0,a0.1.1,a0.1.2,a0.2.1.1,a0.2.1.2.1,a0.2.1.2.2.1,a0.2.1.2.2.2,a0.2.2,())))))) (some (.inr (0,a0.1.1,a0.1.2,a0.2.1.1,a0.2.1.2.1,a0.2.1.2.2.1,a0.2.1.2.2.2,a0.2.2,())))))))) fun oH=>(BU.f n oH.1).bind fun gA=>some (((oH.2.1,oH.2.2.1),(oH.2.2.2.1,oH.2.2.2.2.1,oH.2.2.2.2.2.1,oH.2.2.2.2.2.2.1),oH.2.2.2.2.2.2.2.1),gA.1,()))))
def lO.ae (n:Nat):au:=⟨[.val gu,.val (.sl .str),.val IS],[.sh gu,.val .str],fun x=>lO.f n x.1 x.2.1 x.2.2.1⟩
theorem lO.ok (n:Nat):aP 32 (lO.ae n):=aU n [(1,⟨[(41,.bool)],[],[1,2,3,6],[]⟩),(9,⟨[(69,.bool)],[],[1,2,3,6],[]⟩),(14,⟨[(3,.bn 1000 0),(10,.int .i64)],[(1000,.cells [] [.sh b_,.sh du,.sh bp,.sh IS,.sh IS,.int .i64,.sh I])],[6],[]⟩)] [] (ai ⟨bY.sound n,bY.aD⟩ (ai (y7.ok n) (ai (zV.ok n) (ai (y0.ok n) (ai (yY.ok n) (ai (yZ.ok n) (ai (uZ.ok n) (ai (BU.ok n) aK)))))))) (eM ⟨bX.sound n,bX.aD⟩ aL) func32
def vo.f (n:Nat) (a0:bV) (a1:BB):Option (bV×(BB)×Unit):=(vn.f n a0).bind fun r1=>(Aa.f n r1.1).bind fun r2=>br (!r2.1) (some (r1.1,[110,111],())) (br (decide (a1=([115,116,97,114,116]:BB))) ((uS.f n r1.1.1).bind fun r7=>some ((r1.1.1,r7.1,r1.1.2.2),[111,107],())) (br (decide (a1=([119,97,105,116,115]:BB))) ((Ad.f n r1.1).bind fun r9=>some (r1.1,r9.1,())) ((xz.f n a1 32).bind fun gv=>(Ae.f n gv.1).bind fun dT=>cut (br (decide ((gv.1.length:Int)=2)) (ab ((0:Int)≤0∧0<(gv.1.length:Int)) (ab ((0:Int)≤1∧(1:Int)<(dT.1.length:Int)) ((Af.f n r1.1 (gv.1.getD 0 []) (dT.1.getD 1 0)).bind fun iA=>br (!decide (iA.1=([110,111]:BB))) (some (.inl (r1.1,iA.1,()))) (some (.inr ()))))) (some (.inr ()))) fun yS=>(vn.f n a0).bind fun fV=>(lq.f n fV.1 a1 gv.1 dT.1).bind fun jf=>br (!decide (jf.2.1=([110,111]:BB))) (some (jf.1,jf.2.1,())) ((vn.f n a0).bind fun fD=>(lO.f n fD.1 gv.1 dT.1).bind fun dw=>br (decide (dw.2.1=([110,111]:BB))) (some (r1.1,dw.2.1,())) (some (dw.1,dw.2.1,()))))))
def vo.ae (n:Nat):au:=⟨[.val gu,.val .str],[.sh gu,.val .str],fun x=>vo.f n x.1 x.2.1⟩
theorem vo.ok (n:Nat):aP 11 (vo.ae n):=aU n [(16,⟨[],[],[1,2,4,6,7,8],[]⟩)] [] (ai (vn.ok n) (ai (Aa.ok n) (ai (uS.ok n) (ai (Ad.ok n) (ai (xz.ok n) (ai (Ae.ok n) (ai (Af.ok n) (ai (lq.ok n) (ai (lO.ok n) aK))))))))) aL func11
end Go.AmT
namespace Go.AmT
variable {n:Nat} {d:bV} {l:BB} {Z:List Int}
abbrev jx (R:bV×BB):bV×(BB×Unit):=(R.1,R.2,())
theorem af4 (h:eI d) (hn:1048576<n):vn.f n d=some (d,()):=by unfold vn.f;rw [Qc h.small hn,ao];dsimp only;rw [Dx h.sd hn,ao];dsimp only;rw [XI h.z8,ao]
theorem af5 (h:eI d) (hn:1048576<n):Aa.f n d=some (true,()):=by unfold Aa.f;rw [NV h.small h.sd h.z8 hn,ao,s9 h.st,h.caps];rfl
theorem Qy {nt:aq} (o:cK nt) (hn:1048576<n):Ab.f n nt=some (BQ nt,()):=by have hS:=Ka o;unfold Ab.f;rw [Vr hS o hn,ao];dsimp only;rw [VN hS hn,ao];rfl
noncomputable def cn (s:BB):Int:=(ee s).getD (-9223372036854775808)
theorem Ks (s:BB):(ee s=none∧cn s = -9223372036854775808)∨(ee s=some (cn s)∧-999999999≤cn s∧cn s≤999999999):=by
 unfold cn;cases h:ee s with
 | none=>exact .inl ⟨rfl,rfl⟩
 | some x=>exact .inr ⟨rfl,(XX h).2⟩
theorem af6 {L:List (BB)} (hL:L.length≤1048577) (hp:∀ p∈L,p.length≤1048576) (hn:1048577<n):Ae.f n L=some (L.map cn,()):=by
 refine dZ.1 ?_;unfold Ae.f;refine fT (fun (i:Nat) (o:List Int)=>((i:Int),o,())) L.length (fun i o=>o=(L.take i).map cn) (s0:=[]) rfl (by simp) (by omega) (fun ih o hI=>?_) (fun ih i o hi hI hS=>?_)
 ·simp only [av (bR _)];exact ak.2 (by rw [hI,jj])
 have hl:o.length≤i:=by rw [hI,List.length_map,ll]; omega
 have hm:L.getD i []∈L:=by rw [aJ hi]; exact List.getElem_mem _
 simp only [aG (show (i:Int)<(L.length:Int) by omega),ay];rw [af (by omega),c8];refine bz (Ww (hp _ hm) (by omega)) (fun r ⟨hr,hb⟩=>?_);rw [fx];refine bz (P:=fun s'=>s'=Sum.inr (cn (L.getD i []),())) ?_ (fun s' e=>?_)
 ·unfold cn;rw [uB];refine ⟨fun h=>ak.2 ?_,fun h=>ak.2 ?_⟩
  ·rw [Qo (fun x h0 h1=>hr.no h h0 h1)]; rfl
  have:=hb h;rw [← hr.yes h,XW this.1 this.2]; rfl
 subst e;dsimp only;rw [db (by simp only [iQ]; omega),a_ (by omega)];exact hS _ (by rw [hI,iC hi,qT,aJ hi]; rfl)
theorem Yc {w:BB} {k:Int} (h:eI d) (hn:1048576<n):Af.f n d w k=some (nT d w k,()):=by
 have hl:=h.st.cf.dB;have hq:=h.st.nq;have hs:=h.st.ns;have eO:=qG h.caps;unfold Af.f;rw [nG,ao,bP (by omega) (by omega)];dsimp only;by_cases hh:0≤k∧k<(d.1.2.length:Int)
 ·obtain ⟨k0,k1⟩:=hh;rw [decide_eq_true k0,decide_eq_true (show k≤(d.1.2.length:Int)-1 by omega)];simp only [Bool.and_self,bf,ar];unfold nT;rw [if_pos ⟨k0,k1⟩];obtain ⟨j,rfl⟩:∃ j:Nat,k=(j:Int):=⟨k.toNat,by omega⟩
  have hj:j<d.1.2.length:=by omega
  have L:=h.st.bH j hj;have l1:=lE L.qs;have l2:=lE L.hs;have fu:=Bq h.caps hj;unfold dP at fu;simp only [ay];by_cases e1:w=Kn
  ·rw [aG e1,if_pos e1,afm h.small h.st.cf hn,ao];unfold DV;cases e:zB d.1 300 1 (tF d.1) with
   | none=>
    have e':xm d.1=none:=e;rw [e']; rfl
   | some gr=>
    obtain ⟨g,r⟩:=gr;have e':xm d.1=some (g,r):=e;have lg:=Xr e';have ok:=Xs e' (j:=j) hj;have Qu:(g.getD j []).length≤1048576:=by have:=(lE ok).1; unfold aT at this; omega
    rw [e'];dsimp only;rw [aB,af (by omega),JT Qu hn,ao]
  rw [av e1,if_neg e1];by_cases e2:w=Ko
  ·rw [aG e2,if_pos e2,af (by omega),JT (by omega) hn,ao]
  rw [av e2,if_neg e2];by_cases e3:w=Kp
  ·rw [aG e3,if_pos e3,af (by omega),JT (by omega) hn,ao]
  rw [av e3,if_neg e3];by_cases e4:w=Kq
  ·rw [aG e4,if_pos e4,af (by omega),rQ hn (by omega) (by omega),ao]
  rw [av e4,if_neg e4]
 rw [G6 hh];have e:(decide (0≤k)&&decide (k≤(d.1.2.length:Int)-1))=false:=by rw [FX,decide_eq_false_iff_not,decide_eq_false_iff_not];omega
 rw [e,iR,aB]
theorem af7 (l:List (BB)) (y:BB) (h:l≠[]):kV (l++[y]) [32]=kV l [32]++([32]++y):=by
 cases l with
 | nil=>exact absurd rfl h
 | cons x l=>
  rw [List.cons_append,Qw,Qw,Lib.joinTail,Lib.joinTail];simp
theorem af8 {x:BB} {l:List (BB)} (h:x≠[]):kV (x::l) [32]≠[]:=by rw [Qw];exact fun e=>h (List.append_eq_nil_iff.1 e).1
theorem af9 (h:eI d) (hn:1048576<n):Ad.f n d=some (kV (qV (vi d.1 d.2.1)) [32],()):=by
 unfold Ad.f;rw [afD h.small h.st hn,ao];dsimp only;have hB:=XR h.st;generalize vi d.1 d.2.1=B at hB;have hb:∀ i,(kV ((B.take i).map Lib.itoa) [32]).length≤1000:=fun i=>by
  by_cases e:B.take i=[]
  ·rw [e]; simp [kV]
  have:=(X6 (B:=B.take i) ⟨by rw [ll]; omega,fun x hx=>hB.2 x (List.mem_of_mem_take hx)⟩).2;unfold qV at this;rwa [if_neg e] at this
 refine dZ.1 ?_;refine fT (fun (i:Nat) (o:BB)=>(o,(i:Int),())) B.length (fun i o=>o=kV ((B.take i).map Lib.itoa) [32]) (s0:=[]) rfl (by simp [kV]) (by omega) (fun ih o hI=>?_) (fun ih i o hi hI hS=>?_)
 ·rw [jj] at hI;simp only [av (bR _)];rw [cM];unfold qV;cases B with
  | nil=>exact ⟨fun _=>ak.2 (by rw [if_pos rfl]; rfl),fun h0=>absurd (by rw [hI]; rfl) h0⟩
  | cons x B=>
   have aA:o≠[]:=by rw [hI]; exact af8 (Wt x)
   exact ⟨fun h0=>absurd h0 aA,fun _=>ak.2 (by rw [if_neg (by simp),hI])⟩
 have hl:=hb i;rw [← hI] at hl;simp only [aG (show (i:Int)<(B.length:Int) by omega),ay];have hm:=hB.2 (B.getD i 0) (by rw [aJ hi]; exact List.getElem_mem _);have hil:=fk (x:=B.getD i 0) (by omega) (by omega);rw [af (by omega),fx];refine bz (P:=fun s'=>s'=Sum.inr (if 0<i then o++[32] else o,())) ?_ (fun s' e=>?_)
 ·rw [cM];refine ⟨fun h0=>?_,fun h0=>ak.2 (by rw [if_neg (by omega)])⟩;have Xe:([32]:BB).length=1:=rfl;rw [af (by rw [Xe]; unfold bU; omega)];exact ak.2 (by rw [if_pos (by omega)])
 subst e;dsimp only;have hy:(if 0<i then o++[32] else o).length≤1001:=by
  split
  ·rw [List.length_append,iQ]; omega
  omega
 rw [rQ hn (by omega) (by omega),ao,af (show (if 0<i then o++[32] else o).length+(Lib.itoa (B.getD i 0)).length<bU by unfold bU; omega),a_ (by omega)];refine hS _ ?_;show _++Lib.itoa (B.getD i 0)=_;rw [iC hi,qT,aJ hi];by_cases h0:0<i
 ·rw [if_pos h0,hI];rw [List.map_cons,List.map_nil,af7 _ _ (by intro e; have h:=congrArg lr e; rw [List.length_map,ll,List.length_nil] at h; omega)];simp
 obtain rfl:i=0:=by omega
 rw [if_neg h0,hI];simp [kV]
theorem aga {l:BB} (hl:l.length≤1048576) (h5:l.take 5=[108,111,97,100,32]) (hn:1048576<n):Ac.f n l=some (kN 124 10 (l.drop 5),()):=by
 have hlen:5≤l.length:=by have:=congrArg lr h5;rw [ll] at this;simp only [aQ,List.length_nil] at this;omega
 have ke:∀ i (hi:i<l.length),i<5→(l[i]=32↔i=4):=fun i hi h=>by
  have e:l[i]=(l.take 5)[i]'(by rw [ll]; omega):=by rw [List.getElem_take]
  have e2:∀ (t:BB) (ht:i<t.length),t=[108,111,97,100,32]→(t[i]=32↔i=4):=fun t ht e=>by
   subst e;have:i=0∨i=1∨i=2∨i=3∨i=4:=by omega
   rcases this with rfl | rfl | rfl | rfl | rfl<;>simp
  rw [e];exact e2 _ _ h5
 unfold Ac.f;refine dZ.1 ?_;refine fT (fun (i:Nat) (o:BB×Bool)=>(o.1,o.2,(i:Int),())) l.length (fun i o=>o.1=kN 124 10 ((l.take i).drop 5)∧o.2=decide (5≤i)) (s0:=([],false)) rfl ⟨by simp [kN],by simp⟩ (by omega) (fun ih o hI=>?_) (fun ih i o hi hI hS=>?_)
 ·simp only [av (bR _)];exact ak.2 (by rw [hI.1,jj])
 obtain ⟨o,on⟩:=o;obtain ⟨h1,h2⟩:=hI;simp only at h1 h2;have sG:o.length≤i:=by rw [h1,Qi,List.length_drop,ll]; omega
 simp only [aG (show (i:Int)<(l.length:Int) by omega),ay];rw [a_ (by omega)];have hw:∀ c:UInt8,((c.toNat:Int)=124)↔c=124:=fun c=>⟨fun e=>UInt8.toNat.inj (by show _=124; omega),fun e=>by rw [e]; rfl⟩
 have hw2:∀ c:UInt8,((c.toNat:Int)=32)↔c=32:=fun c=>⟨fun e=>UInt8.toNat.inj (by show _=32; omega),fun e=>by rw [e]; rfl⟩
 by_cases h4:5≤i
 ·have e2:on=true:=by rw [h2,decide_eq_true h4]
  subst e2;simp only [aB];have ed:(l.take (i+1)).drop 5=(l.take i).drop 5++[l.getD i 0]:=by rw [aJ hi,iC hi,Yb (by rw [ll]; omega)]
  rw [af (by omega),aY];dsimp only;rw [fx];refine bz (P:=fun s'=>s'=Sum.inr (kN 124 10 ((l.take (i+1)).drop 5),())) ?_ (fun s' e=>?_)
  ·have es:∀ c,kN 124 10 ((l.take i).drop 5++[c])=o++[if c=124 then 10 else c]:=fun c=>by rw [h1]; unfold kN; rw [qT]; rfl
   rw [ed,es,cM];refine ⟨fun e=>?_,fun e=>?_⟩
   ·rw [jq (by simp only [iQ]; omega),if_pos ((hw _).1 e)];exact ak.2 rfl
   have e3:(l.take ((i+1:Nat):Int).toNat).drop i=[l.getD i 0]:=by rw [aJ hi,ay,iC hi,Yb (by rw [ll]; omega),Qx (by rw [ll]; omega)];rfl
   have e4:=congrArg lr e3;rw [iQ] at e4;rw [af (by omega),jq (by omega),if_neg (fun h=>e ((hw _).2 h))];exact ak.2 (by rw [e3])
  subst e;dsimp only;exact hS (_,true) ⟨rfl,by simp; omega⟩
 have e2:on=false:=by rw [h2,decide_eq_false h4]
 subst e2;have e1:o=[]:=by rw [h1,Qx (by rw [ll]; omega)]; rfl
 simp only [ar,aY];rw [af (by omega)];refine hS (o,_) ⟨?_,?_⟩
 ·rw [Qx (by rw [ll]; omega)];exact e1
 show decide _=decide _;rw [decide_eq_decide,aJ hi,hw2,ke i hi (by omega)];omega
theorem agb {l:BB} {Q:List (BB)} (hl:l.length≤1048576) (h5:l.take 5=[108,111,97,100,32]) (hQ:Q≠[]) (hn:1048577<n):lq.f n d l (ko::Q) Z=some (jx (xx n d (kN 124 10 (l.drop 5)))):=by
 have hQ:=List.length_pos_iff.2 hQ;obtain ⟨r,e1,e2,T⟩:=Xg (n:=n) (s:=kN 124 10 (l.drop 5)) (by rw [Qi,List.length_drop]; omega) hn;have g0:(ko::Q).getD 0 []=ko:=rfl;unfold lq.f xx;rw [e2,g0];rw [af (by simp only [aQ]; omega),aG rfl,aY,decide_eq_true (show (1:Int)<((ko::Q).length:Int) by simp only [aQ]; omega)];dsimp only;rw [aB,aga hl h5 (by omega),ao];dsimp only;rw [e1,aC,aY];dsimp only;cases hb:r.2.1
 ·rfl
 simp only [bf,ar,if_true];rw [Qy (X7 T hb) (by omega),ao]
theorem Kt {l a:BB} {Q:List (BB)} (h1:a≠ko) (h2:¬ (a=ni∧Q.length=2)) (h3:¬ (a=se∧Q.length=1)):lq.f n d l (a::Q) Z=some (jx (d,bJ)):=by
 have g0:(a::Q).getD 0 []=a:=rfl;have hc:(0:Int)≤0∧(0:Int)<((a::Q).length:Int):=by simp only [aQ]; omega
 refine dZ.1 ?_;unfold lq.f;rw [g0,fx];refine bz (P:=fun s=>s=Sum.inr (false,[],[],())) ?_ (fun s e=>?_)
 ·rw [af hc,av h1,aY];dsimp only;rw [ar,fx];refine bz (P:=fun s=>s=Sum.inr (false,())) ?_ (fun s e=>?_)
  ·rw [af hc,cM];exact ⟨fun e=>ak.2 (by rw [decide_eq_false (fun e3=>h2 ⟨e,by simp only [aQ] at e3; omega⟩)]),fun _=>ak.2 rfl⟩
  subst e;dsimp only;rw [ar,fx];refine bz (P:=fun s=>s=Sum.inr (false,())) ?_ (fun s e=>?_)
  ·rw [af hc,cM];exact ⟨fun e=>ak.2 (by rw [decide_eq_false (fun e3=>h3 ⟨e,by simp only [aQ] at e3; omega⟩)]),fun _=>ak.2 rfl⟩
  subst e;dsimp only;rw [ar];exact ak.2 rfl
 subst e;dsimp only;rw [iR,aB];exact ak.2 rfl
theorem agc {l b:BB} {z k:Int} (h:eI d) (hn:1048576<n):lq.f n d l [se,b] [z,k]=some (jx (if (mz d.1 k).2.1=true then (BQ (mz d.1 k).1,qU) else (d,bJ))):=by
 have g0:([se,b]:List (BB)).getD 0 []=se:=rfl;have g1:([z,k]:List Int).getD 1 0=k:=rfl;unfold lq.f;rw [g0,g1,af (by simp),av (by decide),aY];dsimp only;rw [ar,af (by simp),av (by decide),aY];dsimp only;rw [ar,af (by simp),aG rfl,aY,decide_eq_true (show (([se,b]:List (BB)).length:Int)=2 from rfl)];dsimp only;rw [aB,af (by simp),afw h.small hn,aC,aY];dsimp only;cases hb:(mz d.1 k).2.1
 ·rfl
 simp only [bf,ar,if_true];rw [Qy (X0 hb) hn,ao]
theorem agd {l b c:BB} {z k z2:Int} (h:eI d) (hc:c.length≤1048575) (hn:1048577<n):lq.f n d l [ni,b,c] [z,k,z2]=some (jx (tJ n d k c)):=by
 have fC:1048576<n:=by omega
 obtain ⟨r,e1,T1⟩:=WA (n:=n) (s:=c) hc hn;obtain ⟨r',e2,T2⟩:=aeC (n:=n) (s:=c) hc hn;have e2':BS.f n c=some r:=by rw [T1.one T2]; exact e2
 have g0:([ni,b,c]:List (BB)).getD 0 []=ni:=rfl;have g2:([ni,b,c]:List (BB)).getD 2 []=c:=rfl;have g1:([z,k,z2]:List Int).getD 1 0=k:=rfl;unfold lq.f tJ;rw [e1,g0,g1,g2,af (by simp),av (by decide),aY];dsimp only;rw [ar,af (by simp),aG rfl,aY,decide_eq_true (show (([ni,b,c]:List (BB)).length:Int)=3 from rfl)];dsimp only;rw [aB,af (by simp),e2',aC,af (by simp),afH h.small h.st.cf (by have:=(lE T1.ok).1; omega) fC,aC];cases hf:(o6 d.1 k r.1).2.1
 ·rw [ar,aY];dsimp only;rw [iR,aB];cases r.2.1<;>rfl
 rw [aB,aY];dsimp only;cases hr:r.2.1
 ·rfl
 simp only [bf,ar,if_true];rw [Qy (XS hf) fC,ao]
theorem age {nt:aq} {s:State} {caps:List Int} {most:Int} (h:dq nt) (hs:kf s) (hc:caps.length≤1048576) (hn:1048576<n):yY.f n nt s caps most=some ((mi nt s caps most).1,(mi nt s caps most).2,()):=by
 unfold yY.f mi;rw [NV h hs hc hn];cases e:ij nt s&&fi nt.2 caps
 ·rfl
 rw [Bool.and_eq_true] at e;simp only [aC,bf,ar,if_true];rw [Dx hs hn];simp only [aC];rw [VF (qF e.1) (qG e.2) hn];rfl
theorem Yd {w:Int} (h:w=1∨w=2∨w=3):BU.f n w=some (qw w,()):=by rcases h with rfl | rfl | rfl<;>rfl
theorem Ye {a b:BB} {z k:Int} (h:eI d) (hk : -9223372036854775808≤k∧k≤9223372036854775807) (hn:1048576<n):lO.f n d [a,b] [z,k]=some (jx (if k < -999999999 then (d,bJ) else mA d a k)):=by
 have g0:([a,b]:List (BB)).getD 0 []=a:=rfl;have g1:([z,k]:List Int).getD 1 0=k:=rfl;have dz:=h.st.steps;refine dZ.1 ?_;unfold lO.f;rw [av (by simp),aY];dsimp only;rw [ar,g0,g1,decide_eq_true (show (([a,b]:List (BB)).length:Int)=2 from rfl),bf,ar,af (by simp),aY];dsimp only;rw [cM];refine ⟨fun hb=>ak.2 (by rw [if_pos hb]),fun hb=>?_⟩;rw [if_neg hb,af (by simp),fx];unfold mA;rw [cM];refine ⟨fun e=>?_,fun e=>?_⟩
 ·rw [if_pos e,af (by simp),afF h.small h.st hn,aC];cases hc:lN d.1 d.2.1 k
  ·simp only [Bool.false_eq_true,if_false,ar];exact ak.2 (ak.2 rfl)
  have o:=step_end h hc;have hs:=o.st.steps;simp only at hs;simp only [if_true,aB];rw [rQ hn (by omega) (by omega),ao];exact ak.2 rfl
 rw [if_neg e,cM];refine ⟨fun e=>?_,fun e=>?_⟩
 ·rw [if_pos e,af (by simp),adZ h.small h.sd hn,aC];dsimp only;cases (oT d.1 d.2.1 k).2
  ·rw [ar]; exact ak.2 (ak.2 rfl)
  rw [aB]; exact ak.2 (ak.2 rfl)
 rw [if_neg e,cM];refine ⟨fun e=>?_,fun e=>?_⟩
 ·have o:=Qs h k;rw [if_pos e,af (by simp),age h.small h.sd h.z8 hn,aC];dsimp only;refine ak.2 ?_;dsimp only;rw [Yd o.2,ao];exact ak.2 rfl
 rw [if_neg e,cM];refine ⟨fun e=>?_,fun e=>?_⟩
 ·have o:=Qt h k;rw [if_pos e,af (by simp),adT h.small h.sd h.z8 hn,aC];dsimp only;refine ak.2 ?_;dsimp only;rw [Yd o.2,ao];exact ak.2 rfl
 rw [if_neg e,cM];refine ⟨fun e=>?_,fun e=>?_⟩
 ·rw [if_pos e,af (by simp),VN h.small hn,ao,af (by simp),nG,ao];dsimp only;by_cases hh:0≤k∧k≤400
  ·rw [if_pos hh,decide_eq_true hh.1,decide_eq_true hh.2,Bool.and_self,aB];exact ak.2 rfl
  have e3:(decide (0≤k)&&decide (k≤400))=false:=by rw [FX,decide_eq_false_iff_not,decide_eq_false_iff_not];omega
  rw [if_neg hh,e3,ar];exact ak.2 (ak.2 rfl)
 rw [if_neg e];exact ak.2 (ak.2 rfl)
theorem Yf {a b c:BB} {z x y:Int} (h:eI d) (hn:1048576<n):lO.f n d [a,b,c] [z,x,y]=some (jx (if a=tI∧-999999999≤y then nj n d x y else (d,bJ))):=by
 have g0:([a,b,c]:List (BB)).getD 0 []=a:=rfl;have g1:([z,x,y]:List Int).getD 1 0=x:=rfl;have g2:([z,x,y]:List Int).getD 2 0=y:=rfl;have hl:=h.st.cf.dB;refine dZ.1 ?_;unfold lO.f;rw [g0,g1,g2,fx];refine bz (P:=fun s=>∃ b:Bool,s=Sum.inr (b,())∧(b=true↔(a=tI∧-999999999≤y)∧0≤x∧x<(d.1.2.length:Int))) ?_ (fun s ⟨b,e,hb⟩=>?_)
 ·rw [aG (by rfl),af (by simp),cM];refine ⟨fun e1=>?_,fun e1=>ak.2 ⟨_,rfl,⟨fun h=>(by cases h),fun h=>absurd h.1.1 e1⟩⟩⟩;rw [af (by simp),cM];refine ⟨fun e2=>?_,fun e2=>ak.2 ⟨_,rfl,⟨fun h=>(by cases h),fun h=>absurd h.1.2 e2⟩⟩⟩;rw [af (by simp),nG,ao,bP (by omega) (by omega)];refine ak.2 ⟨_,rfl,?_⟩;rw [Bool.and_eq_true,decide_eq_true_eq,decide_eq_true_eq];exact ⟨fun h=>⟨⟨e1,e2⟩,h.1,by omega⟩,fun h=>⟨h.2.1,by omega⟩⟩
 subst e;dsimp only;rw [cw];refine ⟨fun cD=>?_,fun cD=>?_⟩
 ·obtain ⟨h1,h2⟩:=hb.1 cD;rw [if_pos h1,af (by simp),af (by simp),ad7 h.small h.sd hn,aC];unfold nj;rw [if_pos h2];dsimp only;cases (qK n d.1 d.2.1 x y 20000).2
  ·rw [ar]; exact ak.2 rfl
  rw [aB]; exact ak.2 rfl
 have hr:(if a=tI∧-999999999≤y then nj n d x y else (d,bJ))=(d,bJ):=by
  split
  ·rename_i h1;unfold nj;rw [if_neg (fun h2=>by rw [hb.2 ⟨h1,h2⟩] at cD; cases cD)]
  rfl
 rw [hr,decide_eq_false (by simp),iR,aB,aY];dsimp only;rw [aB];exact ak.2 rfl
theorem Ku {P:List (BB)} (h2:P.length≠2) (h3:P.length≠3):lO.f n d P Z=some (jx (d,bJ)):=by unfold lO.f;rw [av (by omega),aY];dsimp only;rw [ar,decide_eq_false (by omega),iR,aB,aY];dsimp only;rw [aB]
end Go.AmT
