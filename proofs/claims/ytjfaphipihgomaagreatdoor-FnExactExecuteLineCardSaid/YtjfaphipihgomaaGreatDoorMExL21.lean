/- Copies of networks, in plain Lean: what is copied is the same. -/
import Derived.Test.YtjfaphipihgomaaGreatDoorMExL20
open Go Go.Am
noncomputable section
set_option linter.unusedVariables false
set_option linter.unusedSimpArgs false
set_option maxRecDepth 100000
open Bool renaming not_true → bo
open Int renaming lt_irrefl → bH, toNat_natCast → az
open List renaming flatten_append → RL, getElem_mem → bV, length_append → cY, mem_or_eq_of_mem_set → Yw, take_succ_eq_append_getElem → jt
open Option renaming bind_some → aA
namespace Go.AmT
variable {n:Nat}
theorem Q4 {a:List Int} (h:a.length≤1048576):gQ.f n a=some (a,()):=by unfold gQ.f;rw [dD (by grind)]; rfl
theorem Yx {a:List Int} (h:a.length≤1048576):cX.f n a=some (a,()):=by unfold cX.f;rw [dD (by grind)]; rfl
theorem agL {a:List Instr} (h:a.length≤1048576):kf.f n a=some (a,()):=by unfold kf.f;rw [dD (by grind)]; rfl
theorem agM {p:Program} (h:jq p):AL.f n p=some (p,()):=by have:=h.code;unfold AL.f;rw [dD (by grind)]; rfl
theorem agN {p:Program} (h:jq p):AK.f n p=some (p,()):=by unfold AK.f;rw [agL h.code]; rfl
theorem agO {p:aK} (h:nj p):AM.f n p=some (p,()):=by unfold AM.f;rw [Q4 h.tokens]; rfl
theorem K6 {nt:ak} (h:cL nt) (hn:1048576<n):oA.f n nt=some (nt,()):=by
 have hp:=h.dZ;have hl:=h.dp;unfold oA.f;refine Eq.trans (zN nt.1 id (fun i s=>(i,s,())) (R:=fun ps=>some ((ps,nt.2),())) (fun ih i hi s hs=>?_) (fun ih ps=>?_) (by omega)) (by simp)
 ·have c0:0≤(i:Int):=by omega
  have c1:(i:Int)<(nt.1.length:Int):=by omega
  have e1:nt.1.getD i bf=nt.1[i]:=aU hi _;simp only [c1,c0,and_self,iC,decide_true,ax,az,e1,agN (h.prog _ (bV hi)),aA];rw [dD (by grind),ba (by omega)]; rfl
 simp only [au (bH _)];refine Eq.trans (zN nt.2 id (fun i s=>(i,ps,s,())) (R:=fun ls=>some ((ps,ls),())) (fun ih i hi s hs=>?_) (fun ih ls=>au (bH _)) (by omega)) (by simp);have c0:0≤(i:Int):=by omega
 have c1:(i:Int)<(nt.2.length:Int):=by omega
 have e1:nt.2.getD i ay=nt.2[i]:=aU hi _;simp only [c1,c0,and_self,iC,decide_true,ax,az,e1,Yx (h.link _ (bV hi)).tokens,aA];rw [dD (by grind),ba (by omega)]; rfl
theorem Yy {nt:ak} (h:cL nt) (hn:1048576<n):sM.f n nt=some (if cr nt=true then (nt,true,()) else (([],[]),false,())):=by unfold sM.f;rw [tW h hn,K6 h hn];cases cr nt<;>rfl
end Go.AmT
namespace Go.AmT
open Go.Proofs Go.Proofs.Tryz
def sN.la:LA:=⟨[(0,.mc (.nil)),(1,.int .i64)],[],[],[]⟩
def sN.lb:LA:=⟨[(0,.own 1000 I)],[(1000,.row true I)],[],[]⟩
def sN.f (n:Nat) (a0:Int):Option (List Int×Unit):=br (decide (a0<0)) (none) (br (decide (0<(ag (a0-0)))) (ab ((0:Int)≤0∧(0:Int)≤0∧0≤0) (ab (0<(ag (a0-0))∧(ag (a0-0))*(8:Int)≤(bn:Int)) (ab ((0:Int)≤0∧(0:Int)≤0∧0≤((List.replicate (ag (a0-0)).toNat (0:Int)).length:Int)) (some ([],()))))) (some ([],())))
def sN.ae (n:Nat):cM:=⟨sN.la,sN.lb,fun x=>sN.f n x.1⟩
theorem sN.ok (n:Nat):ks 219 (sN.ae n):=lj n [] [1000041] aC aD func219
def vS.f (n:Nat) (a0:List (List Int)):Option (List Int×Unit):=iter n (fun oc x9=>br (decide (x9.2.1<(a0.length:Int))) (ab (0≤x9.2.1∧x9.2.1<(a0.length:Int)) (let v11:=(a0.getD x9.2.1.toNat []); br (decide ((ag (x9.1+(v11.length:Int)))<0)) (none) (oc (ag (x9.1+(v11.length:Int)),ag (x9.2.1+1),())))) ((sN.f n x9.1).bind fun fq=>iter n (fun HH iw=>br (decide (iw.1<(a0.length:Int))) (ab (0≤iw.1∧iw.1<(a0.length:Int)) (ab ((iw.2.1.length+(a0.getD iw.1.toNat []).length)*8≤bn) (HH (ag (iw.1+1),iw.2.1++(a0.getD iw.1.toNat []),())))) (some (iw.2.1,()))) (0,fq.1,()))) (0,0,())
def vS.ae (n:Nat):ar:=⟨[.val (.sl IS)],[.val IS],fun x=>vS.f n x.1⟩
theorem vS.ok (n:Nat):aH 161 (vS.ae n):=aJ n [(4,⟨[(3,.int .i64),(11,.int .i64)],[],[0,9,10],[]⟩),(17,⟨[(6,.own 1000 I),(27,.int .i64)],[(1000,.row true I)],[25,26],[]⟩)] [] aC (dI (sN.ok n) aD) func161
def Yz.f (n:Nat) (a0:ak) (a1:Int) (a2:List Int):Option (ak×Bool×Unit):=cut ((dS.f n a0).bind fun r3=>br (!r3.1) (some (.inr (true,()))) (br (decide (a1<0)) (some (.inr (true,()))) (some (.inr (decide ((a0.2.length:Int)≤a1),()))))) fun y2=>br y2.1 (some (([],[]),false,())) ((oA.f n a0).bind fun r4=>ab (0≤a1∧a1<(r4.1.2.length:Int)) ((vS.f n ([(r4.1.2.getD a1.toNat ay).2.2.2.2,a2]:List (List Int))).bind fun r5=>ab (0≤a1∧a1<(r4.1.2.length:Int)) (let v6:=(r4.1.2.set a1.toNat ((r4.1.2.getD a1.toNat ay).1,(r4.1.2.getD a1.toNat ay).2.1,(r4.1.2.getD a1.toNat ay).2.2.1,(r4.1.2.getD a1.toNat ay).2.2.2.1,r5.1)); (sM.f n (r4.1.1,v6)).bind fun r7=>some (r7.1,r7.2.1,()))))
def sO.f (n:Nat) (a0:ak):Option (ak×Unit):=iter n (fun Ev fw=>br (decide (fw.1<(a0.1.length:Int))) (ab (0≤fw.1∧fw.1<(a0.1.length:Int)) (let Q2:=(a0.1.getD fw.1.toNat bf); (AL.f n Q2).bind fun eg=>ab ((fw.2.1.length+([eg.1]:List Program).length)*40≤bn) (Ev (ag (fw.1+1),fw.2.1++[eg.1],())))) (iter n (fun Q3 kW=>br (decide (kW.1<(a0.2.length:Int))) (ab (0≤kW.1∧kW.1<(a0.2.length:Int)) (let rH:=(a0.2.getD kW.1.toNat ay); (AM.f n rH).bind fun rF=>ab ((kW.2.2.1.length+([rF.1]:List aK).length)*56≤bn) (Q3 (ag (kW.1+1),kW.2.1,kW.2.2.1++[rF.1],())))) (some ((kW.2.1,kW.2.2.1),()))) (0,fw.2.1,[],()))) (0,[],())
def sO.ae (n:Nat):ar:=⟨[.val bZ],[.val bZ],fun x=>sO.f n x.1⟩
theorem sO.ok (n:Nat):aH 53 (sO.ae n):=aJ n [(4,⟨[(3,.bt 1000 0),(12,.int .i64)],[(1000,.cells [] [.own 1001 bp,.mc (.nil)]),(1001,.row true bp)],[1,2,10,11],[]⟩),(13,⟨[(3,.bt 1000 0),(27,.int .i64)],[(1000,.cells [] [.own 1001 bp,.own 1002 bJ]),(1001,.row true bp),(1002,.row true bJ)],[2,25,26],[]⟩)] [] (ai (AL.ok n) (ai (AM.ok n) aC)) aD func53
def AN.f (n:Nat) (a0:ak) (a1:Int) (a2:List Int):Option (ak×Bool×Unit):=cut ((eO.f n a0).bind fun r4=>br (!r4.1) (some (.inr (true,()))) ((ch.f n a1 0 (ag ((a0.2.length:Int)-1))).bind fun r5=>some (.inr (!r5.1,())))) fun y3=>br y3.1 (some (([],[]),false,())) ((sO.f n a0).bind fun r6=>ab (0≤a1∧a1<(r6.1.2.length:Int)) (ab (((r6.1.2.getD a1.toNat ay).2.2.2.2.length+a2.length)*8≤bn) (ab (0≤a1∧a1<(r6.1.2.length:Int)) (ab (a1.toNat=a1.toNat) (let v7:=(r6.1.2.set a1.toNat ((r6.1.2.getD a1.toNat ay).1,(r6.1.2.getD a1.toNat ay).2.1,(r6.1.2.getD a1.toNat ay).2.2.1,(r6.1.2.getD a1.toNat ay).2.2.2.1,(r6.1.2.getD a1.toNat ay).2.2.2.2++a2)); (eO.f n (r6.1.1,v7)).bind fun r8=>br (!r8.1) (some (([],[]),false,())) (some ((r6.1.1,v7),true,())))))))
def AN.ae (n:Nat):ar:=⟨[.val bZ,.val I,.val IS],[.sh bZ,.val .bool],fun x=>AN.f n x.1 x.2.1 x.2.2.1⟩
theorem AN.ok (n:Nat):aH 69 (AN.ae n):=aJ n [(1,⟨[(20,.bool)],[],[1,2,3,6],[]⟩)] [] (ai ⟨eO.sound n,eO.av⟩ (ai ⟨ch.sound n,ch.av⟩ (ai (sO.ok n) aC))) aD func69
end Go.AmT
namespace Go.AmT
variable {n:Nat}
theorem agP {a:Int} (h0:0≤a) (h1:a≤4194304):sN.f n a=some ([],()):=by
 have hm:=iR;unfold sN.f;rw [au (by omega),bM (by omega) (by omega)];by_cases h:0<a-0
 ·rw [aM h,af (by omega),af (by omega),af (by omega)]
 rw [au h]
theorem YA {α:Type} (ls:List (List α)) (i:Nat):(ls.take i).flatten.length≤ls.flatten.length:=by
 conv=>rhs; rw [← List.take_append_drop i ls]
 grind
theorem agQ {ls:List (List Int)} (hl:ls.length≤1048576) (ht:ls.flatten.length≤4194304) (hn:1048576<n):vS.f n ls=some (ls.flatten,()):=by
 unfold vS.f;have dK:((0:Int),(0:Int),())=(fun (i:Nat)=>(((ls.take i).flatten.length:Int),(i:Int),())) 0:=by simp
 rw [dK];refine mu (fun i=>(((ls.take i).flatten.length:Int),(i:Int),())) ls.length (fun ih i hi=>?_) (fun ih=>?_) (by omega)
 ·have c0:0≤(i:Int):=by omega
  have c1:(i:Int)<(ls.length:Int):=by omega
  have e1:ls.getD i []=ls[i]:=aU hi _;have h1:=YA ls (i+1);have e2:(ls.take (i+1)).flatten=(ls.take i).flatten++ls[i]:=by rw [jt hi,RL]; simp
  rw [e2,cY] at h1;show br (decide ((i:Int)<(ls.length:Int))) _ _=_;rw [aM c1,af ⟨c0,c1⟩];simp only [az,e1];rw [bM (by omega) (by omega),au (by omega),ba (by omega),e2,cY,Int.natCast_add (List.take i ls).flatten.length]
 simp only [List.take_length];rw [au (bH _),agP (by omega) (by omega)];simp only [aA];refine Eq.trans (mu (fun i=>((i:Int),(ls.take i).flatten,())) ls.length (R:=some (ls.flatten,())) (fun ih i hi=>?_) (fun ih=>?_) (by omega)) rfl
 ·have c0:0≤(i:Int):=by omega
  have c1:(i:Int)<(ls.length:Int):=by omega
  have e1:ls.getD i []=ls[i]:=aU hi _;have h1:=YA ls (i+1);have e2:(ls.take (i+1)).flatten=(ls.take i).flatten++ls[i]:=by rw [jt hi,RL]; simp
  rw [e2,cY] at h1;show br (decide ((i:Int)<(ls.length:Int))) _ _=_;rw [aM c1,af ⟨c0,c1⟩];simp only [az,e1];rw [dD (by omega),ba (by omega),e2]
 simp only [List.take_length];exact au (bH _)
theorem agR {a b:List Int} (ha:a.length≤1048576) (hb:b.length≤1048576) (hn:1048576<n):vS.f n [a,b]=some (a++b,()):=by rw [agQ (by simp) (by grind) hn]; simp
def YB (l:aK) (ts:List Int):aK:=(l.1,l.2.1,l.2.2.1,l.2.2.2.1,l.2.2.2.2++ts)
def uL (nt:ak) (k:Nat) (ts:List Int):ak:=(nt.1,nt.2.set k (YB (nt.2.getD k ay) ts))
theorem YC {nt:ak} {k:Nat} {ts:List Int} (h:cL nt) (hk:k<nt.2.length) (hl:(nt.2.getD k ay).2.2.2.2.length+ts.length≤1048576):cL (uL nt k ts):=by
 refine ⟨h.dZ,h.prog,by simp [uL]; exact h.dp,fun l jW=>?_⟩;rcases Yw jW with h' | rfl
 ·exact h.link l h'
 exact ⟨by simp only [YB,cY]; exact hl⟩
end Go.AmT
namespace Go.AmT
open Go.Proofs Go.Proofs.Tryz
def oB.f (n:Nat) (a0 a1:Int) (a2:List (List Int)):Option (Program×Unit):=iter n (fun vv dq=>br (decide (dq.1<(a2.length:Int))) (ab (0≤dq.1∧dq.1<(a2.length:Int)) ((gQ.f n (a2.getD dq.1.toNat [])).bind fun eg=>ab ((eg.1.length+([0,0,0]:List Int).length)*8≤bn) (ab ((0:Int)≤0∧0<((eg.1++[0,0,0]).length:Int)) (ab ((0:Int)≤1∧(1:Int)<((eg.1++[0,0,0]).length:Int)) (ab ((0:Int)≤2∧(2:Int)<((eg.1++[0,0,0]).length:Int)) (ab ((0:Int)≤3∧(3:Int)<((eg.1++[0,0,0]).length:Int)) (ab ((dq.2.2.2.1.length+([((eg.1++[0,0,0]).getD 0 0,(eg.1++[0,0,0]).getD 1 0,(eg.1++[0,0,0]).getD 2 0,(eg.1++[0,0,0]).getD 3 0)]:List Instr).length)*32≤bn) (vv (ag (dq.1+1),dq.2.1,dq.2.2.1,dq.2.2.2.1++[((eg.1++[0,0,0]).getD 0 0,(eg.1++[0,0,0]).getD 1 0,(eg.1++[0,0,0]).getD 2 0,(eg.1++[0,0,0]).getD 3 0)],()))))))))) (ab ((dq.2.2.2.1.length+([(8,0,0,0)]:List Instr).length)*32≤bn) (some ((dq.2.1,dq.2.2.1,dq.2.2.2.1++[(8,0,0,0)]),())))) (0,a0,a1,[],())
def oB.ae (n:Nat):ar:=⟨[.val I,.val I,.val (.sl IS)],[.val bp],fun x=>oB.f n x.1 x.2.1 x.2.2.1⟩
theorem oB.ok (n:Nat):aH 194 (oB.ae n):=aJ n [(4,⟨[(7,.bt 1000 0),(16,.int .i64)],[(1000,.cells [] [.int .i64,.int .i64,.own 1001 cV]),(1001,.row true cV)],[6,14,15],[]⟩)] [] (ai (gQ.ok n) aC) aD func194
def AO.f (n:Nat) (a0:BB):Option (Program×Unit):=br (decide (a0=([116,104,114,111,117,103,104]:BB))) ((oB.f n 1 1 ([[1],[2]]:List (List Int))).bind fun r1=>some (r1.1,())) (br (decide (a0=([99,111,112,121]:BB))) ((oB.f n 1 2 ([[1],[2],[2,0,1]]:List (List Int))).bind fun r2=>some (r2.1,())) (br (decide (a0=([115,105,110,107]:BB))) ((oB.f n 1 0 ([[1]]:List (List Int))).bind fun r3=>some (r3.1,())) (br (decide (a0=([97,100,100]:BB))) ((oB.f n 2 1 ([[1],[1,1,1],[4,0,0,1],[2]]:List (List Int))).bind fun r4=>some (r4.1,())) (br (decide (a0=([97,108,116,101,114,110,97,116,101]:BB))) ((oB.f n 2 1 ([[1],[2],[1,0,1],[2]]:List (List Int))).bind fun r5=>some (r5.1,())) (br (decide (a0=([115,112,108,105,116]:BB))) ((oB.f n 1 2 ([[1],[2],[1],[2,0,1]]:List (List Int))).bind fun r6=>some (r6.1,())) (br (decide (a0=([115,117,109,115]:BB))) ((oB.f n 1 1 ([[1,1],[4,0,0,1],[2]]:List (List Int))).bind fun r7=>some (r7.1,())) (br (decide (a0=([115,116,101,112,115]:BB))) ((oB.f n 1 1 ([[1,1],[5,2,1,0],[2,2],[3,3],[4,0,1,3]]:List (List Int))).bind fun r8=>some (r8.1,())) (br (decide (a0=([116,119,105,99,101]:BB))) ((oB.f n 1 1 ([[1],[2],[2]]:List (List Int))).bind fun r9=>some (r9.1,())) (br (decide (a0=([99,111,117,110,116]:BB))) ((oB.f n 0 1 ([[2],[3,1,1],[4,0,0,1]]:List (List Int))).bind fun gi=>some (gi.1,())) (br (decide (a0=([112,105,99,107]:BB))) ((oB.f n 3 1 ([[1],[9,0,4],[1,1,2],[8,0,5],[1,1,1],[2,1]]:List (List Int))).bind fun cW=>some (cW.1,())) (some ((0,0,[]),()))))))))))))
def AO.ae (n:Nat):ar:=⟨[.val .str],[.val bp],fun x=>AO.f n x.1⟩
theorem AO.ok (n:Nat):aH 132 (AO.ae n):=aJ n [] [] (ai (oB.ok n) aC) aD func132
def AP.f (n:Nat) (a0:ak) (a1:Int):Option (ak×Bool×Unit):=cut ((eO.f n a0).bind fun r4=>br (!r4.1) (some (.inr (true,()))) ((ch.f n a1 0 (ag ((a0.2.length:Int)-1))).bind fun r5=>some (.inr (!r5.1,())))) fun y3=>br y3.1 (some (([],[]),false,())) ((sO.f n a0).bind fun r6=>(AO.f n ([116,104,114,111,117,103,104]:BB)).bind fun r7=>ab ((r6.1.1.length+([r7.1]:List Program).length)*40≤bn) (ab (0≤a1∧a1<(r6.1.2.length:Int)) (ab (0≤a1∧a1<(r6.1.2.length:Int)) (ab ((r6.1.2.length+([((r6.1.1.length:Int),0,(r6.1.2.getD a1.toNat ay).2.2.1,(r6.1.2.getD a1.toNat ay).2.2.2.1,[])]:List aK).length)*56≤bn) (ab (0≤a1∧a1<((r6.1.2++[((r6.1.1.length:Int),0,(r6.1.2.getD a1.toNat ay).2.2.1,(r6.1.2.getD a1.toNat ay).2.2.2.1,[])]).length:Int)) (let v8:=((r6.1.2++[((r6.1.1.length:Int),0,(r6.1.2.getD a1.toNat ay).2.2.1,(r6.1.2.getD a1.toNat ay).2.2.2.1,[])]).set a1.toNat (((r6.1.2++[((r6.1.1.length:Int),0,(r6.1.2.getD a1.toNat ay).2.2.1,(r6.1.2.getD a1.toNat ay).2.2.2.1,[])]).getD a1.toNat ay).1,((r6.1.2++[((r6.1.1.length:Int),0,(r6.1.2.getD a1.toNat ay).2.2.1,(r6.1.2.getD a1.toNat ay).2.2.2.1,[])]).getD a1.toNat ay).2.1,(r6.1.1.length:Int),((r6.1.2++[((r6.1.1.length:Int),0,(r6.1.2.getD a1.toNat ay).2.2.1,(r6.1.2.getD a1.toNat ay).2.2.2.1,[])]).getD a1.toNat ay).2.2.2)); ab (0≤a1∧a1<(v8.length:Int)) (let v9:=(v8.set a1.toNat ((v8.getD a1.toNat ay).1,(v8.getD a1.toNat ay).2.1,(v8.getD a1.toNat ay).2.2.1,0,(v8.getD a1.toNat ay).2.2.2.2)); (eO.f n (r6.1.1++[r7.1],v9)).bind fun gi=>br (!gi.1) (some (([],[]),false,())) (some ((r6.1.1++[r7.1],v9),true,())))))))))
def AP.ae (n:Nat):ar:=⟨[.val bZ,.val I],[.sh bZ,.val .bool],fun x=>AP.f n x.1 x.2.1⟩
theorem AP.ok (n:Nat):aH 70 (AP.ae n):=aJ n [(1,⟨[(19,.bool)],[],[1,2,4],[]⟩)] [] (ai ⟨eO.sound n,eO.av⟩ (ai ⟨ch.sound n,ch.av⟩ (ai (sO.ok n) (ai (AO.ok n) aC)))) aD func70
def lA.la:LA:=⟨[(0,.int .i64),(1,.int .i64),(2,.own 0 cV)],[(0,.row true cV)],[],[]⟩
def lA.lb:LA:=⟨[(0,.agg [.int .i64,.int .i64,.own 1000 cV])],[(1000,.row true cV)],[],[]⟩
def lA.f (n:Nat) (a0 a1:Int) (a2:List Instr):Option (Int×Int×List Instr×Unit):=ab ((a2.length+([(8,0,0,0)]:List Instr).length)*32≤bn) (some (a0,a1,a2++[(8,0,0,0)],()))
def lA.ae (n:Nat):cM:=⟨lA.la,lA.lb,fun x=>lA.f n x.1 x.2.1 x.2.2.1⟩
theorem lA.ok (n:Nat):ks 266 (lA.ae n):=lj n [] [] aC aD func266
def lB.f (n:Nat) (a0 a1:Int):Option (Instr×Unit):=some ((1,a0,a1,0),())
def lB.ae (n:Nat):ar:=⟨[.val I,.val I],[.val cV],fun x=>lB.f n x.1 x.2.1⟩
theorem lB.ok (n:Nat):aH 264 (lB.ae n):=aJ n [] [] aC aD func264
def lY.f (n:Nat) (a0 a1:Int):Option (Instr×Unit):=some ((2,a0,a1,0),())
def lY.ae (n:Nat):ar:=⟨[.val I,.val I],[.val cV],fun x=>lY.f n x.1 x.2.1⟩
theorem lY.ok (n:Nat):aH 265 (lY.ae n):=aJ n [] [] aC aD func265
def yh.f (n:Nat) (a0:BB):Option (Program×Unit):=br (decide (a0=([116,104,114,111,117,103,104]:BB))) ((lB.f n 0 0).bind fun r1=>(lY.f n 0 0).bind fun r2=>(lA.f n 1 1 ([r1.1,r2.1]:List Instr)).bind fun r3=>some ((r3.1,r3.2.1,r3.2.2.1),())) (br (decide (a0=([99,111,112,121]:BB))) ((lB.f n 0 0).bind fun r4=>(lY.f n 0 0).bind fun r5=>(lY.f n 0 1).bind fun r6=>(lA.f n 1 2 ([r4.1,r5.1,r6.1]:List Instr)).bind fun r7=>some ((r7.1,r7.2.1,r7.2.2.1),())) (br (decide (a0=([115,105,110,107]:BB))) ((lB.f n 0 0).bind fun r8=>(lA.f n 1 0 ([r8.1]:List Instr)).bind fun r9=>some ((r9.1,r9.2.1,r9.2.2.1),())) (br (decide (a0=([97,100,100]:BB))) ((lB.f n 0 0).bind fun gi=>(lB.f n 1 1).bind fun cW=>(lY.f n 0 0).bind fun fq=>(lA.f n 2 1 ([gi.1,cW.1,(4,0,0,1),fq.1]:List Instr)).bind fun fD=>some ((fD.1,fD.2.1,fD.2.2.1),())) (br (decide (a0=([97,108,116,101,114,110,97,116,101]:BB))) ((lB.f n 0 0).bind fun ie=>(lY.f n 0 0).bind fun dz=>(lB.f n 0 1).bind fun iB=>(lY.f n 0 0).bind fun eN=>(lA.f n 2 1 ([ie.1,dz.1,iB.1,eN.1]:List Instr)).bind fun gm=>some ((gm.1,gm.2.1,gm.2.2.1),())) (br (decide (a0=([115,112,108,105,116]:BB))) ((lB.f n 0 0).bind fun jP=>(lY.f n 0 0).bind fun jT=>(lB.f n 0 0).bind fun cE=>(lY.f n 0 1).bind fun eA=>(lA.f n 1 2 ([jP.1,jT.1,cE.1,eA.1]:List Instr)).bind fun eg=>some ((eg.1,eg.2.1,eg.2.2.1),())) (br (decide (a0=([115,117,109,115]:BB))) ((lB.f n 1 0).bind fun rI=>(lY.f n 0 0).bind fun pk=>(lA.f n 1 1 ([rI.1,(4,0,0,1),pk.1]:List Instr)).bind fun lr=>some ((lr.1,lr.2.1,lr.2.2.1),())) (br (decide (a0=([115,116,101,112,115]:BB))) ((lB.f n 1 0).bind fun dA=>(lY.f n 2 0).bind fun ef=>(lA.f n 1 1 ([dA.1,(5,2,1,0),ef.1,(3,3,0,0),(4,0,1,3)]:List Instr)).bind fun i_=>some ((i_.1,i_.2.1,i_.2.2.1),())) (br (decide (a0=([116,119,105,99,101]:BB))) ((lB.f n 0 0).bind fun cR=>(lY.f n 0 0).bind fun oj=>(lY.f n 0 0).bind fun gE=>(lA.f n 1 1 ([cR.1,oj.1,gE.1]:List Instr)).bind fun kN=>some ((kN.1,kN.2.1,kN.2.2.1),())) (br (decide (a0=([99,111,117,110,116]:BB))) ((lY.f n 0 0).bind fun kt=>(lA.f n 0 1 ([kt.1,(3,1,1,0),(4,0,0,1)]:List Instr)).bind fun kb=>some ((kb.1,kb.2.1,kb.2.2.1),())) (br (decide (a0=([112,105,99,107]:BB))) ((lB.f n 0 0).bind fun yf=>(lB.f n 1 2).bind fun QA=>(lB.f n 1 1).bind fun ov=>(lY.f n 1 0).bind fun Cv=>(lA.f n 3 1 ([yf.1,(9,0,4,0),QA.1,(8,0,5,0),ov.1,Cv.1]:List Instr)).bind fun rF=>some ((rF.1,rF.2.1,rF.2.2.1),())) (some ((0,0,[]),()))))))))))))
def yh.ae (n:Nat):ar:=⟨[.val .str],[.val bp],fun x=>yh.f n x.1⟩
theorem yh.ok (n:Nat):aH 223 (yh.ae n):=aJ n [] [] (ai (lB.ok n) (ai (lY.ok n) aC)) (dI (lA.ok n) aD) func223
def YD.f (n:Nat) (a0:ak) (a1:Int):Option (ak×Bool×Unit):=cut ((dS.f n a0).bind fun r3=>br (!r3.1) (some (.inr (true,()))) (br (decide (a1<0)) (some (.inr (true,()))) (some (.inr (decide ((a0.2.length:Int)≤a1),()))))) fun y2=>br y2.1 (some (([],[]),false,())) ((oA.f n a0).bind fun r4=>(yh.f n ([116,104,114,111,117,103,104]:BB)).bind fun r5=>ab ((r4.1.1.length+([r5.1]:List Program).length)*40≤bn) (ab (0≤a1∧a1<(r4.1.2.length:Int)) (let v6:=(r4.1.2.set a1.toNat ((r4.1.2.getD a1.toNat ay).1,(r4.1.2.getD a1.toNat ay).2.1,(r4.1.1.length:Int),(r4.1.2.getD a1.toNat ay).2.2.2)); let v7:=(v6.set a1.toNat ((v6.getD a1.toNat ay).1,(v6.getD a1.toNat ay).2.1,(v6.getD a1.toNat ay).2.2.1,0,(v6.getD a1.toNat ay).2.2.2.2)); ab ((v7.length+([((r4.1.1.length:Int),0,(r4.1.2.getD a1.toNat ay).2.2.1,(r4.1.2.getD a1.toNat ay).2.2.2.1,[])]:List aK).length)*56≤bn) ((sM.f n (r4.1.1++[r5.1],v7++[((r4.1.1.length:Int),0,(r4.1.2.getD a1.toNat ay).2.2.1,(r4.1.2.getD a1.toNat ay).2.2.2.1,[])])).bind fun r8=>some (r8.1,r8.2.1,())))))
end Go.AmT
namespace Go.AmT
variable {n:Nat} {nt:ak}
theorem K7 (h:cL nt) (hn:1048576<n):sO.f n nt=some (nt,()):=by
 have hp:=h.dZ;have hl:=h.dp;unfold sO.f;refine Eq.trans (zN nt.1 id (fun i s=>(i,s,())) (R:=fun ps=>some ((ps,nt.2),())) (fun ih i hi s hs=>?_) (fun ih ps=>?_) (by omega)) (by simp)
 ·have c0:0≤(i:Int):=by omega
  have c1:(i:Int)<(nt.1.length:Int):=by omega
  have e1:nt.1.getD i bf=nt.1[i]:=aU hi _;simp only [c1,c0,and_self,iC,decide_true,ax,az,e1,agM (h.prog _ (bV hi)),aA];rw [dD (by grind),ba (by omega)]; rfl
 simp only [au (bH _)];refine Eq.trans (zN nt.2 id (fun i s=>(i,ps,s,())) (R:=fun ls=>some ((ps,ls),())) (fun ih i hi s hs=>?_) (fun ih ls=>au (bH _)) (by omega)) (by simp);have c0:0≤(i:Int):=by omega
 have c1:(i:Int)<(nt.2.length:Int):=by omega
 have e1:nt.2.getD i ay=nt.2[i]:=aU hi _;simp only [c1,c0,and_self,iC,decide_true,ax,az,e1,agO (h.link _ (bV hi)),aA];rw [dD (by grind),ba (by omega)]; rfl
def through:Program:=(1,1,[(1,0,0,0),(2,0,0,0),(8,0,0,0)])
def YE:BB:=[116,104,114,111,117,103,104]
theorem agS (hn:1048576<n):AO.f n YE=some (through,()):=by
 obtain ⟨m,rfl⟩:∃ m,n=m+3:=⟨n-3,by omega⟩
 rfl
theorem agT : yh.f n YE=some (through,()):=by rfl
def yi (nt:ak) (k:Nat):ak:=
 (nt.1++[through],nt.2.set k ((nt.2.getD k ay).1,(nt.2.getD k ay).2.1,(nt.1.length:Int),0,(nt.2.getD k ay).2.2.2.2)++[((nt.1.length:Int),0,(nt.2.getD k ay).2.2.1,(nt.2.getD k ay).2.2.2.1,[])])
noncomputable def lZ (nt:ak) (k:Int):ak×Bool×Unit:=
 if (cr nt&&decide (0≤k∧k<(nt.2.length:Int)))=true then (if cr (yi nt k.toNat)=true then (yi nt k.toNat,true,()) else (([],[]),false,())) else (([],[]),false,())
theorem YF {k:Nat} (h:cL nt) (o:cr nt=true) (hk:k<nt.2.length):cL (yi nt k):=by
 have o':cQ nt:=of_decide_eq_true o;have h1:=o'.dZ;have h2:=o'.dp;have ht:=(h.link _ (bV hk)).tokens;refine ⟨by simp [yi]; omega,fun p hp=>?_,by simp [yi]; omega,fun l hl=>?_⟩
 ·simp only [yi,List.mem_append,List.mem_singleton] at hp;rcases hp with hp | rfl
  ·exact h.prog p hp
  exact ⟨by decide⟩
 simp only [yi,List.mem_append,List.mem_singleton] at hl;rcases hl with hl | rfl
 ·rcases Yw hl with hl | rfl
  ·exact h.link l hl
  exact ⟨by grind⟩
 exact ⟨by simp⟩
theorem agU {k:Int} (h:cL nt) (hn:1048576<n):AP.f n nt k=some (lZ nt k):=by
 have hp:=h.dZ;have hl:=h.dp;unfold AP.f lZ;rw [sb h hn,n_,bM (by omega) (by omega)];simp only [aA];have e:cut (α:=(Bool×Unit)) (ρ:=ak×Bool×Unit) (br (!cr nt) (some (.inr (true,()))) (some (.inr (!(decide (0≤k)&&decide (k≤(nt.2.length:Int)-1)),()))))=fun f=>f (!(cr nt&&decide (0≤k∧k<(nt.2.length:Int))),()):=by funext f;by_cases a:0≤k<;>by_cases b:k≤(nt.2.length:Int)-1<;>cases cr nt<;>simp [a,b,br,cut]<;>(grind)
 rw [e];simp only;cases hb:(cr nt&&decide (0≤k∧k<(nt.2.length:Int)))
 ·rfl
 simp only [bo,aw,if_true];simp only [Bool.and_eq_true,decide_eq_true_eq] at hb;obtain ⟨o,k0,k1⟩:=hb;obtain ⟨j,rfl⟩:∃ j:Nat,k=(j:Int):=⟨k.toNat,by omega⟩
 have hj:j<nt.2.length:=by omega
 have hj2:∀ x:aK,j<(nt.2++[x]).length:=fun x=>by grind
 rw [show AO.f n [116,104,114,111,117,103,104]=some (through,()) from agS hn,K7 h hn];simp only [aA,az,k0,k1,and_self,iC];rw [dD (by grind),dD (by grind),af (by grind),af (by grind)];simp only [jD (hj2 _),List.set_set];have e2:∀ x:aK,(nt.2++[x]).getD j ay=nt.2.getD j ay:=fun x=>by grind
 have e3:∀ x y:aK,(nt.2++[x]).set j y=nt.2.set j y++[x]:=fun x y=>List.set_append_left _ _ hj;simp only [e2,e3];have hS:=YF h o hj;have:=sb hS hn;unfold yi at this ⊢;rw [this];simp only [aA];cases cr _<;>rfl
theorem agV {k:Int} (h:cL nt) (hn:1048576<n):YD.f n nt k=some (lZ nt k):=by
 have hp:=h.dZ;have hl:=h.dp;unfold YD.f lZ;rw [tW h hn];simp only [aA];have e:cut (α:=(Bool×Unit)) (ρ:=ak×Bool×Unit) (br (!cr nt) (some (.inr (true,()))) (br (decide (k<0)) (some (.inr (true,()))) (some (.inr (decide ((nt.2.length:Int)≤k),())))))=fun f=>f (!(cr nt&&decide (0≤k∧k<(nt.2.length:Int))),()):=by funext f;by_cases a:k<0<;>by_cases b:(nt.2.length:Int)≤k<;>cases cr nt<;>simp [a,b,br,cut]<;>(congr 2; simp; omega)
 rw [e];simp only;cases hb:(cr nt&&decide (0≤k∧k<(nt.2.length:Int)))
 ·rfl
 simp only [bo,aw,if_true];simp only [Bool.and_eq_true,decide_eq_true_eq] at hb;obtain ⟨o,k0,k1⟩:=hb;obtain ⟨j,rfl⟩:∃ j:Nat,k=(j:Int):=⟨k.toNat,by omega⟩
 have hj:j<nt.2.length:=by omega
 rw [show yh.f n [116,104,114,111,117,103,104]=some (through,()) from agT,K6 h hn];simp only [aA,az,k0,k1,and_self,iC];rw [dD (by simp; omega),dD (by simp; omega)];simp only [jD hj,List.set_set];have hS:=YF h o hj;have:=Yy hS hn;unfold yi at this ⊢;rw [this];simp only [aA]
end Go.AmT
namespace Go.AmT
open Go.Proofs Go.Proofs.Tryz
def AQ.f (n:Nat) (a0:ak) (a1:State) (a2:Int):Option (Bool×Unit):=(mq.f n a0 a1).bind fun r1=>br (!r1.1) (some (false,())) ((ku.f n a0.1 a0.2 a1.1 a1.2.1 a1.2.2.1 a1.2.2.2 (none:Option (List Int))).bind fun r2=>(B9.f n ((r2.1,r2.2.1),(r2.2.2.2.2.1,r2.2.2.2.2.2.1,r2.2.2.2.2.2.2.1,r2.2.2.1),r2.2.2.2.2.2.2.2.1,r2.2.2.2.2.2.2.2.2.1,r2.2.2.2.1) a2).bind fun r3=>br r3.1 ((can.f n ((r2.1,r2.2.1),(r2.2.2.2.2.1,r2.2.2.2.2.2.1,r2.2.2.2.2.2.2.1,r2.2.2.1),r2.2.2.2.2.2.2.2.1,r2.2.2.2.2.2.2.2.2.1,r2.2.2.2.1) a2).bind fun r4=>some (r4.1,())) (some (false,())))
def AQ.ae (n:Nat):ar:=⟨[.val bZ,.val dk,.val I],[.val .bool],fun x=>AQ.f n x.1 x.2.1 x.2.2.1⟩
theorem AQ.ok (n:Nat):aH 224 (AQ.ae n):=aJ n [] [] (ai (mq.ok n) (ai (B9.ok n) (ai (can.ok n) aC))) (dI (ku.ok n) aD) func224
def vT.f (n:Nat) (a0:ak) (a1:State) (a2:Int):Option (Bool×Unit):=(od.f n a0 a1).bind fun r1=>br r1.1 ((zX.f n a0 a2).bind fun r2=>br r2.1 ((kx.f n a0 a1 a2).bind fun r3=>some (r3.1,())) (some (false,()))) (some (false,()))
def vT.ae (n:Nat):ar:=⟨[.val bZ,.val dk,.val I],[.val .bool],fun x=>vT.f n x.1 x.2.1 x.2.2.1⟩
theorem vT.ok (n:Nat):aH 134 (vT.ae n):=aJ n [] [] (ai (od.ok n) (ai (zX.ok n) (ai (kx.ok n) aC))) aD func134
def yj.f (n:Nat) (a0:ak) (a1:State) (a2:Int):Option (State×Bool×Unit):=(AQ.f n a0 a1 a2).bind fun r1=>br (!r1.1) (some (([],[],[],0),false,())) ((ku.f n a0.1 a0.2 a1.1 a1.2.1 a1.2.2.1 a1.2.2.2 (none:Option (List Int))).bind fun r2=>(lq.f n a2 r2.1 r2.2.1 r2.2.2.1 r2.2.2.2.1 r2.2.2.2.2.1 r2.2.2.2.2.2.1 r2.2.2.2.2.2.2.1 r2.2.2.2.2.2.2.2.1 r2.2.2.2.2.2.2.2.2.1).bind fun r3=>some ((r3.2.2.2.2.1,r3.2.2.2.2.2.1,r3.2.2.2.2.2.2.1,r3.2.2.1),true,()))
def yj.ae (n:Nat):ar:=⟨[.val bZ,.val dk,.val I],[.val dk,.val .bool],fun x=>yj.f n x.1 x.2.1 x.2.2.1⟩
theorem yj.ok (n:Nat):aH 167 (yj.ae n):=aJ n [] [] (ai (AQ.ok n) aC) (dI (ku.ok n) (dI (lq.ok n) aD)) func167
def AR.f (n:Nat) (a0:ak) (a1:State) (a2:Int):Option (State×Bool×Unit):=(vT.f n a0 a1 a2).bind fun r1=>br (!r1.1) (some (([],[],[],0),false,())) ((mz.f n a1).bind fun r2=>(lp.f n a0.1 a0.2 r2.1.2.2.2 a2 r2.1.1 r2.1.2.1 r2.1.2.2.1).bind fun r3=>some ((r3.2.1,r3.2.2.1,r3.2.2.2.1,r3.1),true,()))
def AR.ae (n:Nat):ar:=⟨[.val bZ,.val dk,.val I],[.sh dk,.val .bool],fun x=>AR.f n x.1 x.2.1 x.2.2.1⟩
theorem AR.ok (n:Nat):aH 73 (AR.ae n):=aJ n [] [] (ai (vT.ok n) (ai (mz.ok n) aC)) (dI (lp.ok n) aD) func73
def AS.f (n:Nat) (a0:ak) (a1:State):Option (List Int×Unit):=(mq.f n a0 a1).bind fun r1=>br (!r1.1) (some ([],())) ((ku.f n a0.1 a0.2 a1.1 a1.2.1 a1.2.2.1 a1.2.2.2 (none:Option (List Int))).bind fun r2=>iter n (fun Ck aQ=>br (decide (aQ.1<(a0.1.length:Int))) ((iY.f n ((r2.1,r2.2.1),(r2.2.2.2.2.1,r2.2.2.2.2.2.1,r2.2.2.2.2.2.2.1,r2.2.2.1),r2.2.2.2.2.2.2.2.1,r2.2.2.2.2.2.2.2.2.1,r2.2.2.2.1) aQ.1).bind fun lr=>cut (br (!decide (lr.1=2)) (some (.inr (true,()))) (ab (0≤lr.2.1∧lr.2.1<(a1.2.1.length:Int)) (let v29:=(a1.2.1.getD lr.2.1.toNat []); some (.inr (decide (0<(v29.length:Int)),()))))) fun y28=>cut (br y28.1 (some (.inr (-1,()))) (some (.inr (lr.2.1,())))) fun YG=>ab ((aQ.2.1.length+([YG.1]:List Int).length)*8≤bn) (Ck (ag (aQ.1+1),aQ.2.1++[YG.1],()))) (some (aQ.2.1,()))) (0,[],()))
def AS.ae (n:Nat):ar:=⟨[.val bZ,.val dk],[.val IS],fun x=>AS.f n x.1 x.2.1⟩
theorem AS.ok (n:Nat):aH 163 (AS.ae n):=aJ n [(7,⟨[(6,.own 1000 I),(21,.int .i64)],[(1000,.row true I)],[3,5,20],[]⟩),(13,⟨[(40,.bool)],[],[3,5,6,9,20,21],[]⟩),(14,⟨[(9,.int .i64)],[],[3,5,6,20,21],[]⟩)] [] (ai (mq.ok n) (ai (iY.ok n) aC)) (dI (ku.ok n) aD) func163
def AT.f (n:Nat) (a0:ak) (a1:State):Option (List Int×Unit):=(od.f n a0 a1).bind fun r1=>br (!r1.1) (some ([],())) (iter n (fun HH iw=>br (decide (iw.1<(a0.1.length:Int))) (ab (0≤iw.1∧iw.1<(a0.1.length:Int)) (let QT:=(a0.1.getD iw.1.toNat bf); ab (0≤iw.1∧iw.1<(a1.1.length:Int)) (let v20:=(a1.1.getD iw.1.toNat bz); (ig.f n QT v20).bind fun cE=>(ll.f n a0 a1 iw.1).bind fun eA=>cut (br (!decide (cE.1=2)) (some (.inr (true,()))) (ab (0≤eA.1∧eA.1<(a1.2.1.length:Int)) (let GS:=(a1.2.1.getD eA.1.toNat []); some (.inr (decide (0<(GS.length:Int)),()))))) fun Pr=>cut (br Pr.1 (some (.inr (-1,()))) (some (.inr (eA.1,())))) fun Kp=>ab ((iw.2.1.length+([Kp.1]:List Int).length)*8≤bn) (HH (ag (iw.1+1),iw.2.1++[Kp.1],()))))) (some (iw.2.1,()))) (0,[],()))
def AT.ae (n:Nat):ar:=⟨[.val bZ,.val dk],[.val IS],fun x=>AT.f n x.1 x.2.1⟩
theorem AT.ok (n:Nat):aH 60 (AT.ae n):=aJ n [(7,⟨[(5,.own 1000 I),(18,.int .i64)],[(1000,.row true I)],[2,3,17],[]⟩),(14,⟨[(49,.bool)],[],[2,3,5,9,17,18],[]⟩),(15,⟨[(9,.int .i64)],[],[2,3,5,17,18],[]⟩)] [] (ai (od.ok n) (ai (ig.ok n) (ai (ll.ok n) aC))) aD func60
end Go.AmT
namespace Go.AmT
variable {nt:ak} {s:State} {n:Nat}
def l_ (nt:ak) (s:State) (k:Int):Bool:=decide (0≤k∧k<(nt.1.length:Int)∧dw nt s k.toNat=true)
theorem agW {k:Nat} (hk:k<nt.1.length):l_ nt s (k:Int)=dw nt s k:=by
 unfold l_
 grind
theorem agX {k:Int} (h:cL nt) (o:bU nt s) (hn:1048576<n):AQ.f n nt s k=some (l_ nt s k,()):=by
 have hs:=my o;unfold AQ.f;rw [B8 h hs hn,ua o];simp only [aA,bo,aw];refine eM.1 (dt.2 (bA (Ed (caps:=none) o.cb hs hn) (fun r ⟨to,fr,e,T,F⟩=>eM.2 ?_)));subst e;have R:kQ nt s (nt,s,to,fr,none):=⟨rfl,rfl,T,F⟩
 unfold B9.f l_;by_cases h0:0≤k
 ·obtain ⟨j,rfl⟩:∃ j:Nat,k=(j:Int):=⟨k.toNat,by omega⟩
  rw [aM h0];by_cases h1:(j:Int)<(nt.1.length:Int)
  ·have hc:can.f n ((nt.1,nt.2),(s.1,s.2.1,s.2.2.1,s.2.2.2),to,fr,(none:Option (List Int))) (j:Int)=some (dw nt s j,()):=Ef R o (by omega);simp only [aA,h1,decide_true,ax,hc,az];simp_all
  simp only [aA,h1,decide_false,aw]
  grind
 rw [au h0,decide_eq_false (fun hh=>h0 hh.1)]; rfl
theorem agY {k:Nat} (h:cL nt) (o:bU nt s) (hk:k<nt.1.length) (hn:1048576<n):vT.f n nt s (k:Int)=some (dw nt s k,()):=by have hs:=my o;unfold vT.f zX.f;rw [D9 h hs hn,ua o];simp only [aA,ax,aM (Int.natCast_nonneg k),decide_eq_true (show (k:Int)<(nt.1.length:Int) by omega),Cb o hk hn]
theorem agZ {k:Int} (h:cL nt) (o:bU nt s) (hn:1048576<n) :
  yj.f n nt s k=some (if l_ nt s k=true then (eY nt s k.toNat,true,()) else (([],[],[],0),false,())):=by
 have hs:=my o;unfold yj.f;rw [agX h o hn,aq];cases hc:l_ nt s k
 ·rfl
 simp only [bo,aw];have tM:=hc;unfold l_ at tM;simp only [decide_eq_true_eq] at tM;obtain ⟨h0,h1,h2⟩:=tM;obtain ⟨j,rfl⟩:∃ j:Nat,k=(j:Int):=⟨k.toNat,by omega⟩
 rw [az] at h2 ⊢;refine eM.1 (dt.2 (bA (Ed (caps:=none) o.cb hs hn) (fun r ⟨to,fr,e,T,F⟩=>eM.2 ?_)));subst e;have R:kQ nt s (nt,s,to,fr,none):=⟨rfl,rfl,T,F⟩
 have hr:=Pa (n:=n) R o hs (by omega) h2 hn
 grind
end Go.AmT
