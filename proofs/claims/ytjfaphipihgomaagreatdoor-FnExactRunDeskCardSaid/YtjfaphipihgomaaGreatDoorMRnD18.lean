/- Copies of networks, in plain Lean: what is copied is the same. -/
import Derived.Test.YtjfaphipihgomaaGreatDoorMRnD17
open Go Go.Am
noncomputable section
set_option linter.unusedVariables false
set_option linter.unusedSimpArgs false
set_option maxRecDepth 100000
open Int renaming lt_irrefl → bR, toNat_natCast → ay
open List renaming flatten_append → Qb, getElem_mem → ct, length_append → cg, mem_or_eq_of_mem_set → XH, take_succ_eq_append_getElem → iC
open Option renaming bind_some → aC
namespace Go.AmT
variable {n:Nat}
theorem XI {a:List Int} (h:a.length≤1048576):gJ.f n a=some (a,()):=by unfold gJ.f;rw [db (by simp; omega)]; rfl
theorem XJ {a:List Int} (h:a.length≤1048576):cR.f n a=some (a,()):=by unfold cR.f;rw [db (by simp; omega)]; rfl
theorem afn {a:List Instr} (h:a.length≤1048576):j4.f n a=some (a,()):=by unfold j4.f;rw [db (by simp; omega)]; rfl
theorem afo {p:Program} (h:pJ p):zN.f n p=some (p,()):=by have:=h.code;unfold zN.f;rw [db (by simp; omega)]; rfl
theorem afp {p:Program} (h:pJ p):zM.f n p=some (p,()):=by unfold zM.f;rw [afn h.code]; rfl
theorem afq {p:bb} (h:Df p):zO.f n p=some (p,()):=by unfold zO.f;rw [XI h.tokens]; rfl
theorem Kj {nt:aq} (h:dq nt) (hn:1048576<n):pY.f n nt=some (nt,()):=by
 have hp:=h.eX;have hl:=h.dB;unfold pY.f;refine Eq.trans (yO nt.1 id (fun i s=>(i,s,())) (R:=fun ps=>some ((ps,nt.2),())) (fun ih i hi s hs=>?_) (fun ih ps=>?_) (by omega)) (by simp)
 ·have c0:0≤(i:Int):=by omega
  have c1:(i:Int)<(nt.1.length:Int):=by omega
  have e1:nt.1.getD i bC=nt.1[i]:=aJ hi _;simp only [c1,c0,and_self,qA,decide_true,aB,ay,e1,afp (h.prog _ (ct hi)),aC];rw [db (by simp; omega),a_ (by omega)]; rfl
 simp only [av (bR _)];refine Eq.trans (yO nt.2 id (fun i s=>(i,ps,s,())) (R:=fun ls=>some ((ps,ls),())) (fun ih i hi s hs=>?_) (fun ih ls=>av (bR _)) (by omega)) (by simp);have c0:0≤(i:Int):=by omega
 have c1:(i:Int)<(nt.2.length:Int):=by omega
 have e1:nt.2.getD i aE=nt.2[i]:=aJ hi _;simp only [c1,c0,and_self,qA,decide_true,aB,ay,e1,XJ (h.link _ (ct hi)).tokens,aC];rw [db (by simp; omega),a_ (by omega)]; rfl
theorem XK {nt:aq} (h:dq nt) (hn:1048576<n):vg.f n nt=some (if cm nt=true then (nt,true,()) else (([],[]),false,())):=by unfold vg.f;rw [s6 h hn,Kj h hn];cases cm nt<;>rfl
end Go.AmT
namespace Go.AmT
open Go.Proofs Go.Proofs.Tryz
def rZ.la:LA:=⟨[(0,.lP (.nil)),(1,.int .i64)],[],[],[]⟩
def rZ.lb:LA:=⟨[(0,.own 1000 I)],[(1000,.row true I)],[],[]⟩
def rZ.f (n:Nat) (a0:Int):Option (List Int×Unit):=br (decide (a0<0)) (none) (br (decide (0<(ah (a0-0)))) (ab ((0:Int)≤0∧(0:Int)≤0∧0≤0) (ab (0<(ah (a0-0))∧(ah (a0-0))*(8:Int)≤(bo:Int)) (ab ((0:Int)≤0∧(0:Int)≤0∧0≤((List.replicate (ah (a0-0)).toNat (0:Int)).length:Int)) (some ([],()))))) (some ([],())))
def rZ.ae (n:Nat):dn:=⟨rZ.la,rZ.lb,fun x=>rZ.f n x.1⟩
theorem rZ.ok (n:Nat):pD 219 (rZ.ae n):=rv n [] [1000041] aK aL func219
def xp.f (n:Nat) (a0:List (List Int)):Option (List Int×Unit):=iter n (fun rA x9=>br (decide (x9.2.1<(a0.length:Int))) (ab (0≤x9.2.1∧x9.2.1<(a0.length:Int)) (let v11:=(a0.getD x9.2.1.toNat []); br (decide ((ah (x9.1+(v11.length:Int)))<0)) (none) (rA (ah (x9.1+(v11.length:Int)),ah (x9.2.1+1),())))) ((rZ.f n x9.1).bind fun fh=>iter n (fun GX h_=>br (decide (h_.1<(a0.length:Int))) (ab (0≤h_.1∧h_.1<(a0.length:Int)) (ab ((h_.2.1.length+(a0.getD h_.1.toNat []).length)*8≤bo) (GX (ah (h_.1+1),h_.2.1++(a0.getD h_.1.toNat []),())))) (some (h_.2.1,()))) (0,fh.1,()))) (0,0,())
def xp.ae (n:Nat):au:=⟨[.val (.sl IS)],[.val IS],fun x=>xp.f n x.1⟩
theorem xp.ok (n:Nat):aP 161 (xp.ae n):=aU n [(4,⟨[(3,.int .i64),(11,.int .i64)],[],[0,9,10],[]⟩),(17,⟨[(6,.own 1000 I),(27,.int .i64)],[(1000,.row true I)],[25,26],[]⟩)] [] aK (eM (rZ.ok n) aL) func161
def zP.f (n:Nat) (a0:aq) (a1:Int) (a2:List Int):Option (aq×Bool×Unit):=cut ((ez.f n a0).bind fun r3=>br (!r3.1) (some (.inr (true,()))) (br (decide (a1<0)) (some (.inr (true,()))) (some (.inr (decide ((a0.2.length:Int)≤a1),()))))) fun y2=>br y2.1 (some (([],[]),false,())) ((pY.f n a0).bind fun r4=>ab (0≤a1∧a1<(r4.1.2.length:Int)) ((xp.f n ([(r4.1.2.getD a1.toNat aE).2.2.2.2,a2]:List (List Int))).bind fun r5=>ab (0≤a1∧a1<(r4.1.2.length:Int)) (let v6:=(r4.1.2.set a1.toNat ((r4.1.2.getD a1.toNat aE).1,(r4.1.2.getD a1.toNat aE).2.1,(r4.1.2.getD a1.toNat aE).2.2.1,(r4.1.2.getD a1.toNat aE).2.2.2.1,r5.1)); (vg.f n (r4.1.1,v6)).bind fun r7=>some (r7.1,r7.2.1,()))))
def zP.ae (n:Nat):au:=⟨[.val cd,.val I,.val IS],[.sh cd,.val .bool],fun x=>zP.f n x.1 x.2.1 x.2.2.1⟩
theorem zP.ok (n:Nat):aP 94 (zP.ae n):=aU n [(1,⟨[(22,.bool)],[],[1,2,3,6],[]⟩)] [] (ai ⟨ez.sound n,ez.aD⟩ (ai (pY.ok n) (ai (xp.ok n) (ai (vg.ok n) aK)))) aL func94
def r_.f (n:Nat) (a0:aq):Option (aq×Unit):=iter n (fun DI fl=>br (decide (fl.1<(a0.1.length:Int))) (ab (0≤fl.1∧fl.1<(a0.1.length:Int)) (let G2:=(a0.1.getD fl.1.toNat bC); (zN.f n G2).bind fun ec=>ab ((fl.2.1.length+([ec.1]:List Program).length)*40≤bo) (DI (ah (fl.1+1),fl.2.1++[ec.1],())))) (iter n (fun Qa kM=>br (decide (kM.1<(a0.2.length:Int))) (ab (0≤kM.1∧kM.1<(a0.2.length:Int)) (let qS:=(a0.2.getD kM.1.toNat aE); (zO.f n qS).bind fun tB=>ab ((kM.2.2.1.length+([tB.1]:List bb).length)*56≤bo) (Qa (ah (kM.1+1),kM.2.1,kM.2.2.1++[tB.1],())))) (some ((kM.2.1,kM.2.2.1),()))) (0,fl.2.1,[],()))) (0,[],())
def r_.ae (n:Nat):au:=⟨[.val cd],[.val cd],fun x=>r_.f n x.1⟩
theorem r_.ok (n:Nat):aP 53 (r_.ae n):=aU n [(4,⟨[(3,.bn 1000 0),(12,.int .i64)],[(1000,.cells [] [.own 1001 b_,.lP (.nil)]),(1001,.row true b_)],[1,2,10,11],[]⟩),(13,⟨[(3,.bn 1000 0),(27,.int .i64)],[(1000,.cells [] [.own 1001 b_,.own 1002 du]),(1001,.row true b_),(1002,.row true du)],[2,25,26],[]⟩)] [] (ai (zN.ok n) (ai (zO.ok n) aK)) aL func53
def zQ.f (n:Nat) (a0:aq) (a1:Int) (a2:List Int):Option (aq×Bool×Unit):=cut ((eH.f n a0).bind fun r4=>br (!r4.1) (some (.inr (true,()))) ((bY.f n a1 0 (ah ((a0.2.length:Int)-1))).bind fun r5=>some (.inr (!r5.1,())))) fun y3=>br y3.1 (some (([],[]),false,())) ((r_.f n a0).bind fun r6=>ab (0≤a1∧a1<(r6.1.2.length:Int)) (ab (((r6.1.2.getD a1.toNat aE).2.2.2.2.length+a2.length)*8≤bo) (ab (0≤a1∧a1<(r6.1.2.length:Int)) (ab (a1.toNat=a1.toNat) (let v7:=(r6.1.2.set a1.toNat ((r6.1.2.getD a1.toNat aE).1,(r6.1.2.getD a1.toNat aE).2.1,(r6.1.2.getD a1.toNat aE).2.2.1,(r6.1.2.getD a1.toNat aE).2.2.2.1,(r6.1.2.getD a1.toNat aE).2.2.2.2++a2)); (eH.f n (r6.1.1,v7)).bind fun r8=>br (!r8.1) (some (([],[]),false,())) (some ((r6.1.1,v7),true,())))))))
def zQ.ae (n:Nat):au:=⟨[.val cd,.val I,.val IS],[.sh cd,.val .bool],fun x=>zQ.f n x.1 x.2.1 x.2.2.1⟩
theorem zQ.ok (n:Nat):aP 69 (zQ.ae n):=aU n [(1,⟨[(20,.bool)],[],[1,2,3,6],[]⟩)] [] (ai ⟨eH.sound n,eH.aD⟩ (ai ⟨bY.sound n,bY.aD⟩ (ai (r_.ok n) aK))) aL func69
end Go.AmT
namespace Go.AmT
variable {n:Nat}
theorem afr {a:Int} (h0:0≤a) (h1:a≤4194304):rZ.f n a=some ([],()):=by
 have hm:=iD;unfold rZ.f;rw [av (by omega),bP (by omega) (by omega)];by_cases h:0<a-0
 ·rw [aG h,af (by omega),af (by omega),af (by simp; omega)]
 rw [av h]
theorem XL {α:Type} (ls:List (List α)) (i:Nat):(ls.take i).flatten.length≤ls.flatten.length:=by
 conv=>rhs; rw [← List.take_append_drop i ls]
 rw [Qb,cg]; omega
theorem afs {ls:List (List Int)} (hl:ls.length≤1048576) (ht:ls.flatten.length≤4194304) (hn:1048576<n):xp.f n ls=some (ls.flatten,()):=by
 unfold xp.f;have dz:((0:Int),(0:Int),())=(fun (i:Nat)=>(((ls.take i).flatten.length:Int),(i:Int),())) 0:=by simp
 rw [dz];refine mc (fun i=>(((ls.take i).flatten.length:Int),(i:Int),())) ls.length (fun ih i hi=>?_) (fun ih=>?_) (by omega)
 ·have c0:0≤(i:Int):=by omega
  have c1:(i:Int)<(ls.length:Int):=by omega
  have e1:ls.getD i []=ls[i]:=aJ hi _;have h1:=XL ls (i+1);have e2:(ls.take (i+1)).flatten=(ls.take i).flatten++ls[i]:=by rw [iC hi,Qb]; simp
  rw [e2,cg] at h1;show br (decide ((i:Int)<(ls.length:Int))) _ _=_;rw [aG c1,af ⟨c0,c1⟩];simp only [ay,e1];rw [bP (by omega) (by omega),av (by omega),a_ (by omega),e2,cg,Int.natCast_add (List.take i ls).flatten.length]
 simp only [List.take_length];rw [av (bR _),afr (by omega) (by omega)];simp only [aC];refine Eq.trans (mc (fun i=>((i:Int),(ls.take i).flatten,())) ls.length (R:=some (ls.flatten,())) (fun ih i hi=>?_) (fun ih=>?_) (by omega)) rfl
 ·have c0:0≤(i:Int):=by omega
  have c1:(i:Int)<(ls.length:Int):=by omega
  have e1:ls.getD i []=ls[i]:=aJ hi _;have h1:=XL ls (i+1);have e2:(ls.take (i+1)).flatten=(ls.take i).flatten++ls[i]:=by rw [iC hi,Qb]; simp
  rw [e2,cg] at h1;show br (decide ((i:Int)<(ls.length:Int))) _ _=_;rw [aG c1,af ⟨c0,c1⟩];simp only [ay,e1];rw [db (by omega),a_ (by omega),e2]
 simp only [List.take_length];exact av (bR _)
theorem aft {a b:List Int} (ha:a.length≤1048576) (hb:b.length≤1048576) (hn:1048576<n):xp.f n [a,b]=some (a++b,()):=by rw [afs (by simp) (by simp; omega) hn]; simp
def XM (l:bb) (ts:List Int):bb:=(l.1,l.2.1,l.2.2.1,l.2.2.2.1,l.2.2.2.2++ts)
def tG (nt:aq) (k:Nat) (ts:List Int):aq:=(nt.1,nt.2.set k (XM (nt.2.getD k aE) ts))
theorem XN {nt:aq} {k:Nat} {ts:List Int} (h:dq nt) (hk:k<nt.2.length) (hl:(nt.2.getD k aE).2.2.2.2.length+ts.length≤1048576):dq (tG nt k ts):=by
 refine ⟨h.eX,h.prog,by simp [tG]; exact h.dB,fun l kT=>?_⟩;rcases XH kT with h' | rfl
 ·exact h.link l h'
 exact ⟨by simp only [XM,cg]; exact hl⟩
end Go.AmT
namespace Go.AmT
open Go.Proofs Go.Proofs.Tryz
def nS.f (n:Nat) (a0 a1:Int) (a2:List (List Int)):Option (Program×Unit):=iter n (fun uJ c_=>br (decide (c_.1<(a2.length:Int))) (ab (0≤c_.1∧c_.1<(a2.length:Int)) ((gJ.f n (a2.getD c_.1.toNat [])).bind fun ec=>ab ((ec.1.length+([0,0,0]:List Int).length)*8≤bo) (ab ((0:Int)≤0∧0<((ec.1++[0,0,0]).length:Int)) (ab ((0:Int)≤1∧(1:Int)<((ec.1++[0,0,0]).length:Int)) (ab ((0:Int)≤2∧(2:Int)<((ec.1++[0,0,0]).length:Int)) (ab ((0:Int)≤3∧(3:Int)<((ec.1++[0,0,0]).length:Int)) (ab ((c_.2.2.2.1.length+([((ec.1++[0,0,0]).getD 0 0,(ec.1++[0,0,0]).getD 1 0,(ec.1++[0,0,0]).getD 2 0,(ec.1++[0,0,0]).getD 3 0)]:List Instr).length)*32≤bo) (uJ (ah (c_.1+1),c_.2.1,c_.2.2.1,c_.2.2.2.1++[((ec.1++[0,0,0]).getD 0 0,(ec.1++[0,0,0]).getD 1 0,(ec.1++[0,0,0]).getD 2 0,(ec.1++[0,0,0]).getD 3 0)],()))))))))) (ab ((c_.2.2.2.1.length+([(8,0,0,0)]:List Instr).length)*32≤bo) (some ((c_.2.1,c_.2.2.1,c_.2.2.2.1++[(8,0,0,0)]),())))) (0,a0,a1,[],())
def nS.ae (n:Nat):au:=⟨[.val I,.val I,.val (.sl IS)],[.val b_],fun x=>nS.f n x.1 x.2.1 x.2.2.1⟩
theorem nS.ok (n:Nat):aP 194 (nS.ae n):=aU n [(4,⟨[(7,.bn 1000 0),(16,.int .i64)],[(1000,.cells [] [.int .i64,.int .i64,.own 1001 dO]),(1001,.row true dO)],[6,14,15],[]⟩)] [] (ai (gJ.ok n) aK) aL func194
def zR.f (n:Nat) (a0:BB):Option (Program×Unit):=br (decide (a0=([116,104,114,111,117,103,104]:BB))) ((nS.f n 1 1 ([[1],[2]]:List (List Int))).bind fun r1=>some (r1.1,())) (br (decide (a0=([99,111,112,121]:BB))) ((nS.f n 1 2 ([[1],[2],[2,0,1]]:List (List Int))).bind fun r2=>some (r2.1,())) (br (decide (a0=([115,105,110,107]:BB))) ((nS.f n 1 0 ([[1]]:List (List Int))).bind fun r3=>some (r3.1,())) (br (decide (a0=([97,100,100]:BB))) ((nS.f n 2 1 ([[1],[1,1,1],[4,0,0,1],[2]]:List (List Int))).bind fun r4=>some (r4.1,())) (br (decide (a0=([97,108,116,101,114,110,97,116,101]:BB))) ((nS.f n 2 1 ([[1],[2],[1,0,1],[2]]:List (List Int))).bind fun r5=>some (r5.1,())) (br (decide (a0=([115,112,108,105,116]:BB))) ((nS.f n 1 2 ([[1],[2],[1],[2,0,1]]:List (List Int))).bind fun r6=>some (r6.1,())) (br (decide (a0=([115,117,109,115]:BB))) ((nS.f n 1 1 ([[1,1],[4,0,0,1],[2]]:List (List Int))).bind fun r7=>some (r7.1,())) (br (decide (a0=([115,116,101,112,115]:BB))) ((nS.f n 1 1 ([[1,1],[5,2,1,0],[2,2],[3,3],[4,0,1,3]]:List (List Int))).bind fun r8=>some (r8.1,())) (br (decide (a0=([116,119,105,99,101]:BB))) ((nS.f n 1 1 ([[1],[2],[2]]:List (List Int))).bind fun r9=>some (r9.1,())) (br (decide (a0=([99,111,117,110,116]:BB))) ((nS.f n 0 1 ([[2],[3,1,1],[4,0,0,1]]:List (List Int))).bind fun gv=>some (gv.1,())) (br (decide (a0=([112,105,99,107]:BB))) ((nS.f n 3 1 ([[1],[9,0,4],[1,1,2],[8,0,5],[1,1,1],[2,1]]:List (List Int))).bind fun dT=>some (dT.1,())) (some ((0,0,[]),()))))))))))))
def zR.ae (n:Nat):au:=⟨[.val .str],[.val b_],fun x=>zR.f n x.1⟩
theorem zR.ok (n:Nat):aP 132 (zR.ae n):=aU n [] [] (ai (nS.ok n) aK) aL func132
def zS.f (n:Nat) (a0:aq) (a1:Int):Option (aq×Bool×Unit):=cut ((eH.f n a0).bind fun r4=>br (!r4.1) (some (.inr (true,()))) ((bY.f n a1 0 (ah ((a0.2.length:Int)-1))).bind fun r5=>some (.inr (!r5.1,())))) fun y3=>br y3.1 (some (([],[]),false,())) ((r_.f n a0).bind fun r6=>(zR.f n ([116,104,114,111,117,103,104]:BB)).bind fun r7=>ab ((r6.1.1.length+([r7.1]:List Program).length)*40≤bo) (ab (0≤a1∧a1<(r6.1.2.length:Int)) (ab (0≤a1∧a1<(r6.1.2.length:Int)) (ab ((r6.1.2.length+([((r6.1.1.length:Int),0,(r6.1.2.getD a1.toNat aE).2.2.1,(r6.1.2.getD a1.toNat aE).2.2.2.1,[])]:List bb).length)*56≤bo) (ab (0≤a1∧a1<((r6.1.2++[((r6.1.1.length:Int),0,(r6.1.2.getD a1.toNat aE).2.2.1,(r6.1.2.getD a1.toNat aE).2.2.2.1,[])]).length:Int)) (let v8:=((r6.1.2++[((r6.1.1.length:Int),0,(r6.1.2.getD a1.toNat aE).2.2.1,(r6.1.2.getD a1.toNat aE).2.2.2.1,[])]).set a1.toNat (((r6.1.2++[((r6.1.1.length:Int),0,(r6.1.2.getD a1.toNat aE).2.2.1,(r6.1.2.getD a1.toNat aE).2.2.2.1,[])]).getD a1.toNat aE).1,((r6.1.2++[((r6.1.1.length:Int),0,(r6.1.2.getD a1.toNat aE).2.2.1,(r6.1.2.getD a1.toNat aE).2.2.2.1,[])]).getD a1.toNat aE).2.1,(r6.1.1.length:Int),((r6.1.2++[((r6.1.1.length:Int),0,(r6.1.2.getD a1.toNat aE).2.2.1,(r6.1.2.getD a1.toNat aE).2.2.2.1,[])]).getD a1.toNat aE).2.2.2)); ab (0≤a1∧a1<(v8.length:Int)) (let v9:=(v8.set a1.toNat ((v8.getD a1.toNat aE).1,(v8.getD a1.toNat aE).2.1,(v8.getD a1.toNat aE).2.2.1,0,(v8.getD a1.toNat aE).2.2.2.2)); (eH.f n (r6.1.1++[r7.1],v9)).bind fun gv=>br (!gv.1) (some (([],[]),false,())) (some ((r6.1.1++[r7.1],v9),true,())))))))))
def zS.ae (n:Nat):au:=⟨[.val cd,.val I],[.sh cd,.val .bool],fun x=>zS.f n x.1 x.2.1⟩
theorem zS.ok (n:Nat):aP 70 (zS.ae n):=aU n [(1,⟨[(19,.bool)],[],[1,2,4],[]⟩)] [] (ai ⟨eH.sound n,eH.aD⟩ (ai ⟨bY.sound n,bY.aD⟩ (ai (r_.ok n) (ai (zR.ok n) aK)))) aL func70
def ln.la:LA:=⟨[(0,.int .i64),(1,.int .i64),(2,.own 0 dO)],[(0,.row true dO)],[],[]⟩
def ln.lb:LA:=⟨[(0,.agg [.int .i64,.int .i64,.own 1000 dO])],[(1000,.row true dO)],[],[]⟩
def ln.f (n:Nat) (a0 a1:Int) (a2:List Instr):Option (Int×Int×List Instr×Unit):=ab ((a2.length+([(8,0,0,0)]:List Instr).length)*32≤bo) (some (a0,a1,a2++[(8,0,0,0)],()))
def ln.ae (n:Nat):dn:=⟨ln.la,ln.lb,fun x=>ln.f n x.1 x.2.1 x.2.2.1⟩
theorem ln.ok (n:Nat):pD 266 (ln.ae n):=rv n [] [] aK aL func266
def lp.f (n:Nat) (a0 a1:Int):Option (Instr×Unit):=some ((1,a0,a1,0),())
def lp.ae (n:Nat):au:=⟨[.val I,.val I],[.val dO],fun x=>lp.f n x.1 x.2.1⟩
theorem lp.ok (n:Nat):aP 264 (lp.ae n):=aU n [] [] aK aL func264
def lM.f (n:Nat) (a0 a1:Int):Option (Instr×Unit):=some ((2,a0,a1,0),())
def lM.ae (n:Nat):au:=⟨[.val I,.val I],[.val dO],fun x=>lM.f n x.1 x.2.1⟩
theorem lM.ok (n:Nat):aP 265 (lM.ae n):=aU n [] [] aK aL func265
def zT.f (n:Nat) (a0:BB):Option (Program×Unit):=br (decide (a0=([116,104,114,111,117,103,104]:BB))) ((lp.f n 0 0).bind fun r1=>(lM.f n 0 0).bind fun r2=>(ln.f n 1 1 ([r1.1,r2.1]:List Instr)).bind fun r3=>some ((r3.1,r3.2.1,r3.2.2.1),())) (br (decide (a0=([99,111,112,121]:BB))) ((lp.f n 0 0).bind fun r4=>(lM.f n 0 0).bind fun r5=>(lM.f n 0 1).bind fun r6=>(ln.f n 1 2 ([r4.1,r5.1,r6.1]:List Instr)).bind fun r7=>some ((r7.1,r7.2.1,r7.2.2.1),())) (br (decide (a0=([115,105,110,107]:BB))) ((lp.f n 0 0).bind fun r8=>(ln.f n 1 0 ([r8.1]:List Instr)).bind fun r9=>some ((r9.1,r9.2.1,r9.2.2.1),())) (br (decide (a0=([97,100,100]:BB))) ((lp.f n 0 0).bind fun gv=>(lp.f n 1 1).bind fun dT=>(lM.f n 0 0).bind fun fh=>(ln.f n 2 1 ([gv.1,dT.1,(4,0,0,1),fh.1]:List Instr)).bind fun fU=>some ((fU.1,fU.2.1,fU.2.2.1),())) (br (decide (a0=([97,108,116,101,114,110,97,116,101]:BB))) ((lp.f n 0 0).bind fun iA=>(lM.f n 0 0).bind fun fV=>(lp.f n 0 1).bind fun jf=>(lM.f n 0 0).bind fun fD=>(ln.f n 2 1 ([iA.1,fV.1,jf.1,fD.1]:List Instr)).bind fun dw=>some ((dw.1,dw.2.1,dw.2.2.1),())) (br (decide (a0=([115,112,108,105,116]:BB))) ((lp.f n 0 0).bind fun nF=>(lM.f n 0 0).bind fun jM=>(lp.f n 0 0).bind fun cV=>(lM.f n 0 1).bind fun gA=>(ln.f n 1 2 ([nF.1,jM.1,cV.1,gA.1]:List Instr)).bind fun ec=>some ((ec.1,ec.2.1,ec.2.2.1),())) (br (decide (a0=([115,117,109,115]:BB))) ((lp.f n 1 0).bind fun G3=>(lM.f n 0 0).bind fun oN=>(ln.f n 1 1 ([G3.1,(4,0,0,1),oN.1]:List Instr)).bind fun km=>some ((km.1,km.2.1,km.2.2.1),())) (br (decide (a0=([115,116,101,112,115]:BB))) ((lp.f n 1 0).bind fun di=>(lM.f n 2 0).bind fun eB=>(ln.f n 1 1 ([di.1,(5,2,1,0),eB.1,(3,3,0,0),(4,0,1,3)]:List Instr)).bind fun iT=>some ((iT.1,iT.2.1,iT.2.2.1),())) (br (decide (a0=([116,119,105,99,101]:BB))) ((lp.f n 0 0).bind fun cF=>(lM.f n 0 0).bind fun lG=>(lM.f n 0 0).bind fun iW=>(ln.f n 1 1 ([cF.1,lG.1,iW.1]:List Instr)).bind fun kE=>some ((kE.1,kE.2.1,kE.2.2.1),())) (br (decide (a0=([99,111,117,110,116]:BB))) ((lM.f n 0 0).bind fun mT=>(ln.f n 0 1 ([mT.1,(3,1,1,0),(4,0,0,1)]:List Instr)).bind fun mr=>some ((mr.1,mr.2.1,mr.2.2.1),())) (br (decide (a0=([112,105,99,107]:BB))) ((lp.f n 0 0).bind fun xn=>(lp.f n 1 2).bind fun PG=>(lp.f n 1 1).bind fun nP=>(lM.f n 1 0).bind fun GU=>(ln.f n 3 1 ([xn.1,(9,0,4,0),PG.1,(8,0,5,0),nP.1,GU.1]:List Instr)).bind fun tB=>some ((tB.1,tB.2.1,tB.2.2.1),())) (some ((0,0,[]),()))))))))))))
def zT.ae (n:Nat):au:=⟨[.val .str],[.val b_],fun x=>zT.f n x.1⟩
theorem zT.ok (n:Nat):aP 223 (zT.ae n):=aU n [] [] (ai (lp.ok n) (ai (lM.ok n) aK)) (eM (ln.ok n) aL) func223
def xq.f (n:Nat) (a0:aq) (a1:Int):Option (aq×Bool×Unit):=cut ((ez.f n a0).bind fun r3=>br (!r3.1) (some (.inr (true,()))) (br (decide (a1<0)) (some (.inr (true,()))) (some (.inr (decide ((a0.2.length:Int)≤a1),()))))) fun y2=>br y2.1 (some (([],[]),false,())) ((pY.f n a0).bind fun r4=>(zT.f n ([116,104,114,111,117,103,104]:BB)).bind fun r5=>ab ((r4.1.1.length+([r5.1]:List Program).length)*40≤bo) (ab (0≤a1∧a1<(r4.1.2.length:Int)) (let v6:=(r4.1.2.set a1.toNat ((r4.1.2.getD a1.toNat aE).1,(r4.1.2.getD a1.toNat aE).2.1,(r4.1.1.length:Int),(r4.1.2.getD a1.toNat aE).2.2.2)); let v7:=(v6.set a1.toNat ((v6.getD a1.toNat aE).1,(v6.getD a1.toNat aE).2.1,(v6.getD a1.toNat aE).2.2.1,0,(v6.getD a1.toNat aE).2.2.2.2)); ab ((v7.length+([((r4.1.1.length:Int),0,(r4.1.2.getD a1.toNat aE).2.2.1,(r4.1.2.getD a1.toNat aE).2.2.2.1,[])]:List bb).length)*56≤bo) ((vg.f n (r4.1.1++[r5.1],v7++[((r4.1.1.length:Int),0,(r4.1.2.getD a1.toNat aE).2.2.1,(r4.1.2.getD a1.toNat aE).2.2.2.1,[])])).bind fun r8=>some (r8.1,r8.2.1,())))))
def xq.ae (n:Nat):au:=⟨[.val cd,.val I],[.sh cd,.val .bool],fun x=>xq.f n x.1 x.2.1⟩
theorem xq.ok (n:Nat):aP 166 (xq.ae n):=aU n [(1,⟨[(23,.bool)],[],[1,2,4],[]⟩)] [] (ai ⟨ez.sound n,ez.aD⟩ (ai (pY.ok n) (ai (zT.ok n) (ai (vg.ok n) aK)))) aL func166
end Go.AmT
namespace Go.AmT
variable {n:Nat} {nt:aq}
theorem Qc (h:dq nt) (hn:1048576<n):r_.f n nt=some (nt,()):=by
 have hp:=h.eX;have hl:=h.dB;unfold r_.f;refine Eq.trans (yO nt.1 id (fun i s=>(i,s,())) (R:=fun ps=>some ((ps,nt.2),())) (fun ih i hi s hs=>?_) (fun ih ps=>?_) (by omega)) (by simp)
 ·have c0:0≤(i:Int):=by omega
  have c1:(i:Int)<(nt.1.length:Int):=by omega
  have e1:nt.1.getD i bC=nt.1[i]:=aJ hi _;simp only [c1,c0,and_self,qA,decide_true,aB,ay,e1,afo (h.prog _ (ct hi)),aC];rw [db (by simp; omega),a_ (by omega)]; rfl
 simp only [av (bR _)];refine Eq.trans (yO nt.2 id (fun i s=>(i,ps,s,())) (R:=fun ls=>some ((ps,ls),())) (fun ih i hi s hs=>?_) (fun ih ls=>av (bR _)) (by omega)) (by simp);have c0:0≤(i:Int):=by omega
 have c1:(i:Int)<(nt.2.length:Int):=by omega
 have e1:nt.2.getD i aE=nt.2[i]:=aJ hi _;simp only [c1,c0,and_self,qA,decide_true,aB,ay,e1,afq (h.link _ (ct hi)),aC];rw [db (by simp; omega),a_ (by omega)]; rfl
def through:Program:=(1,1,[(1,0,0,0),(2,0,0,0),(8,0,0,0)])
def XO:BB:=[116,104,114,111,117,103,104]
theorem afu (hn:1048576<n):zR.f n XO=some (through,()):=by
 obtain ⟨m,rfl⟩:∃ m,n=m+3:=⟨n-3,by omega⟩
 rfl
theorem afv : zT.f n XO=some (through,()):=by rfl
def xt (nt:aq) (k:Nat):aq:=
 (nt.1++[through],nt.2.set k ((nt.2.getD k aE).1,(nt.2.getD k aE).2.1,(nt.1.length:Int),0,(nt.2.getD k aE).2.2.2.2)++[((nt.1.length:Int),0,(nt.2.getD k aE).2.2.1,(nt.2.getD k aE).2.2.2.1,[])])
noncomputable def mz (nt:aq) (k:Int):aq×Bool×Unit:=
 if (cm nt&&decide (0≤k∧k<(nt.2.length:Int)))=true then (if cm (xt nt k.toNat)=true then (xt nt k.toNat,true,()) else (([],[]),false,())) else (([],[]),false,())
theorem XP {k:Nat} (h:dq nt) (o:cm nt=true) (hk:k<nt.2.length):dq (xt nt k):=by
 have o':cK nt:=of_decide_eq_true o;have h1:=o'.eX;have h2:=o'.dB;have ht:=(h.link _ (ct hk)).tokens;refine ⟨by simp [xt]; omega,fun p hp=>?_,by simp [xt]; omega,fun l hl=>?_⟩
 ·simp only [xt,List.mem_append,List.mem_singleton] at hp;rcases hp with hp | rfl
  ·exact h.prog p hp
  exact ⟨by decide⟩
 simp only [xt,List.mem_append,List.mem_singleton] at hl;rcases hl with hl | rfl
 ·rcases XH hl with hl | rfl
  ·exact h.link l hl
  exact ⟨by simpa [hk] using ht⟩
 exact ⟨by simp⟩
theorem afw {k:Int} (h:dq nt) (hn:1048576<n):zS.f n nt k=some (mz nt k):=by
 have hp:=h.eX;have hl:=h.dB;unfold zS.f mz;rw [rz h hn,nG,bP (by omega) (by omega)];simp only [aC];have e:cut (α:=(Bool×Unit)) (ρ:=aq×Bool×Unit) (br (!cm nt) (some (.inr (true,()))) (some (.inr (!(decide (0≤k)&&decide (k≤(nt.2.length:Int)-1)),()))))=fun f=>f (!(cm nt&&decide (0≤k∧k<(nt.2.length:Int))),()):=by funext f;by_cases a:0≤k<;>by_cases b:k≤(nt.2.length:Int)-1<;>cases cm nt<;>simp [a,b,br,cut]<;>(congr 2; simp; omega)
 rw [e];simp only;cases hb:(cm nt&&decide (0≤k∧k<(nt.2.length:Int)))
 ·rfl
 simp only [Bool.not_true,ar,if_true];simp only [Bool.and_eq_true,decide_eq_true_eq] at hb;obtain ⟨o,k0,k1⟩:=hb;obtain ⟨j,rfl⟩:∃ j:Nat,k=(j:Int):=⟨k.toNat,by omega⟩
 have hj:j<nt.2.length:=by omega
 have hj2:∀ x:bb,j<(nt.2++[x]).length:=fun x=>by simp; omega
 rw [show zR.f n [116,104,114,111,117,103,104]=some (through,()) from afu hn,Qc h hn];simp only [aC,ay,k0,k1,and_self,qA];rw [db (by simp; omega),db (by simp; omega),af (by simp; omega),af (by simp; omega)];simp only [mW (hj2 _),List.set_set];have e2:∀ x:bb,(nt.2++[x]).getD j aE=nt.2.getD j aE:=fun x=>by simp [List.getElem?_append_left hj]
 have e3:∀ x y:bb,(nt.2++[x]).set j y=nt.2.set j y++[x]:=fun x y=>List.set_append_left _ _ hj;simp only [e2,e3];have hS:=XP h o hj;have:=rz hS hn;unfold xt at this ⊢;rw [this];simp only [aC];cases cm _<;>rfl
theorem afx {k:Int} (h:dq nt) (hn:1048576<n):xq.f n nt k=some (mz nt k):=by
 have hp:=h.eX;have hl:=h.dB;unfold xq.f mz;rw [s6 h hn];simp only [aC];have e:cut (α:=(Bool×Unit)) (ρ:=aq×Bool×Unit) (br (!cm nt) (some (.inr (true,()))) (br (decide (k<0)) (some (.inr (true,()))) (some (.inr (decide ((nt.2.length:Int)≤k),())))))=fun f=>f (!(cm nt&&decide (0≤k∧k<(nt.2.length:Int))),()):=by funext f;by_cases a:k<0<;>by_cases b:(nt.2.length:Int)≤k<;>cases cm nt<;>simp [a,b,br,cut]<;>(congr 2; simp; omega)
 rw [e];simp only;cases hb:(cm nt&&decide (0≤k∧k<(nt.2.length:Int)))
 ·rfl
 simp only [Bool.not_true,ar,if_true];simp only [Bool.and_eq_true,decide_eq_true_eq] at hb;obtain ⟨o,k0,k1⟩:=hb;obtain ⟨j,rfl⟩:∃ j:Nat,k=(j:Int):=⟨k.toNat,by omega⟩
 have hj:j<nt.2.length:=by omega
 rw [show zT.f n [116,104,114,111,117,103,104]=some (through,()) from afv,Kj h hn];simp only [aC,ay,k0,k1,and_self,qA];rw [db (by simp; omega),db (by simp; omega)];simp only [mW hj,List.set_set];have hS:=XP h o hj;have:=XK hS hn;unfold xt at this ⊢;rw [this];simp only [aC]
end Go.AmT
namespace Go.AmT
open Go.Proofs Go.Proofs.Tryz
def zU.f (n:Nat) (a0:aq) (a1:State) (a2:Int):Option (Bool×Unit):=(mb.f n a0 a1).bind fun r1=>br (!r1.1) (some (false,())) ((kg.f n a0.1 a0.2 a1.1 a1.2.1 a1.2.2.1 a1.2.2.2 (none:Option (List Int))).bind fun r2=>(Bf.f n ((r2.1,r2.2.1),(r2.2.2.2.2.1,r2.2.2.2.2.2.1,r2.2.2.2.2.2.2.1,r2.2.2.1),r2.2.2.2.2.2.2.2.1,r2.2.2.2.2.2.2.2.2.1,r2.2.2.2.1) a2).bind fun r3=>br r3.1 ((can.f n ((r2.1,r2.2.1),(r2.2.2.2.2.1,r2.2.2.2.2.2.1,r2.2.2.2.2.2.2.1,r2.2.2.1),r2.2.2.2.2.2.2.2.1,r2.2.2.2.2.2.2.2.2.1,r2.2.2.2.1) a2).bind fun r4=>some (r4.1,())) (some (false,())))
def zU.ae (n:Nat):au:=⟨[.val cd,.val dG,.val I],[.val .bool],fun x=>zU.f n x.1 x.2.1 x.2.2.1⟩
theorem zU.ok (n:Nat):aP 224 (zU.ae n):=aU n [] [] (ai (mb.ok n) (ai (Bf.ok n) (ai (can.ok n) aK))) (eM (kg.ok n) aL) func224
def vh.f (n:Nat) (a0:aq) (a1:State) (a2:Int):Option (Bool×Unit):=(nI.f n a0 a1).bind fun r1=>br r1.1 ((yW.f n a0 a2).bind fun r2=>br r2.1 ((ki.f n a0 a1 a2).bind fun r3=>some (r3.1,())) (some (false,()))) (some (false,()))
def vh.ae (n:Nat):au:=⟨[.val cd,.val dG,.val I],[.val .bool],fun x=>vh.f n x.1 x.2.1 x.2.2.1⟩
theorem vh.ok (n:Nat):aP 134 (vh.ae n):=aU n [] [] (ai (nI.ok n) (ai (yW.ok n) (ai (ki.ok n) aK))) aL func134
def xu.f (n:Nat) (a0:aq) (a1:State) (a2:Int):Option (State×Bool×Unit):=(zU.f n a0 a1 a2).bind fun r1=>br (!r1.1) (some (([],[],[],0),false,())) ((kg.f n a0.1 a0.2 a1.1 a1.2.1 a1.2.2.1 a1.2.2.2 (none:Option (List Int))).bind fun r2=>(k9.f n a2 r2.1 r2.2.1 r2.2.2.1 r2.2.2.2.1 r2.2.2.2.2.1 r2.2.2.2.2.2.1 r2.2.2.2.2.2.2.1 r2.2.2.2.2.2.2.2.1 r2.2.2.2.2.2.2.2.2.1).bind fun r3=>some ((r3.2.2.2.2.1,r3.2.2.2.2.2.1,r3.2.2.2.2.2.2.1,r3.2.2.1),true,()))
def xu.ae (n:Nat):au:=⟨[.val cd,.val dG,.val I],[.val dG,.val .bool],fun x=>xu.f n x.1 x.2.1 x.2.2.1⟩
theorem xu.ok (n:Nat):aP 167 (xu.ae n):=aU n [] [] (ai (zU.ok n) aK) (eM (kg.ok n) (eM (k9.ok n) aL)) func167
def zV.f (n:Nat) (a0:aq) (a1:State) (a2:Int):Option (State×Bool×Unit):=(vh.f n a0 a1 a2).bind fun r1=>br (!r1.1) (some (([],[],[],0),false,())) ((mh.f n a1).bind fun r2=>(k_.f n a0.1 a0.2 r2.1.2.2.2 a2 r2.1.1 r2.1.2.1 r2.1.2.2.1).bind fun r3=>some ((r3.2.1,r3.2.2.1,r3.2.2.2.1,r3.1),true,()))
def zV.ae (n:Nat):au:=⟨[.val cd,.val dG,.val I],[.sh dG,.val .bool],fun x=>zV.f n x.1 x.2.1 x.2.2.1⟩
theorem zV.ok (n:Nat):aP 73 (zV.ae n):=aU n [] [] (ai (vh.ok n) (ai (mh.ok n) aK)) (eM (k_.ok n) aL) func73
def zW.f (n:Nat) (a0:aq) (a1:State):Option (List Int×Unit):=(mb.f n a0 a1).bind fun r1=>br (!r1.1) (some ([],())) ((kg.f n a0.1 a0.2 a1.1 a1.2.1 a1.2.2.1 a1.2.2.2 (none:Option (List Int))).bind fun r2=>iter n (fun Bs aN=>br (decide (aN.1<(a0.1.length:Int))) ((iP.f n ((r2.1,r2.2.1),(r2.2.2.2.2.1,r2.2.2.2.2.2.1,r2.2.2.2.2.2.2.1,r2.2.2.1),r2.2.2.2.2.2.2.2.1,r2.2.2.2.2.2.2.2.2.1,r2.2.2.2.1) aN.1).bind fun km=>cut (br (!decide (km.1=2)) (some (.inr (true,()))) (ab (0≤km.2.1∧km.2.1<(a1.2.1.length:Int)) (let Qd:=(a1.2.1.getD km.2.1.toNat []); some (.inr (decide (0<(Qd.length:Int)),()))))) fun y28=>cut (br y28.1 (some (.inr (-1,()))) (some (.inr (km.2.1,())))) fun XQ=>ab ((aN.2.1.length+([XQ.1]:List Int).length)*8≤bo) (Bs (ah (aN.1+1),aN.2.1++[XQ.1],()))) (some (aN.2.1,()))) (0,[],()))
def zW.ae (n:Nat):au:=⟨[.val cd,.val dG],[.val IS],fun x=>zW.f n x.1 x.2.1⟩
theorem zW.ok (n:Nat):aP 163 (zW.ae n):=aU n [(7,⟨[(6,.own 1000 I),(21,.int .i64)],[(1000,.row true I)],[3,5,20],[]⟩),(13,⟨[(40,.bool)],[],[3,5,6,9,20,21],[]⟩),(14,⟨[(9,.int .i64)],[],[3,5,6,20,21],[]⟩)] [] (ai (mb.ok n) (ai (iP.ok n) aK)) (eM (kg.ok n) aL) func163
def zX.f (n:Nat) (a0:aq) (a1:State):Option (List Int×Unit):=(nI.f n a0 a1).bind fun r1=>br (!r1.1) (some ([],())) (iter n (fun GX h_=>br (decide (h_.1<(a0.1.length:Int))) (ab (0≤h_.1∧h_.1<(a0.1.length:Int)) (let GY:=(a0.1.getD h_.1.toNat bC); ab (0≤h_.1∧h_.1<(a1.1.length:Int)) (let v20:=(a1.1.getD h_.1.toNat bK); (gW.f n GY v20).bind fun cV=>(kZ.f n a0 a1 h_.1).bind fun gA=>cut (br (!decide (cV.1=2)) (some (.inr (true,()))) (ab (0≤gA.1∧gA.1<(a1.2.1.length:Int)) (let F2:=(a1.2.1.getD gA.1.toNat []); some (.inr (decide (0<(F2.length:Int)),()))))) fun Ox=>cut (br Ox.1 (some (.inr (-1,()))) (some (.inr (gA.1,())))) fun Jy=>ab ((h_.2.1.length+([Jy.1]:List Int).length)*8≤bo) (GX (ah (h_.1+1),h_.2.1++[Jy.1],()))))) (some (h_.2.1,()))) (0,[],()))
def zX.ae (n:Nat):au:=⟨[.val cd,.val dG],[.val IS],fun x=>zX.f n x.1 x.2.1⟩
theorem zX.ok (n:Nat):aP 60 (zX.ae n):=aU n [(7,⟨[(5,.own 1000 I),(18,.int .i64)],[(1000,.row true I)],[2,3,17],[]⟩),(14,⟨[(49,.bool)],[],[2,3,5,9,17,18],[]⟩),(15,⟨[(9,.int .i64)],[],[2,3,5,17,18],[]⟩)] [] (ai (nI.ok n) (ai (gW.ok n) (ai (kZ.ok n) aK))) aL func60
end Go.AmT
