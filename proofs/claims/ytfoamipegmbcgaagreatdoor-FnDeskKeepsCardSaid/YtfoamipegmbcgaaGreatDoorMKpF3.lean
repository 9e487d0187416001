/- Functions that the law FnDeskKeeps reaches, each as a plain Lean function, and that each does what that says. No condition. -/
import Derived.Test.YtfoamipegmbcgaaGreatDoorMKpF2
namespace Go.AmT
noncomputable section
open Go Go.Am Go.Proofs
set_option linter.unusedVariables false
set_option maxRecDepth 100000
abbrev kK:Type:=ai×(State×(List (List Int)×(List (List Int)×Option (List Int))))
def cd.f (n:Nat) (a0:List Int):Option ((List Int)×Unit):=ab ((([]:List Int).length+a0.length)*8≤aW) (some ((([]:List Int)++a0),()))
def cd.ae (n:Nat):ar:=⟨[.val (.sl I)],[.val (.sl I)],fun x=>cd.f n x.1⟩
def cd.cfg (n:Nat):aP:=⟨ly,[],[],[]⟩
theorem cd.az:cG Tryz.prog 64:=dz Tryz.func64 (by kernel_rfl) (by kernel_rfl)
theorem cd.HN:∀ (n:Nat),uj (cd.cfg n) n Tryz.f64 (d_ Tryz.f64 []) [.val (.sl I)] [.val (.sl I)] .nil [] []=some (([]:List Int),()):=by
 intros
 kernel_rfl
theorem cd.HO:∀ (n:Nat) (a0:List Int),uj (cd.cfg n) n Tryz.f64 (d_ Tryz.f64 []) [.val (.sl I)] [.val (.sl I)] (.cu I (some a0)) [] []=cd.f n a0:=by
 intros
 kernel_rfl
theorem cd.sound (n:Nat):Sound Tryz.prog 64 (cd.ae n):=
 KQ (t:=I) (ps:=[]) (rs:=[.val (.sl I)]) (F:=fun x=>cd.f n x.1) (uw mixed (su (.of (c:=cd.cfg n) trivial) (.of (c:=cd.cfg n) trivial)) (dM km)) (dM km) Tryz.func64
  (fun x y hy hx=>by
   have hy:cd.f n x.1=some y:=hy
   rw [hx] at hy
   unfold cd.f ab at hy
   split at hy
   ·exact (cd.HN n).trans hy
   ·simp at hy)
  (fun x y hy=>(cd.HO n x.1).trans hy)
def sO.f (n:Nat) (a0:List (List Int)):Option ((List (List Int))×Unit):=iter (α:=(Int×(List (List Int))×Unit)) n (fun lA x6=>br (decide (x6.1<(a0.length:Int))) (ab (0≤x6.1∧x6.1<(a0.length:Int)) ((cd.f n (a0.getD x6.1.toNat [])).bind fun r8=>ab ((x6.2.1.length+([r8.1]:List (List Int)).length)*24≤aW) (lA ((ag (x6.1+1)),((x6.2.1++[r8.1]),()))))) (some (x6.2.1,()))) (0,([],()))
def sO.ae (n:Nat):ar:=⟨[.val (.sl IS)],[.val (.sl IS)],fun x=>sO.f n x.1⟩
theorem sO.ok (n:Nat):aN 112 (sO.ae n):=aQ n [(4,⟨[(3,.own 1000 IS),(9,.int .i64)],[(1000,.row true IS)],[7,8],[]⟩)] [] (ak ⟨cd.sound n,cd.az⟩ aC) aD Tryz.func112
def qN.f (n:Nat) (a0:State):Option (State×Unit):=(sO.f n a0.2.1).bind fun r1=>(sO.f n a0.2.2.1).bind fun r2=>iter (α:=(Int×(Int×(List a_)×(List (List Int))×(List (List Int))×Unit))) n (fun VA mw=>br (decide (mw.1<(a0.1.length:Int))) (ab (0≤mw.1∧mw.1<(a0.1.length:Int)) (let v24:=(a0.1.getD mw.1.toNat ba); (cd.f n v24.2).bind fun eS=>ab ((mw.2.2.1.length+([(v24.1,eS.1)]:List a_).length)*32≤aW) (VA ((ag (mw.1+1)),(mw.2.1,((mw.2.2.1++[(v24.1,eS.1)]),(mw.2.2.2.1,(mw.2.2.2.2.1,())))))))) (some ((mw.2.2.1,(mw.2.2.2.1,(mw.2.2.2.2.1,mw.2.1))),()))) (0,(a0.2.2.2,([],(r1.1,(r2.1,())))))
def qN.ae (n:Nat):ar:=⟨[.val e9],[.val e9],fun x=>qN.f n x.1⟩
theorem qN.ok (n:Nat):aN 63 (qN.ae n):=aQ n [(4,⟨[(3,.aJ 1000 0),(18,.int .i64)],[(1000,.cells [] [.own 1001 bu,.own 1002 IS,.own 1003 IS,.int .i64]),(1001,.row true bu),(1002,.row true IS),(1003,.row true IS)],[2,16,17],[]⟩)] [] (ak (sO.ok n) (ak ⟨cd.sound n,cd.az⟩ aC)) aD Tryz.func63
def iB.la:LA:=⟨[(0,.agg [.sh bn,.sh cq]),(1,.agg [.sh bu,.sh IS,.sh IS,.int .i64]),(2,.cu I)],[],[],[]⟩
def iB.lb:LA:=⟨[(0,.aJ 1000 0)],[(1000,.cells [] [.sh bn,.sh cq,.own 1001 bu,.own 1002 IS,.own 1003 IS,.int .i64,.own 1004 IS,.own 1005 IS,.cu I]),(1001,.row true bu),(1002,.row true IS),(1003,.row true IS),(1004,.row true IS),(1005,.row true IS)],[],[]⟩
def iB.f (n:Nat) (a0:List Program) (a1:List aG) (a2:List a_) (a3:List (List Int)) (a4:List (List Int)) (a5:Int) (a6:Option (List Int)):Option ((List Program)×(List aG)×(Int×(Option (List Int))×(List a_)×(List (List Int))×(List (List Int))×(List (List Int))×(List (List Int))×Unit)):=(qN.f n (a2,(a3,(a4,a5)))).bind fun r1=>iter (α:=(Int×(List Program)×(List aG)×(Int×(Option (List Int))×(List a_)×(List (List Int))×(List (List Int))×(List (List Int))×(List (List Int))×Unit))) n (fun HP ei=>br (decide (ei.1<(a0.length:Int))) (ab (0≤ei.1∧ei.1<(a0.length:Int)) (let fQ:=(a0.getD ei.1.toNat bp); ab (fQ.1=fQ.1∧0≤fQ.1∧fQ.1*(8:Int)≤(aW:Int)) (ab ((ei.2.2.2.2.2.2.2.2.1.length+([(List.replicate fQ.1.toNat (0:Int))]:List (List Int)).length)*24≤aW) (ab (fQ.2.1=fQ.2.1∧0≤fQ.2.1∧fQ.2.1*(8:Int)≤(aW:Int)) (ab ((ei.2.2.2.2.2.2.2.2.2.1.length+([(List.replicate fQ.2.1.toNat (0:Int))]:List (List Int)).length)*24≤aW) (HP ((ag (ei.1+1)),(ei.2.1,(ei.2.2.1,(ei.2.2.2.1,(ei.2.2.2.2.1,(ei.2.2.2.2.2.1,(ei.2.2.2.2.2.2.1,(ei.2.2.2.2.2.2.2.1,((ei.2.2.2.2.2.2.2.2.1++[(List.replicate fQ.1.toNat (0:Int))]),((ei.2.2.2.2.2.2.2.2.2.1++[(List.replicate fQ.2.1.toNat (0:Int))]),())))))))))))))))) (iter (α:=(Int×(List Program)×(List aG)×(Int×(Option (List Int))×(List a_)×(List (List Int))×(List (List Int))×(List (List Int))×(List (List Int))×Unit))) n (fun MZ dN=>br (decide (dN.1<(a1.length:Int))) (ab (0≤dN.1∧dN.1<(a1.length:Int)) (let jT:=(a1.getD dN.1.toNat aM); cut (α:=((List Program)×(List aG)×(Int×(Option (List Int))×(List a_)×(List (List Int))×(List (List Int))×(List (List Int))×(List (List Int))×Unit))) (br (decide (0≤jT.2.2.1)) (ab (0≤jT.2.2.1∧jT.2.2.1<(dN.2.2.2.2.2.2.2.2.1.length:Int)) (ab (0≤jT.2.2.2.1∧jT.2.2.2.1<((dN.2.2.2.2.2.2.2.2.1.getD jT.2.2.1.toNat []).length:Int)) (let VB:=(dN.2.2.2.2.2.2.2.2.1.set jT.2.2.1.toNat ((dN.2.2.2.2.2.2.2.2.1.getD jT.2.2.1.toNat []).set jT.2.2.2.1.toNat dN.1)); some (.inr (dN.2.1,(dN.2.2.1,(dN.2.2.2.1,(dN.2.2.2.2.1,(dN.2.2.2.2.2.1,(dN.2.2.2.2.2.2.1,(dN.2.2.2.2.2.2.2.1,(VB,(dN.2.2.2.2.2.2.2.2.2.1,()))))))))))))) (some (.inr (dN.2.1,(dN.2.2.1,(dN.2.2.2.1,(dN.2.2.2.2.1,(dN.2.2.2.2.2.1,(dN.2.2.2.2.2.2.1,(dN.2.2.2.2.2.2.2.1,(dN.2.2.2.2.2.2.2.2.1,(dN.2.2.2.2.2.2.2.2.2.1,())))))))))))) fun iS=>br (decide (0≤jT.1)) (ab (0≤jT.1∧jT.1<(iS.2.2.2.2.2.2.2.2.1.length:Int)) (ab (0≤jT.2.1∧jT.2.1<((iS.2.2.2.2.2.2.2.2.1.getD jT.1.toNat []).length:Int)) (let v59:=(iS.2.2.2.2.2.2.2.2.1.set jT.1.toNat ((iS.2.2.2.2.2.2.2.2.1.getD jT.1.toNat []).set jT.2.1.toNat dN.1)); MZ ((ag (dN.1+1)),(iS.1,(iS.2.1,(iS.2.2.1,(iS.2.2.2.1,(iS.2.2.2.2.1,(iS.2.2.2.2.2.1,(iS.2.2.2.2.2.2.1,(iS.2.2.2.2.2.2.2.1,(v59,()))))))))))))) (MZ ((ag (dN.1+1)),(iS.1,(iS.2.1,(iS.2.2.1,(iS.2.2.2.1,(iS.2.2.2.2.1,(iS.2.2.2.2.2.1,(iS.2.2.2.2.2.2.1,(iS.2.2.2.2.2.2.2.1,(iS.2.2.2.2.2.2.2.2.1,()))))))))))))) (some (dN.2.1,(dN.2.2.1,(dN.2.2.2.1,(dN.2.2.2.2.1,(dN.2.2.2.2.2.1,(dN.2.2.2.2.2.2.1,(dN.2.2.2.2.2.2.2.1,(dN.2.2.2.2.2.2.2.2.1,(dN.2.2.2.2.2.2.2.2.2.1,()))))))))))) (0,(ei.2.1,(ei.2.2.1,(ei.2.2.2.1,(ei.2.2.2.2.1,(ei.2.2.2.2.2.1,(ei.2.2.2.2.2.2.1,(ei.2.2.2.2.2.2.2.1,(ei.2.2.2.2.2.2.2.2.1,(ei.2.2.2.2.2.2.2.2.2.1,())))))))))))) (0,(a0,(a1,(r1.1.2.2.2,(a6,(r1.1.1,(r1.1.2.1,(r1.1.2.2.1,([],([],()))))))))))
def iB.ae (n:Nat):bS:=⟨iB.la,iB.lb,fun x=>iB.f n x.1 x.2.1 x.2.2.1 x.2.2.2.1 x.2.2.2.2.1 x.2.2.2.2.2.1 x.2.2.2.2.2.2.1⟩
theorem iB.ok (n:Nat):eP 39 (iB.ae n):=fm n [(4,⟨[(7,.aJ 1000 0),(21,.int .i64)],[(1000,.cells [] [.sh bn,.sh cq,.own 1001 bu,.own 1002 IS,.own 1003 IS,.int .i64,.own 1004 IS,.own 1005 IS,.cu I]),(1001,.row true bu),(1002,.row true IS),(1003,.row true IS),(1004,.row true IS),(1005,.row true IS)],[3,19,20],[]⟩),(13,⟨[(7,.aJ 1000 0),(53,.int .i64)],[(1000,.cells [] [.sh bn,.sh cq,.own 1001 bu,.own 1002 IS,.own 1003 IS,.int .i64,.own 1004 IS,.own 1005 IS,.cu I]),(1001,.row true bu),(1002,.row true IS),(1003,.row true IS),(1004,.row true IS),(1005,.row true IS)],[51,52],[]⟩),(19,⟨[(7,.aJ 1000 0)],[(1000,.cells [] [.sh bn,.sh cq,.own 1001 bu,.own 1002 IS,.own 1003 IS,.int .i64,.own 1004 IS,.own 1005 IS,.cu I]),(1001,.row true bu),(1002,.row true IS),(1003,.row true IS),(1004,.row true IS),(1005,.row true IS)],[10,11,51,52,53],[]⟩)] [] (ak (qN.ok n) aC) aD Tryz.func39
def w7.f (n:Nat) (a0:kK) (a1:Int):Option (Bool×Unit):=br (decide (0≤a1)) (some ((decide (a1<(a0.1.1.length:Int))),())) (some (false,()))
def w7.ae (n:Nat):ar:=⟨[.ee uF,.val I],[.val .bool],fun x=>w7.f n x.1 x.2.1⟩
theorem w7.ok (n:Nat):aN 207 (w7.ae n):=aQ n [] [] aC aD Tryz.func207
def want.f (n:Nat) (a0:Program) (a1:a_):Option (Int×(Int×Unit)):=br (decide (a1.1=(a0.2.2.length:Int))) (some (0,(0,()))) (ab (0≤a1.1∧a1.1<(a0.2.2.length:Int)) (let v1:=(a0.2.2.getD a1.1.toNat je); br (decide (v1.1=11)) (some (0,(0,()))) (br (decide (v1.1=1)) (some (2,(v1.2.2.1,()))) (br (decide (v1.1=2)) (some (3,(v1.2.2.1,()))) (some (1,(0,())))))))
def want.ae (n:Nat):ar:=⟨[.val bn,.val bu],[.val I,.val I],fun x=>want.f n x.1 x.2.1⟩
theorem want.ok (n:Nat):aN 179 (want.ae n):=aQ n [] [] aC aD Tryz.func179
def fY.f (n:Nat) (a0:kK) (a1:Int):Option (Int×(Int×Unit)):=ab (0≤a1∧a1<(a0.1.1.length:Int)) (let v1:=(a0.1.1.getD a1.toNat bp); ab (0≤a1∧a1<(a0.2.1.1.length:Int)) (let v2:=(a0.2.1.1.getD a1.toNat ba); (want.f n v1 v2).bind fun r3=>br (decide (r3.1=2)) (ab (0≤a1∧a1<(a0.2.2.1.length:Int)) (let v4:=(a0.2.2.1.getD a1.toNat []); ab (0≤r3.2.1∧r3.2.1<(v4.length:Int)) (some (r3.1,((v4.getD r3.2.1.toNat 0),()))))) (br (decide (r3.1=3)) (ab (0≤a1∧a1<(a0.2.2.2.1.length:Int)) (let v5:=(a0.2.2.2.1.getD a1.toNat []); ab (0≤r3.2.1∧r3.2.1<(v5.length:Int)) (some (r3.1,((v5.getD r3.2.1.toNat 0),()))))) (some (r3.1,((-1),()))))))
def fY.ae (n:Nat):ar:=⟨[.ee uF,.val I],[.val I,.val I],fun x=>fY.f n x.1 x.2.1⟩
theorem fY.ok (n:Nat):aN 141 (fY.ae n):=aQ n [] [] (ak (want.ok n) aC) aD Tryz.func141
def can.f (n:Nat) (a0:kK) (a1:Int):Option (Bool×Unit):=(fY.f n a0 a1).bind fun r1=>cut (α:=(Bool×Unit)) (br (decide (r1.1=0)) (some (.inr (true,()))) (some (.inr ((decide (20000≤a0.2.1.2.2.2)),())))) fun y2=>br y2.1 (some (false,())) (br (decide (r1.1=2)) (ab (0≤r1.2.1∧r1.2.1<(a0.2.1.2.1.length:Int)) (let v3:=(a0.2.1.2.1.getD r1.2.1.toNat []); some ((decide (0<(v3.length:Int))),()))) (br (decide (r1.1=3)) (ab (0≤r1.2.1∧r1.2.1<(a0.2.1.2.2.1.length:Int)) (let v4:=(a0.2.1.2.2.1.getD r1.2.1.toNat []); some ((decide ((v4.length:Int)<400)),()))) (some (true,()))))
def can.ae (n:Nat):ar:=⟨[.ee uF,.val I],[.val .bool],fun x=>can.f n x.1 x.2.1⟩
theorem can.ok (n:Nat):aN 89 (can.ae n):=aQ n [(3,⟨[(13,.bool)],[],[0,5,6],[]⟩)] [] (ak (fY.ok n) aC) aD Tryz.func89
def may.f (n:Nat) (a0:kK) (a1:Int):Option (Bool×Unit):=cut (α:=(Bool×Unit)) ((can.f n a0 a1).bind fun r3=>br (!r3.1) (some (.inr (true,()))) (some (.inr (a0.2.2.2.2.isNone,())))) fun y2=>br y2.1 ((can.f n a0 a1).bind fun r5=>some (r5.1,())) ((fY.f n a0 a1).bind fun r6=>br (!decide (r6.1=3)) (some (true,())) (ab (0≤r6.2.1∧r6.2.1<(a0.1.2.length:Int)) (let v7:=(a0.1.2.getD r6.2.1.toNat aM); br (decide (v7.2.2.1<0)) (some (true,())) (ab (0≤r6.2.1∧r6.2.1<(a0.2.1.2.1.length:Int)) (let v8:=(a0.2.1.2.1.getD r6.2.1.toNat []); ab (0≤r6.2.1∧r6.2.1<((a0.2.2.2.2.getD []).length:Int)) (let v9:=((a0.2.2.2.2.getD []).getD r6.2.1.toNat 0); some ((decide ((v8.length:Int)<v9)),())))))))
def may.ae (n:Nat):ar:=⟨[.ee uF,.val I],[.val .bool],fun x=>may.f n x.1 x.2.1⟩
theorem may.ok (n:Nat):aN 87 (may.ae n):=aQ n [(1,⟨[(17,.bool)],[],[0,1],[]⟩)] [] (ak (can.ok n) (ak (fY.ok n) aC)) aD Tryz.func87
def quiet.f (n:Nat) (a0:kK):Option (Bool×Unit):=iter (α:=(Int×Unit)) n (fun gP x5=>br (decide (x5.1<(a0.1.1.length:Int))) ((can.f n a0 x5.1).bind fun r7=>br r7.1 (some (false,())) (gP ((ag (x5.1+1)),()))) (some (true,()))) (0,())
def quiet.ae (n:Nat):ar:=⟨[.ee uF],[.val .bool],fun x=>quiet.f n x.1⟩
theorem quiet.ok (n:Nat):aN 42 (quiet.ae n):=aQ n [(3,⟨[(10,.int .i64)],[],[0,9],[]⟩)] [] (ak (can.ok n) aC) aD Tryz.func42
def my.f (n:Nat) (a0:Program) (a1:a_):Option (Int×(Int×Unit)):=br (decide (a1.1=(a0.2.2.length:Int))) (some (0,(0,()))) (ab (0≤a1.1∧a1.1<(a0.2.2.length:Int)) (let v1:=(a0.2.2.getD a1.1.toNat je); br (decide (v1.1=11)) (some (0,(0,()))) (br (decide (v1.1=1)) (some (2,(v1.2.2.1,()))) (br (decide (v1.1=2)) (some (3,(v1.2.2.1,()))) (some (1,(0,())))))))
def my.ae (n:Nat):ar:=⟨[.val bn,.val bu],[.val I,.val I],fun x=>my.f n x.1 x.2.1⟩
theorem my.ok (n:Nat):aN 146 (my.ae n):=aQ n [] [] aC aD Tryz.func146
def qO.f (n:Nat) (a0:ai) (a1:State) (a2:Int):Option (Int×Unit):=ab (0≤a2∧a2<(a0.1.length:Int)) (let v1:=(a0.1.getD a2.toNat bp); ab (0≤a2∧a2<(a1.1.length:Int)) (let v2:=(a1.1.getD a2.toNat ba); (my.f n v1 v2).bind fun r3=>br (decide (r3.1=2)) ((jO.f n a0 a2 r3.2.1).bind fun r4=>some (r4.1,())) (br (decide (r3.1=3)) ((jP.f n a0 a2 r3.2.1).bind fun r5=>some (r5.1,())) (some ((-1),())))))
def qO.ae (n:Nat):ar:=⟨[.val cD,.val e9,.val I],[.val I],fun x=>qO.f n x.1 x.2.1 x.2.2.1⟩
theorem qO.ok (n:Nat):aN 191 (qO.ae n):=aQ n [] [] (ak (my.ok n) (ak ⟨jO.sound n,jO.az⟩ (ak ⟨jP.sound n,jP.az⟩ aC))) aD Tryz.func191
def sP.f (n:Nat) (a0:ai) (a1:State) (a2:Int):Option (Bool×Unit):=ab (0≤a2∧a2<(a0.1.length:Int)) (let v1:=(a0.1.getD a2.toNat bp); ab (0≤a2∧a2<(a1.1.length:Int)) (let v2:=(a1.1.getD a2.toNat ba); (my.f n v1 v2).bind fun r3=>cut (α:=(Bool×Unit)) (br (decide (r3.1=0)) (some (.inr (true,()))) (some (.inr ((decide (a1.2.2.2=20000)),())))) fun y4=>br y4.1 (some (false,())) ((qO.f n a0 a1 a2).bind fun r5=>br (decide (r3.1=2)) (ab (0≤r5.1∧r5.1<(a1.2.1.length:Int)) (let v7:=(a1.2.1.getD r5.1.toNat []); some ((decide (0<(v7.length:Int))),()))) (br (decide (r3.1=1)) (some (true,())) (ab (0≤r5.1∧r5.1<(a1.2.2.1.length:Int)) (let v8:=(a1.2.2.1.getD r5.1.toNat []); some ((decide ((v8.length:Int)<400)),())))))))
def sP.ae (n:Nat):ar:=⟨[.val cD,.val e9,.val I],[.val .bool],fun x=>sP.f n x.1 x.2.1 x.2.2.1⟩
theorem sP.ok (n:Nat):aN 153 (sP.ae n):=aQ n [(2,⟨[(30,.bool)],[],[2,3,4,7],[]⟩)] [] (ak (my.ok n) (ak (qO.ok n) aC)) aD Tryz.func153
end
end Go.AmT
namespace Go.AmT
open Go Go.Am
set_option linter.unusedVariables false
set_option linter.unusedSimpArgs false
def bT (p:Program) (a:a_):Int×Int:=
 if a.1=(p.2.2.length:Int) then (0,0) else if (p.2.2.getD a.1.toNat je).1=11 then (0,0) else if (p.2.2.getD a.1.toNat je).1=1 then (2,(p.2.2.getD a.1.toNat je).2.2.1)
 else if (p.2.2.getD a.1.toNat je).1=2 then (3,(p.2.2.getD a.1.toNat je).2.2.1) else (1,0)
theorem oa {p:Program} {a:a_} (h:eH p a=true):0≤a.1∧a.1≤(p.2.2.length:Int):=by
 unfold eH at h
 simp only [Bool.and_eq_true,decide_eq_true_eq] at h
 exact ⟨h.1,h.2.1⟩
theorem iT {α:Type} {c:Prop} [Decidable c] {x y:Option α} : br (decide c) x y=if c then x else y:=by by_cases h:c<;>simp [h,br]
theorem HQ {n:Nat} {p:Program} {a:a_} (h:eH p a=true):want.f n p a=some ((bT p a).1,((bT p a).2,())):=by
 have hp:=oa h
 unfold want.f bT
 simp only [iT]
 split
 ·rfl
 ·rw [ah (by omega)]
  split
  ·rfl
  ·split
   ·rfl
   ·split<;>rfl
theorem HS {n:Nat} {p:Program} {a:a_} (h:eH p a=true):my.f n p a=some ((bT p a).1,((bT p a).2,())):=HQ (n:=n) h
theorem M_ (p:Program) (a:a_):(bT p a).1=0∨(bT p a).1=1∨(bT p a).1=2∨(bT p a).1=3:=by
 unfold bT
 repeat' (first | (simp; done) | split)
theorem M3 {p:Program} {a:a_} (hp:cr p=true) (h:eH p a=true):0≤(bT p a).2∧((bT p a).1=2→(bT p a).2<p.1)∧((bT p a).1=3→(bT p a).2<p.2.1):=by
 have jU:=oa h
 unfold cr at hp
 simp only [Bool.and_eq_true,List.all_eq_true] at hp
 have hI:=hp.2
 unfold bT
 split
 ·simp
 ·rename_i av
  have ao:a.1.toNat<p.2.2.length:=by omega
  have hx:=hI _ (List.getElem_mem ao)
  rw [aH ao]
  split
  ·simp
  ·split
   ·rename_i h1
    unfold eG at hx
    rw [if_pos h1] at hx
    simp only [Bool.and_eq_true,decide_eq_true_eq] at hx
    exact ⟨hx.2.1.1,fun _=>hx.2.1.2,fun h=>by simp at h⟩
   ·rename_i h1
    split
    ·rename_i h2
     unfold eG at hx
     rw [if_neg h1,if_pos h2] at hx
     simp only [Bool.and_eq_true,decide_eq_true_eq] at hx
     exact ⟨hx.2.1.1,fun h=>by simp at h,fun _=>hx.2.1.2⟩
    ·simp
theorem HT {α:Type} {f:α→Bool} : ∀ {ls:List α} {i j:Nat} (hi:i<ls.length) (hj:j<ls.length),ls.countP f≤1→f ls[i]=true→f ls[j]=true→i=j
 | [],i,j,hi,_,_,_,_=>by simp at hi
 | x::ls,i,j,hi,hj,hc,h1,h2=>by
  have z:∀ (k:Nat) (hk:k<ls.length),f x=true→f ls[k]=true→False:=by
   intro k hk hx hl
   rw [List.countP_cons_of_pos hx] at hc
   have:ls.countP f=0:=by omega
   rw [List.countP_eq_zero] at this
   exact this _ (List.getElem_mem hk) hl
  cases i with
  | zero=>
   cases j with
   | zero=>rfl
   | succ j=>exact (z j (by simpa using hj) (by simpa using h1) (by simpa using h2)).elim
  | succ i=>
   cases j with
   | zero=>exact (z i (by simpa using hi) (by simpa using h2) (by simpa using h1)).elim
   | succ j=>
    have wO:ls.countP f≤1:=Nat.le_trans (List.VC) hc
    rw [HT (ls:=ls) (i:=i) (j:=j) (by simpa using hi) (by simpa using hj) wO (by simpa using h1) (by simpa using h2)]
 where
 List.VC {α:Type} {f:α→Bool} {x:α} {ls:List α} : ls.countP f≤(x::ls).countP f:=by
  rw [List.countP_cons]; omega
theorem M4 {α:Type} {f:α→Bool} {ls:List α} {j:Nat} (hj:j<ls.length) (hc:ls.countP f=1) (hf:f ls[j]=true):lx f ls=(j:Int):=by
 unfold lx
 rw [if_neg (by omega),if_pos hc]
 have h1:ls.findIdx f<ls.length:=List.findIdx_lt_length_of_exists ⟨_,List.getElem_mem hj,hf⟩
 have h2:f ls[ls.findIdx f]=true:=List.findIdx_getElem (w:=h1)
 rw [HT h1 hj (by omega) h2 hf]
theorem BO {α:Type} {f:α→Bool} {ls:List α} (hc:ls.countP f=1):∃ j,∃ hj:j<ls.length,f ls[j]=true∧lx f ls=(j:Int):=by
 have h0:0<ls.countP f:=by omega
 obtain ⟨x,hx,hf⟩:=List.countP_pos_iff.1 h0
 obtain ⟨j,hj,rfl⟩:=List.mem_iff_getElem.1 hx
 exact ⟨j,hj,hf,M4 hj hc hf⟩
structure gS (nt:ai) (pl ql:aG→Int) (wd:Program→Int) (t:List (List Int)) (i:Nat):Prop where
 len:t.length=nt.1.length
 row:∀ (k:Nat) (hk:k<nt.1.length),(t.getD k []).length=(wd nt.1[k]).toNat
 at':∀ (k b j:Nat) (hk:k<nt.1.length) (hj:j<nt.2.length),j<i→(b:Int)<wd nt.1[k]→pl nt.2[j]=(k:Int)→ql nt.2[j]=(b:Int)→(t.getD k []).getD b 0=(j:Int)
def D9 (nt:ai) (pl ql:aG→Int) (wd:Program→Int):Prop:=∀ (k b:Nat) (hk:k<nt.1.length),(b:Int)<wd nt.1[k]→nt.2.countP (fun l=>decide (pl l=(k:Int))&&decide (ql l=(b:Int)))=1
theorem gS.skip {nt:ai} {pl ql:aG→Int} {wd:Program→Int} {t:List (List Int)} {i:Nat} (T:gS nt pl ql wd t i) (hi:i<nt.2.length) (hn:¬ 0≤pl nt.2[i]):gS nt pl ql wd t (i+1):=by
 refine ⟨T.len,T.row,fun k b j hk hj ao hb h1 h2=>?_⟩
 rcases Nat.lt_or_ge j i with h | h
 ·exact T.at' k b j hk hj h hb h1 h2
 ·obtain rfl:j=i:=by omega
  omega
theorem getD_set_ne {α:Type} {l:List α} {i j:Nat} (h:i≠j) (x z:α):(l.set i x).getD j z=l.getD j z:=by simp [List.getElem?_set_ne h]
theorem gS.put {nt:ai} {pl ql:aG→Int} {wd:Program→Int} {t:List (List Int)} {i p q:Nat} (T:gS nt pl ql wd t i) (U:D9 nt pl ql wd) (hi:i<nt.2.length) (hp:p<nt.1.length) (hq:(q:Int)<wd nt.1[p]) (e1:pl nt.2[i]=(p:Int)) (e2:ql nt.2[i]=(q:Int)) :
  gS nt pl ql wd (t.set p ((t.getD p []).set q (i:Int))) (i+1):=by
 have ze:p<t.length:=by rw [T.len]; exact hp
 refine ⟨by simp [T.len],fun k hk=>?_,fun k b j hk hj ao hb h1 h2=>?_⟩
 ·by_cases h:p=k
  ·subst h
   rw [lF ze,List.length_set]; exact T.row p hk
  ·rw [getD_set_ne h]; exact T.row k hk
 ·rcases Nat.lt_or_ge j i with h | h
  ·by_cases M5:p=k
   ·subst M5
    rw [lF ze]
    by_cases M6:q=b
    ·subst M6
     have:=HT (f:=fun l=>decide (pl l=(p:Int))&&decide (ql l=(q:Int))) hi hj (by rw [U p q hp hq]; omega) (by simp [e1,e2]) (by simp [h1,h2])
     omega
    ·rw [getD_set_ne M6]; exact T.at' p b j hk hj h hb h1 h2
   ·rw [getD_set_ne M5]; exact T.at' k b j hk hj h hb h1 h2
  ·obtain rfl:j=i:=by omega
   obtain rfl:p=k:=by omega
   obtain rfl:q=b:=by omega
   rw [lF ze,lF (by rw [T.row p hp]; omega)]
theorem gS.get {nt:ai} {pl ql:aG→Int} {wd:Program→Int} {t:List (List Int)} (T:gS nt pl ql wd t nt.2.length) (U:D9 nt pl ql wd) {k b:Nat} (hk:k<nt.1.length) (hb:(b:Int)<wd nt.1[k]) :
  (t.getD k []).getD b 0=lx (fun l=>decide (pl l=(k:Int))&&decide (ql l=(b:Int))) nt.2:=by
 obtain ⟨j,hj,hf,e⟩:=BO (U k b hk hb)
 simp only [Bool.and_eq_true,decide_eq_true_eq] at hf
 rw [e]; exact T.at' k b j hk hj hj hb hf.1 hf.2
def sQ (l:aG):Int:=l.2.2.1
def toQ (l:aG):Int:=l.2.2.2.1
def uP (l:aG):Int:=l.1
def uQ (l:aG):Int:=l.2.1
theorem M7 {nt:ai} (o:cM nt):D9 nt sQ toQ (fun p=>p.1):=fun k b hk hb=>o.ins k hk b hb
theorem M8 {nt:ai} (o:cM nt):D9 nt uP uQ (fun p=>p.2.1):=fun k b hk hb=>o.outs k hk b hb
structure iU (nt:ai) (s:State) (r:kK):Prop where
 ck:r.1=nt
 st:r.2.1=s
 to:gS nt sQ toQ (fun p=>p.1) r.2.2.1 nt.2.length
 fr:gS nt uP uQ (fun p=>p.2.1) r.2.2.2.1 nt.2.length
theorem sT {n:Nat} {a:List Int} (h:a.length≤1048576):cd.f n a=some (a,()):=by
 unfold cd.f
 rw [bZ (by simp; omega)]; rfl
theorem M9 {n:Nat} {a:List (List Int)} (hl:a.length≤1048576) (h:∀ q∈a,q.length≤1048576) (hn:1048576<n):sO.f n a=some (a,()):=by
 unfold sO.f
 refine Eq.trans (zk a id (fun i s=>(i,(s,()))) (R:=fun ps=>some (ps,())) (fun ih i hi s hs=>?_) (fun ih ps=>aK (Int.lt_irrefl _)) (by omega)) (by simp)
 have c0:0≤(i:Int):=by omega
 have c1:(i:Int)<(a.length:Int):=by omega
 have e1:a.getD i []=a[i]:=aH hi _
 simp only [c1,c0,and_self,sN,decide_true,aL,Int.toNat_natCast,e1,sT (h _ (List.getElem_mem hi)),Option.bind_some]
 rw [bZ (by simp; omega),bm (by omega)]; rfl
theorem Na {n:Nat} {s:State} (h:jt s) (hn:1048576<n):qN.f n s=some (s,()):=by
 have ha:=h.Vo
 unfold qN.f
 rw [M9 h.Vp h.queue hn,M9 h.Vq h.eh hn]
 simp only [Option.bind_some]
 refine Eq.trans (zk s.1 id (fun i ps=>(i,(s.2.2.2,(ps,(s.2.1,(s.2.2.1,())))))) (R:=fun ps=>some ((ps,(s.2.1,(s.2.2.1,s.2.2.2))),())) (fun ih i hi ps hs=>?_) (fun ih ps=>aK (Int.lt_irrefl _)) (by omega)) (by simp)
 have c0:0≤(i:Int):=by omega
 have c1:(i:Int)<(s.1.length:Int):=by omega
 have e1:s.1.getD i ba=s.1[i]:=aH hi _
 simp only [c1,c0,and_self,sN,decide_true,aL,Int.toNat_natCast,e1,sT (h.lE _ (List.getElem_mem hi)),Option.bind_some]
 rw [bZ (by simp; omega),bm (by omega)]; rfl
theorem zl {n:Nat} {nt:ai} {s:State} {caps:Option (List Int)} (o:cM nt) (h:jt s) (hn:1048576<n) :
  W (iB.f n nt.1 nt.2 s.1 s.2.1 s.2.2.1 s.2.2.2 caps) (fun r=>∃ to fr,r=(nt.1,nt.2,s.2.2.2,caps,s.1,s.2.1,s.2.2.1,to,fr,())∧
   gS nt sQ toQ (fun p=>p.1) to nt.2.length∧gS nt uP uQ (fun p=>p.2.1) fr nt.2.length):=by
 have hp:=o.ew
 have hl:=o.dt
 have hm:=mr
 unfold iB.f
 rw [Na h hn]
 simp only [Option.bind_some]
 refine fA (fun i (x:List (List Int)×List (List Int))=>((i:Int),(nt.1,nt.2,s.2.2.2,caps,s.1,s.2.1,s.2.2.1,x.1,x.2,()))) nt.1.length
  (fun i x=>x=((nt.1.take i).map (fun p=>List.replicate p.1.toNat (0:Int)),(nt.1.take i).map (fun p=>List.replicate p.2.1.toNat (0:Int)))) (s0:=([],[])) rfl (by simp) (by omega) (fun ih x hI=>?_) (fun ih i x hi hI hS=>?_)
 rotate_left
 ·have c0:0≤(i:Int):=by omega
  have c1:(i:Int)<(nt.1.length:Int):=by omega
  have e1:nt.1.getD i bp=nt.1[i]:=aH hi _
  have hq:=BH (o.prog i hi)
  have ub:x.1.length=i:=by rw [hI]; simp; omega
  have A_:x.2.length=i:=by rw [hI]; simp; omega
  simp only [c1,c0,and_self,sN,decide_true,aL,Int.toNat_natCast,e1,true_and]
  rw [ah (by omega),bZ (by simp; omega),ah (by omega),bZ (by simp; omega),bm (by omega)]
  refine hS (_,_) ?_
  rw [hI,List.take_succ_eq_append_getElem hi,List.map_append,List.map_append]; rfl
 ·simp only [aK (Int.lt_irrefl _)]
  rw [List.take_length] at hI
  have T0:∀ (pl ql:aG→Int) (wd:Program→Int),gS nt pl ql wd (nt.1.map (fun p=>List.replicate (wd p).toNat (0:Int))) 0:=fun pl ql wd=>
   ⟨by simp,fun k hk=>by simp [hk],fun k b j hk hj ao=>by omega⟩
  refine fA (fun i (x:List (List Int)×List (List Int))=>((i:Int),(nt.1,nt.2,s.2.2.2,caps,s.1,s.2.1,s.2.2.1,x.1,x.2,()))) nt.2.length
   (fun i x=>gS nt sQ toQ (fun p=>p.1) x.1 i∧gS nt uP uQ (fun p=>p.2.1) x.2 i) (s0:=x) rfl (by rw [hI]; exact ⟨T0 _ _ _,T0 _ _ _⟩) (by omega) (fun ih y hI=>?_) (fun ih i y hi hI hS=>?_)
  ·simp only [aK (Int.lt_irrefl _)]
   rw [aj]
   exact ⟨_,_,rfl,hI.1,hI.2⟩
  ·have c0:0≤(i:Int):=by omega
   have c1:(i:Int)<(nt.2.length:Int):=by omega
   have e1:nt.2.getD i aM=nt.2[i]:=aH hi _
   have E:=o.ends i hi
   simp only [c1,c0,and_self,sN,decide_true,aL,Int.toNat_natCast,e1]
   rw [bm (by omega)]
   have DS:∀ t1,gS nt sQ toQ (fun p=>p.1) t1 (i+1)→W (br (decide (0≤nt.2[i].1)) (ab (0≤nt.2[i].1∧nt.2[i].1<(y.2.length:Int)) (ab (0≤nt.2[i].2.1∧nt.2[i].2.1<((y.2.getD nt.2[i].1.toNat []).length:Int))
     (ih (((i+1:Nat):Int),(nt.1,nt.2,s.2.2.2,caps,s.1,s.2.1,s.2.2.1,t1,y.2.set nt.2[i].1.toNat ((y.2.getD nt.2[i].1.toNat []).set nt.2[i].2.1.toNat (i:Int)),())))))
     (ih (((i+1:Nat):Int),(nt.1,nt.2,s.2.2.2,caps,s.1,s.2.1,s.2.2.1,t1,y.2,())))) (fun r=>∃ to fr,r=(nt.1,nt.2,s.2.2.2,caps,s.1,s.2.1,s.2.2.1,to,fr,())∧
   gS nt sQ toQ (fun p=>p.1) to nt.2.length∧gS nt uP uQ (fun p=>p.2.1) fr nt.2.length):=by
    intro t1 Nb
    rw [bI]
    refine ⟨fun h0=>?_,fun h0=>hS (t1,y.2) ⟨Nb,hI.2.skip hi h0⟩⟩
    rcases E.out with h | ⟨a1,a2,a3,a4⟩
    ·omega
    ·obtain ⟨p,jd⟩:∃ p:Nat,nt.2[i].1=(p:Int):=⟨nt.2[i].1.toNat,by omega⟩
     obtain ⟨q,m_⟩:∃ q:Nat,nt.2[i].2.1=(q:Int):=⟨nt.2[i].2.1.toNat,by omega⟩
     rw [jd,m_] at a4 ⊢
     have dL:p<nt.1.length:=by omega
     simp only [Int.toNat_natCast,aH dL] at a4 ⊢
     have ke:=hI.2.row p dL
     rw [ah (by rw [hI.2.len]; omega),ah (by rw [ke]; omega)]
     exact hS (t1,_) ⟨Nb,hI.2.put (M8 o) hi dL a4 jd m_⟩
   by_cases h0:0≤nt.2[i].2.2.1
   ·rcases E.ng with h | ⟨a1,a2,a3,a4⟩
    ·omega
    ·obtain ⟨p,jd⟩:∃ p:Nat,nt.2[i].2.2.1=(p:Int):=⟨nt.2[i].2.2.1.toNat,by omega⟩
     obtain ⟨q,m_⟩:∃ q:Nat,nt.2[i].2.2.2.1=(q:Int):=⟨nt.2[i].2.2.2.1.toNat,by omega⟩
     have dL:p<nt.1.length:=by omega
     have hT:=DS (y.1.set p ((y.1.getD p []).set q (i:Int)))
     have ke:=hI.1.row p dL
     rw [jd,m_] at a4 ⊢
     simp only [Int.toNat_natCast,aH dL] at a4 ⊢
     rw [aZ (by omega),ah (by rw [hI.1.len]; omega),ah (by rw [ke]; omega)]
     simp only [bF]
     exact hT (hI.1.put (M7 o) hi dL a4 jd m_)
   ·rw [aK h0]
    simp only [bF]
    exact DS y.1 (hI.1.skip hi h0)
def prog (nt:ai) (k:Nat):Program:=nt.1.getD k bp
def lE (s:State) (k:Nat):a_:=s.1.getD k ba
def bf (nt:ai) (s:State) (k:Nat):Int×Int:=bT (prog nt k) (lE s k)
def bQ (nt:ai) (s:State) (k:Nat):Int:=
 if (bf nt s k).1=2 then lx (kI (k:Int) (bf nt s k).2) nt.2 else if (bf nt s k).1=3 then lx (lD (k:Int) (bf nt s k).2) nt.2 else -1
def dH (nt:ai) (s:State) (k:Nat):Bool:=
 if (bf nt s k).1=0∨20000≤s.2.2.2 then false
 else if (bf nt s k).1=2 then decide (0<((s.2.1.getD (bQ nt s k).toNat []).length:Int))
 else if (bf nt s k).1=3 then decide (((s.2.2.1.getD (bQ nt s k).toNat []).length:Int)<400) else true
theorem BP {nt:ai} {s:State} (o:bq nt s) {k:Nat} (hk:k<nt.1.length):∃ b:Nat,(bf nt s k).2=(b:Int)∧((bf nt s k).1=2→(b:Int)<nt.1[k].1)∧((bf nt s k).1=3→(b:Int)<nt.1[k].2.1):=by
 have ha:=o.act k hk
 have hp:=o.ck.prog k hk
 rw [aH hk] at ha
 have h:=M3 hp ha
 have e:bf nt s k=bT nt.1[k] (s.1.getD k ba):=by unfold bf prog lE; rw [aH hk]
 rw [e]
 refine ⟨(bT nt.1[k] (s.1.getD k ba)).2.toNat,by omega,fun h2=>?_,fun h3=>?_⟩
 ·have:=h.2.1 h2; omega
 ·have:=h.2.2 h3; omega
theorem oc {nt:ai} {s:State} (o:bq nt s) {k:Nat} (hk:k<nt.1.length) (h:(bf nt s k).1=2):∃ j,∃ hj:j<nt.2.length,bQ nt s k=(j:Int)∧nt.2[j].2.2.1=(k:Int)∧nt.2[j].2.2.2.1=(bf nt s k).2:=by
 obtain ⟨b,e,h2,-⟩:=BP o hk
 obtain ⟨j,hj,hf,e2⟩:=BO (o.ck.ins k hk b (h2 h))
 refine ⟨j,hj,?_,?_⟩
 ·unfold bQ; rw [if_pos h,e]; exact e2
 ·unfold kI at hf
  simp only [Bool.and_eq_true,decide_eq_true_eq] at hf
  rw [e]; exact hf
theorem sU {nt:ai} {s:State} (o:bq nt s) {k:Nat} (hk:k<nt.1.length) (h:(bf nt s k).1=3):∃ j,∃ hj:j<nt.2.length,bQ nt s k=(j:Int)∧nt.2[j].1=(k:Int)∧nt.2[j].2.1=(bf nt s k).2:=by
 obtain ⟨b,e,-,h2⟩:=BP o hk
 obtain ⟨j,hj,hf,e2⟩:=BO (o.ck.outs k hk b (h2 h))
 refine ⟨j,hj,?_,?_⟩
 ·unfold bQ; rw [if_neg (by omega),if_pos h,e]; exact e2
 ·unfold lD at hf
  simp only [Bool.and_eq_true,decide_eq_true_eq] at hf
  rw [e]; exact hf
theorem zm {n:Nat} {nt:ai} {s:State} {r:kK} (R:iU nt s r) (o:bq nt s) {k:Nat} (hk:k<nt.1.length):fY.f n r (k:Int)=some ((bf nt s k).1,(bQ nt s k,())):=by
 obtain ⟨r1,r2,to,fr,cp⟩:=r
 obtain ⟨e1,e2,T,F⟩:=R
 have e1:r1=nt:=e1
 have e2:r2=s:=e2
 subst e1 e2
 have T:gS r1 sQ toQ (fun p=>p.1) to r1.2.length:=T
 have F:gS r1 uP uQ (fun p=>p.2.1) fr r1.2.length:=F
 obtain ⟨b,eb,h2,h3⟩:=BP o hk
 have ha:=o.act k hk
 have mz:k<r2.1.length:=by rw [o.na]; exact hk
 have hw:want.f n (r1.1.getD k bp) (r2.1.getD k ba)=some ((bf r1 r2 k).1,((bf r1 r2 k).2,())):=HQ ha
 unfold fY.f
 simp only [Int.toNat_natCast]
 rw [ah (by omega),ah (by omega),hw]
 simp only [Option.bind_some,iT]
 unfold bQ
 rw [eb]
 by_cases c2:(bf r1 r2 k).1=2
 ·have hb:=h2 c2
  have ke:=T.row k hk
  have g:=T.get (M7 o.ck) hk hb
  rw [if_pos c2,if_pos c2,ah (by rw [T.len]; omega),ah (by rw [ke]; omega),c2]
  simp only [Int.toNat_natCast]
  rw [g]; rfl
 ·rw [if_neg c2,if_neg c2]
  by_cases c3:(bf r1 r2 k).1=3
  ·have hb:=h3 c3
   have ke:=F.row k hk
   have g:=F.get (M8 o.ck) hk hb
   rw [if_pos c3,if_pos c3,ah (by rw [F.len]; omega),ah (by rw [ke]; omega),c3]
   simp only [Int.toNat_natCast]
   rw [g]; rfl
  ·rw [if_neg c3,if_neg c3]
theorem Nc {n:Nat} {nt:ai} {s:State} (o:bq nt s) {k:Nat} (hk:k<nt.1.length) (hn:1048576<n):qO.f n nt s (k:Int)=some (bQ nt s k,()):=by
 have ha:=o.act k hk
 have hl:=o.ck.dt
 have mz:k<s.1.length:=by rw [o.na]; exact hk
 have hw:my.f n (nt.1.getD k bp) (s.1.getD k ba)=some ((bf nt s k).1,((bf nt s k).2,())):=HS ha
 unfold qO.f
 simp only [Int.toNat_natCast]
 rw [ah (by omega),ah (by omega),hw]
 simp only [Option.bind_some,iT]
 rw [My (by omega) hn,Mz (by omega) hn]
 unfold bQ
 by_cases c2:(bf nt s k).1=2
 ·rw [if_pos c2,if_pos c2]; rfl
 ·rw [if_neg c2,if_neg c2]
  by_cases c3:(bf nt s k).1=3
  ·rw [if_pos c3,if_pos c3]; rfl
  ·rw [if_neg c3,if_neg c3]
theorem VD (nt:ai) (s:State) (k:Nat):(bf nt s k).1=0∨(bf nt s k).1=1∨(bf nt s k).1=2∨(bf nt s k).1=3:=M_ _ _
theorem zn {n:Nat} {nt:ai} {s:State} {r:kK} (R:iU nt s r) (o:bq nt s) {k:Nat} (hk:k<nt.1.length):can.f n r (k:Int)=some (dH nt s k,()):=by
 unfold can.f
 rw [zm R o hk,R.st]
 simp only [Option.bind_some,iT]
 unfold dH
 have hq:=o.nq
 have hs:=o.ns
 by_cases c0:(bf nt s k).1=0
 ·simp [c0,br,cut]
 ·by_cases c1:20000≤s.2.2.2
  ·simp [c0,c1,br,cut]
  ·simp only [c0,c1,if_false,decide_false,bF,aF,false_or]
   by_cases c2:(bf nt s k).1=2
   ·obtain ⟨j,hj,e,-⟩:=oc o hk c2
    rw [if_pos c2,if_pos c2,e,ah (by omega)]
   ·rw [if_neg c2,if_neg c2]
    by_cases c3:(bf nt s k).1=3
    ·obtain ⟨j,hj,e,-⟩:=sU o hk c3
     rw [if_pos c3,if_pos c3,e,ah (by omega)]
    ·rw [if_neg c3,if_neg c3]
theorem VE {n:Nat} {nt:ai} {s:State} (o:bq nt s) {k:Nat} (hk:k<nt.1.length) (hn:1048576<n):sP.f n nt s (k:Int)=some (dH nt s k,()):=by
 have ha:=o.act k hk
 have mz:k<s.1.length:=by rw [o.na]; exact hk
 have hw:my.f n (nt.1.getD k bp) (s.1.getD k ba)=some ((bf nt s k).1,((bf nt s k).2,())):=HS ha
 have hq:=o.nq
 have hs:=o.ns
 have qz:=o.steps
 unfold sP.f
 simp only [Int.toNat_natCast]
 rw [ah (by omega),ah (by omega),hw,Nc o hk hn]
 simp only [Option.bind_some,iT]
 unfold dH
 by_cases c0:(bf nt s k).1=0
 ·simp [c0,br,cut]
 ·by_cases c1:s.2.2.2=20000
  ·simp [c0,c1,br,cut]
  ·have VF:¬ 20000≤s.2.2.2:=by omega
   simp only [c0,c1,VF,if_false,decide_false,bF,aF,false_or]
   by_cases c2:(bf nt s k).1=2
   ·obtain ⟨j,hj,e,-⟩:=oc o hk c2
    rw [if_pos c2,if_pos c2,e,ah (by omega)]
   ·rw [if_neg c2,if_neg c2]
    by_cases c3:(bf nt s k).1=3
    ·obtain ⟨j,hj,e,-⟩:=sU o hk c3
     rw [if_neg (by omega),if_pos c3,e,ah (by omega)]
    ·have c4:(bf nt s k).1=1:=by have:=VD nt s k; omega
     rw [if_pos c4,if_neg c3]
def od (nt:ai) (s:State):Bool:=(List.range nt.1.length).any (dH nt s)
def oe:a_:=(0,[0,0,0,0])
def start (nt:ai):State:=(nt.1.map fun _=>oe,nt.2.map (fun l=>l.2.2.2.2),nt.2.map (fun l=>l.2.2.2.2),0)
theorem HU {nt:ai} (o:cM nt):bq nt (start nt):=by
 refine ⟨o,by simp [start],by simp [start],by simp [start],by simp [start],fun i hi=>?_,fun i hi=>?_⟩
 ·show eH _ ((nt.1.map fun _=>oe).getD i ba)=true
  have:(nt.1.map fun _=>oe).getD i ba=oe:=by simp [hi]
  rw [this]
  unfold eH oe
  simp [bG,tok]
 ·have e:(nt.2.map (fun l=>l.2.2.2.2)).getD i []=nt.2[i].2.2.2.2:=by simp [hi]
  show qL _ ((nt.2.map (fun l=>l.2.2.2.2)).getD i []) ((nt.2.map (fun l=>l.2.2.2.2)).getD i [])
  rw [e,aH hi]
  exact ⟨o.gQ i hi,o.gQ i hi,List.prefix_rfl,List.suffix_rfl,fun _=>rfl,fun _=>rfl⟩
end Go.AmT
namespace Go.AmT
open Go Go.Am Go.Proofs
set_option linter.unusedVariables false
set_option maxRecDepth 100000
end Go.AmT
namespace Go.AmT
open Go Go.Am
set_option linter.unusedVariables false
set_option linter.unusedSimpArgs false
end Go.AmT
