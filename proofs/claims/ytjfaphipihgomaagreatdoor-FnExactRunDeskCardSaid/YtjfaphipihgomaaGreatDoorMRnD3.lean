/- Functions of the program, each as a plain Lean function. No condition. -/
import Derived.Test.YtjfaphipihgomaaGreatDoorMRnD2
open Go Go.Am
noncomputable section
set_option linter.unusedVariables false
set_option maxRecDepth 100000
set_option linter.unusedSimpArgs false
open Bool renaming and_eq_true → aw
open Int renaming lt_irrefl → bR, toNat_natCast → ay
open List renaming getElem_mem → ct, replicate → iu
open Option renaming bind_some → aC
namespace Go.AmT
open Go.Proofs Go.Proofs.Tryz
abbrev nJ:Type:=aq×(State×List (List Int)×List (List Int)×Option (List Int))
def cR.f (n:Nat) (a0:List Int):Option (List Int×Unit):=ab ((([]:List Int).length+a0.length)*8≤bo) (some (([]:List Int)++a0,()))
def cR.ae (n:Nat):au:=⟨[.val (.sl I)],[.val (.sl I)],fun x=>cR.f n x.1⟩
def cR.cfg (n:Nat):ba:=⟨mS,[],[],[]⟩
theorem cR.aD:dh Tryz.prog 87:=eu func87 (by kernel_rfl) (by kernel_rfl)
theorem cR.N_:∀ (n:Nat),yq (cR.cfg n) n f87 (fm f87 []) [.val (.sl I)] [.val (.sl I)] .nil [] []=some (([]:List Int),()):=by intros;kernel_rfl
theorem cR.N0:∀ (n:Nat) (a0:List Int),yq (cR.cfg n) n f87 (fm f87 []) [.val (.sl I)] [.val (.sl I)] (.cZ I (some a0)) [] []=cR.f n a0:=by intros;kernel_rfl
theorem cR.sound (n:Nat):Sound Tryz.prog 87 (cR.ae n):=
 SD (t:=I) (ps:=[]) (rs:=[.val (.sl I)]) (F:=fun x=>cR.f n x.1) (uz mixed (sU (.of (c:=cR.cfg n) trivial) (.of (c:=cR.cfg n) trivial)) (eo kC)) (eo kC) func87
  (fun x y hy hx=>by
   have hy:cR.f n x.1=some y:=hy;rw [hx] at hy;unfold cR.f ab at hy;split at hy
   ·exact (cR.N_ n).trans hy
   simp at hy)
  (fun x y hy=>(cR.N0 n x.1).trans hy)
def wQ.f (n:Nat) (a0:List (List Int)):Option (List (List Int)×Unit):=iter n (fun oI x6=>br (decide (x6.1<(a0.length:Int))) (ab (0≤x6.1∧x6.1<(a0.length:Int)) ((cR.f n (a0.getD x6.1.toNat [])).bind fun r8=>ab ((x6.2.1.length+([r8.1]:List (List Int)).length)*24≤bo) (oI (ah (x6.1+1),x6.2.1++[r8.1],())))) (some (x6.2.1,()))) (0,[],())
def wQ.ae (n:Nat):au:=⟨[.val (.sl IS)],[.val (.sl IS)],fun x=>wQ.f n x.1⟩
theorem wQ.ok (n:Nat):aP 149 (wQ.ae n):=aU n [(4,⟨[(3,.own 1000 IS),(9,.int .i64)],[(1000,.row true IS)],[7,8],[]⟩)] [] (ai ⟨cR.sound n,cR.aD⟩ aK) aL func149
def uM.f (n:Nat) (a0:State):Option (State×Unit):=(wQ.f n a0.2.1).bind fun r1=>(wQ.f n a0.2.2.1).bind fun r2=>iter n (fun adg pO=>br (decide (pO.1<(a0.1.length:Int))) (ab (0≤pO.1∧pO.1<(a0.1.length:Int)) (let v24:=(a0.1.getD pO.1.toNat bK); (cR.f n v24.2).bind fun oN=>ab ((pO.2.2.1.length+([(v24.1,oN.1)]:List bM).length)*32≤bo) (adg (ah (pO.1+1),pO.2.1,pO.2.2.1++[(v24.1,oN.1)],pO.2.2.2.1,pO.2.2.2.2.1,())))) (some ((pO.2.2.1,pO.2.2.2.1,pO.2.2.2.2.1,pO.2.1),()))) (0,a0.2.2.2,[],r1.1,r2.1,())
def uM.ae (n:Nat):au:=⟨[.val dG],[.val dG],fun x=>uM.f n x.1⟩
theorem uM.ok (n:Nat):aP 86 (uM.ae n):=aU n [(4,⟨[(3,.bn 1000 0),(18,.int .i64)],[(1000,.cells [] [.own 1001 bp,.own 1002 IS,.own 1003 IS,.int .i64]),(1001,.row true bp),(1002,.row true IS),(1003,.row true IS)],[2,16,17],[]⟩)] [] (ai (wQ.ok n) (ai ⟨cR.sound n,cR.aD⟩ aK)) aL func86
def kg.la:LA:=⟨[(0,.agg [.sh b_,.sh du]),(1,.agg [.sh bp,.sh IS,.sh IS,.int .i64]),(2,.cZ I)],[],[],[]⟩
def kg.lb:LA:=⟨[(0,.bn 1000 0)],[(1000,.cells [] [.sh b_,.sh du,.own 1001 bp,.own 1002 IS,.own 1003 IS,.int .i64,.own 1004 IS,.own 1005 IS,.cZ I]),(1001,.row true bp),(1002,.row true IS),(1003,.row true IS),(1004,.row true IS),(1005,.row true IS)],[],[]⟩
def kg.f (n:Nat) (a0:List Program) (a1:List bb) (a2:List bM) (a3 a4:List (List Int)) (a5:Int) (a6:Option (List Int)):Option (List Program×List bb×Int×Option (List Int)×List bM×List (List Int)×List (List Int)×List (List Int)×List (List Int)×Unit):=(uM.f n (a2,a3,a4,a5)).bind fun r1=>iter n (fun F6 d_=>br (decide (d_.1<(a0.length:Int))) (ab (0≤d_.1∧d_.1<(a0.length:Int)) (let eZ:=(a0.getD d_.1.toNat bC); ab (eZ.1=eZ.1∧0≤eZ.1∧eZ.1*(8:Int)≤(bo:Int)) (ab ((d_.2.2.2.2.2.2.2.2.1.length+([(iu eZ.1.toNat (0:Int))]:List (List Int)).length)*24≤bo) (ab (eZ.2.1=eZ.2.1∧0≤eZ.2.1∧eZ.2.1*(8:Int)≤(bo:Int)) (ab ((d_.2.2.2.2.2.2.2.2.2.1.length+([(iu eZ.2.1.toNat (0:Int))]:List (List Int)).length)*24≤bo) (F6 (ah (d_.1+1),d_.2.1,d_.2.2.1,d_.2.2.2.1,d_.2.2.2.2.1,d_.2.2.2.2.2.1,d_.2.2.2.2.2.2.1,d_.2.2.2.2.2.2.2.1,d_.2.2.2.2.2.2.2.2.1++[(iu eZ.1.toNat (0:Int))],d_.2.2.2.2.2.2.2.2.2.1++[(iu eZ.2.1.toNat (0:Int))],()))))))) (iter n (fun UO fj=>br (decide (fj.1<(a1.length:Int))) (ab (0≤fj.1∧fj.1<(a1.length:Int)) (let me:=(a1.getD fj.1.toNat aE); cut (br (decide (0≤me.2.2.1)) (ab (0≤me.2.2.1∧me.2.2.1<(fj.2.2.2.2.2.2.2.2.1.length:Int)) (ab (0≤me.2.2.2.1∧me.2.2.2.1<((fj.2.2.2.2.2.2.2.2.1.getD me.2.2.1.toNat []).length:Int)) (let v58:=(fj.2.2.2.2.2.2.2.2.1.set me.2.2.1.toNat ((fj.2.2.2.2.2.2.2.2.1.getD me.2.2.1.toNat []).set me.2.2.2.1.toNat fj.1)); some (.inr (fj.2.1,fj.2.2.1,fj.2.2.2.1,fj.2.2.2.2.1,fj.2.2.2.2.2.1,fj.2.2.2.2.2.2.1,fj.2.2.2.2.2.2.2.1,v58,fj.2.2.2.2.2.2.2.2.2.1,()))))) (some (.inr (fj.2.1,fj.2.2.1,fj.2.2.2.1,fj.2.2.2.2.1,fj.2.2.2.2.2.1,fj.2.2.2.2.2.2.1,fj.2.2.2.2.2.2.2.1,fj.2.2.2.2.2.2.2.2.1,fj.2.2.2.2.2.2.2.2.2.1,())))) fun kG=>br (decide (0≤me.1)) (ab (0≤me.1∧me.1<(kG.2.2.2.2.2.2.2.2.1.length:Int)) (ab (0≤me.2.1∧me.2.1<((kG.2.2.2.2.2.2.2.2.1.getD me.1.toNat []).length:Int)) (let v59:=(kG.2.2.2.2.2.2.2.2.1.set me.1.toNat ((kG.2.2.2.2.2.2.2.2.1.getD me.1.toNat []).set me.2.1.toNat fj.1)); UO (ah (fj.1+1),kG.1,kG.2.1,kG.2.2.1,kG.2.2.2.1,kG.2.2.2.2.1,kG.2.2.2.2.2.1,kG.2.2.2.2.2.2.1,kG.2.2.2.2.2.2.2.1,v59,())))) (UO (ah (fj.1+1),kG.1,kG.2.1,kG.2.2.1,kG.2.2.2.1,kG.2.2.2.2.1,kG.2.2.2.2.2.1,kG.2.2.2.2.2.2.1,kG.2.2.2.2.2.2.2.1,kG.2.2.2.2.2.2.2.2.1,())))) (some (fj.2.1,fj.2.2.1,fj.2.2.2.1,fj.2.2.2.2.1,fj.2.2.2.2.2.1,fj.2.2.2.2.2.2.1,fj.2.2.2.2.2.2.2.1,fj.2.2.2.2.2.2.2.2.1,fj.2.2.2.2.2.2.2.2.2.1,()))) (0,d_.2.1,d_.2.2.1,d_.2.2.2.1,d_.2.2.2.2.1,d_.2.2.2.2.2.1,d_.2.2.2.2.2.2.1,d_.2.2.2.2.2.2.2.1,d_.2.2.2.2.2.2.2.2.1,d_.2.2.2.2.2.2.2.2.2.1,()))) (0,a0,a1,r1.1.2.2.2,a6,r1.1.1,r1.1.2.1,r1.1.2.2.1,[],[],())
def kg.ae (n:Nat):dn:=⟨kg.la,kg.lb,fun x=>kg.f n x.1 x.2.1 x.2.2.1 x.2.2.2.1 x.2.2.2.2.1 x.2.2.2.2.2.1 x.2.2.2.2.2.2.1⟩
theorem kg.ok (n:Nat):pD 220 (kg.ae n):=rv n [(4,⟨[(7,.bn 1000 0),(21,.int .i64)],[(1000,.cells [] [.sh b_,.sh du,.own 1001 bp,.own 1002 IS,.own 1003 IS,.int .i64,.own 1004 IS,.own 1005 IS,.cZ I]),(1001,.row true bp),(1002,.row true IS),(1003,.row true IS),(1004,.row true IS),(1005,.row true IS)],[3,19,20],[]⟩),(13,⟨[(7,.bn 1000 0),(53,.int .i64)],[(1000,.cells [] [.sh b_,.sh du,.own 1001 bp,.own 1002 IS,.own 1003 IS,.int .i64,.own 1004 IS,.own 1005 IS,.cZ I]),(1001,.row true bp),(1002,.row true IS),(1003,.row true IS),(1004,.row true IS),(1005,.row true IS)],[51,52],[]⟩),(19,⟨[(7,.bn 1000 0)],[(1000,.cells [] [.sh b_,.sh du,.own 1001 bp,.own 1002 IS,.own 1003 IS,.int .i64,.own 1004 IS,.own 1005 IS,.cZ I]),(1001,.row true bp),(1002,.row true IS),(1003,.row true IS),(1004,.row true IS),(1005,.row true IS)],[10,11,51,52,53],[]⟩)] [] (ai (uM.ok n) aK) aL func220
def Bf.f (n:Nat) (a0:nJ) (a1:Int):Option (Bool×Unit):=br (decide (0≤a1)) (some (decide (a1<(a0.1.1.length:Int)),())) (some (false,()))
def Bf.ae (n:Nat):au:=⟨[.fQ yF,.val I],[.val .bool],fun x=>Bf.f n x.1 x.2.1⟩
theorem Bf.ok (n:Nat):aP 267 (Bf.ae n):=aU n [] [] aK aL func267
def want.f (n:Nat) (a0:Program) (a1:bM):Option (Int×Int×Unit):=br (decide (a1.1=(a0.2.2.length:Int))) (some (0,0,())) (ab (0≤a1.1∧a1.1<(a0.2.2.length:Int)) (let v1:=(a0.2.2.getD a1.1.toNat kX); br (decide (v1.1=11)) (some (0,0,())) (br (decide (v1.1=1)) (some (2,v1.2.2.1,())) (br (decide (v1.1=2)) (some (3,v1.2.2.1,())) (some (1,0,()))))))
def want.ae (n:Nat):au:=⟨[.val b_,.val bp],[.val I,.val I],fun x=>want.f n x.1 x.2.1⟩
theorem want.ok (n:Nat):aP 262 (want.ae n):=aU n [] [] aK aL func262
def iP.f (n:Nat) (a0:nJ) (a1:Int):Option (Int×Int×Unit):=ab (0≤a1∧a1<(a0.1.1.length:Int)) (let v1:=(a0.1.1.getD a1.toNat bC); ab (0≤a1∧a1<(a0.2.1.1.length:Int)) (let v2:=(a0.2.1.1.getD a1.toNat bK); (want.f n v1 v2).bind fun r3=>br (decide (r3.1=2)) (ab (0≤a1∧a1<(a0.2.2.1.length:Int)) (let v4:=(a0.2.2.1.getD a1.toNat []); ab (0≤r3.2.1∧r3.2.1<(v4.length:Int)) (some (r3.1,v4.getD r3.2.1.toNat 0,())))) (br (decide (r3.1=3)) (ab (0≤a1∧a1<(a0.2.2.2.1.length:Int)) (let v5:=(a0.2.2.2.1.getD a1.toNat []); ab (0≤r3.2.1∧r3.2.1<(v5.length:Int)) (some (r3.1,v5.getD r3.2.1.toNat 0,())))) (some (r3.1,-1,())))))
def iP.ae (n:Nat):au:=⟨[.fQ yF,.val I],[.val I,.val I],fun x=>iP.f n x.1 x.2.1⟩
theorem iP.ok (n:Nat):aP 221 (iP.ae n):=aU n [] [] (ai (want.ok n) aK) aL func221
def can.f (n:Nat) (a0:nJ) (a1:Int):Option (Bool×Unit):=(iP.f n a0 a1).bind fun r1=>cut (br (decide (r1.1=0)) (some (.inr (true,()))) (some (.inr (decide (20000≤a0.2.1.2.2.2),())))) fun y2=>br y2.1 (some (false,())) (br (decide (r1.1=2)) (ab (0≤r1.2.1∧r1.2.1<(a0.2.1.2.1.length:Int)) (let v3:=(a0.2.1.2.1.getD r1.2.1.toNat []); some (decide (0<(v3.length:Int)),()))) (br (decide (r1.1=3)) (ab (0≤r1.2.1∧r1.2.1<(a0.2.1.2.2.1.length:Int)) (let v4:=(a0.2.1.2.2.1.getD r1.2.1.toNat []); some (decide ((v4.length:Int)<400),()))) (some (true,()))))
def can.ae (n:Nat):au:=⟨[.fQ yF,.val I],[.val .bool],fun x=>can.f n x.1 x.2.1⟩
theorem can.ok (n:Nat):aP 268 (can.ae n):=aU n [(3,⟨[(13,.bool)],[],[0,5,6],[]⟩)] [] (ai (iP.ok n) aK) aL func268
def may.f (n:Nat) (a0:nJ) (a1:Int):Option (Bool×Unit):=cut ((can.f n a0 a1).bind fun r3=>br (!r3.1) (some (.inr (true,()))) (some (.inr (a0.2.2.2.2.isNone,())))) fun y2=>br y2.1 ((can.f n a0 a1).bind fun r5=>some (r5.1,())) ((iP.f n a0 a1).bind fun r6=>br (!decide (r6.1=3)) (some (true,())) (ab (0≤r6.2.1∧r6.2.1<(a0.1.2.length:Int)) (let v7:=(a0.1.2.getD r6.2.1.toNat aE); br (decide (v7.2.2.1<0)) (some (true,())) (ab (0≤r6.2.1∧r6.2.1<(a0.2.1.2.1.length:Int)) (let v8:=(a0.2.1.2.1.getD r6.2.1.toNat []); ab (0≤r6.2.1∧r6.2.1<((a0.2.2.2.2.getD []).length:Int)) (let v9:=((a0.2.2.2.2.getD []).getD r6.2.1.toNat 0); some (decide ((v8.length:Int)<v9),())))))))
def may.ae (n:Nat):au:=⟨[.fQ yF,.val I],[.val .bool],fun x=>may.f n x.1 x.2.1⟩
theorem may.ok (n:Nat):aP 270 (may.ae n):=aU n [(1,⟨[(17,.bool)],[],[0,1],[]⟩)] [] (ai (can.ok n) (ai (iP.ok n) aK)) aL func270
def quiet.f (n:Nat) (a0:nJ):Option (Bool×Unit):=iter n (fun jY x5=>br (decide (x5.1<(a0.1.1.length:Int))) ((can.f n a0 x5.1).bind fun r7=>br r7.1 (some (false,())) (jY (ah (x5.1+1),()))) (some (true,()))) (0,())
def quiet.ae (n:Nat):au:=⟨[.fQ yF],[.val .bool],fun x=>quiet.f n x.1⟩
theorem quiet.ok (n:Nat):aP 228 (quiet.ae n):=aU n [(3,⟨[(10,.int .i64)],[],[0,9],[]⟩)] [] (ai (can.ok n) aK) aL func228
def gW.f (n:Nat) (a0:Program) (a1:bM):Option (Int×Int×Unit):=br (decide (a1.1=(a0.2.2.length:Int))) (some (0,0,())) (ab (0≤a1.1∧a1.1<(a0.2.2.length:Int)) (let v1:=(a0.2.2.getD a1.1.toNat kX); br (decide (v1.1=11)) (some (0,0,())) (br (decide (v1.1=1)) (some (2,v1.2.2.1,())) (br (decide (v1.1=2)) (some (3,v1.2.2.1,())) (some (1,0,()))))))
def gW.ae (n:Nat):au:=⟨[.val b_,.val bp],[.val I,.val I],fun x=>gW.f n x.1 x.2.1⟩
theorem gW.ok (n:Nat):aP 125 (gW.ae n):=aU n [] [] aK aL func125
def kZ.f (n:Nat) (a0:aq) (a1:State) (a2:Int):Option (Int×Unit):=ab (0≤a2∧a2<(a0.1.length:Int)) (let v1:=(a0.1.getD a2.toNat bC); ab (0≤a2∧a2<(a1.1.length:Int)) (let v2:=(a1.1.getD a2.toNat bK); (gW.f n v1 v2).bind fun r3=>br (decide (r3.1=2)) ((kD.f n a0 a2 r3.2.1).bind fun r4=>some (r4.1,())) (br (decide (r3.1=3)) ((l9.f n a0 a2 r3.2.1).bind fun r5=>some (r5.1,())) (some (-1,())))))
def kZ.ae (n:Nat):au:=⟨[.val cd,.val dG,.val I],[.val I],fun x=>kZ.f n x.1 x.2.1 x.2.2.1⟩
theorem kZ.ok (n:Nat):aP 126 (kZ.ae n):=aU n [] [] (ai (gW.ok n) (ai ⟨kD.sound n,kD.aD⟩ (ai ⟨l9.sound n,l9.aD⟩ aK))) aL func126
def ki.f (n:Nat) (a0:aq) (a1:State) (a2:Int):Option (Bool×Unit):=ab (0≤a2∧a2<(a0.1.length:Int)) (let v1:=(a0.1.getD a2.toNat bC); ab (0≤a2∧a2<(a1.1.length:Int)) (let v2:=(a1.1.getD a2.toNat bK); (gW.f n v1 v2).bind fun r3=>cut (br (decide (r3.1=0)) (some (.inr (true,()))) (some (.inr (decide (a1.2.2.2=20000),())))) fun y4=>br y4.1 (some (false,())) ((kZ.f n a0 a1 a2).bind fun r5=>br (decide (r3.1=2)) (ab (0≤r5.1∧r5.1<(a1.2.1.length:Int)) (let v7:=(a1.2.1.getD r5.1.toNat []); some (decide (0<(v7.length:Int)),()))) (br (decide (r3.1=1)) (some (true,())) (ab (0≤r5.1∧r5.1<(a1.2.2.1.length:Int)) (let v8:=(a1.2.2.1.getD r5.1.toNat []); some (decide ((v8.length:Int)<400),())))))))
def ki.ae (n:Nat):au:=⟨[.val cd,.val dG,.val I],[.val .bool],fun x=>ki.f n x.1 x.2.1 x.2.2.1⟩
theorem ki.ok (n:Nat):aP 137 (ki.ae n):=aU n [(2,⟨[(30,.bool)],[],[2,3,4,7],[]⟩)] [] (ai (gW.ok n) (ai (kZ.ok n) aK)) aL func137
end Go.AmT
namespace Go.AmT
variable {p:Program} {a:bM} {n:Nat} {nt:aq} {t:List (List Int)} {s:State}
def ch (p:Program) (a:bM):Int×Int:=
 if a.1=(p.2.2.length:Int) then (0,0) else if (p.2.2.getD a.1.toNat kX).1=11 then (0,0) else if (p.2.2.getD a.1.toNat kX).1=1 then (2,(p.2.2.getD a.1.toNat kX).2.2.1)
 else if (p.2.2.getD a.1.toNat kX).1=2 then (3,(p.2.2.getD a.1.toNat kX).2.2.1) else (1,0)
theorem qB (h:f_ p a=true):0≤a.1∧a.1≤(p.2.2.length:Int):=by unfold f_ at h;simp only [aw,decide_eq_true_eq] at h;exact ⟨h.1,h.2.1⟩
theorem iF {α:Type} {c:Prop} [Decidable c] {x y:Option α} : br (decide c) x y=if c then x else y:=by by_cases h:c<;>simp [h,br]
theorem N1 (h:f_ p a=true):want.f n p a=some ((ch p a).1,(ch p a).2,()):=by
 have hp:=qB h;unfold want.f ch;simp only [iF];split
 ·rfl
 rw [af (by omega)];split
 ·rfl
 split
 ·rfl
 split<;>rfl
theorem Bg (h:f_ p a=true):gW.f n p a=some ((ch p a).1,(ch p a).2,()):=N1 (n:=n) h
theorem N2 (p:Program) (a:bM):(ch p a).1=0∨(ch p a).1=1∨(ch p a).1=2∨(ch p a).1=3:=by
 unfold ch
 repeat' (first | (simp; done) | split)
theorem N3 (hp:cJ p=true) (h:f_ p a=true):0≤(ch p a).2∧((ch p a).1=2→(ch p a).2<p.1)∧((ch p a).1=3→(ch p a).2<p.2.1):=by
 have lD:=qB h;unfold cJ at hp;simp only [aw,List.all_eq_true] at hp;have hI:=hp.2;unfold ch;split
 ·simp
 rename_i aA;have ax:a.1.toNat<p.2.2.length:=by omega
 have hx:=hI _ (ct ax);rw [aJ ax];split
 ·simp
 split
 ·rename_i h1;unfold fy at hx;rw [if_pos h1] at hx;simp only [aw,decide_eq_true_eq] at hx;exact ⟨hx.2.1.1,fun _=>hx.2.1.2,fun h=>by simp at h⟩
 rename_i h1;split
 ·rename_i h2;unfold fy at hx;rw [if_neg h1,if_pos h2] at hx;simp only [aw,decide_eq_true_eq] at hx;exact ⟨hx.2.1.1,fun h=>by simp at h,fun _=>hx.2.1.2⟩
 simp
theorem N4 {α:Type} {f:α→Bool} : ∀ {ls:List α} {i j:Nat} (hi:i<ls.length) (hj:j<ls.length),ls.countP f≤1→f ls[i]=true→f ls[j]=true→i=j
 | [],i,j,hi,_,_,_,_=>by simp at hi
 | x::ls,i,j,hi,hj,hc,h1,h2=>by
  have z:∀ (k:Nat) (hk:k<ls.length),f x=true→f ls[k]=true→False:=by
   intro k hk hx hl;rw [List.countP_cons_of_pos hx] at hc;have:ls.countP f=0:=by omega
   rw [List.countP_eq_zero] at this;exact this _ (ct hk) hl
  cases i with
  | zero=>
   cases j with
   | zero=>rfl
   | succ j=>exact (z j (by simpa using hj) (by simpa using h1) (by simpa using h2)).elim
  | succ i=>
   cases j with
   | zero=>exact (z i (by simpa using hi) (by simpa using h2) (by simpa using h1)).elim
   | succ j=>
    have sP:ls.countP f≤1:=Nat.le_trans (List.adh) hc;rw [N4 (ls:=ls) (i:=i) (j:=j) (by simpa using hi) (by simpa using hj) sP (by simpa using h1) (by simpa using h2)]
 where
 List.adh {α:Type} {f:α→Bool} {x:α} {ls:List α} : ls.countP f≤(x::ls).countP f:=by rw [List.countP_cons]; omega
theorem UP {α:Type} {f:α→Bool} {ls:List α} {j:Nat} (hj:j<ls.length) (hc:ls.countP f=1) (hf:f ls[j]=true):mQ f ls=(j:Int):=by unfold mQ;rw [if_neg (by omega),if_pos hc];have h1:ls.findIdx f<ls.length:=List.findIdx_lt_length_of_exists ⟨_,ct hj,hf⟩;have h2:f ls[ls.findIdx f]=true:=List.findIdx_getElem (w:=h1);rw [N4 h1 hj (by omega) h2 hf]
theorem Dk {α:Type} {f:α→Bool} {ls:List α} (hc:ls.countP f=1):∃ j,∃ hj:j<ls.length,f ls[j]=true∧mQ f ls=(j:Int):=by
 have h0:0<ls.countP f:=by omega
 obtain ⟨x,hx,hf⟩:=List.countP_pos_iff.1 h0;obtain ⟨j,hj,rfl⟩:=List.mem_iff_getElem.1 hx;exact ⟨j,hj,hf,UP hj hc hf⟩
structure jL (nt:aq) (pl ql:bb→Int) (wd:Program→Int) (t:List (List Int)) (i:Nat):Prop where
 len:t.length=nt.1.length
 row:∀ (k:Nat) (hk:k<nt.1.length),(t.getD k []).length=(wd nt.1[k]).toNat
 at':∀ (k b j:Nat) (hk:k<nt.1.length) (hj:j<nt.2.length),j<i→(b:Int)<wd nt.1[k]→pl nt.2[j]=(k:Int)→ql nt.2[j]=(b:Int)→(t.getD k []).getD b 0=(j:Int)
def Jm (nt:aq) (pl ql:bb→Int) (wd:Program→Int):Prop:=∀ (k b:Nat) (hk:k<nt.1.length),(b:Int)<wd nt.1[k]→nt.2.countP (fun l=>decide (pl l=(k:Int))&&decide (ql l=(b:Int)))=1
theorem jL.skip {pl ql:bb→Int} {wd:Program→Int} {i:Nat} (T:jL nt pl ql wd t i) (hi:i<nt.2.length) (hn:¬ 0≤pl nt.2[i]):jL nt pl ql wd t (i+1):=by
 refine ⟨T.len,T.row,fun k b j hk hj ax hb h1 h2=>?_⟩;rcases Nat.lt_or_ge j i with h | h
 ·exact T.at' k b j hk hj h hb h1 h2
 obtain rfl:j=i:=by omega
 omega
theorem getD_set_ne {α:Type} {l:List α} {i j:Nat} (h:i≠j) (x z:α):(l.set i x).getD j z=l.getD j z:=by simp [List.getElem?_set_ne h]
theorem jL.put {pl ql:bb→Int} {wd:Program→Int} {i p q:Nat} (T:jL nt pl ql wd t i) (U:Jm nt pl ql wd) (hi:i<nt.2.length) (hp:p<nt.1.length) (hq:(q:Int)<wd nt.1[p]) (e1:pl nt.2[i]=(p:Int)) (e2:ql nt.2[i]=(q:Int)) :
  jL nt pl ql wd (t.set p ((t.getD p []).set q (i:Int))) (i+1):=by
 have Dg:p<t.length:=by rw [T.len]; exact hp
 refine ⟨by simp [T.len],fun k hk=>?_,fun k b j hk hj ax hb h1 h2=>?_⟩
 ·by_cases h:p=k
  ·subst h;rw [mW Dg,List.length_set]; exact T.row p hk
  rw [getD_set_ne h]; exact T.row k hk
 rcases Nat.lt_or_ge j i with h | h
 ·by_cases UQ:p=k
  ·subst UQ;rw [mW Dg];by_cases UR:q=b
   ·subst UR;have:=N4 (f:=fun l=>decide (pl l=(p:Int))&&decide (ql l=(q:Int))) hi hj (by rw [U p q hp hq]; omega) (by simp [e1,e2]) (by simp [h1,h2]);omega
   rw [getD_set_ne UR]; exact T.at' p b j hk hj h hb h1 h2
  rw [getD_set_ne UQ]; exact T.at' k b j hk hj h hb h1 h2
 obtain rfl:j=i:=by omega
 obtain rfl:p=k:=by omega
 obtain rfl:q=b:=by omega
 rw [mW Dg,mW (by rw [T.row p hp]; omega)]
theorem jL.get {pl ql:bb→Int} {wd:Program→Int} (T:jL nt pl ql wd t nt.2.length) (U:Jm nt pl ql wd) {k b:Nat} (hk:k<nt.1.length) (hb:(b:Int)<wd nt.1[k]) :
  (t.getD k []).getD b 0=mQ (fun l=>decide (pl l=(k:Int))&&decide (ql l=(b:Int))) nt.2:=by
 obtain ⟨j,hj,hf,e⟩:=Dk (U k b hk hb);simp only [aw,decide_eq_true_eq] at hf;rw [e]; exact T.at' k b j hk hj hj hb hf.1 hf.2
def wR (l:bb):Int:=l.2.2.1
def toQ (l:bb):Int:=l.2.2.2.1
def yP (l:bb):Int:=l.1
def yQ (l:bb):Int:=l.2.1
theorem US (o:cK nt):Jm nt wR toQ (fun p=>p.1):=fun k b hk hb=>o.ins k hk b hb
theorem UT (o:cK nt):Jm nt yP yQ (fun p=>p.2.1):=fun k b hk hb=>o.outs k hk b hb
structure kH (nt:aq) (s:State) (r:nJ):Prop where
 cf:r.1=nt
 st:r.2.1=s
 to:jL nt wR toQ (fun p=>p.1) r.2.2.1 nt.2.length
 fr:jL nt yP yQ (fun p=>p.2.1) r.2.2.2.1 nt.2.length
theorem wS {a:List Int} (h:a.length≤1048576):cR.f n a=some (a,()):=by unfold cR.f;rw [db (by simp; omega)]; rfl
theorem UU {a:List (List Int)} (hl:a.length≤1048576) (h:∀ q∈a,q.length≤1048576) (hn:1048576<n):wQ.f n a=some (a,()):=by
 unfold wQ.f;refine Eq.trans (yO a id (fun i s=>(i,s,())) (R:=fun ps=>some (ps,())) (fun ih i hi s hs=>?_) (fun ih ps=>av (bR _)) (by omega)) (by simp);have c0:0≤(i:Int):=by omega
 have c1:(i:Int)<(a.length:Int):=by omega
 have e1:a.getD i []=a[i]:=aJ hi _;simp only [c1,c0,and_self,qA,decide_true,aB,ay,e1,wS (h _ (ct hi)),aC];rw [db (by simp; omega),a_ (by omega)]; rfl
theorem UW (h:kf s) (hn:1048576<n):uM.f n s=some (s,()):=by
 have ha:=h.UE;unfold uM.f;rw [UU h.UF h.queue hn,UU h.UG h.fG hn];simp only [aC];refine Eq.trans (yO s.1 id (fun i ps=>(i,s.2.2.2,ps,s.2.1,s.2.2.1,())) (R:=fun ps=>some ((ps,s.2.1,s.2.2.1,s.2.2.2),())) (fun ih i hi ps hs=>?_) (fun ih ps=>av (bR _)) (by omega)) (by simp);have c0:0≤(i:Int):=by omega
 have c1:(i:Int)<(s.1.length:Int):=by omega
 have e1:s.1.getD i bK=s.1[i]:=aJ hi _;simp only [c1,c0,and_self,qA,decide_true,aB,ay,e1,wS (h.mV _ (ct hi)),aC];rw [db (by simp; omega),a_ (by omega)]; rfl
theorem Dl {caps:Option (List Int)} (o:cK nt) (h:kf s) (hn:1048576<n) :
  W (kg.f n nt.1 nt.2 s.1 s.2.1 s.2.2.1 s.2.2.2 caps) (fun r=>∃ to fr,r=(nt.1,nt.2,s.2.2.2,caps,s.1,s.2.1,s.2.2.1,to,fr,())∧
   jL nt wR toQ (fun p=>p.1) to nt.2.length∧jL nt yP yQ (fun p=>p.2.1) fr nt.2.length):=by
 have hp:=o.eX;have hl:=o.dB;have hm:=iD;unfold kg.f;rw [UW h hn];simp only [aC];refine fT (fun i (x:List (List Int)×List (List Int))=>((i:Int),nt.1,nt.2,s.2.2.2,caps,s.1,s.2.1,s.2.2.1,x.1,x.2,())) nt.1.length
  (fun i x=>x=((nt.1.take i).map (fun p=>iu p.1.toNat (0:Int)),(nt.1.take i).map (fun p=>iu p.2.1.toNat (0:Int)))) (s0:=([],[])) rfl (by simp) (by omega) (fun ih x hI=>?_) (fun ih i x hi hI hS=>?_)
 rotate_left
 ·have c0:0≤(i:Int):=by omega
  have c1:(i:Int)<(nt.1.length:Int):=by omega
  have e1:nt.1.getD i bC=nt.1[i]:=aJ hi _;have hq:=FY (o.prog i hi);have yf:x.1.length=i:=by rw [hI]; simp; omega
  have E6:x.2.length=i:=by rw [hI]; simp; omega
  simp only [c1,c0,and_self,qA,decide_true,aB,ay,e1,true_and];rw [af (by omega),db (by simp; omega),af (by omega),db (by simp; omega),a_ (by omega)];refine hS (_,_) ?_;rw [hI,List.take_succ_eq_append_getElem hi,List.map_append,List.map_append]; rfl
 simp only [av (bR _)];rw [List.take_length] at hI;have T0:∀ (pl ql:bb→Int) (wd:Program→Int),jL nt pl ql wd (nt.1.map (fun p=>iu (wd p).toNat (0:Int))) 0:=fun pl ql wd=>
  ⟨by simp,fun k hk=>by simp [hk],fun k b j hk hj ax=>by omega⟩
 refine fT (fun i (x:List (List Int)×List (List Int))=>((i:Int),nt.1,nt.2,s.2.2.2,caps,s.1,s.2.1,s.2.2.1,x.1,x.2,())) nt.2.length
  (fun i x=>jL nt wR toQ (fun p=>p.1) x.1 i∧jL nt yP yQ (fun p=>p.2.1) x.2 i) (s0:=x) rfl (by rw [hI]; exact ⟨T0 _ _ _,T0 _ _ _⟩) (by omega) (fun ih y hI=>?_) (fun ih i y hi hI hS=>?_)
 ·simp only [av (bR _)];rw [ak];exact ⟨_,_,rfl,hI.1,hI.2⟩
 have c0:0≤(i:Int):=by omega
 have c1:(i:Int)<(nt.2.length:Int):=by omega
 have e1:nt.2.getD i aE=nt.2[i]:=aJ hi _;have E:=o.ends i hi;simp only [c1,c0,and_self,qA,decide_true,aB,ay,e1];rw [a_ (by omega)];have IX:∀ t1,jL nt wR toQ (fun p=>p.1) t1 (i+1)→W (br (decide (0≤nt.2[i].1)) (ab (0≤nt.2[i].1∧nt.2[i].1<(y.2.length:Int)) (ab (0≤nt.2[i].2.1∧nt.2[i].2.1<((y.2.getD nt.2[i].1.toNat []).length:Int))
   (ih (((i+1:Nat):Int),nt.1,nt.2,s.2.2.2,caps,s.1,s.2.1,s.2.2.1,t1,y.2.set nt.2[i].1.toNat ((y.2.getD nt.2[i].1.toNat []).set nt.2[i].2.1.toNat (i:Int)),()))))
   (ih (((i+1:Nat):Int),nt.1,nt.2,s.2.2.2,caps,s.1,s.2.1,s.2.2.1,t1,y.2,()))) (fun r=>∃ to fr,r=(nt.1,nt.2,s.2.2.2,caps,s.1,s.2.1,s.2.2.1,to,fr,())∧
 jL nt wR toQ (fun p=>p.1) to nt.2.length∧jL nt yP yQ (fun p=>p.2.1) fr nt.2.length):=by
  intro t1 UX;rw [cM];refine ⟨fun h0=>?_,fun h0=>hS (t1,y.2) ⟨UX,hI.2.skip hi h0⟩⟩;rcases E.out with h | ⟨a1,a2,a3,a4⟩
  ·omega
  obtain ⟨p,kU⟩:∃ p:Nat,nt.2[i].1=(p:Int):=⟨nt.2[i].1.toNat,by omega⟩
  obtain ⟨q,qm⟩:∃ q:Nat,nt.2[i].2.1=(q:Int):=⟨nt.2[i].2.1.toNat,by omega⟩
  rw [kU,qm] at a4 ⊢;have fS:p<nt.1.length:=by omega
  simp only [ay,aJ fS] at a4 ⊢;have mK:=hI.2.row p fS;rw [af (by rw [hI.2.len]; omega),af (by rw [mK]; omega)];exact hS (t1,_) ⟨UX,hI.2.put (UT o) hi fS a4 kU qm⟩
 by_cases h0:0≤nt.2[i].2.2.1
 ·rcases E.qo with h | ⟨a1,a2,a3,a4⟩
  ·omega
  obtain ⟨p,kU⟩:∃ p:Nat,nt.2[i].2.2.1=(p:Int):=⟨nt.2[i].2.2.1.toNat,by omega⟩
  obtain ⟨q,qm⟩:∃ q:Nat,nt.2[i].2.2.2.1=(q:Int):=⟨nt.2[i].2.2.2.1.toNat,by omega⟩
  have fS:p<nt.1.length:=by omega
  have hT:=IX (y.1.set p ((y.1.getD p []).set q (i:Int)));have mK:=hI.1.row p fS;rw [kU,qm] at a4 ⊢;simp only [ay,aJ fS] at a4 ⊢;rw [aG (by omega),af (by rw [hI.1.len]; omega),af (by rw [mK]; omega)];simp only [aY];exact hT (hI.1.put (US o) hi fS a4 kU qm)
 rw [av h0];simp only [aY];exact IX y.1 (hI.1.skip hi h0)
def prog (nt:aq) (k:Nat):Program:=nt.1.getD k bC
def mV (s:State) (k:Nat):bM:=s.1.getD k bK
def bd (nt:aq) (s:State) (k:Nat):Int×Int:=ch (prog nt k) (mV s k)
def bg (nt:aq) (s:State) (k:Nat):Int:=
 if (bd nt s k).1=2 then mQ (ma (k:Int) (bd nt s k).2) nt.2 else if (bd nt s k).1=3 then mQ (oM (k:Int) (bd nt s k).2) nt.2 else -1
def cS (nt:aq) (s:State) (k:Nat):Bool:=
 if (bd nt s k).1=0∨20000≤s.2.2.2 then false
 else if (bd nt s k).1=2 then decide (0<((s.2.1.getD (bg nt s k).toNat []).length:Int))
 else if (bd nt s k).1=3 then decide (((s.2.2.1.getD (bg nt s k).toNat []).length:Int)<400) else true
theorem F7 (o:bG nt s) {k:Nat} (hk:k<nt.1.length):∃ b:Nat,(bd nt s k).2=(b:Int)∧((bd nt s k).1=2→(b:Int)<nt.1[k].1)∧((bd nt s k).1=3→(b:Int)<nt.1[k].2.1):=by
 have ha:=o.act k hk;have hp:=o.cf.prog k hk;rw [aJ hk] at ha;have h:=N3 hp ha;have e:bd nt s k=ch nt.1[k] (s.1.getD k bK):=by unfold bd prog mV; rw [aJ hk]
 rw [e];refine ⟨(ch nt.1[k] (s.1.getD k bK)).2.toNat,by omega,fun h2=>?_,fun h3=>?_⟩
 ·have:=h.2.1 h2; omega
 have:=h.2.2 h3; omega
theorem nK (o:bG nt s) {k:Nat} (hk:k<nt.1.length) (h:(bd nt s k).1=2):∃ j,∃ hj:j<nt.2.length,bg nt s k=(j:Int)∧nt.2[j].2.2.1=(k:Int)∧nt.2[j].2.2.2.1=(bd nt s k).2:=by
 obtain ⟨b,e,h2,-⟩:=F7 o hk;obtain ⟨j,hj,hf,e2⟩:=Dk (o.cf.ins k hk b (h2 h));refine ⟨j,hj,?_,?_⟩
 ·unfold bg; rw [if_pos h,e]; exact e2
 unfold ma at hf;simp only [aw,decide_eq_true_eq] at hf;rw [e]; exact hf
theorem rD (o:bG nt s) {k:Nat} (hk:k<nt.1.length) (h:(bd nt s k).1=3):∃ j,∃ hj:j<nt.2.length,bg nt s k=(j:Int)∧nt.2[j].1=(k:Int)∧nt.2[j].2.1=(bd nt s k).2:=by
 obtain ⟨b,e,-,h2⟩:=F7 o hk;obtain ⟨j,hj,hf,e2⟩:=Dk (o.cf.outs k hk b (h2 h));refine ⟨j,hj,?_,?_⟩
 ·unfold bg; rw [if_neg (by omega),if_pos h,e]; exact e2
 unfold oM at hf;simp only [aw,decide_eq_true_eq] at hf;rw [e]; exact hf
theorem Dn {r:nJ} (R:kH nt s r) (o:bG nt s) {k:Nat} (hk:k<nt.1.length):iP.f n r (k:Int)=some ((bd nt s k).1,bg nt s k,()):=by
 obtain ⟨r1,r2,to,fr,cp⟩:=r;obtain ⟨e1,e2,T,F⟩:=R;have e1:r1=nt:=e1;have e2:r2=s:=e2;subst e1 e2;have T:jL r1 wR toQ (fun p=>p.1) to r1.2.length:=T;have F:jL r1 yP yQ (fun p=>p.2.1) fr r1.2.length:=F;obtain ⟨b,eb,h2,h3⟩:=F7 o hk;have ha:=o.act k hk;have oO:k<r2.1.length:=by rw [o.na]; exact hk
 have hw:want.f n (r1.1.getD k bC) (r2.1.getD k bK)=some ((bd r1 r2 k).1,(bd r1 r2 k).2,()):=N1 ha;unfold iP.f;simp only [ay];rw [af (by omega),af (by omega),hw];simp only [aC,iF];unfold bg;rw [eb];by_cases c2:(bd r1 r2 k).1=2
 ·have hb:=h2 c2;have mK:=T.row k hk;have g:=T.get (US o.cf) hk hb;rw [if_pos c2,if_pos c2,af (by rw [T.len]; omega),af (by rw [mK]; omega),c2];simp only [ay];rw [g]; rfl
 rw [if_neg c2,if_neg c2];by_cases c3:(bd r1 r2 k).1=3
 ·have hb:=h3 c3;have mK:=F.row k hk;have g:=F.get (UT o.cf) hk hb;rw [if_pos c3,if_pos c3,af (by rw [F.len]; omega),af (by rw [mK]; omega),c3];simp only [ay];rw [g]; rfl
 rw [if_neg c3,if_neg c3]
theorem F8 (o:bG nt s) {k:Nat} (hk:k<nt.1.length) (hn:1048576<n):kZ.f n nt s (k:Int)=some (bg nt s k,()):=by
 have ha:=o.act k hk;have hl:=o.cf.dB;have oO:k<s.1.length:=by rw [o.na]; exact hk
 have hw:gW.f n (nt.1.getD k bC) (s.1.getD k bK)=some ((bd nt s k).1,(bd nt s k).2,()):=Bg ha;unfold kZ.f;simp only [ay];rw [af (by omega),af (by omega),hw];simp only [aC,iF];rw [NM (by omega) hn,Us (by omega) hn];unfold bg;by_cases c2:(bd nt s k).1=2
 ·rw [if_pos c2,if_pos c2]; rfl
 rw [if_neg c2,if_neg c2];by_cases c3:(bd nt s k).1=3
 ·rw [if_pos c3,if_pos c3]; rfl
 rw [if_neg c3,if_neg c3]
theorem adi (nt:aq) (s:State) (k:Nat):(bd nt s k).1=0∨(bd nt s k).1=1∨(bd nt s k).1=2∨(bd nt s k).1=3:=N2 _ _
theorem Dp {r:nJ} (R:kH nt s r) (o:bG nt s) {k:Nat} (hk:k<nt.1.length):can.f n r (k:Int)=some (cS nt s k,()):=by
 unfold can.f;rw [Dn R o hk,R.st];simp only [aC,iF];unfold cS;have hq:=o.nq;have hs:=o.ns;by_cases c0:(bd nt s k).1=0
 ·simp [c0,br,cut]
 by_cases c1:20000≤s.2.2.2
 ·simp [c0,c1,br,cut]
 simp only [c0,c1,if_false,decide_false,aY,ar,false_or];by_cases c2:(bd nt s k).1=2
 ·obtain ⟨j,hj,e,-⟩:=nK o hk c2;rw [if_pos c2,if_pos c2,e,af (by omega)]
 rw [if_neg c2,if_neg c2];by_cases c3:(bd nt s k).1=3
 ·obtain ⟨j,hj,e,-⟩:=rD o hk c3;rw [if_pos c3,if_pos c3,e,af (by omega)]
 rw [if_neg c3,if_neg c3]
theorem Bh (o:bG nt s) {k:Nat} (hk:k<nt.1.length) (hn:1048576<n):ki.f n nt s (k:Int)=some (cS nt s k,()):=by
 have ha:=o.act k hk;have oO:k<s.1.length:=by rw [o.na]; exact hk
 have hw:gW.f n (nt.1.getD k bC) (s.1.getD k bK)=some ((bd nt s k).1,(bd nt s k).2,()):=Bg ha;have hq:=o.nq;have hs:=o.ns;have wv:=o.steps;unfold ki.f;simp only [ay];rw [af (by omega),af (by omega),hw,F8 o hk hn];simp only [aC,iF];unfold cS;by_cases c0:(bd nt s k).1=0
 ·simp [c0,br,cut]
 by_cases c1:s.2.2.2=20000
 ·simp [c0,c1,br,cut]
 have c1':¬ 20000≤s.2.2.2:=by omega
 simp only [c0,c1,c1',if_false,decide_false,aY,ar,false_or];by_cases c2:(bd nt s k).1=2
 ·obtain ⟨j,hj,e,-⟩:=nK o hk c2;rw [if_pos c2,if_pos c2,e,af (by omega)]
 rw [if_neg c2,if_neg c2];by_cases c3:(bd nt s k).1=3
 ·obtain ⟨j,hj,e,-⟩:=rD o hk c3;rw [if_neg (by omega),if_pos c3,e,af (by omega)]
 have c4:(bd nt s k).1=1:=by have:=adi nt s k; omega
 rw [if_pos c4,if_neg c3]
def kj (nt:aq) (s:State):Bool:=(List.range nt.1.length).any (cS nt s)
def rE:bM:=(0,[0,0,0,0])
def start (nt:aq):State:=(nt.1.map fun _=>rE,nt.2.map (fun l=>l.2.2.2.2),nt.2.map (fun l=>l.2.2.2.2),0)
theorem UY (o:cK nt):bG nt (start nt):=by
 refine ⟨o,by simp [start],by simp [start],by simp [start],by simp [start],fun i hi=>?_,fun i hi=>?_⟩
 ·show f_ _ ((nt.1.map fun _=>rE).getD i bK)=true;have:(nt.1.map fun _=>rE).getD i bK=rE:=by simp [hi]
  rw [this];unfold f_ rE;simp [bS,tok]
 have e:(nt.2.map (fun l=>l.2.2.2.2)).getD i []=nt.2[i].2.2.2.2:=by simp [hi]
 show uK _ ((nt.2.map (fun l=>l.2.2.2.2)).getD i []) ((nt.2.map (fun l=>l.2.2.2.2)).getD i []);rw [e,aJ hi];exact ⟨o.ji i hi,o.ji i hi,List.prefix_rfl,List.suffix_rfl,fun _=>rfl,fun _=>rfl⟩
end Go.AmT
namespace Go.AmT
open Go.Proofs Go.Proofs.Tryz
end Go.AmT
namespace Go.AmT
end Go.AmT
