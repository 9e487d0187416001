/- Functions that the law FnDeskKeeps reaches, each as a plain Lean function, and that each does what that says. No condition. -/
import Derived.Test.YtfoamipegmbcgaaGreatDoorMKpF6
namespace Go.AmT
noncomputable section
open Go Go.Am Go.Proofs
set_option linter.unusedVariables false
set_option maxRecDepth 100000
def uZ.f (n:Nat) (a0:List Int) (a1:Int):Option (Int×Unit):=iter (α:=(Int×Unit)) n (fun gP x5=>br (decide (x5.1<(a0.length:Int))) (ab (0≤x5.1∧x5.1<(a0.length:Int)) (br (decide (a1=(a0.getD x5.1.toNat 0))) (some (x5.1,())) (gP ((ag (x5.1+1)),())))) (some ((-1),()))) (0,())
def uZ.ae (n:Nat):ar:=⟨[.val IS,.val I],[.val I],fun x=>uZ.f n x.1 x.2.1⟩
theorem uZ.ok (n:Nat):aN 229 (uZ.ae n):=aQ n [(3,⟨[(8,.int .i64)],[],[0,1,7],[]⟩)] [] aC aD Tryz.func229
def pK.f (n:Nat) (a0:List Int) (a1:Int):Option (Bool×Unit):=(uZ.f n a0 a1).bind fun r1=>some ((decide (0≤r1.1)),())
def pK.ae (n:Nat):ar:=⟨[.val IS,.val I],[.val .bool],fun x=>pK.f n x.1 x.2.1⟩
theorem pK.ok (n:Nat):aN 212 (pK.ae n):=aQ n [] [] (ak (uZ.ok n) aC) aD Tryz.func212
def cE.bY:List (Nat×LA):=[(5,⟨[(40,.bool)],[],[0,1,2,3,4,11],[0,1,2,3,4,5,6,7]⟩),(10,⟨[(0,.aJ 0 0),(3,.aJ 6 0),(4,.own 1000 I)],[(0,.cells [true,true,false,false,false,false,false,false,true] [.sh bn,.sh cq,.own 1 bu,.own 2 IS,.own 3 IS,.int .i64,.own 4 IS,.own 5 IS,.cu I]),(1,.row true bu),(2,.row true IS),(3,.row true IS),(4,.row true IS),(5,.row true IS),(6,.cells [false] [.int .i64]),(1000,.row true I)],[1,2,11],[7]⟩)]
def cE.la:LA:=⟨[(0,.aJ 0 0),(1,.int .i64),(2,.int .i64),(3,.aJ 6 0),(4,.own 7 I)],[(0,.cells [true,true,false,false,false,false,false,false,true] [.sh bn,.sh cq,.own 1 bu,.own 2 IS,.own 3 IS,.int .i64,.own 4 IS,.own 5 IS,.cu I]),(1,.row true bu),(2,.row true IS),(3,.row true IS),(4,.row true IS),(5,.row true IS),(6,.cells [false] [.int .i64]),(7,.row true I)],[],[]⟩
def cE.lb:LA:=⟨[(0,.bool)],[(0,.cells [true,true,false,false,false,false,false,false,true] [.sh bn,.sh cq,.own 1 bu,.own 2 IS,.own 3 IS,.int .i64,.own 4 IS,.own 5 IS,.cu I]),(1,.row true bu),(2,.row true IS),(3,.row true IS),(4,.row true IS),(5,.row true IS),(6,.cells [false] [.int .i64]),(7,.row true I)],[],[]⟩
def cE.B (n:Nat) (slf:(Int)→(Int)→(List Program)→(List aG)→(Int)→(Option (List Int))→(List a_)→(List (List Int))→(List (List Int))→(List (List Int))→(List (List Int))→(Int)→(List Int)→Option (Bool×(List Program)×(List aG)×(Int×(Option (List Int))×(List a_)×(List (List Int))×(List (List Int))×(List (List Int))×(List (List Int))×(Int×(List Int)×Unit)))) (a0:Int) (a1:Int) (a2:List Program) (a3:List aG) (a4:Int) (a5:Option (List Int)) (a6:List a_) (a7:List (List Int)) (a8:List (List Int)) (a9:List (List Int)) (om:List (List Int)) (oq:Int) (a12:List Int):Option (Bool×(List Program)×(List aG)×(Int×(Option (List Int))×(List a_)×(List (List Int))×(List (List Int))×(List (List Int))×(List (List Int))×(Int×(List Int)×Unit))):=ab (0≤a0∧a0<(a8.length:Int)) (br (decide (a1≤((a8.getD a0.toNat []).length:Int))) (some (true,(a2,(a3,(a4,(a5,(a6,(a7,(a8,(a9,(om,(oq,(a12,()))))))))))))) (ab (0≤a0∧a0<(a3.length:Int)) (cut (α:=(Bool×Unit)) (br (decide ((a3.getD a0.toNat aM).1<0)) (some (.inr (true,()))) ((pK.f n a12 a0).bind fun r3=>some (.inr (r3.1,())))) fun y2=>br y2.1 (some (false,(a2,(a3,(a4,(a5,(a6,(a7,(a8,(a9,(om,(oq,(a12,()))))))))))))) ((cd.f n a12).bind fun r4=>ab ((r4.1.length+([a0]:List Int).length)*8≤aW) (iter (α:=((List Program)×(List aG)×(Int×(Option (List Int))×(List a_)×(List (List Int))×(List (List Int))×(List (List Int))×(List (List Int))×(Int×(List Int)×Unit)))) n (fun xk ax=>ab (0≤a0∧a0<(ax.2.2.2.2.2.2.1.length:Int)) (br (decide (((ax.2.2.2.2.2.2.1.getD a0.toNat []).length:Int)<a1)) ((can.f n ((ax.1,ax.2.1),((ax.2.2.2.2.1,(ax.2.2.2.2.2.1,(ax.2.2.2.2.2.2.1,ax.2.2.1))),(ax.2.2.2.2.2.2.2.1,(ax.2.2.2.2.2.2.2.2.1,ax.2.2.2.1)))) (a3.getD a0.toNat aM).1).bind fun iC=>br iC.1 (br (decide (ax.2.2.2.2.2.2.2.2.2.1≤0)) (some (false,(ax.1,(ax.2.1,(ax.2.2.1,(ax.2.2.2.1,(ax.2.2.2.2.1,(ax.2.2.2.2.2.1,(ax.2.2.2.2.2.2.1,(ax.2.2.2.2.2.2.2.1,(ax.2.2.2.2.2.2.2.2.1,(ax.2.2.2.2.2.2.2.2.2.1,(a12,()))))))))))))) ((jg.f n (a3.getD a0.toNat aM).1 ax.1 ax.2.1 ax.2.2.1 ax.2.2.2.1 ax.2.2.2.2.1 ax.2.2.2.2.2.1 ax.2.2.2.2.2.2.1 ax.2.2.2.2.2.2.2.1 ax.2.2.2.2.2.2.2.2.1).bind fun di=>xk (di.1,(di.2.1,(di.2.2.1,(di.2.2.2.1,(di.2.2.2.2.1,(di.2.2.2.2.2.1,(di.2.2.2.2.2.2.1,(di.2.2.2.2.2.2.2.1,(di.2.2.2.2.2.2.2.2.1,((ag (ax.2.2.2.2.2.2.2.2.2.1-1)),(ax.2.2.2.2.2.2.2.2.2.2.1,()))))))))))))) ((fY.f n ((ax.1,ax.2.1),((ax.2.2.2.2.1,(ax.2.2.2.2.2.1,(ax.2.2.2.2.2.2.1,ax.2.2.1))),(ax.2.2.2.2.2.2.2.1,(ax.2.2.2.2.2.2.2.2.1,ax.2.2.2.1)))) (a3.getD a0.toNat aM).1).bind fun fD=>br (!decide (fD.1=2)) (some (false,(ax.1,(ax.2.1,(ax.2.2.1,(ax.2.2.2.1,(ax.2.2.2.2.1,(ax.2.2.2.2.2.1,(ax.2.2.2.2.2.2.1,(ax.2.2.2.2.2.2.2.1,(ax.2.2.2.2.2.2.2.2.1,(ax.2.2.2.2.2.2.2.2.2.1,(a12,()))))))))))))) (ab (0≤fD.2.1∧fD.2.1<(ax.2.2.2.2.2.2.1.length:Int)) ((slf fD.2.1 (ag (((ax.2.2.2.2.2.2.1.getD fD.2.1.toNat []).length:Int)+1)) ax.1 ax.2.1 ax.2.2.1 ax.2.2.2.1 ax.2.2.2.2.1 ax.2.2.2.2.2.1 ax.2.2.2.2.2.2.1 ax.2.2.2.2.2.2.2.1 ax.2.2.2.2.2.2.2.2.1 ax.2.2.2.2.2.2.2.2.2.1 ax.2.2.2.2.2.2.2.2.2.2.1).bind fun bM=>br (!bM.1) (some (false,(bM.2.1,(bM.2.2.1,(bM.2.2.2.1,(bM.2.2.2.2.1,(bM.2.2.2.2.2.1,(bM.2.2.2.2.2.2.1,(bM.2.2.2.2.2.2.2.1,(bM.2.2.2.2.2.2.2.2.1,(bM.2.2.2.2.2.2.2.2.2.1,(bM.2.2.2.2.2.2.2.2.2.2.1,(a12,()))))))))))))) (xk (bM.2.1,(bM.2.2.1,(bM.2.2.2.1,(bM.2.2.2.2.1,(bM.2.2.2.2.2.1,(bM.2.2.2.2.2.2.1,(bM.2.2.2.2.2.2.2.1,(bM.2.2.2.2.2.2.2.2.1,(bM.2.2.2.2.2.2.2.2.2.1,(bM.2.2.2.2.2.2.2.2.2.2.1,(bM.2.2.2.2.2.2.2.2.2.2.2.1,())))))))))))))))) (some (true,(ax.1,(ax.2.1,(ax.2.2.1,(ax.2.2.2.1,(ax.2.2.2.2.1,(ax.2.2.2.2.2.1,(ax.2.2.2.2.2.2.1,(ax.2.2.2.2.2.2.2.1,(ax.2.2.2.2.2.2.2.2.1,(ax.2.2.2.2.2.2.2.2.2.1,(a12,()))))))))))))))) (a2,(a3,(a4,(a5,(a6,(a7,(a8,(a9,(om,(oq,((r4.1++[a0]),()))))))))))))))))
def cE.F (n:Nat):Nat→(Int)→(Int)→(List Program)→(List aG)→(Int)→(Option (List Int))→(List a_)→(List (List Int))→(List (List Int))→(List (List Int))→(List (List Int))→(Int)→(List Int)→Option (Bool×(List Program)×(List aG)×(Int×(Option (List Int))×(List a_)×(List (List Int))×(List (List Int))×(List (List Int))×(List (List Int))×(Int×(List Int)×Unit)))
 | 0=>fun _ _ _ _ _ _ _ _ _ _ _ _ _=>none
 | d+1=>cE.B n (cE.F n d)
def cE.f (n:Nat) (a0:Int) (a1:Int) (a2:List Program) (a3:List aG) (a4:Int) (a5:Option (List Int)) (a6:List a_) (a7:List (List Int)) (a8:List (List Int)) (a9:List (List Int)) (om:List (List Int)) (oq:Int) (a12:List Int):Option (Bool×(List Program)×(List aG)×(Int×(Option (List Int))×(List a_)×(List (List Int))×(List (List Int))×(List (List Int))×(List (List Int))×(Int×(List Int)×Unit))):=cE.F n n a0 a1 a2 a3 a4 a5 a6 a7 a8 a9 om oq a12
def cE.xm (n:Nat) (slf:(Int)→(Int)→(List Program)→(List aG)→(Int)→(Option (List Int))→(List a_)→(List (List Int))→(List (List Int))→(List (List Int))→(List (List Int))→(Int)→(List Int)→Option (Bool×(List Program)×(List aG)×(Int×(Option (List Int))×(List a_)×(List (List Int))×(List (List Int))×(List (List Int))×(List (List Int))×(Int×(List Int)×Unit)))):bS:=⟨cE.la,cE.lb,fun x=>slf x.1 x.2.1 x.2.2.1 x.2.2.2.1 x.2.2.2.2.1 x.2.2.2.2.2.1 x.2.2.2.2.2.2.1 x.2.2.2.2.2.2.2.1 x.2.2.2.2.2.2.2.2.1 x.2.2.2.2.2.2.2.2.2.1 x.2.2.2.2.2.2.2.2.2.2.1 x.2.2.2.2.2.2.2.2.2.2.2.1 x.2.2.2.2.2.2.2.2.2.2.2.2.1⟩
def cE.ae (n:Nat):bS:=⟨cE.la,cE.lb,fun x=>cE.f n x.1 x.2.1 x.2.2.1 x.2.2.2.1 x.2.2.2.2.1 x.2.2.2.2.2.1 x.2.2.2.2.2.2.1 x.2.2.2.2.2.2.2.1 x.2.2.2.2.2.2.2.2.1 x.2.2.2.2.2.2.2.2.2.1 x.2.2.2.2.2.2.2.2.2.2.1 x.2.2.2.2.2.2.2.2.2.2.2.1 x.2.2.2.2.2.2.2.2.2.2.2.2.1⟩
def cE.cfg (n:Nat) (slf:(Int)→(Int)→(List Program)→(List aG)→(Int)→(Option (List Int))→(List a_)→(List (List Int))→(List (List Int))→(List (List Int))→(List (List Int))→(Int)→(List Int)→Option (Bool×(List Program)×(List aG)×(Int×(Option (List Int))×(List a_)×(List (List Int))×(List (List Int))×(List (List Int))×(List (List Int))×(Int×(List Int)×Unit)))):aP:=⟨ly,[(212,pK.ae n),(64,cd.ae n),(89,can.ae n),(141,fY.ae n)],[(88,jg.ae n),(178,cE.xm n slf)],[]⟩
theorem cE.eq:∀ (n:Nat) (slf:(Int)→(Int)→(List Program)→(List aG)→(Int)→(Option (List Int))→(List a_)→(List (List Int))→(List (List Int))→(List (List Int))→(List (List Int))→(Int)→(List Int)→Option (Bool×(List Program)×(List aG)×(Int×(Option (List Int))×(List a_)×(List (List Int))×(List (List Int))×(List (List Int))×(List (List Int))×(Int×(List Int)×Unit)))) (a0:Int) (a1:Int) (a2:List Program) (a3:List aG) (a4:Int) (a5:Option (List Int)) (a6:List a_) (a7:List (List Int)) (a8:List (List Int)) (a9:List (List Int)) (om:List (List Int)) (oq:Int) (a12:List Int) (mp:Mp),bS.run (cE.cfg n slf) n Tryz.f178 (d_ Tryz.f178 cE.bY) cE.la cE.lb (a0,(a1,(a2,(a3,(a4,(a5,(a6,(a7,(a8,(a9,(om,(oq,(a12,mp)))))))))))))=cE.B n slf a0 a1 a2 a3 a4 a5 a6 a7 a8 a9 om oq a12:=by
 intros
 kernel_rfl
theorem cE.az:cG Tryz.prog 178:=dz Tryz.func178 (by kernel_rfl) (by kernel_rfl)
theorem cE.B_ (n:Nat):∀ d,qB Tryz.prog 178 (cE.xm n (cE.F n d))
 | 0=>fun _ _ h=>nomatch h
 | d+1=>Gx (fn:=Tryz.f178) (M:=cE.xm n (cE.F n (d+1))) (c:=cE.cfg n (cE.F n d)) (uw mixed (su (.of (c:=cE.cfg n (cE.F n d)) ⟨pK.ok n,⟨⟨cd.sound n,cd.az⟩,⟨can.ok n,⟨fY.ok n,trivial⟩⟩⟩⟩) (.of (c:=cE.cfg n (cE.F n d)) ⟨jg.ok n,⟨⟨cE.B_ n d,cE.az⟩,trivial⟩⟩)) (dM km)) (dM km) Tryz.func178 (fun x=>(cE.eq n (cE.F n d) x.1 x.2.1 x.2.2.1 x.2.2.2.1 x.2.2.2.2.1 x.2.2.2.2.2.1 x.2.2.2.2.2.2.1 x.2.2.2.2.2.2.2.1 x.2.2.2.2.2.2.2.2.1 x.2.2.2.2.2.2.2.2.2.1 x.2.2.2.2.2.2.2.2.2.2.1 x.2.2.2.2.2.2.2.2.2.2.2.1 x.2.2.2.2.2.2.2.2.2.2.2.2.1 x.2.2.2.2.2.2.2.2.2.2.2.2.2).symm)
theorem cE.sound (n:Nat):qB Tryz.prog 178 (cE.ae n):=cE.B_ n n
def ov.la:LA:=⟨[(0,.aJ 0 0),(1,.int .i64),(2,.int .i64),(3,.aJ 6 0),(4,.lQ (.nil))],[(0,.cells [true,true,false,false,false,false,false,false,true] [.sh bn,.sh cq,.own 1 bu,.own 2 IS,.own 3 IS,.int .i64,.own 4 IS,.own 5 IS,.cu I]),(1,.row true bu),(2,.row true IS),(3,.row true IS),(4,.row true IS),(5,.row true IS),(6,.cells [false] [.int .i64])],[],[]⟩
def ov.lb:LA:=⟨[(0,.bool)],[(0,.cells [true,true,false,false,false,false,false,false,true] [.sh bn,.sh cq,.own 1 bu,.own 2 IS,.own 3 IS,.int .i64,.own 4 IS,.own 5 IS,.cu I]),(1,.row true bu),(2,.row true IS),(3,.row true IS),(4,.row true IS),(5,.row true IS),(6,.cells [false] [.int .i64])],[],[]⟩
def ov.f (n:Nat) (a0:Int) (a1:Int) (a2:List Program) (a3:List aG) (a4:Int) (a5:Option (List Int)) (a6:List a_) (a7:List (List Int)) (a8:List (List Int)) (a9:List (List Int)) (om:List (List Int)) (oq:Int):Option (Bool×(List Program)×(List aG)×(Int×(Option (List Int))×(List a_)×(List (List Int))×(List (List Int))×(List (List Int))×(List (List Int))×(Int×Unit))):=ab (0≤a0∧a0<(a8.length:Int)) (br (decide (a1≤((a8.getD a0.toNat []).length:Int))) (some (true,(a2,(a3,(a4,(a5,(a6,(a7,(a8,(a9,(om,(oq,())))))))))))) (ab (0≤a0∧a0<(a3.length:Int)) (cut (α:=(Bool×Unit)) (br (decide ((a3.getD a0.toNat aM).1<0)) (some (.inr (true,()))) ((pK.f n ([]:List Int) a0).bind fun r3=>some (.inr (r3.1,())))) fun y2=>br y2.1 (some (false,(a2,(a3,(a4,(a5,(a6,(a7,(a8,(a9,(om,(oq,())))))))))))) ((cd.f n ([]:List Int)).bind fun r4=>ab ((r4.1.length+([a0]:List Int).length)*8≤aW) (iter (α:=((List Program)×(List aG)×(Int×(Option (List Int))×(List a_)×(List (List Int))×(List (List Int))×(List (List Int))×(List (List Int))×(Int×(List Int)×Unit)))) n (fun xk ax=>ab (0≤a0∧a0<(ax.2.2.2.2.2.2.1.length:Int)) (br (decide (((ax.2.2.2.2.2.2.1.getD a0.toNat []).length:Int)<a1)) ((can.f n ((ax.1,ax.2.1),((ax.2.2.2.2.1,(ax.2.2.2.2.2.1,(ax.2.2.2.2.2.2.1,ax.2.2.1))),(ax.2.2.2.2.2.2.2.1,(ax.2.2.2.2.2.2.2.2.1,ax.2.2.2.1)))) (a3.getD a0.toNat aM).1).bind fun iC=>br iC.1 (br (decide (ax.2.2.2.2.2.2.2.2.2.1≤0)) (some (false,(ax.1,(ax.2.1,(ax.2.2.1,(ax.2.2.2.1,(ax.2.2.2.2.1,(ax.2.2.2.2.2.1,(ax.2.2.2.2.2.2.1,(ax.2.2.2.2.2.2.2.1,(ax.2.2.2.2.2.2.2.2.1,(ax.2.2.2.2.2.2.2.2.2.1,())))))))))))) ((jg.f n (a3.getD a0.toNat aM).1 ax.1 ax.2.1 ax.2.2.1 ax.2.2.2.1 ax.2.2.2.2.1 ax.2.2.2.2.2.1 ax.2.2.2.2.2.2.1 ax.2.2.2.2.2.2.2.1 ax.2.2.2.2.2.2.2.2.1).bind fun di=>xk (di.1,(di.2.1,(di.2.2.1,(di.2.2.2.1,(di.2.2.2.2.1,(di.2.2.2.2.2.1,(di.2.2.2.2.2.2.1,(di.2.2.2.2.2.2.2.1,(di.2.2.2.2.2.2.2.2.1,((ag (ax.2.2.2.2.2.2.2.2.2.1-1)),(ax.2.2.2.2.2.2.2.2.2.2.1,()))))))))))))) ((fY.f n ((ax.1,ax.2.1),((ax.2.2.2.2.1,(ax.2.2.2.2.2.1,(ax.2.2.2.2.2.2.1,ax.2.2.1))),(ax.2.2.2.2.2.2.2.1,(ax.2.2.2.2.2.2.2.2.1,ax.2.2.2.1)))) (a3.getD a0.toNat aM).1).bind fun fD=>br (!decide (fD.1=2)) (some (false,(ax.1,(ax.2.1,(ax.2.2.1,(ax.2.2.2.1,(ax.2.2.2.2.1,(ax.2.2.2.2.2.1,(ax.2.2.2.2.2.2.1,(ax.2.2.2.2.2.2.2.1,(ax.2.2.2.2.2.2.2.2.1,(ax.2.2.2.2.2.2.2.2.2.1,())))))))))))) (ab (0≤fD.2.1∧fD.2.1<(ax.2.2.2.2.2.2.1.length:Int)) ((cE.f n fD.2.1 (ag (((ax.2.2.2.2.2.2.1.getD fD.2.1.toNat []).length:Int)+1)) ax.1 ax.2.1 ax.2.2.1 ax.2.2.2.1 ax.2.2.2.2.1 ax.2.2.2.2.2.1 ax.2.2.2.2.2.2.1 ax.2.2.2.2.2.2.2.1 ax.2.2.2.2.2.2.2.2.1 ax.2.2.2.2.2.2.2.2.2.1 ax.2.2.2.2.2.2.2.2.2.2.1).bind fun bM=>br (!bM.1) (some (false,(bM.2.1,(bM.2.2.1,(bM.2.2.2.1,(bM.2.2.2.2.1,(bM.2.2.2.2.2.1,(bM.2.2.2.2.2.2.1,(bM.2.2.2.2.2.2.2.1,(bM.2.2.2.2.2.2.2.2.1,(bM.2.2.2.2.2.2.2.2.2.1,(bM.2.2.2.2.2.2.2.2.2.2.1,())))))))))))) (xk (bM.2.1,(bM.2.2.1,(bM.2.2.2.1,(bM.2.2.2.2.1,(bM.2.2.2.2.2.1,(bM.2.2.2.2.2.2.1,(bM.2.2.2.2.2.2.2.1,(bM.2.2.2.2.2.2.2.2.1,(bM.2.2.2.2.2.2.2.2.2.1,(bM.2.2.2.2.2.2.2.2.2.2.1,(bM.2.2.2.2.2.2.2.2.2.2.2.1,())))))))))))))))) (some (true,(ax.1,(ax.2.1,(ax.2.2.1,(ax.2.2.2.1,(ax.2.2.2.2.1,(ax.2.2.2.2.2.1,(ax.2.2.2.2.2.2.1,(ax.2.2.2.2.2.2.2.1,(ax.2.2.2.2.2.2.2.2.1,(ax.2.2.2.2.2.2.2.2.2.1,())))))))))))))) (a2,(a3,(a4,(a5,(a6,(a7,(a8,(a9,(om,(oq,((r4.1++[a0]),()))))))))))))))))
def ov.ae (n:Nat):bS:=⟨ov.la,ov.lb,fun x=>ov.f n x.1 x.2.1 x.2.2.1 x.2.2.2.1 x.2.2.2.2.1 x.2.2.2.2.2.1 x.2.2.2.2.2.2.1 x.2.2.2.2.2.2.2.1 x.2.2.2.2.2.2.2.2.1 x.2.2.2.2.2.2.2.2.2.1 x.2.2.2.2.2.2.2.2.2.2.1 x.2.2.2.2.2.2.2.2.2.2.2.1⟩
theorem ov.ok (n:Nat):eP 178 (ov.ae n):=fm n [(5,⟨[(40,.bool)],[],[0,1,2,3,4,11],[0,1,2,3,4,5,6]⟩),(10,⟨[(0,.aJ 0 0),(3,.aJ 6 0),(4,.own 1000 I)],[(0,.cells [true,true,false,false,false,false,false,false,true] [.sh bn,.sh cq,.own 1 bu,.own 2 IS,.own 3 IS,.int .i64,.own 4 IS,.own 5 IS,.cu I]),(1,.row true bu),(2,.row true IS),(3,.row true IS),(4,.row true IS),(5,.row true IS),(6,.cells [false] [.int .i64]),(1000,.row true I)],[1,2,11],[]⟩)] [] (ak (pK.ok n) (ak ⟨cd.sound n,cd.az⟩ (ak (can.ok n) (ak (fY.ok n) aC)))) (bA (jg.ok n) (bA ⟨cE.sound n,cE.az⟩ aD)) Tryz.func178
def u_.f (n:Nat) (a0:ai) (a1:State) (a2:Int) (a3:Int) (a4:Int):Option (State×(Bool×Unit)):=cut (α:=(Bool×Unit)) ((jS.f n a0 a1).bind fun r3=>br (!r3.1) (some (.inr (true,()))) (br (decide (a2<0)) (some (.inr (true,()))) (some (.inr ((decide ((a0.2.length:Int)≤a2)),()))))) fun y2=>br y2.1 (some (([],([],([],0))),(false,()))) ((iB.f n a0.1 a0.2 a1.1 a1.2.1 a1.2.2.1 a1.2.2.2 (none:Option (List Int))).bind fun r4=>(ov.f n a2 a3 r4.1 r4.2.1 r4.2.2.1 r4.2.2.2.1 r4.2.2.2.2.1 r4.2.2.2.2.2.1 r4.2.2.2.2.2.2.1 r4.2.2.2.2.2.2.2.1 r4.2.2.2.2.2.2.2.2.1 a4).bind fun r5=>some ((r5.2.2.2.2.2.1,(r5.2.2.2.2.2.2.1,(r5.2.2.2.2.2.2.2.1,r5.2.2.2.1))),(r5.1,())))
def u_.ae (n:Nat):ar:=⟨[.val cD,.val e9,.val I,.val I,.val I],[.val e9,.val .bool],fun x=>u_.f n x.1 x.2.1 x.2.2.1 x.2.2.2.1 x.2.2.2.2.1⟩
theorem u_.ok (n:Nat):aN 132 (u_.ae n):=aQ n [(1,⟨[(29,.bool)],[],[2,3,4,5,6,10],[]⟩)] [] (ak (jS.ok n) aC) (bA (iB.ok n) (bA (ov.ok n) aD)) Tryz.func132
end
end Go.AmT
namespace Go.AmT
noncomputable section
open Go Go.Am
set_option linter.unusedVariables false
set_option linter.unusedSimpArgs false
def gu (s:State) (j:Nat):Int:=((s.2.2.1.getD j []).length:Int)
def fE (nt:ai) (link:Nat):Int:=(nt.2.getD link aM).1
def mD (f:Nat→Bool) (l:Nat):Nat→Bool:=fun j=>f j||decide (j=l)
def pL (nt:ai) (fin count:Int) (link:Nat) (rec:State→Nat→Int→State×Bool):Nat→State→State×Bool
 | 0,s=>(s,false)
 | m+1,s=>
  if gu s link<count then
   if s.2.2.2<fin∧dH nt s (fE nt link).toNat=true then pL nt fin count link rec m (cX nt s (fE nt link).toNat)
   else if ¬ s.2.2.2<fin∨(bf nt s (fE nt link).toNat).1≠2∨s.2.2.2=20000 then (s,false)
   else if (rec s (bQ nt s (fE nt link).toNat).toNat (gu s (bQ nt s (fE nt link).toNat).toNat+1)).2=true then pL nt fin count link rec m (rec s (bQ nt s (fE nt link).toNat).toNat (gu s (bQ nt s (fE nt link).toNat).toNat+1)).1
   else ((rec s (bQ nt s (fE nt link).toNat).toNat (gu s (bQ nt s (fE nt link).toNat).toNat+1)).1,false)
  else (s,true)
def fR (nt:ai) (fin:Int):Nat→(Nat→Bool)→State→Nat→Int→State×Bool
 | 0,_,s,_,_=>(s,false)
 | d+1,f,s,link,count=>
  if count≤gu s link then (s,true)
  else if fE nt link<0∨f link=true then (s,false)
  else pL nt fin count link (fR nt fin d (mD f link)) 20001 s
def oy (f:Nat→Bool):Nat→Nat
 | 0=>0
 | L+1=>oy f L+if f L=true then 0 else 1
theorem NO {f:Nat→Bool} {l:Nat} (h:f l=false):∀ {L:Nat},oy (mD f l) L+(if l<L then 1 else 0)=oy f L
 | 0=>by simp [oy]
 | L+1=>by
  have ih:=NO (L:=L) h
  show oy (mD f l) L+(if mD f l L=true then 0 else 1)+_=oy f L+_
  by_cases e:L=l
  ·subst e
   rw [if_neg (by omega)] at ih
   rw [if_pos (show mD f L L=true by simp [mD]),if_pos (show L<L+1 by omega),h]
   simp only [Bool.false_eq_true,if_false]
   omega
  ·have e2:mD f l L=f L:=by simp [mD,e]
   rw [e2]
   by_cases h1:l<L
   ·rw [if_pos h1] at ih; rw [if_pos (show l<L+1 by omega)]; omega
   ·rw [if_neg h1] at ih; rw [if_neg (show ¬ l<L+1 by omega)]; omega
theorem NP {f:Nat→Bool} {l L:Nat} (h:f l=false) (hl:l<L):oy (mD f l) L<oy f L:=by
 have:=NO (L:=L) h
 rw [if_pos hl] at this
 omega
theorem NQ {f:Nat→Bool} : ∀ {L:Nat},oy f L≤L
 | 0=>Nat.le_refl _
 | L+1=>by
  have:=NQ (f:=f) (L:=L)
  show oy f L+_≤L+1
  split<;>omega
theorem Ig {nt:ai} {fin count:Int} {link:Nat} {rec:State→Nat→Int→State×Bool} (J:State→Prop) (hk:(fE nt link).toNat<nt.1.length)
  (hs:∀ s k,J s→k<nt.1.length→dH nt s k=true→J (cX nt s k)) (hl:∀ s k,J s→k<nt.1.length→(bf nt s k).1=2→(bQ nt s k).toNat<nt.2.length)
  (hr:∀ s l c,J s→l<nt.2.length→J (rec s l c).1):∀ m s,J s→J (pL nt fin count link rec m s).1
 | 0,s,h=>h
 | m+1,s,h=>by
  unfold pL
  split
  ·split
   ·rename_i hc; exact Ig J hk hs hl hr m _ (hs s _ h hk hc.2)
   ·split
    ·exact h
    ·rename_i h1 h2
     have hw:(bf nt s (fE nt link).toNat).1=2:=by
      by_cases hh:(bf nt s (fE nt link).toNat).1=2
      ·exact hh
      ·exact absurd (.inr (.inl hh)) h2
     have:=hr s _ (gu s (bQ nt s (fE nt link).toNat).toNat+1) h (hl s _ h hk hw)
     split
     ·exact Ig J hk hs hl hr m _ this
     ·exact this
  ·exact h
theorem Ih {nt:ai} (o:cM nt) {link:Nat} (hl:link<nt.2.length) (h:¬ fE nt link<0):(fE nt link).toNat<nt.1.length∧fE nt link=((fE nt link).toNat:Int):=by
 have E:=(o.ends link hl).out
 unfold fE at h ⊢
 rw [aH hl] at h ⊢
 rcases E with ⟨h1,-⟩ | ⟨h1,h2,-⟩
 ·omega
 ·omega
theorem NR {nt:ai} {fin:Int} (J:State→Prop) (ho:∀ s,J s→bq nt s) (hs:∀ s k,J s→k<nt.1.length→dH nt s k=true→J (cX nt s k)):∀ d f s link count,link<nt.2.length→J s→J (fR nt fin d f s link count).1
 | 0,f,s,link,count,hl,h=>h
 | d+1,f,s,link,count,hl,h=>by
  unfold fR
  split
  ·exact h
  ·split
   ·exact h
   ·rename_i h2
    obtain ⟨hk,-⟩:=Ih (ho s h).ck hl (fun hh=>h2 (.inl hh))
    exact Ig J hk hs (fun s k hJ hk hw=>by obtain ⟨j,hj,e,-⟩:=oc (ho s hJ) hk hw; rw [e]; exact hj) (fun s l c hJ hl=>NR J ho hs d _ s l c hl hJ) 20001 s h
theorem Ii {nt:ai} {fin count:Int} {link:Nat} {rec:State→Nat→Int→State×Bool} : ∀ m s,(pL nt fin count link rec m s).2=true→count≤gu (pL nt fin count link rec m s).1 link
 | 0,s,h=>by cases h
 | m+1,s,h=>by
  unfold pL at h ⊢
  split
  ·rename_i hc
   rw [if_pos hc] at h
   split
   ·rename_i h1
    rw [if_pos h1] at h
    exact Ii m _ h
   ·rename_i h1
    rw [if_neg h1] at h
    split
    ·rename_i h2; rw [if_pos h2] at h; cases h
    ·rename_i h2
     rw [if_neg h2] at h
     split
     ·rename_i h3; rw [if_pos h3] at h; exact Ii m _ h
     ·rename_i h3; rw [if_neg h3] at h; cases h
  ·rename_i hc
   show count≤gu s link
   omega
theorem WA {nt:ai} {fin:Int} {d:Nat} {f:Nat→Bool} {s:State} {link:Nat} {count:Int} (h:(fR nt fin d f s link count).2=true):count≤gu (fR nt fin d f s link count).1 link:=by
 cases d with
 | zero=>cases h
 | succ d=>
  unfold fR at h ⊢
  split
  ·rename_i h1; exact h1
  ·rename_i h1
   rw [if_neg h1] at h
   split
   ·rename_i h2; rw [if_pos h2] at h; cases h
   ·rename_i h2; rw [if_neg h2] at h; exact Ii _ _ h
structure u4 (nt:ai) (s t:State):Prop where
 ok:bq nt t
 le:s.2.2.2≤t.2.2.2
 eq:t.2.2.2=s.2.2.2→t=s
theorem u4.refl {nt:ai} {s:State} (o:bq nt s):u4 nt s s:=⟨o,Int.le_refl _,fun _=>rfl⟩
theorem u4.step {nt:ai} {s t:State} {k:Nat} (A:u4 nt s t) (hk:k<nt.1.length) (hc:dH nt t k=true):u4 nt s (cX nt t k):=by
 have h:=A.le
 refine ⟨zu A.ok hk hc,?_,fun e=>?_⟩
 ·show s.2.2.2≤t.2.2.2+1
  omega
 ·have e:t.2.2.2+1=s.2.2.2:=e
  omega
theorem Ij {nt:ai} {fin:Int} {d:Nat} {f:Nat→Bool} {s:State} {link:Nat} {count:Int} (o:bq nt s) (hl:link<nt.2.length):u4 nt s (fR nt fin d f s link count).1:=
 NR (u4 nt s) (fun _ A=>A.ok) (fun _ _ A hk hc=>A.step hk hc) d f s link count hl (u4.refl o)
theorem WB {nt:ai} {fin:Int} {d:Nat} {f:Nat→Bool} {s:State} {link:Nat} (o:bq nt s) (hl:link<nt.2.length) (h:(fR nt fin d f s link (gu s link+1)).2=true):s.2.2.2<(fR nt fin d f s link (gu s link+1)).1.2.2.2:=by
 have A:=Ij (fin:=fin) (d:=d) (f:=f) (count:=gu s link+1) o hl
 have h1:=WA h
 have h2:=A.le
 rcases Int.lt_or_eq_of_le h2 with h3 | h3
 ·exact h3
 ·rw [A.eq h3.symm] at h1
  omega
abbrev DA:Type:=(List Program)×(List aG)×(Int×(Option (List Int))×(List a_)×(List (List Int))×(List (List Int))×(List (List Int))×(List (List Int))×(Int×(List Int)×Unit))
abbrev NS:Type:=(Int)→(Int)→(List Program)→(List aG)→(Int)→(Option (List Int))→(List a_)→(List (List Int))→(List (List Int))→(List (List Int))→(List (List Int))→(Int)→(List Int)→Option (Bool×DA)
def NT {ρ:Type} (n:Nat) (link count k:Int) (slf:NS) (out:Bool→DA→Option ρ) (ih:DA→Option ρ) (x:DA):Option ρ:=
 ab (0≤link∧link<(x.2.2.2.2.2.2.1.length:Int)) (br (decide (((x.2.2.2.2.2.2.1.getD link.toNat []).length:Int)<count)) ((can.f n ((x.1,x.2.1),((x.2.2.2.2.1,(x.2.2.2.2.2.1,(x.2.2.2.2.2.2.1,x.2.2.1))),(x.2.2.2.2.2.2.2.1,(x.2.2.2.2.2.2.2.2.1,x.2.2.2.1)))) k).bind fun iC=>br iC.1 (br (decide (x.2.2.2.2.2.2.2.2.2.1≤0)) (out false x) ((jg.f n k x.1 x.2.1 x.2.2.1 x.2.2.2.1 x.2.2.2.2.1 x.2.2.2.2.2.1 x.2.2.2.2.2.2.1 x.2.2.2.2.2.2.2.1 x.2.2.2.2.2.2.2.2.1).bind fun di=>ih (di.1,(di.2.1,(di.2.2.1,(di.2.2.2.1,(di.2.2.2.2.1,(di.2.2.2.2.2.1,(di.2.2.2.2.2.2.1,(di.2.2.2.2.2.2.2.1,(di.2.2.2.2.2.2.2.2.1,((ag (x.2.2.2.2.2.2.2.2.2.1-1)),(x.2.2.2.2.2.2.2.2.2.2.1,()))))))))))))) ((fY.f n ((x.1,x.2.1),((x.2.2.2.2.1,(x.2.2.2.2.2.1,(x.2.2.2.2.2.2.1,x.2.2.1))),(x.2.2.2.2.2.2.2.1,(x.2.2.2.2.2.2.2.2.1,x.2.2.2.1)))) k).bind fun fD=>br (!decide (fD.1=2)) (out false x) (ab (0≤fD.2.1∧fD.2.1<(x.2.2.2.2.2.2.1.length:Int)) ((slf fD.2.1 (ag (((x.2.2.2.2.2.2.1.getD fD.2.1.toNat []).length:Int)+1)) x.1 x.2.1 x.2.2.1 x.2.2.2.1 x.2.2.2.2.1 x.2.2.2.2.2.1 x.2.2.2.2.2.2.1 x.2.2.2.2.2.2.2.1 x.2.2.2.2.2.2.2.2.1 x.2.2.2.2.2.2.2.2.2.1 x.2.2.2.2.2.2.2.2.2.2.1).bind fun bM=>br (!bM.1) (out false bM.2) (ih (bM.2.1,(bM.2.2.1,(bM.2.2.2.1,(bM.2.2.2.2.1,(bM.2.2.2.2.2.1,(bM.2.2.2.2.2.2.1,(bM.2.2.2.2.2.2.2.1,(bM.2.2.2.2.2.2.2.2.1,(bM.2.2.2.2.2.2.2.2.2.1,(bM.2.2.2.2.2.2.2.2.2.2.1,(bM.2.2.2.2.2.2.2.2.2.2.2.1,())))))))))))))))) (out true x))
def zA (nt:ai) (to fr:List (List Int)) (s0 most:Int) (bl:List Int) (t:State):DA:=(nt.1,(nt.2,(t.2.2.2,(none,(t.1,(t.2.1,(t.2.2.1,(to,(fr,(most-(t.2.2.2-s0),(bl,())))))))))))
def ic (most:Int):Int:=max 0 (min most 20000)
def B0 (fin:Int) (t:State):Prop:=¬ t.2.2.2<fin∨t.2.2.2=20000
theorem WC {nt:ai} {fin:Int} {d:Nat} {f:Nat→Bool} {t:State} {link:Nat} (h:B0 fin t):fR nt fin d f t link (gu t link+1)=(t,false):=by
 cases d with
 | zero=>rfl
 | succ d=>
  unfold fR
  rw [if_neg (by omega)]
  split
  ·rfl
  ·show (if gu t link<gu t link+1 then _ else _)=_
   rw [if_pos (by omega)]
   split
   ·rename_i h1
    have:=(qS h1.2).2.1
    rcases h with h | h
    ·exact absurd h1.1 h
    ·omega
   ·rw [if_pos (by rcases h with h | h; exact .inl h; exact .inr (.inr h))]
theorem WD {s0 most:Int} {t:State} (h0:0≤s0) (h1:s0≤t.2.2.2) (h2:t.2.2.2≤20000):B0 (s0+ic most) t↔(most-(t.2.2.2-s0)≤0∨t.2.2.2=20000):=by
 unfold B0 ic
 omega
theorem NU {ρ:Type} {n:Nat} {nt:ai} {to fr:List (List Int)} {s0 most count:Int} {link:Nat} {slf:NS} {d:Nat} {f:Nat→Bool} {bl:List Int} (out:Bool→DA→Option ρ) (hn:1048576<n)
  (T:gS nt sQ toQ (fun p=>p.1) to nt.2.length) (E:gS nt uP uQ (fun p=>p.2.1) fr nt.2.length) (h0:0≤s0) (qY : -9223372036854775808≤most) (qZ:most≤9223372036854775807) (hl:link<nt.2.length) (hk:(fE nt link).toNat<nt.1.length) (ek:fE nt link=((fE nt link).toNat:Int))
  (NV:∀ t j c,bq nt t→s0≤t.2.2.2→j<nt.2.length→slf (j:Int) c nt.1 nt.2 t.2.2.2 none t.1 t.2.1 t.2.2.1 to fr (most-(t.2.2.2-s0)) bl=some ((fR nt (s0+ic most) d f t j c).2,zA nt to fr s0 most bl (fR nt (s0+ic most) d f t j c).1)) :
  ∀ (m m':Nat) (t:State),bq nt t→s0≤t.2.2.2→(20000-t.2.2.2).toNat<m→(20000-t.2.2.2).toNat<m'→∀ F:(DA→Option ρ)→DA→Option ρ,(∀ ih x,F ih x=NT n (link:Int) count (fE nt link) slf out ih x)→
   iter m F (zA nt to fr s0 most bl t)=out (pL nt (s0+ic most) count link (fR nt (s0+ic most) d f) m' t).2 (zA nt to fr s0 most bl (pL nt (s0+ic most) count link (fR nt (s0+ic most) d f) m' t).1):=by
 intro m
 induction m with
 | zero=>intro m' t ot _ h; omega
 | succ m IH=>
  intro m' t ot ma hm wQ F hF
  obtain ⟨m',rfl⟩:∃ q,m'=q+1:=⟨m'-1,by omega⟩
  show F (iter m F) _=_
  rw [hF]
  have hnt:=ot.ns
  have cI:=ot.steps
  have R:iU nt t (nt,(t,(to,(fr,none)))):=⟨rfl,rfl,T,E⟩
  have NW:=WD (most:=most) h0 ma cI.2
  unfold NT zA
  simp only [Int.toNat_natCast]
  rw [ah (by omega)]
  unfold pL
  show br (decide (gu t link<count)) _ _=_
  by_cases c1:gu t link<count
  ·rw [aZ c1,if_pos c1,ek]
   generalize (fE nt link).toNat=k at hk ⊢
   have zv:can.f n ((nt.1,nt.2),((t.1,(t.2.1,(t.2.2.1,t.2.2.2))),(to,(fr,(none:Option (List Int)))))) (k:Int)=some (dH nt t k,()):=zn R ot hk
   have hw:fY.f n ((nt.1,nt.2),((t.1,(t.2.1,(t.2.2.1,t.2.2.2))),(to,(fr,(none:Option (List Int)))))) (k:Int)=some ((bf nt t k).1,(bQ nt t k,())):=zm R ot hk
   simp only [Int.toNat_natCast]
   rw [zv,hw]
   simp only [Option.bind_some]
   by_cases hS:B0 (s0+ic most) t
   ·have jW:=NW.1 hS
    have e1:¬ (t.2.2.2<s0+ic most∧dH nt t k=true):=by
     rintro ⟨a,b⟩
     have:=(qS b).2.1
     rcases hS with h | h
     ·exact h a
     ·omega
    rw [if_neg e1,if_pos (by rcases hS with h | h; exact .inl h; exact .inr (.inr h))]
    cases c3:dH nt t k
    ·rw [aF]
     by_cases d2:(bf nt t k).1=2
     ·obtain ⟨j,hj,ej,-⟩:=oc ot hk d2
      have hq:(t.2.2.1.getD j []).length≤1048576:=by rw [aH (by omega)]; exact (nB ot).eh _ (List.getElem_mem (by omega))
      rw [decide_eq_true d2,Bool.not_true,aF]
      simp only [ej,Int.toNat_natCast]
      rw [ah (by omega),bo (by omega) (by omega),show ((t.2.2.1.getD j []).length:Int)+1=gu t j+1 from rfl,NV t j _ ot ma hj,WC hS]
      rfl
     ·rw [decide_eq_false d2,Bool.not_false,aL]
    ·have qz:=(qS c3).2.1
     rw [aL,aZ (by omega)]
   ·have jW:=mt NW.2 hS
    have WE:t.2.2.2<s0+ic most∧t.2.2.2≠20000:=by unfold B0 at hS; omega
    cases c3:dH nt t k
    ·rw [aF,if_neg (by simp)]
     by_cases d2:(bf nt t k).1=2
     ·obtain ⟨j,hj,ej,-⟩:=oc ot hk d2
      have hq:(t.2.2.1.getD j []).length≤1048576:=by rw [aH (by omega)]; exact (nB ot).eh _ (List.getElem_mem (by omega))
      rw [decide_eq_true d2,Bool.not_true,aF,if_neg (by omega)]
      simp only [ej,Int.toNat_natCast]
      rw [ah (by omega),bo (by omega) (by omega),show ((t.2.2.1.getD j []).length:Int)+1=gu t j+1 from rfl,NV t j _ ot ma hj]
      have hA:=Ij (fin:=s0+ic most) (d:=d) (f:=f) (count:=gu t j+1) ot hj
      have hM:=WB (fin:=s0+ic most) (d:=d) (f:=f) ot hj
      generalize fR nt (s0+ic most) d f t j (gu t j+1)=Q at hA hM ⊢
      simp only [Option.bind_some]
      cases h5:Q.2
      ·rw [Bool.not_false,aL,if_neg (by simp)]; rfl
      ·rw [Bool.not_true,aF,if_pos rfl]
       have hM:=hM h5
       have yq:=hA.ok.steps
       exact IH m' Q.1 hA.ok (by omega) (by omega) (by omega) F hF
     ·rw [decide_eq_false d2,Bool.not_false,aL,if_pos (.inr (.inl d2))]
    ·rw [aL,aK (by omega),if_pos ⟨WE.1,rfl⟩]
     have hs:=H_ (n:=n) R ot (nB ot) hk c3 hn
     simp only at hs
     rw [hs]
     simp only [Option.bind_some]
     rw [bo (n:=most-(t.2.2.2-s0)-1) (by omega) (by omega)]
     have e2:most-(t.2.2.2-s0)-1=most-((cX nt t k).2.2.2-s0):=by
      show _=most-(t.2.2.2+1-s0)
      omega
     rw [e2]
     refine IH m' (cX nt t k) (zu ot hk c3) ?_ ?_ ?_ F hF
     ·show s0≤t.2.2.2+1
      omega
     ·show (20000-(t.2.2.2+1)).toNat<m
      omega
     ·show (20000-(t.2.2.2+1)).toNat<m'
      omega
  ·rw [aK c1,if_neg c1]
theorem WG {n:Nat} {l:List Int} {x:Int} (hl:l.length≤1048576) (hn:1048576<n):∃ r:Int,uZ.f n l x=some (r,())∧decide (0≤r)=decide (x∈l):=by
 unfold uZ.f
 have:=G5 l (fun y=>decide (x=y)) (F:=(fun gP x5=>br (decide (x5.1<(l.length:Int))) (ab (0≤x5.1∧x5.1<(l.length:Int)) (br (decide (x=(l.getD x5.1.toNat 0))) (some (x5.1,())) (gP ((ag (x5.1+1)),())))) (some ((-1),())))) (fun ih i hi=>by
  have c1:(i:Int)<(l.length:Int):=by omega
  simp only [aZ c1,Int.toNat_natCast,aH hi,iT]
  rw [ah (by omega),bm (by omega)]
  by_cases h:x=l[i]
  ·rw [if_pos h,if_pos (decide_eq_true h)]
  ·rw [if_neg h,if_neg (by simp [h])]) (fun ih=>aK (Int.lt_irrefl _)) (n:=n) (by omega)
 obtain ⟨r,e,h⟩:=this
 refine ⟨r,e,h.trans ?_⟩
 rw [Bool.eq_iff_iff,List.any_eq_true,decide_eq_true_eq]
 constructor
 ·rintro ⟨y,hy,e⟩
  rw [decide_eq_true_eq] at e
  rw [e]; exact hy
 ·intro h; exact ⟨x,h,decide_eq_true rfl⟩
theorem NX {n:Nat} {l:List Int} {x:Int} (hl:l.length≤1048576) (hn:1048576<n):pK.f n l x=some (decide (x∈l),()):=by
 obtain ⟨r,e,h⟩:=WG (x:=x) hl hn
 unfold pK.f
 rw [e,Option.bind_some,h]
def oz (bl:List Int):Nat→Bool:=fun j=>decide ((j:Int)∈bl)
theorem Eo {bl:List Int} {link:Nat} : oz (bl++[(link:Int)])=mD (oz bl) link:=by
 funext j
 unfold oz mD
 rw [Bool.eq_iff_iff,Bool.or_eq_true,decide_eq_true_eq,decide_eq_true_eq,decide_eq_true_eq,List.mem_append,List.mem_singleton]
 constructor
 ·rintro (h | h)
  ·exact .inl h
  ·exact .inr (by omega)
 ·rintro (h | h)
  ·exact .inl h
  ·exact .inr (by omega)
theorem NY {n:Nat} {nt:ai} {to fr:List (List Int)} {s0 most:Int} (hn:1048576<n)
  (T:gS nt sQ toQ (fun p=>p.1) to nt.2.length) (E:gS nt uP uQ (fun p=>p.2.1) fr nt.2.length) (h0:0≤s0) (qY : -9223372036854775808≤most) (qZ:most≤9223372036854775807) :
  ∀ (d:Nat) (bl:List Int) (t:State) (link:Nat) (count:Int),bq nt t→s0≤t.2.2.2→link<nt.2.length→oy (oz bl) nt.2.length<d→bl.length+oy (oz bl) nt.2.length≤1000→
   cE.F n d (link:Int) count nt.1 nt.2 t.2.2.2 none t.1 t.2.1 t.2.2.1 to fr (most-(t.2.2.2-s0)) bl=some ((fR nt (s0+ic most) d (oz bl) t link count).2,zA nt to fr s0 most bl (fR nt (s0+ic most) d (oz bl) t link count).1)
 | 0,bl,t,link,count,o,ma,hl,hd,hb=>absurd hd (Nat.not_lt_zero _)
 | d+1,bl,t,link,count,o,ma,hl,hd,hb=>by
  have ki:=o.ns
  show cE.B n (cE.F n d) (link:Int) count nt.1 nt.2 t.2.2.2 none t.1 t.2.1 t.2.2.1 to fr (most-(t.2.2.2-s0)) bl=_
  unfold cE.B
  simp only [Int.toNat_natCast]
  rw [ah (by omega)]
  show br (decide (count≤gu t link)) _ _=_
  unfold fR
  by_cases h1:count≤gu t link
  ·rw [aZ h1,if_pos h1]; rfl
  ·rw [aK h1,if_neg h1,ah (by omega)]
   show cut (α:=Bool×Unit) (br (decide (fE nt link<0)) _ _) _=_
   by_cases h2:fE nt link<0
   ·rw [aZ h2,bF,aL,if_pos (.inl h2)]; rfl
   ·rw [aK h2,NX (by omega) hn]
    simp only [Option.bind_some,bF]
    rw [show decide ((link:Int)∈bl)=oz bl link from rfl]
    cases h3:oz bl link
    ·rw [aF,if_neg (by simp [h2])]
     obtain ⟨hk,ek⟩:=Ih o.ck hl h2
     have WH:=NP h3 hl
     rw [sT (by omega)]
     simp only [Option.bind_some]
     rw [bZ (by simp only [List.length_singleton]; omega)]
     have cI:=o.steps
     refine NU (link:=link) (fun b x=>some (b,(x.1,(x.2.1,(x.2.2.1,(x.2.2.2.1,(x.2.2.2.2.1,(x.2.2.2.2.2.1,(x.2.2.2.2.2.2.1,(x.2.2.2.2.2.2.2.1,(x.2.2.2.2.2.2.2.2.1,(x.2.2.2.2.2.2.2.2.2.1,(bl,())))))))))))))
      hn T E h0 qY qZ hl hk ek (slf:=cE.F n d) (bl:=bl++[(link:Int)]) (d:=d) (f:=mD (oz bl) link) (fun u j c ou hu hj=>?_) n 20001 t o ma (by omega) (by omega) _ (fun ih x=>rfl)
     have:=NY hn T E h0 qY qZ d (bl++[(link:Int)]) u j c ou hu hj (by rw [Eo]; omega) (by rw [Eo,List.length_append,List.length_singleton]; omega)
     rw [Eo] at this
     exact this
    ·rw [aL,if_pos (.inr rfl)]; rfl
def B1 (n:Nat) (nt:ai) (s:State) (link count most:Int):State×Bool:=
 if fC nt s=true∧0≤link∧link<(nt.2.length:Int) then fR nt (s.2.2.2+ic most) (n+1) (fun _=>false) s link.toNat count else (([],([],([],0))),false)
theorem WI:oz []=fun _=>false:=by funext j; rfl
theorem WJ {n:Nat} {nt:ai} {s:State} {link count most:Int} (h:cL nt) (hs:jt s) (hn:1048576<n) (qY : -9223372036854775808≤most) (qZ:most≤9223372036854775807):u_.f n nt s link count most=some ((B1 n nt s link count most).1,((B1 n nt s link count most).2,())):=by
 unfold u_.f B1
 rw [zj h hs hn]
 cases e1:fC nt s
 ·rfl
 ·have o:=s_ e1
  have hL:=o.ck.dt
  have cI:=o.steps
  simp only [Option.bind_some,Bool.not_true,aF,true_and]
  by_cases h1:0≤link
  ·by_cases h2:link<(nt.2.length:Int)
   ·rw [aK (by omega),decide_eq_false (show ¬ (nt.2.length:Int)≤link by omega),if_pos ⟨h1,h2⟩]
    simp only [bF,aF]
    refine iz.1 (aB.2 (au (zl (caps:=none) o.ck hs hn) (fun r ⟨to,fr,e,T,F⟩=>iz.2 ?_)))
    subst e
    obtain ⟨l,rfl⟩:∃ l:Nat,link=(l:Int):=⟨link.toNat,by omega⟩
    have hl:l<nt.2.length:=by omega
    have ki:=o.ns
    have hf:=NQ (f:=fun _=>false) (L:=nt.2.length)
    simp only
    have key:ov.f n (l:Int) count nt.1 nt.2 s.2.2.2 none s.1 s.2.1 s.2.2.1 to fr most=some ((fR nt (s.2.2.2+ic most) (n+1) (fun _=>false) s l count).2,(nt.1,(nt.2,((fR nt (s.2.2.2+ic most) (n+1) (fun _=>false) s l count).1.2.2.2,(none,((fR nt (s.2.2.2+ic most) (n+1) (fun _=>false) s l count).1.1,((fR nt (s.2.2.2+ic most) (n+1) (fun _=>false) s l count).1.2.1,((fR nt (s.2.2.2+ic most) (n+1) (fun _=>false) s l count).1.2.2.1,(to,(fr,(most-((fR nt (s.2.2.2+ic most) (n+1) (fun _=>false) s l count).1.2.2.2-s.2.2.2),()))))))))))):=by
     unfold ov.f
     simp only [Int.toNat_natCast]
     rw [ah (by omega)]
     show br (decide (count≤gu s l)) _ _=_
     unfold fR
     have e0:most-(s.2.2.2-s.2.2.2)=most:=by omega
     by_cases h3:count≤gu s l
     ·rw [aZ h3,if_pos h3,e0]
     ·rw [aK h3,if_neg h3,ah (by omega)]
      show cut (α:=Bool×Unit) (br (decide (fE nt l<0)) _ _) _=_
      by_cases h4:fE nt l<0
      ·rw [aZ h4,bF,aL,if_pos (.inl h4),e0]
      ·rw [aK h4,NX (by simp) hn]
       simp only [Option.bind_some,bF,List.not_mem_nil,decide_false,aF]
       rw [if_neg (by simp [h4])]
       obtain ⟨hk,ek⟩:=Ih o.ck hl h4
       rw [sT (by simp)]
       simp only [Option.bind_some]
       rw [bZ (by simp)]
       have hd:=NU (link:=l) (count:=count) (n:=n) (s0:=s.2.2.2) (most:=most) (fun b x=>some (b,(x.1,(x.2.1,(x.2.2.1,(x.2.2.2.1,(x.2.2.2.2.1,(x.2.2.2.2.2.1,(x.2.2.2.2.2.2.1,(x.2.2.2.2.2.2.2.1,(x.2.2.2.2.2.2.2.2.1,(x.2.2.2.2.2.2.2.2.2.1,()))))))))))))
        hn T F cI.1 qY qZ hl hk ek (slf:=cE.f n) (bl:=[(l:Int)]) (d:=n) (f:=mD (fun _=>false) l) (fun u j c ou hu hj=>by
         have WH:=NP (f:=fun _=>false) (l:=l) (L:=nt.2.length) rfl hl
         have e2:oz [(l:Int)]=mD (fun _=>false) l:=(Eo (bl:=[])).trans (by rw [WI])
         have:=NY hn T F cI.1 qY qZ n [(l:Int)] u j c ou hu hj (by rw [e2]; omega) (by rw [e2]; simp only [List.length_singleton]; omega)
         rw [e2] at this
         exact this) n 20001 s o (Int.le_refl _) (by omega) (by omega)
       have lk:=hd _ (fun ih x=>rfl)
       unfold zA at lk
       rw [e0] at lk
       exact lk
    rw [key]
    rfl
   ·rw [aK (by omega),decide_eq_true (show (nt.2.length:Int)≤link by omega),if_neg (fun hh=>h2 hh.2)]
    rfl
  ·rw [aZ (by omega),if_neg (fun hh=>h1 hh.1)]; rfl
end
end Go.AmT
