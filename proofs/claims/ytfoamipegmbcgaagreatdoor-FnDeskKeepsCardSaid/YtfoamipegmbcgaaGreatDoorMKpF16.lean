/- Functions that the law FnDeskKeeps reaches, each as a plain Lean function, and that each does what that says. No condition. -/
import Derived.Test.YtfoamipegmbcgaaGreatDoorMKpF15
import Derived.Test.YtfoamipegmbcgaaGreatDoorMKpF14
import Derived.Test.YtfoamipegmbcgaaGreatDoorAmE
import Derived.WalkKit
namespace Go.AmT
noncomputable section
open Go Go.Am Go.Proofs
set_option linter.unusedVariables false
set_option maxRecDepth 100000
def ji.la:LA:=⟨[(0,.int .i64),(1,.int .i64),(2,.own 0 df)],[(0,.row true df)],[],[]⟩
def ji.lb:LA:=⟨[(0,.agg [.int .i64,.int .i64,.own 1000 df])],[(1000,.row true df)],[],[]⟩
def ji.f (n:Nat) (a0:Int) (a1:Int) (a2:List Instr):Option (Int×(Int×(List Instr)×Unit)):=ab ((a2.length+([(8,(0,(0,0)))]:List Instr).length)*32≤aW) (some (a0,(a1,((a2++[(8,(0,(0,0)))]),()))))
def ji.ae (n:Nat):bS:=⟨ji.la,ji.lb,fun x=>ji.f n x.1 x.2.1 x.2.2.1⟩
theorem ji.ok (n:Nat):eP 206 (ji.ae n):=fm n [] [] aC aD Tryz.func206
def jj.f (n:Nat) (a0:Int) (a1:Int):Option (Instr×Unit):=some ((1,(a0,(a1,0))),())
def jj.ae (n:Nat):ar:=⟨[.val I,.val I],[.val df],fun x=>jj.f n x.1 x.2.1⟩
theorem jj.ok (n:Nat):aN 204 (jj.ae n):=aQ n [] [] aC aD Tryz.func204
def jz.f (n:Nat) (a0:Int) (a1:Int):Option (Instr×Unit):=some ((2,(a0,(a1,0))),())
def jz.ae (n:Nat):ar:=⟨[.val I,.val I],[.val df],fun x=>jz.f n x.1 x.2.1⟩
theorem jz.ok (n:Nat):aN 205 (jz.ae n):=aQ n [] [] aC aD Tryz.func205
def vI.f (n:Nat) (a0:List UInt8):Option (Program×Unit):=br (decide (a0=([116,104,114,111,117,103,104]:List UInt8))) ((jj.f n 0 0).bind fun r1=>(jz.f n 0 0).bind fun r2=>(ji.f n 1 1 ([r1.1,r2.1]:List Instr)).bind fun r3=>some ((r3.1,(r3.2.1,r3.2.2.1)),())) (br (decide (a0=([99,111,112,121]:List UInt8))) ((jj.f n 0 0).bind fun r4=>(jz.f n 0 0).bind fun r5=>(jz.f n 0 1).bind fun r6=>(ji.f n 1 2 ([r4.1,r5.1,r6.1]:List Instr)).bind fun r7=>some ((r7.1,(r7.2.1,r7.2.2.1)),())) (br (decide (a0=([115,105,110,107]:List UInt8))) ((jj.f n 0 0).bind fun r8=>(ji.f n 1 0 ([r8.1]:List Instr)).bind fun r9=>some ((r9.1,(r9.2.1,r9.2.2.1)),())) (br (decide (a0=([97,100,100]:List UInt8))) ((jj.f n 0 0).bind fun cH=>(jj.f n 1 1).bind fun dA=>(jz.f n 0 0).bind fun fB=>(ji.f n 2 1 ([cH.1,dA.1,(4,(0,(0,1))),fB.1]:List Instr)).bind fun dT=>some ((dT.1,(dT.2.1,dT.2.2.1)),())) (br (decide (a0=([97,108,116,101,114,110,97,116,101]:List UInt8))) ((jj.f n 0 0).bind fun dp=>(jz.f n 0 0).bind fun ko=>(jj.f n 0 1).bind fun fN=>(jz.f n 0 0).bind fun dh=>(ji.f n 2 1 ([dp.1,ko.1,fN.1,dh.1]:List Instr)).bind fun ga=>some ((ga.1,(ga.2.1,ga.2.2.1)),())) (br (decide (a0=([115,112,108,105,116]:List UInt8))) ((jj.f n 0 0).bind fun gN=>(jz.f n 0 0).bind fun iH=>(jj.f n 0 0).bind fun fa=>(jz.f n 0 1).bind fun fq=>(ji.f n 1 2 ([gN.1,iH.1,fa.1,fq.1]:List Instr)).bind fun eA=>some ((eA.1,(eA.2.1,eA.2.2.1)),())) (br (decide (a0=([115,117,109,115]:List UInt8))) ((jj.f n 1 0).bind fun pV=>(jz.f n 0 0).bind fun eS=>(ji.f n 1 1 ([pV.1,(4,(0,(0,1))),eS.1]:List Instr)).bind fun iC=>some ((iC.1,(iC.2.1,iC.2.2.1)),())) (br (decide (a0=([115,116,101,112,115]:List UInt8))) ((jj.f n 1 0).bind fun cN=>(jz.f n 2 0).bind fun di=>(ji.f n 1 1 ([cN.1,(5,(2,(1,0))),di.1,(3,(3,(0,0))),(4,(0,(1,3)))]:List Instr)).bind fun fD=>some ((fD.1,(fD.2.1,fD.2.2.1)),())) (br (decide (a0=([116,119,105,99,101]:List UInt8))) ((jj.f n 0 0).bind fun bM=>(jz.f n 0 0).bind fun iZ=>(jz.f n 0 0).bind fun fF=>(ji.f n 1 1 ([bM.1,iZ.1,fF.1]:List Instr)).bind fun jQ=>some ((jQ.1,(jQ.2.1,jQ.2.2.1)),())) (br (decide (a0=([99,111,117,110,116]:List UInt8))) ((jz.f n 0 0).bind fun h_=>(ji.f n 0 1 ([h_.1,(3,(1,(1,0))),(4,(0,(0,1)))]:List Instr)).bind fun jZ=>some ((jZ.1,(jZ.2.1,jZ.2.2.1)),())) (br (decide (a0=([112,105,99,107]:List UInt8))) ((jj.f n 0 0).bind fun oF=>(jj.f n 1 2).bind fun nE=>(jj.f n 1 1).bind fun jY=>(jz.f n 1 0).bind fun eX=>(ji.f n 3 1 ([oF.1,(9,(0,(4,0))),nE.1,(8,(0,(5,0))),jY.1,eX.1]:List Instr)).bind fun kq=>some ((kq.1,(kq.2.1,kq.2.2.1)),())) (some ((0,(0,[])),()))))))))))))
def vI.ae (n:Nat):ar:=⟨[.val .str],[.val bn],fun x=>vI.f n x.1⟩
theorem vI.ok (n:Nat):aN 173 (vI.ae n):=aQ n [] [] (ak (jj.ok n) (ak (jz.ok n) aC)) (bA (ji.ok n) aD) Tryz.func173
def tz.f (n:Nat) (a0:ai) (a1:Int):Option (ai×(Bool×Unit)):=cut (α:=(Bool×Unit)) ((dq.f n a0).bind fun r3=>br (!r3.1) (some (.inr (true,()))) (br (decide (a1<0)) (some (.inr (true,()))) (some (.inr ((decide ((a0.2.length:Int)≤a1)),()))))) fun y2=>br y2.1 (some (([],[]),(false,()))) ((mM.f n a0).bind fun r4=>(vI.f n ([116,104,114,111,117,103,104]:List UInt8)).bind fun r5=>ab ((r4.1.1.length+([r5.1]:List Program).length)*40≤aW) (ab (0≤a1∧a1<(r4.1.2.length:Int)) (let v6:=(r4.1.2.set a1.toNat ((r4.1.2.getD a1.toNat aM).1,((r4.1.2.getD a1.toNat aM).2.1,((r4.1.1.length:Int),(r4.1.2.getD a1.toNat aM).2.2.2)))); let v7:=(v6.set a1.toNat ((v6.getD a1.toNat aM).1,((v6.getD a1.toNat aM).2.1,((v6.getD a1.toNat aM).2.2.1,(0,(v6.getD a1.toNat aM).2.2.2.2))))); ab ((v7.length+([((r4.1.1.length:Int),(0,((r4.1.2.getD a1.toNat aM).2.2.1,((r4.1.2.getD a1.toNat aM).2.2.2.1,[]))))]:List aG).length)*56≤aW) ((rm.f n ((r4.1.1++[r5.1]),(v7++[((r4.1.1.length:Int),(0,((r4.1.2.getD a1.toNat aM).2.2.1,((r4.1.2.getD a1.toNat aM).2.2.2.1,[]))))]))).bind fun r8=>some (r8.1,(r8.2.1,()))))))
def tz.ae (n:Nat):ar:=⟨[.val cD,.val I],[.sh cD,.val .bool],fun x=>tz.f n x.1 x.2.1⟩
theorem tz.ok (n:Nat):aN 127 (tz.ae n):=aQ n [(1,⟨[(23,.bool)],[],[1,2,4],[]⟩)] [] (ak ⟨dq.sound n,dq.az⟩ (ak (mM.ok n) (ak (vI.ok n) (ak (rm.ok n) aC)))) aD Tryz.func127
end
end Go.AmT
namespace Go.AmT
open Go Go.Am
set_option linter.unusedVariables false
set_option linter.unusedSimpArgs false
def through:Program:=(1,1,[(1,0,0,0),(2,0,0,0),(8,0,0,0)])
def YZ:List UInt8:=[116,104,114,111,117,103,104]
theorem Y_ {n:Nat} : vI.f n YZ=some (through,()):=by rfl
def vJ (nt:ai) (k:Nat):ai:=
 (nt.1++[through],nt.2.set k ((nt.2.getD k aM).1,(nt.2.getD k aM).2.1,(nt.1.length:Int),0,(nt.2.getD k aM).2.2.2.2)++[((nt.1.length:Int),0,(nt.2.getD k aM).2.2.1,(nt.2.getD k aM).2.2.2.1,[])])
noncomputable def Cj (nt:ai) (k:Int):ai×Bool×Unit:=
 if (cy nt&&decide (0≤k∧k<(nt.2.length:Int)))=true then (if cy (vJ nt k.toNat)=true then (vJ nt k.toNat,(true,())) else (([],[]),(false,()))) else (([],[]),(false,()))
theorem Y0 {nt:ai} {k:Nat} (h:cL nt) (o:cy nt=true) (hk:k<nt.2.length):cL (vJ nt k):=by
 have o':cM nt:=of_decide_eq_true o
 have h1:=o'.ew
 have h2:=o'.dt
 have ht:=(h.link _ (List.getElem_mem hk)).tokens
 refine ⟨by simp [vJ]; omega,fun p hp=>?_,by simp [vJ]; omega,fun l hl=>?_⟩
 ·simp only [vJ,List.mem_append,List.mem_singleton] at hp
  rcases hp with hp | rfl
  ·exact h.prog p hp
  ·exact ⟨by decide⟩
 ·simp only [vJ,List.mem_append,List.mem_singleton] at hl
  rcases hl with hl | rfl
  ·rcases List.mem_or_eq_of_mem_set hl with hl | rfl
   ·exact h.link l hl
   ·exact ⟨by simpa [hk] using ht⟩
  ·exact ⟨by simp⟩
theorem Y1 {n:Nat} {nt:ai} {k:Int} (h:cL nt) (hn:1048576<n):tz.f n nt k=some (Cj nt k):=by
 have hp:=h.ew
 have hl:=h.dt
 unfold tz.f Cj
 rw [qH h hn]
 simp only [Option.bind_some]
 have e:cut (α:=(Bool×Unit)) (ρ:=ai×(Bool×Unit)) (br (!cy nt) (some (.inr (true,()))) (br (decide (k<0)) (some (.inr (true,()))) (some (.inr ((decide ((nt.2.length:Int)≤k)),())))))=fun f=>f (!(cy nt&&decide (0≤k∧k<(nt.2.length:Int))),()):=by
  funext f
  by_cases a:k<0<;>by_cases b:(nt.2.length:Int)≤k<;>cases cy nt<;>simp [a,b,br,cut]<;>(congr 2; simp; omega)
 rw [e]
 simp only
 cases hb:(cy nt&&decide (0≤k∧k<(nt.2.length:Int)))
 ·rfl
 ·simp only [Bool.not_true,aF,if_true]
  simp only [Bool.and_eq_true,decide_eq_true_eq] at hb
  obtain ⟨o,k0,k1⟩:=hb
  obtain ⟨j,rfl⟩:∃ j:Nat,k=(j:Int):=⟨k.toNat,by omega⟩
  have hj:j<nt.2.length:=by omega
  rw [show vI.f n [116,104,114,111,117,103,104]=some (through,()) from Y_,EJ h hn]
  simp only [Option.bind_some,Int.toNat_natCast,k0,k1,and_self,sN]
  rw [bZ (by simp; omega),bZ (by simp; omega)]
  simp only [lF hj,List.set_set]
  have hS:=Y0 h o hj
  have:=Pp hS hn
  unfold vJ at this ⊢
  rw [this]
  simp only [Option.bind_some]
end Go.AmT
namespace Go.AmT
noncomputable section
open Go Go.Am Go.Proofs
set_option linter.unusedVariables false
set_option maxRecDepth 100000
def vK.f (n:Nat) (a0:ai) (a1:State) (a2:Int):Option (Bool×Unit):=(jS.f n a0 a1).bind fun r1=>br (!r1.1) (some (false,())) ((iB.f n a0.1 a0.2 a1.1 a1.2.1 a1.2.2.1 a1.2.2.2 (none:Option (List Int))).bind fun r2=>(w7.f n ((r2.1,r2.2.1),((r2.2.2.2.2.1,(r2.2.2.2.2.2.1,(r2.2.2.2.2.2.2.1,r2.2.2.1))),(r2.2.2.2.2.2.2.2.1,(r2.2.2.2.2.2.2.2.2.1,r2.2.2.2.1)))) a2).bind fun r3=>br r3.1 ((can.f n ((r2.1,r2.2.1),((r2.2.2.2.2.1,(r2.2.2.2.2.2.1,(r2.2.2.2.2.2.2.1,r2.2.2.1))),(r2.2.2.2.2.2.2.2.1,(r2.2.2.2.2.2.2.2.2.1,r2.2.2.2.1)))) a2).bind fun r4=>some (r4.1,())) (some (false,())))
def vK.ae (n:Nat):ar:=⟨[.val cD,.val e9,.val I],[.val .bool],fun x=>vK.f n x.1 x.2.1 x.2.2.1⟩
theorem vK.ok (n:Nat):aN 174 (vK.ae n):=aQ n [] [] (ak (jS.ok n) (ak (w7.ok n) (ak (can.ok n) aC))) (bA (iB.ok n) aD) Tryz.func174
def tA.f (n:Nat) (a0:ai) (a1:State) (a2:Int):Option (State×(Bool×Unit)):=(vK.f n a0 a1 a2).bind fun r1=>br (!r1.1) (some (([],([],([],0))),(false,()))) ((iB.f n a0.1 a0.2 a1.1 a1.2.1 a1.2.2.1 a1.2.2.2 (none:Option (List Int))).bind fun r2=>(jg.f n a2 r2.1 r2.2.1 r2.2.2.1 r2.2.2.2.1 r2.2.2.2.2.1 r2.2.2.2.2.2.1 r2.2.2.2.2.2.2.1 r2.2.2.2.2.2.2.2.1 r2.2.2.2.2.2.2.2.2.1).bind fun r3=>some ((r3.2.2.2.2.1,(r3.2.2.2.2.2.1,(r3.2.2.2.2.2.2.1,r3.2.2.1))),(true,())))
def tA.ae (n:Nat):ar:=⟨[.val cD,.val e9,.val I],[.val e9,.val .bool],fun x=>tA.f n x.1 x.2.1 x.2.2.1⟩
theorem tA.ok (n:Nat):aN 128 (tA.ae n):=aQ n [] [] (ak (vK.ok n) aC) (bA (iB.ok n) (bA (jg.ok n) aD)) Tryz.func128
def vL.f (n:Nat) (a0:ai) (a1:State):Option ((List Int)×Unit):=(jS.f n a0 a1).bind fun r1=>br (!r1.1) (some ([],())) ((iB.f n a0.1 a0.2 a1.1 a1.2.1 a1.2.2.1 a1.2.2.2 (none:Option (List Int))).bind fun r2=>iter (α:=(Int×(List Int)×Unit)) n (fun xk ax=>br (decide (ax.1<(a0.1.length:Int))) ((fY.f n ((r2.1,r2.2.1),((r2.2.2.2.2.1,(r2.2.2.2.2.2.1,(r2.2.2.2.2.2.2.1,r2.2.2.1))),(r2.2.2.2.2.2.2.2.1,(r2.2.2.2.2.2.2.2.2.1,r2.2.2.2.1)))) ax.1).bind fun iC=>cut (α:=(Bool×Unit)) (br (!decide (iC.1=2)) (some (.inr (true,()))) (ab (0≤iC.2.1∧iC.2.1<(a1.2.1.length:Int)) (let IW:=(a1.2.1.getD iC.2.1.toNat []); some (.inr ((decide (0<(IW.length:Int))),()))))) fun IX=>cut (α:=(Int×Unit)) (br IX.1 (some (.inr ((-1),()))) (some (.inr (iC.2.1,())))) fun Ps=>ab ((ax.2.1.length+([Ps.1]:List Int).length)*8≤aW) (xk ((ag (ax.1+1)),((ax.2.1++[Ps.1]),())))) (some (ax.2.1,()))) (0,([],())))
def vL.ae (n:Nat):ar:=⟨[.val cD,.val e9],[.val IS],fun x=>vL.f n x.1 x.2.1⟩
theorem vL.ok (n:Nat):aN 126 (vL.ae n):=aQ n [(7,⟨[(6,.own 1000 I),(21,.int .i64)],[(1000,.row true I)],[3,5,20],[]⟩),(13,⟨[(40,.bool)],[],[3,5,6,9,20,21],[]⟩),(14,⟨[(9,.int .i64)],[],[3,5,6,20,21],[]⟩)] [] (ak (jS.ok n) (ak (fY.ok n) aC)) (bA (iB.ok n) aD) Tryz.func126
end
end Go.AmT
namespace Go.AmT
open Go Go.Am
set_option linter.unusedVariables false
set_option linter.unusedSimpArgs false
def xB (nt:ai) (s:State) (k:Int):Bool:=decide (0≤k∧k<(nt.1.length:Int)∧dH nt s k.toNat=true)
theorem Y2 {n:Nat} {nt:ai} {s:State} {k:Int} (h:cL nt) (o:bq nt s) (hn:1048576<n):vK.f n nt s k=some (xB nt s k,()):=by
 have hs:=nB o
 unfold vK.f
 rw [zj h hs hn,sZ o]
 simp only [Option.bind_some,Bool.not_true,aF]
 refine iz.1 (aB.2 (au (zl (caps:=none) o.ck hs hn) (fun r ⟨to,fr,e,T,F⟩=>iz.2 ?_)))
 subst e
 have R:iU nt s (nt,(s,(to,(fr,none)))):=⟨rfl,rfl,T,F⟩
 unfold w7.f xB
 by_cases h0:0≤k
 ·obtain ⟨j,rfl⟩:∃ j:Nat,k=(j:Int):=⟨k.toNat,by omega⟩
  rw [aZ h0]
  by_cases h1:(j:Int)<(nt.1.length:Int)
  ·have hc:can.f n ((nt.1,nt.2),((s.1,(s.2.1,(s.2.2.1,s.2.2.2))),(to,(fr,(none:Option (List Int)))))) (j:Int)=some (dH nt s j,()):=zn R o (by omega)
   simp only [Option.bind_some,h1,decide_true,aL,hc,Int.toNat_natCast]
   cases dH nt s j
   ·rw [decide_eq_false (by simp)]
   ·rw [decide_eq_true ⟨h0,trivial,rfl⟩]
  ·simp only [Option.bind_some,h1,decide_false,aF]
   rw [decide_eq_false (fun hh=>hh.2.1)]
 ·rw [aK h0,decide_eq_false (fun hh=>h0 hh.1)]; rfl
theorem Y3 {n:Nat} {nt:ai} {s:State} {k:Int} (h:cL nt) (o:bq nt s) (hn:1048576<n) :
  tA.f n nt s k=some (if xB nt s k=true then (cX nt s k.toNat,(true,())) else (([],([],([],0))),(false,()))):=by
 have hs:=nB o
 unfold tA.f
 rw [Y2 h o hn,aA]
 cases hc:xB nt s k
 ·rfl
 ·simp only [Bool.not_true,aF]
  have wO:=hc
  unfold xB at wO
  simp only [decide_eq_true_eq] at wO
  obtain ⟨h0,h1,h2⟩:=wO
  obtain ⟨j,rfl⟩:∃ j:Nat,k=(j:Int):=⟨k.toNat,by omega⟩
  rw [Int.toNat_natCast] at h2 ⊢
  refine iz.1 (aB.2 (au (zl (caps:=none) o.ck hs hn) (fun r ⟨to,fr,e,T,F⟩=>iz.2 ?_)))
  subst e
  have R:iU nt s (nt,(s,(to,(fr,none)))):=⟨rfl,rfl,T,F⟩
  have hr:=H_ (n:=n) R o hs (by omega) h2 hn
  simp only at hr ⊢
  rw [hr]; rfl
end Go.AmT
namespace Go.AmT
noncomputable section
open Go Go.Am Go.Proofs
set_option linter.unusedVariables false
set_option maxRecDepth 100000
abbrev dj:Type:=ai×(State×List Int)
def vM.f (n:Nat) (a0:dj):Option (Bool×Unit):=(jS.f n a0.1 a0.2.1).bind fun r1=>br r1.1 ((qI.f n a0.1 a0.2.2).bind fun r2=>some (r2.1,())) (some (false,()))
def vM.ae (n:Nat):ar:=⟨[.val jq],[.val .bool],fun x=>vM.f n x.1⟩
theorem vM.ok (n:Nat):aN 27 (vM.ae n):=aQ n [] [] (ak (jS.ok n) (ak (qI.ok n) aC)) aD Tryz.func27
def rn.f (n:Nat) (a0:dj):Option (dj×Unit):=(mM.f n a0.1).bind fun r1=>(qN.f n a0.2.1).bind fun r2=>(cd.f n a0.2.2).bind fun r3=>some ((r1.1,(r2.1,r3.1)),())
def rn.ae (n:Nat):ar:=⟨[.val jq],[.sh jq],fun x=>rn.f n x.1⟩
theorem rn.ok (n:Nat):aN 28 (rn.ae n):=aQ n [] [] (ak (mM.ok n) (ak (qN.ok n) (ak ⟨cd.sound n,cd.az⟩ aC))) aD Tryz.func28
def oP.f (n:Nat) (a0:ai) (a1:Bool):Option (dj×(List UInt8)×(Bool×Unit)):=br (!a1) (some ((([],[]),(([],([],([],0))),[])),([],(false,())))) ((qW.f n a0).bind fun r1=>(pJ.f n a0 0).bind fun r2=>some ((a0,(r1.1,r2.1)),([111,107],(true,()))))
def oP.ae (n:Nat):ar:=⟨[.val cD,.val .bool],[.sh jq,.val .str,.val .bool],fun x=>oP.f n x.1 x.2.1⟩
theorem oP.ok (n:Nat):aN 66 (oP.ae n):=aQ n [] [] (ak (qW.ok n) (ak (pJ.ok n) aC)) aD Tryz.func66
def rp.f (n:Nat) (a0:List UInt8) (a1:List UInt8):Option (Bool×Unit):=br (decide ((a1.length:Int)≤(a0.length:Int))) (ab ((0:Int)≤0∧(0:Int)≤(a1.length:Int)∧(a1.length:Int)≤(a0.length:Int)) (some ((decide (((a0.take (a1.length:Int).toNat).drop 0)=a1)),()))) (some (false,()))
def rp.ae (n:Nat):ar:=⟨[.val .str,.val .str],[.val .bool],fun x=>rp.f n x.1 x.2.1⟩
theorem rp.ok (n:Nat):aN 158 (rp.ae n):=aQ n [] [] aC aD Tryz.func158
def vN.f (n:Nat) (a0:List UInt8) (a1:List UInt8):Option ((List UInt8)×(Bool×Unit)):=(rp.f n a0 a1).bind fun r1=>br (!r1.1) (some (a0,(false,()))) (ab (0≤(a1.length:Int)∧(a1.length:Int)≤(a0.length:Int)∧(a0.length:Int)≤(a0.length:Int)) (some (((a0.take (a0.length:Int).toNat).drop (a1.length:Int).toNat),(true,()))))
def vN.ae (n:Nat):ar:=⟨[.val .str,.val .str],[.val .str,.val .bool],fun x=>vN.f n x.1 x.2.1⟩
theorem vN.ok (n:Nat):aN 113 (vN.ae n):=aQ n [] [] (ak (rp.ok n) aC) aD Tryz.func113
def rq.f (n:Nat) (a0:List UInt8) (a1:List UInt8):Option ((List UInt8)×(Bool×Unit)):=(vN.f n a0 a1).bind fun r1=>some (r1.1,(r1.2.1,()))
def rq.ae (n:Nat):ar:=⟨[.val .str,.val .str],[.val .str,.val .bool],fun x=>rq.f n x.1 x.2.1⟩
theorem rq.ok (n:Nat):aN 65 (rq.ae n):=aQ n [] [] (ak (vN.ok n) aC) aD Tryz.func65
def xC.f (n:Nat) (a0:List UInt8) (a1:List UInt8):Option ((List UInt8)×Unit):=(rp.f n a0 a1).bind fun r1=>br r1.1 (ab (0≤(a1.length:Int)∧(a1.length:Int)≤(a0.length:Int)∧(a0.length:Int)≤(a0.length:Int)) (some (((a0.take (a0.length:Int).toNat).drop (a1.length:Int).toNat),()))) (some (a0,()))
def xC.ae (n:Nat):ar:=⟨[.val .str,.val .str],[.val .str],fun x=>xC.f n x.1 x.2.1⟩
theorem xC.ok (n:Nat):aN 171 (xC.ae n):=aQ n [] [] (ak (rp.ok n) aC) aD Tryz.func171
def vO.f (n:Nat) (a0:List UInt8) (a1:List UInt8):Option ((List UInt8)×Unit):=(xC.f n a0 a1).bind fun r1=>some (r1.1,())
def vO.ae (n:Nat):ar:=⟨[.val .str,.val .str],[.val .str],fun x=>vO.f n x.1 x.2.1⟩
theorem vO.ok (n:Nat):aN 123 (vO.ae n):=aQ n [] [] (ak (xC.ok n) aC) aD Tryz.func123
def tB.f (n:Nat) (a0:List (List UInt8)):Option ((List Int)×(Bool×Unit)):=iter (α:=(Int×(List Int)×Unit)) n (fun qJ x9=>br (decide (x9.1<(a0.length:Int))) (ab (0≤x9.1∧x9.1<(a0.length:Int)) ((dP.f n (a0.getD x9.1.toNat [])).bind fun dA=>cut (α:=(Bool×Unit)) (br (!dA.2.1) (some (.inr (true,()))) ((vO.f n (a0.getD x9.1.toNat []) ([45]:List UInt8)).bind fun dp=>some (.inr ((decide (9<(dp.1.length:Int))),())))) fun BQ=>br BQ.1 (some ([],(false,()))) (ab ((x9.2.1.length+([dA.1]:List Int).length)*8≤aW) (qJ ((ag (x9.1+1)),((x9.2.1++[dA.1]),())))))) (some (x9.2.1,(true,())))) (0,([],()))
def tB.ae (n:Nat):ar:=⟨[.val (.sl .str)],[.val IS,.val .bool],fun x=>tB.f n x.1⟩
theorem tB.ok (n:Nat):aN 70 (tB.ae n):=aQ n [(4,⟨[(4,.own 1000 I),(12,.int .i64)],[(1000,.row true I)],[10,11],[]⟩),(10,⟨[(28,.bool)],[],[4,7,10,11,12],[]⟩)] [] (ak (dP.ok n) (ak (vO.ok n) aC)) aD Tryz.func70
end
end Go.AmT
