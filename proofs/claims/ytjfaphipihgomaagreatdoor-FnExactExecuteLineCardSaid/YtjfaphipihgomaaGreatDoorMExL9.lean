/- Functions of the program, each as a plain Lean function. No condition. -/
import Derived.Test.YtjfaphipihgomaaGreatDoorMExL8
open Go Go.Am
noncomputable section
set_option linter.unusedVariables false
set_option maxRecDepth 100000
set_option linter.unusedSimpArgs false
open Bool renaming and_eq_true → aB, not_true → bo, true_and → lF
open Int renaming lt_irrefl → bH, lt_or_le → Ko, natCast_nonneg → zT, toNat_natCast → az
open List renaming getElem_mem → bV, map_id → Po, range → bD
open Nat renaming le_of_lt_succ → A7, le_refl → cx, lt_or_eq_of_le → s9
open Option renaming bind_some → aA
namespace Go.AmT
open Go.Proofs Go.Proofs.Tryz
def mz.f (n:Nat) (a0:State):Option (State×Unit):=iter n (fun Pp ir=>br (decide (ir.1<(a0.1.length:Int))) (ab (0≤ir.1∧ir.1<(a0.1.length:Int)) (let v30:=(a0.1.getD ir.1.toNat bz); (gQ.f n v30.2).bind fun oj=>ab ((ir.2.2.1.length+([(v30.1,oj.1)]:List aY).length)*32≤bn) (Pp (ag (ir.1+1),ir.2.1,ir.2.2.1++[(v30.1,oj.1)],())))) (iter n (fun Oy iX=>br (decide (iX.1<(a0.2.1.length:Int))) (ab (0≤iX.1∧iX.1<(a0.2.1.length:Int)) (let fc:=(a0.2.1.getD iX.1.toNat []); (gQ.f n fc).bind fun Wq=>ab ((iX.2.2.2.1.length+([Wq.1]:List (List Int)).length)*24≤bn) (Oy (ag (iX.1+1),iX.2.1,iX.2.2.1,iX.2.2.2.1++[Wq.1],())))) (iter n (fun ae_ qy=>br (decide (qy.1<(a0.2.2.1.length:Int))) (ab (0≤qy.1∧qy.1<(a0.2.2.1.length:Int)) (let v82:=(a0.2.2.1.getD qy.1.toNat []); (gQ.f n v82).bind fun Wr=>ab ((qy.2.2.2.2.1.length+([Wr.1]:List (List Int)).length)*24≤bn) (ae_ (ag (qy.1+1),qy.2.1,qy.2.2.1,qy.2.2.2.1,qy.2.2.2.2.1++[Wr.1],())))) (some ((qy.2.2.1,qy.2.2.2.1,qy.2.2.2.2.1,qy.2.1),()))) (0,iX.2.1,iX.2.2.1,iX.2.2.2.1,[],()))) (0,ir.2.1,ir.2.2.1,[],()))) (0,a0.2.2.2,[],())
def mz.ae (n:Nat):ar:=⟨[.val dk],[.val dk],fun x=>mz.f n x.1⟩
theorem mz.ok (n:Nat):aH 54 (mz.ae n):=aJ n [(4,⟨[(3,.bt 1000 0),(16,.int .i64)],[(1000,.cells [] [.own 1001 a_,.mc (.nil),.mc (.nil),.int .i64]),(1001,.row true a_)],[1,2,14,15],[]⟩),(13,⟨[(3,.bt 1000 0),(35,.int .i64)],[(1000,.cells [] [.own 1001 a_,.own 1002 IS,.mc (.nil),.int .i64]),(1001,.row true a_),(1002,.row true IS)],[1,2,33,34],[]⟩),(22,⟨[(3,.bt 1000 0),(50,.int .i64)],[(1000,.cells [] [.own 1001 a_,.own 1002 IS,.own 1003 IS,.int .i64]),(1001,.row true a_),(1002,.row true IS),(1003,.row true IS)],[2,48,49],[]⟩)] [] (ai (gQ.ok n) aC) aD func54
def zX.f (n:Nat) (a0:ak) (a1:Int):Option (Bool×Unit):=br (decide (0≤a1)) (some (decide (a1<(a0.1.length:Int)),())) (some (false,()))
def zX.ae (n:Nat):ar:=⟨[.val bZ,.val I],[.val .bool],fun x=>zX.f n x.1 x.2.1⟩
theorem zX.ok (n:Nat):aH 195 (zX.ae n):=aJ n [] [] aC aD func195
end Go.AmT
namespace Go.AmT
variable {n:Nat} {nt:ak} {s:State}
theorem Ws (o:bU nt s) (hn:1048576<n):W (ry.f n nt s) (fun r=>decide (0≤r.1)=kF nt s∧(0≤r.1→∃ k:Nat,r.1=(k:Int)∧k<nt.1.length∧dw nt s k=true∧∀ j,j<k→dw nt s j=false)):=by
 have hp:=o.cb.dZ;unfold ry.f;refine gu (fun i (_:Unit)=>((i:Int),())) nt.1.length (fun i _=>∀ j,j<i→dw nt s j=false) (s0:=()) rfl (fun j hj=>by omega) (by omega) (fun ih s' hI=>?_) (fun ih i s' hi hI hS=>?_)
 ·simp only [au (bH _)];rw [ao];refine ⟨?_,fun h=>by omega⟩;rw [kF,Kd hI]; rfl
 simp only [aM (show (i:Int)<(nt.1.length:Int) by omega),Cb o hi hn,aA];cases hc:dw nt s i
 ·simp only [aw];rw [ba (by omega)];refine hS () (fun j hj=>?_)
  grind
 simp only [ax];rw [ao];refine ⟨?_,fun _=>⟨i,rfl,hi,hc,hI⟩⟩;rw [kF,Kc hi hc]; simp
theorem Pq {r:oe} (R:kQ nt s r) (o:bU nt s) (hn:1048576<n):quiet.f n r=some (!kF nt s,()):=by
 have hp:=o.cb.dZ;unfold quiet.f;rw [R.cb];refine eM.1 (OM nt.1.length (dw nt s) (yes:=fun _=>some (false,())) (fun ih i hi=>?_) (fun ih=>au (bH _)) (by omega) (fun i hi h=>?_) (fun h=>?_))
 ·rw [aM (by omega),Ef R o hi,ba (by omega),aA,ON]
 ·rw [ao,kF,Kc hi h]; rfl
 rw [ao,kF,Kd h]; rfl
theorem Cg (h:gP s) (hn:1048576<n):mz.f n s=some (s,()):=by
 have ha:=h.B5;have hq:=h.B6;have hs:=h.B7;unfold mz.f;refine vz s.1 id (fun i ps=>(i,s.2.2.2,ps,())) (fun ih i hi ps Wt=>?_) (fun ih=>?_) (by omega)
 ·have c1:(i:Int)<(s.1.length:Int):=by omega
  have e1:s.1.getD i bz=s.1[i]:=aU hi _;show br (decide ((i:Int)<(s.1.length:Int))) _ _=_;rw [aM c1,af ⟨zT i,c1⟩];simp only [az,e1];rw [xK (h.mr _ (bV hi)),aA,dD (by grind),ba (by omega)]; rfl
 show br (decide ((s.1.length:Int)<(s.1.length:Int))) _ _=_;rw [au (bH _),Po];refine vz s.2.1 id (fun i ps=>(i,s.2.2.2,s.1,ps,())) (fun ih i hi ps Wt=>?_) (fun ih=>?_) (by omega)
 ·have c1:(i:Int)<(s.2.1.length:Int):=by omega
  have e1:s.2.1.getD i []=s.2.1[i]:=aU hi _;show br (decide ((i:Int)<(s.2.1.length:Int))) _ _=_;rw [aM c1,af ⟨zT i,c1⟩];simp only [az,e1];rw [xK (h.queue _ (bV hi)),aA,dD (by grind),ba (by omega)]; rfl
 show br (decide ((s.2.1.length:Int)<(s.2.1.length:Int))) _ _=_;rw [au (bH _),Po];refine vz s.2.2.1 id (fun i ps=>(i,s.2.2.2,s.1,s.2.1,ps,())) (fun ih i hi ps Wt=>?_) (fun ih=>?_) (by omega)
 ·have c1:(i:Int)<(s.2.2.1.length:Int):=by omega
  have e1:s.2.2.1.getD i []=s.2.2.1[i]:=aU hi _;show br (decide ((i:Int)<(s.2.2.1.length:Int))) _ _=_;rw [aM c1,af ⟨zT i,c1⟩];simp only [az,e1];rw [xK (h.po _ (bV hi)),aA,dD (by grind),ba (by omega)]; rfl
 show br (decide ((s.2.2.1.length:Int)<(s.2.2.1.length:Int))) _ _=_;rw [au (bH _),Po]
theorem Wu {α:Type} {c:Prop} [Decidable c] {x y z:α} (h:y=z):(if c then x else y)=if c then x else z:=by rw [h]
theorem ae0 {made most:Int} (o:bU nt s) (hn:1048576<n) {ρ:Type} (X Y:Option ρ) :
  cut (α:=Bool×Unit) ((ry.f n nt s).bind fun r=>br (decide (0≤r.1)) (some (.inr (decide (made<most),()))) (some (.inr (false,())))) (fun y=>br y.1 X Y)=if (bD nt.1.length).any (dw nt s)=true∧made<most then X else Y:=by
 obtain ⟨⟨r,⟨⟩⟩,e,hr,-⟩:=Ws (n:=n) o hn;have hr:decide (0≤r)=kF nt s:=hr;simp only [e,aA,hr];show _=if kF nt s=true∧made<most then _ else _
 cases ha:kF nt s
 ·simp only [aw,bg,Bool.false_eq_true,false_and,if_false]
 simp only [ax,bg,true_and,iN]
theorem Wv (o:bU nt s) (hn:1048576<n) {ρ:Type} (f:Bool→Option ρ) :
  ((ry.f n nt s).bind fun r=>f (decide (r.1<0)))=f (!kF nt s):=by
 obtain ⟨⟨r,⟨⟩⟩,e,hr,-⟩:=Ws (n:=n) o hn
 grind
end Go.AmT
namespace Go.AmT
open Go.Proofs Go.Proofs.Tryz
def sq.f (n:Nat) (a0:ak) (a1:State) (a2:List Int):Option (Bool×Unit):=iter n (fun G6 j9=>br (decide (j9.1<(a0.1.length:Int))) ((t_.f n a0 a1 a2 j9.1).bind fun fD=>br fD.1 (some (true,())) (G6 (ag (j9.1+1),()))) (some (false,()))) (0,())
def sq.ae (n:Nat):ar:=⟨[.val bZ,.val dk,.val IS],[.val .bool],fun x=>sq.f n x.1 x.2.1 x.2.2.1⟩
theorem sq.ok (n:Nat):aH 197 (sq.ae n):=aJ n [(3,⟨[(11,.int .i64)],[],[2,3,4,10],[]⟩)] [] (ai (t_.ok n) aC) aD func197
def xP.f (n:Nat) (a0:ak) (a1:State) (a2:List Int):Option (List Int×Int×Bool×Unit):=iter n (fun vv dq=>br (decide (dq.2.1<(a0.1.length:Int))) ((vE.f n a0 a1 a2 dq.2.1).bind fun eg=>cut (br (decide (eg.1<0)) (some (.inr (true,()))) ((kx.f n a0 a1 dq.2.1).bind fun pk=>some (.inr (!pk.1,())))) fun Pr=>br Pr.1 (vv (dq.1,ag (dq.2.1+1),())) (br (decide (dq.1<0)) (vv (eg.1,ag (dq.2.1+1),())) (ab (0≤eg.1∧eg.1<(a2.length:Int)) (ab (0≤dq.1∧dq.1<(a2.length:Int)) (br (decide ((a2.getD eg.1.toNat 0)<(a2.getD dq.1.toNat 0))) (vv (eg.1,ag (dq.2.1+1),())) (ab (0≤eg.1∧eg.1<(a2.length:Int)) (ab (0≤dq.1∧dq.1<(a2.length:Int)) (br (decide ((a2.getD eg.1.toNat 0)=(a2.getD dq.1.toNat 0))) (br (decide (eg.1<dq.1)) (vv (eg.1,ag (dq.2.1+1),())) (vv (dq.1,ag (dq.2.1+1),()))) (vv (dq.1,ag (dq.2.1+1),())))))))))) (cut (br (decide (dq.1<0)) (some (.inr (true,()))) (ab (0≤dq.1∧dq.1<(a2.length:Int)) (some (.inr (decide (400≤(a2.getD dq.1.toNat 0)),()))))) fun Kp=>br Kp.1 (some ([],0,false,())) ((gQ.f n a2).bind fun dA=>ab (0≤dq.1∧dq.1<(dA.1.length:Int)) (ab (0≤dq.1∧dq.1<(dA.1.length:Int)) (let v28:=(dA.1.set dq.1.toNat (ag ((dA.1.getD dq.1.toNat 0)+1))); some (v28,dq.1,true,())))))) (-1,0,())
def xP.ae (n:Nat):ar:=⟨[.val bZ,.val dk,.val IS],[.val IS,.val I,.val .bool],fun x=>xP.f n x.1 x.2.1 x.2.2.1⟩
theorem xP.ok (n:Nat):aH 139 (xP.ae n):=aJ n [(4,⟨[(9,.int .i64),(16,.int .i64)],[],[2,3,4,15],[]⟩),(10,⟨[(32,.bool)],[],[2,3,4,9,11,15,16],[]⟩),(16,⟨[(72,.bool)],[],[2,9],[]⟩)] [] (ai (vE.ok n) (ai (kx.ok n) (ai (gQ.ok n) aC))) aD func139
def stuck.f (n:Nat) (a0:oe):Option (Bool×Unit):=iter n (fun fa x5=>br (decide (x5.1<(a0.1.1.length:Int))) ((may.f n a0 x5.1).bind fun r7=>br r7.1 (some (false,())) (fa (ag (x5.1+1),()))) (some (true,()))) (0,())
def stuck.ae (n:Nat):ar:=⟨[.fX zv],[.val .bool],fun x=>stuck.f n x.1⟩
theorem stuck.ok (n:Nat):aH 271 (stuck.ae n):=aJ n [(3,⟨[(10,.int .i64)],[],[0,9],[]⟩)] [] (ai (may.ok n) aC) aD func271
def zY.f (n:Nat) (a0:ak) (a1:State) (a2:List Int):Option (Bool×Unit):=(so.f n a0 a1 a2).bind fun r1=>br (!r1.1) (some (false,())) ((og.f n a0.1 a0.2 a1.1 a1.2.1 a1.2.2.1 a1.2.2.2 a2).bind fun r2=>(stuck.f n ((r2.1,r2.2.1),(r2.2.2.2.2.1,r2.2.2.2.2.2.1,r2.2.2.2.2.2.2.1,r2.2.2.1),r2.2.2.2.2.2.2.2.1,r2.2.2.2.2.2.2.2.2.1,r2.2.2.2.1)).bind fun r3=>br r3.1 ((quiet.f n ((r2.1,r2.2.1),(r2.2.2.2.2.1,r2.2.2.2.2.2.1,r2.2.2.2.2.2.2.1,r2.2.2.1),r2.2.2.2.2.2.2.2.1,r2.2.2.2.2.2.2.2.2.1,r2.2.2.2.1)).bind fun r4=>some (!r4.1,())) (some (false,())))
def zY.ae (n:Nat):ar:=⟨[.val bZ,.val dk,.val IS],[.val .bool],fun x=>zY.f n x.1 x.2.1 x.2.2.1⟩
theorem zY.ok (n:Nat):aH 272 (zY.ae n):=aJ n [] [] (ai (so.ok n) (ai (stuck.ok n) (ai (quiet.ok n) aC))) (dI (og.ok n) aD) func272
def ue.f (n:Nat) (a0:ak) (a1:State) (a2:List Int):Option (List Int×Int×Bool×Unit):=(zY.f n a0 a1 a2).bind fun r1=>br (!r1.1) (some ([],0,false,())) ((og.f n a0.1 a0.2 a1.1 a1.2.1 a1.2.2.1 a1.2.2.2 a2).bind fun r2=>iter n (fun ae1 lu=>br (decide (lu.2.1<(a0.2.length:Int))) (iter n (fun Ch kT=>br (decide (kT.2.1<(a0.1.length:Int))) ((iY.f n ((r2.1,r2.2.1),(r2.2.2.2.2.1,r2.2.2.2.2.2.1,r2.2.2.2.2.2.2.1,r2.2.2.1),r2.2.2.2.2.2.2.2.1,r2.2.2.2.2.2.2.2.2.1,r2.2.2.2.1) kT.2.1).bind fun Ww=>br (decide (Ww.1=3)) (br (decide (Ww.2.1=lu.2.1)) ((can.f n ((r2.1,r2.2.1),(r2.2.2.2.2.1,r2.2.2.2.2.2.1,r2.2.2.2.2.2.2.1,r2.2.2.1),r2.2.2.2.2.2.2.2.1,r2.2.2.2.2.2.2.2.2.1,r2.2.2.2.1) kT.2.1).bind fun O4=>br O4.1 ((may.f n ((r2.1,r2.2.1),(r2.2.2.2.2.1,r2.2.2.2.2.2.1,r2.2.2.2.2.2.2.1,r2.2.2.1),r2.2.2.2.2.2.2.2.1,r2.2.2.2.2.2.2.2.2.1,r2.2.2.2.1) kT.2.1).bind fun r79=>br (!r79.1) (br (decide (kT.1<0)) (Ch (lu.2.1,ag (kT.2.1+1),())) (ab (0≤lu.2.1∧lu.2.1<(a2.length:Int)) (let v80:=(a2.getD lu.2.1.toNat 0); ab (0≤kT.1∧kT.1<(a2.length:Int)) (br (decide (v80<(a2.getD kT.1.toNat 0))) (Ch (lu.2.1,ag (kT.2.1+1),())) (Ch (kT.1,ag (kT.2.1+1),())))))) (Ch (kT.1,ag (kT.2.1+1),()))) (Ch (kT.1,ag (kT.2.1+1),()))) (Ch (kT.1,ag (kT.2.1+1),()))) (Ch (kT.1,ag (kT.2.1+1),()))) (ae1 (kT.1,ag (lu.2.1+1),()))) (lu.1,0,())) (cut (br (decide (lu.1<0)) (some (.inr (true,()))) (ab (0≤lu.1∧lu.1<(a2.length:Int)) (some (.inr (decide ((a2.getD lu.1.toNat 0)=400),()))))) fun y81=>br y81.1 (some ([],0,false,())) ((cX.f n a2).bind fun Kq=>ab (0≤lu.1∧lu.1<(Kq.1.length:Int)) (ab (0≤lu.1∧lu.1<(Kq.1.length:Int)) (let v83:=(Kq.1.set lu.1.toNat (ag ((Kq.1.getD lu.1.toNat 0)+1))); some (v83,lu.1,true,())))))) (-1,0,()))
def ue.ae (n:Nat):ar:=⟨[.val bZ,.val dk,.val IS],[.val IS,.val I,.val .bool],fun x=>ue.f n x.1 x.2.1 x.2.2.1⟩
theorem ue.ok (n:Nat):aH 232 (ue.ae n):=aJ n [(7,⟨[(10,.int .i64),(28,.int .i64)],[],[2,3,9,27],[]⟩),(14,⟨[(10,.int .i64),(34,.int .i64)],[],[2,3,9,11,27,28,33],[]⟩),(25,⟨[(87,.bool)],[],[2,10],[]⟩)] [] (ai (zY.ok n) (ai (iY.ok n) (ai (can.ok n) (ai (may.ok n) (ai ⟨cX.sound n,cX.av⟩ aC))))) (dI (og.ok n) aD) func232
end Go.AmT
namespace Go.AmT
variable {n k:Nat} {nt:ak} {s:State} {caps:List Int} {b:Int}
theorem Wx (o:bU nt s) (hc:caps.length=nt.2.length) (hn:1048576<n):sq.f n nt s caps=some (nF nt s caps,()):=by
 have hp:=o.cb.dZ;unfold sq.f;refine eM.1 (OM nt.1.length (nn nt s caps) (yes:=fun _=>some (true,())) (fun ih i hi=>?_) (fun ih=>au (bH _)) (by omega) (fun i hi h=>?_) (fun h=>?_))
 ·rw [aM (by omega),V7 o hc hi hn,ba (by omega),aA,ON]
 ·rw [ao,nF,Kc hi h]
 rw [ao,nF,Kd h]
theorem Wy {r:oe} (R:kQ nt s r) (o:bU nt s) (hc:caps.length=nt.2.length) (e:r.2.2.2.2=some caps) (hn:1048576<n):stuck.f n r=some (!nF nt s caps,()):=by
 have hp:=o.cb.dZ;unfold stuck.f;rw [R.cb];refine eM.1 (OM nt.1.length (nn nt s caps) (yes:=fun _=>some (false,())) (fun ih i hi=>?_) (fun ih=>au (bH _)) (by omega) (fun i hi h=>?_) (fun h=>?_))
 ·rw [aM (by omega),Pf R o hc e hi,ba (by omega),aA,ON]
 ·rw [ao,nF,Kc hi h]; rfl
 rw [ao,nF,Kd h]; rfl
def xQ (nt:ak) (s:State) (caps:List Int):Bool:=gk nt s&&(eQ nt.2 caps&&(!nF nt s caps&&kF nt s))
theorem ae2 (h:cL nt) (hs:gP s) (hc:caps.length≤1048576) (hn:1048576<n):zY.f n nt s caps=some (xQ nt s caps,()):=by
 unfold zY.f xQ;rw [Pd h hs hc hn];cases e1:gk nt s
 ·rfl
 cases e2:eQ nt.2 caps
 ·rfl
 simp only [aA,lF,bo,aw];refine eM.1 (dt.2 (bA (Pe (ru e1) hs hc hn) (fun r ⟨R,e⟩=>eM.2 ?_)));rw [Wy R (ru e1) (rv e2) e hn,Pq R (ru e1) hn];cases nF nt s caps<;>cases kF nt s<;>rfl
def su (nt:ak) (s:State) (caps:List Int) (k:Nat):Bool:=dw nt s k&&!nn nt s caps k
def dW (caps:List Int) (j:Nat):Int:=caps.getD j 0
theorem Kr (o:bU nt s) (hk:k<nt.1.length) (h:su nt s caps k=true):∃ j:Nat,j<nt.2.length∧bL nt s k=(j:Int)∧(bE nt s k).1=3∧dw nt s k=true∧¬ (nt.2.getD j ay).2.2.1<0∧¬ ((s.2.1.getD j []).length:Int)<dW caps j:=by unfold su at h;simp only [aB,Bool.not_eq_true'] at h;obtain ⟨h1,h2⟩:=h;unfold nn at h2;rw [h1,lF] at h2;simp only [Bool.or_eq_false_iff,Bool.not_eq_false',decide_eq_true_eq,decide_eq_false_iff_not] at h2;obtain ⟨c3,c4,c5⟩:=h2;obtain ⟨j,hj,e,-⟩:=vB o hk c3;rw [e,az] at c4 c5;exact ⟨j,hj,e,c3,h1,c4,c5⟩
theorem ae3 (o:bU nt s) (hk:k<nt.1.length) :
  su nt s caps k=(dw nt s k&&decide (0≤(if (bE nt s k).1=3∧¬ (nt.2.getD (bL nt s k).toNat ay).2.2.1<0∧¬ ((s.2.1.getD (bL nt s k).toNat []).length:Int)<caps.getD (bL nt s k).toNat 0 then bL nt s k else -1))):=by
 unfold su nn;cases dw nt s k
 ·rfl
 simp only [lF];by_cases c3:(bE nt s k).1=3
 ·obtain ⟨j,hj,e,-⟩:=vB o hk c3
  grind
 grind
structure lU (caps:List Int) (P:Nat→Prop) (b:Int):Prop where
 none:b<0→b = -1∧∀ j,¬ P j
 some:0≤b→P b.toNat∧∀ i,P i→dW caps b.toNat<dW caps i∨(dW caps b.toNat=dW caps i∧b.toNat≤i)
theorem lU.uniq {P:Nat→Prop} {c:Int} (B:lU caps P b) (C:lU caps P c):b=c:=by
 rcases Ko b 0 with hb | hb
 ·rcases Ko c 0 with hc | hc
  ·rw [(B.none hb).1,(C.none hc).1]
  exact absurd (C.some hc).1 ((B.none hb).2 _)
 rcases Ko c 0 with hc | hc
 ·exact absurd (B.some hb).1 ((C.none hc).2 _)
 have h1:=(B.some hb).2 _ (C.some hc).1;have h2:=(C.some hc).2 _ (B.some hb).1;omega
theorem lU.congr {P Q:Nat→Prop} (B:lU caps P b) (h:∀ j,P j↔Q j):lU caps Q b:=
 ⟨fun hb=>⟨(B.none hb).1,fun j hj=>(B.none hb).2 j ((h j).2 hj)⟩,fun hb=>⟨(h _).1 (B.some hb).1,fun i hi=>(B.some hb).2 i ((h i).2 hi)⟩⟩
theorem lU.more {P:Nat→Prop} (B:lU caps P b) (j:Nat):lU caps (fun i=>P i∨i=j) (if b<0∨dW caps j<dW caps b.toNat∨(dW caps j=dW caps b.toNat∧(j:Int)<b) then (j:Int) else b):=by
 split
 ·rename_i h;refine ⟨fun hb=>by omega,fun _=>⟨.inr (by omega),fun i hi=>?_⟩⟩;rw [az];rcases hi with hi | rfl
  ·rcases Ko b 0 with hb | hb
   ·exact absurd hi ((B.none hb).2 i)
   have:=(B.some hb).2 i hi;omega
  omega
 rename_i h;have hb:0≤b:=by omega
 refine ⟨fun hb=>by omega,fun _=>⟨.inl (B.some hb).1,fun i hi=>?_⟩⟩;rcases hi with hi | rfl
 ·exact (B.some hb).2 i hi
 omega
def rP (nt:ak) (s:State) (caps:List Int) (b:Int) (k:Nat):Int:=
 if su nt s caps k=true then (if b<0∨dW caps (bL nt s k).toNat<dW caps b.toNat∨(dW caps (bL nt s k).toNat=dW caps b.toNat∧bL nt s k<b) then bL nt s k else b) else b
def El (nt:ak) (s:State) (caps:List Int):Int:=(bD nt.1.length).foldl (rP nt s caps) (-1)
def sv (nt:ak) (s:State) (caps:List Int) (K:Nat) (j:Nat):Prop:=∃ k,k<K∧su nt s caps k=true∧bL nt s k=(j:Int)
theorem ae4 (o:bU nt s) (hk:k<nt.1.length) (B:lU caps (sv nt s caps k) b):lU caps (sv nt s caps (k+1)) (rP nt s caps b k):=by
 unfold rP;split
 ·rename_i h;obtain ⟨j,hj,e,-⟩:=Kr o hk h;rw [e,az];refine (B.more j).congr (fun i=>⟨?_,?_⟩)
  ·rintro (⟨k',a,b,c⟩ | rfl)
   ·exact ⟨k',by omega,b,c⟩
   exact ⟨k,by omega,h,e⟩
  rintro ⟨k',a,b,c⟩;rcases s9 (A7 a) with h1 | h1
  ·exact .inl ⟨k',h1,b,c⟩
  grind
 rename_i h;refine B.congr (fun i=>⟨?_,?_⟩)
 ·rintro ⟨k',a,b,c⟩; exact ⟨k',by omega,b,c⟩
 rintro ⟨k',a,b,c⟩;rcases s9 (A7 a) with h1 | h1
 ·exact ⟨k',h1,b,c⟩
 grind
theorem ae5 : lU caps (sv nt s caps 0) (-1):=⟨fun _=>⟨rfl,fun j ⟨k,h,_⟩=>by omega⟩,fun h=>by omega⟩
theorem Ps (o:bU nt s):∀ k,k≤nt.1.length→lU caps (sv nt s caps k) ((bD k).foldl (rP nt s caps) (-1))
 | 0,_=>ae5
 | k+1,hk=>by rw [List.range_succ,List.foldl_append];exact ae4 o (by omega) (Ps o k (by omega))
theorem Pt (o:bU nt s):lU caps (sv nt s caps nt.1.length) (El nt s caps):=Ps o _ (cx _)
theorem Wz {K j:Nat} (o:bU nt s) (hK:K≤nt.1.length) (h:sv nt s caps K j):j<nt.2.length:=by obtain ⟨k,a,b,c⟩:=h;obtain ⟨i,hi,e,-⟩:=Kr o (show k<nt.1.length by omega) b;omega
theorem Ks {K:Nat} (o:bU nt s) (hK:K≤nt.1.length) (B:lU caps (sv nt s caps K) b) (hb:0≤b):b<(nt.2.length:Int):=by have:=Wz o hK (B.some hb).1;omega
def Kt (caps:List Int) (b:Int):List Int×Int×Bool:=if b<0∨dW caps b.toNat=400 then ([],0,false) else (caps.set b.toNat (dW caps b.toNat+1),b,true)
def lV (nt:ak) (s:State) (caps:List Int):List Int×Int×Bool:=Kt caps (El nt s caps)
theorem Ci {ls:List aK} {caps:List Int} (h:eQ ls caps=true) {j:Nat} (hj:j<ls.length):((ls.getD j ay).2.2.2.2.length:Int)≤dW caps j∧dW caps j≤400:=by
 have hl:=rv h
 unfold eQ at h
 simp only [aB,decide_eq_true_eq,List.all_eq_true,List.mem_range] at h
 exact h.2 j (by omega)
theorem ae6 {n:Nat} {nt:ak} {s:State} {caps:List Int} (o:bU nt s) (hc:eQ nt.2 caps=true) (hn:1048576<n):xP.f n nt s caps=some ((lV nt s caps).1,(lV nt s caps).2.1,(lV nt s caps).2.2,()):=by
 have hp:=o.cb.dZ
 have hl:=o.cb.dp
 have fx:=rv hc
 unfold xP.f
 refine eM.1 (gu (fun i (b:Int)=>(b,(i:Int),())) nt.1.length (fun i b=>b=(bD i).foldl (rP nt s caps) (-1)) (s0:=-1) rfl rfl (by omega) (fun ih b hI=>?_) (fun ih i b hi hI hS=>?_))
 ·simp only [au (bH _)]
  have B:=Pt (caps:=caps) o
  rw [show (bD nt.1.length).foldl (rP nt s caps) (-1)=El nt s caps from rfl] at hI
  rw [← hI] at B
  rw [eM]
  unfold lV Kt
  rw [← hI]
  by_cases hb:b<0
  ·rw [aM hb,bg,ax,if_pos (.inl hb)]
  ·have aF:=Ks o (cx _) B (by omega)
   have fF:=Ci hc (show b.toNat<nt.2.length by omega)
   rw [au hb,af (by omega),bg]
   by_cases h4:dW caps b.toNat=400
   ·rw [if_pos (.inr h4)]
    have:decide (400≤caps.getD b.toNat 0)=true:=decide_eq_true (by unfold dW at h4; omega)
    rw [this]; rfl
   ·rw [if_neg (by omega)]
    have:decide (400≤caps.getD b.toNat 0)=false:=decide_eq_false (by unfold dW at h4 fF; omega)
    rw [this]
    simp only [aw]
    rw [xK (by omega)]
    simp only [aA]
    rw [af (by omega),af (by omega),bM (by unfold dW at fF; omega) (by unfold dW at fF; omega)]
    rfl
 ·have ae7:=V6 (n:=n) (caps:=caps) o fx hi hn
  have tg:=ae3 (caps:=caps) o hi
  simp only [aM (show (i:Int)<(nt.1.length:Int) by omega),ae7,aA]
  generalize hf:(if (bE nt s i).1=3∧¬ (nt.2.getD (bL nt s i).toNat ay).2.2.1<0∧¬ ((s.2.1.getD (bL nt s i).toNat []).length:Int)<caps.getD (bL nt s i).toNat 0 then bL nt s i else -1)=at' at *
  rw [ba (by omega)]
  have RQ:(bD (i+1)).foldl (rP nt s caps) (-1)=rP nt s caps b i:=by rw [List.range_succ,List.foldl_append,← hI]; rfl
  have hB:lU caps (sv nt s caps i) b:=by rw [hI]; exact Ps o i (by omega)
  cases rS:su nt s caps i
  ·have hk:W (ih (b,((i+1:Nat):Int),())) _:=hS b (by rw [RQ]; unfold rP; rw [rS]; rfl)
   rw [rS] at tg
   by_cases h0:at'<0
   ·rw [aM h0,bg,ax]; exact hk
   ·rw [au h0,Cb o hi hn]
    have:dw nt s i=false:=by
     cases A9:dw nt s i
     ·rfl
     ·rw [A9,decide_eq_true (show 0≤at' by omega)] at tg; cases tg
    rw [this]
    simp only [aA,bg,Bool.not_false,ax]; exact hk
  ·rw [rS] at tg
   have tg:=tg.symm
   rw [aB,decide_eq_true_eq] at tg
   obtain ⟨j,hj,e,-⟩:=Kr o hi rS
   have he:at'=(j:Int):=by
    rw [← hf] at tg ⊢
    split at tg
    ·rename_i h; rw [if_pos h,e]
    ·omega
   have tB:rP nt s caps b i=if b<0∨dW caps j<dW caps b.toNat∨(dW caps j=dW caps b.toNat∧(j:Int)<b) then (j:Int) else b:=by
    unfold rP
    rw [rS,if_pos rfl,e,az]
   rw [he,au (by omega),Cb o hi hn,tg.1]
   simp only [aA,bg,bo,aw]
   have tb:rP nt s caps b i=(j:Int)→W (ih ((j:Int),((i+1:Nat):Int),())) _:=fun h=>hS (j:Int) (by rw [RQ,h])
   have lM:rP nt s caps b i=b→W (ih (b,((i+1:Nat):Int),())) _:=fun h=>hS b (by rw [RQ,h])
   by_cases hb:b<0
   ·rw [aM hb]
    exact tb (by rw [tB,if_pos (.inl hb)])
   ·have aF:=Ks o (by omega) hB (by omega)
    rw [au hb,af (by omega),af (by omega)]
    simp only [az]
    by_cases h1:caps.getD j 0<caps.getD b.toNat 0
    ·rw [aM h1]
     exact tb (by rw [tB,if_pos (.inr (.inl h1))])
    ·rw [au h1,af (by omega),af (by omega)]
     by_cases h2:caps.getD j 0=caps.getD b.toNat 0
     ·rw [aM h2]
      by_cases h3:(j:Int)<b
      ·rw [aM h3]
       exact tb (by rw [tB,if_pos (.inr (.inr ⟨h2,h3⟩))])
      ·rw [au h3]
       exact lM (by rw [tB,if_neg (by unfold dW; omega)])
     ·rw [au h2]
      exact lM (by rw [tB,if_neg (by unfold dW; omega)])
def Em (nt:ak) (s:State) (caps:List Int):List Int×Int×Bool:=if xQ nt s caps=true then lV nt s caps else ([],0,false)
theorem ae8 (h:xQ nt s caps=true):bU nt s∧eQ nt.2 caps=true∧nF nt s caps=false∧kF nt s=true:=by unfold xQ at h;simp only [aB,Bool.not_eq_true'] at h;exact ⟨ru h.1,h.2.1,h.2.2⟩
def WA (nt:ak) (s:State) (caps:List Int) (i k:Nat) (j:Nat):Prop:=(j<i∧sv nt s caps nt.1.length j)∨(j=i∧sv nt s caps k j)
theorem ae9 {n:Nat} {nt:ak} {s:State} {caps:List Int} (h:cL nt) (hs:gP s) (hc:caps.length≤1048576) (hn:1048576<n):ue.f n nt s caps=some ((Em nt s caps).1,(Em nt s caps).2.1,(Em nt s caps).2.2,()):=by
 unfold ue.f Em
 rw [ae2 h hs hc hn]
 cases e:xQ nt s caps
 ·rfl
 ·obtain ⟨o,ok,-⟩:=ae8 e
  have hp:=o.cb.dZ
  have hl:=o.cb.dp
  have fx:=rv ok
  simp only [aA,bo,aw,if_true]
  refine eM.1 (dt.2 (bA (Pe o hs hc hn) (fun r ⟨R,e⟩=>?_)))
  refine gu (fun i (b:Int)=>(b,(i:Int),())) nt.2.length (fun i b=>lU caps (fun j=>j<i∧sv nt s caps nt.1.length j) b) (s0:=-1) rfl ⟨fun _=>⟨rfl,fun j hj=>by omega⟩,fun h=>by omega⟩ (by omega) (fun ih b hB=>?_) (fun ih i b hi hI hS=>?_)
  ·simp only [au (bH _)]
   have B:lU caps (sv nt s caps nt.1.length) b:=hB.congr (fun j=>⟨fun hh=>hh.2,fun hh=>⟨Wz o (cx _) hh,hh⟩⟩)
   have hI:=B.uniq (Pt o)
   rw [eM]
   unfold lV Kt
   rw [← hI]
   by_cases hb:b<0
   ·rw [aM hb,bg,ax,if_pos (.inl hb)]
   ·have aF:=Ks o (cx _) B (by omega)
    have fF:=Ci ok (show b.toNat<nt.2.length by omega)
    rw [au hb,af (by omega),bg]
    by_cases h4:dW caps b.toNat=400
    ·rw [if_pos (.inr h4)]
     have:decide (caps.getD b.toNat 0=400)=true:=decide_eq_true h4
     rw [this]; rfl
    ·rw [if_neg (by omega)]
     have:decide (caps.getD b.toNat 0=400)=false:=decide_eq_false h4
     rw [this]
     simp only [aw]
     rw [xF (by omega)]
     simp only [aA]
     rw [af (by omega),af (by omega),bM (by unfold dW at fF; omega) (by unfold dW at fF; omega)]
     rfl
  ·simp only [aM (show (i:Int)<(nt.2.length:Int) by omega)]
   refine gu (fun k (b:Int)=>(b,(k:Int),())) nt.1.length (fun k b=>lU caps (WA nt s caps i k) b) (s0:=b) rfl (hI.congr (fun j=>⟨fun hh=>.inl hh,fun hh=>?_⟩)) (by omega) (fun yV b hB=>?_) (fun yV k b hk hB xR=>?_)
   ·rcases hh with hh | ⟨-,k,hk,-⟩
    ·exact hh
    ·omega
   ·simp only [au (bH _)]
    rw [ba (by omega)]
    refine hS b (hB.congr (fun j=>⟨?_,?_⟩))
    ·rintro (⟨a,b⟩ | ⟨rfl,b⟩)
     ·exact ⟨by omega,b⟩
     ·exact ⟨by omega,b⟩
    ·rintro ⟨a,b⟩
     rcases s9 (A7 a) with h1 | h1
     ·exact .inl ⟨h1,b⟩
     ·exact .inr ⟨h1,b⟩
   ·have hw:iY.f n ((r.1,r.2.1),(r.2.2.2.2.1,r.2.2.2.2.2.1,r.2.2.2.2.2.2.1,r.2.2.1),r.2.2.2.2.2.2.2.1,r.2.2.2.2.2.2.2.2.1,r.2.2.2.1) (k:Int)=some ((bE nt s k).1,bL nt s k,()):=Ee R o hk
    have A9:=Ef (n:=n) R o hk
    have afa:=Pf (n:=n) R o fx e hk
    simp only [aM (show (k:Int)<(nt.1.length:Int) by omega),hw,A9,afa,aA]
    rw [ba (by omega)]
    have Lq:(su nt s caps k=true→bL nt s k≠(i:Int))→W (yV (b,((k+1:Nat):Int),())) _:=fun aG=>xR b (hB.congr (fun j=>⟨?_,?_⟩))
    rotate_left
    ·rintro (hh | ⟨rfl,k',a,b,c⟩)
     ·exact .inl hh
     ·exact .inr ⟨rfl,k',by omega,b,c⟩
    ·rintro (hh | ⟨rfl,k',a,b,c⟩)
     ·exact .inl hh
     ·rcases s9 (A7 a) with h1 | h1
      ·exact .inr ⟨rfl,k',h1,b,c⟩
      ·subst h1; exact absurd c (aG b)
    by_cases c3:(bE nt s k).1=3
    ·rw [aM c3]
     by_cases cl:bL nt s k=(i:Int)
     ·rw [aM cl]
      cases gG:dw nt s k
      ·rw [aw]; exact Lq (fun hh=>by unfold su at hh; rw [gG] at hh; cases hh)
      ·rw [ax]
       cases eK:nn nt s caps k
       ·rw [Bool.not_false,ax]
        have rS:su nt s caps k=true:=by unfold su; rw [gG,eK]; rfl
        have hM:=(hB.more i).congr (Q:=WA nt s caps i (k+1)) (fun j=>⟨?_,?_⟩)
        rotate_left
        ·rintro ((hh | ⟨rfl,k',a,b,c⟩) | rfl)
         ·exact .inl hh
         ·exact .inr ⟨rfl,k',by omega,b,c⟩
         ·exact .inr ⟨rfl,k,by omega,rS,cl⟩
        ·rintro (hh | ⟨rfl,-⟩)
         ·exact .inl (.inl hh)
         ·exact .inr rfl
        by_cases hb:b<0
        ·rw [aM hb]
         rw [if_pos (.inl hb)] at hM
         exact xR _ hM
        ·have hPb:=(hB.some (by omega)).1
         have ail:b.toNat≤i:=by rcases hPb with hh | hh<;>omega
         rw [au hb,af (by omega),af (by omega)]
         simp only [az]
         by_cases h1:caps.getD i 0<caps.getD b.toNat 0
         ·rw [aM h1]
          rw [if_pos (.inr (.inl h1))] at hM
          exact xR _ hM
         ·rw [au h1]
          rw [if_neg (by unfold dW; omega)] at hM
          exact xR _ hM
       ·rw [bo,aw]; exact Lq (fun hh=>by unfold su at hh; rw [gG,eK] at hh; cases hh)
     ·rw [au cl]; exact Lq (fun _=>cl)
    ·rw [au c3]
     refine Lq (fun hh=>?_)
     obtain ⟨j,-,-,hc3,-⟩:=Kr o hk hh
     exact absurd hc3 c3
end Go.AmT
namespace Go.AmT
open Go.Proofs Go.Proofs.Tryz
def qz.la:LA:=⟨[(0,.agg [.sh bp,.sh bJ]),(1,.agg [.own 0 a_,.own 1 IS,.own 2 IS,.int .i64]),(2,.sh I),(3,.int .i64)],[(0,.row true a_),(1,.row true IS),(2,.row true IS)],[],[]⟩
def qz.lb:LA:=⟨[(0,.agg [.own 0 a_,.own 1 IS,.own 2 IS,.int .i64]),(1,.int .i64)],[(0,.row true a_),(1,.row true IS),(2,.row true IS)],[],[]⟩
def qz.f (n:Nat) (a0:List Program) (a1:List aK) (a2:Int) (a3:List Int) (a4:Int) (a5:List aY) (a6 a7:List (List Int)):Option (Int×Int×List aY×List (List Int)×List (List Int)×Unit):=iter n (fun afb gS=>cut ((sq.f n (a0,a1) (gS.2.2.1,gS.2.2.2.1,gS.2.2.2.2.1,gS.2.1) a3).bind fun r60=>br r60.1 (some (.inr (decide (gS.1<a4),()))) (some (.inr (false,())))) fun y59=>br y59.1 (iter n (fun WB jv=>cut (br (decide (jv.2.1<(a0.length:Int))) (some (.inr (decide (jv.1<a4),()))) (some (.inr (false,())))) fun y63=>br y63.1 ((t_.f n (a0,a1) (jv.2.2.2.1,jv.2.2.2.2.1,jv.2.2.2.2.2.1,jv.2.2.1) a3 jv.2.1).bind fun En=>br En.1 ((lp.f n a0 a1 jv.2.2.1 jv.2.1 jv.2.2.2.1 jv.2.2.2.2.1 jv.2.2.2.2.2.1).bind fun Eo=>WB (ag (jv.1+1),ag (jv.2.1+1),Eo.1,Eo.2.1,Eo.2.2.1,Eo.2.2.2.1,())) (WB (jv.1,ag (jv.2.1+1),jv.2.2.1,jv.2.2.2.1,jv.2.2.2.2.1,jv.2.2.2.2.2.1,()))) (afb (jv.1,jv.2.2.1,jv.2.2.2.1,jv.2.2.2.2.1,jv.2.2.2.2.2.1,()))) (gS.1,0,gS.2.1,gS.2.2.1,gS.2.2.2.1,gS.2.2.2.2.1,())) ((ry.f n (a0,a1) (gS.2.2.1,gS.2.2.2.1,gS.2.2.2.2.1,gS.2.1)).bind fun dU=>br (decide (dU.1<0)) (some (gS.2.1,1,gS.2.2.1,gS.2.2.2.1,gS.2.2.2.2.1,())) ((sq.f n (a0,a1) (gS.2.2.1,gS.2.2.2.1,gS.2.2.2.2.1,gS.2.1) a3).bind fun Pu=>br (!Pu.1) (some (gS.2.1,2,gS.2.2.1,gS.2.2.2.1,gS.2.2.2.2.1,())) (some (gS.2.1,3,gS.2.2.1,gS.2.2.2.1,gS.2.2.2.2.1,()))))) (0,a2,a5,a6,a7,())
def qz.ae (n:Nat):cM:=⟨qz.la,qz.lb,fun x=>qz.f n x.1 x.2.1 x.2.2.1 x.2.2.2.1 x.2.2.2.2.1 x.2.2.2.2.2.1 x.2.2.2.2.2.2.1 x.2.2.2.2.2.2.2.1⟩
theorem qz.ok (n:Nat):ks 138 (qz.ae n):=lj n [(3,⟨[(5,.bt 1000 0),(10,.int .i64)],[(1000,.cells [] [.own 0 a_,.own 1 IS,.own 2 IS,.int .i64]),(0,.row true a_),(1,.row true IS),(2,.row true IS)],[2,3,4,8],[]⟩),(4,⟨[(20,.bool)],[],[2,3,4,5,8,10],[0,1,2]⟩),(9,⟨[(5,.bt 1000 0),(10,.int .i64),(11,.int .i64)],[(1000,.cells [] [.own 0 a_,.own 1 IS,.own 2 IS,.int .i64]),(0,.row true a_),(1,.row true IS),(2,.row true IS)],[2,3,4,8],[]⟩),(10,⟨[(30,.bool)],[],[2,3,4,5,8,10,11],[0,1,2]⟩)] [] (ai (sq.ok n) (ai (t_.ok n) (ai (ry.ok n) aC))) (dI (lp.ok n) aD) func138
def zZ.f (n:Nat) (a0:ak) (a1:State) (a2:List Int) (a3:Int):Option (State×Int×Unit):=(sc.f n a0 a1 a2).bind fun r1=>br (!r1.1) (some (([],[],[],0),0,())) ((mz.f n a1).bind fun r2=>(qz.f n a0.1 a0.2 r2.1.2.2.2 a2 a3 r2.1.1 r2.1.2.1 r2.1.2.2.1).bind fun r3=>some ((r3.2.2.1,r3.2.2.2.1,r3.2.2.2.2.1,r3.1),r3.2.1,()))
def zZ.ae (n:Nat):ar:=⟨[.val bZ,.val dk,.val IS,.val I],[.sh dk,.val I],fun x=>zZ.f n x.1 x.2.1 x.2.2.1 x.2.2.2.1⟩
theorem zZ.ok (n:Nat):aH 75 (zZ.ae n):=aJ n [] [] (ai (sc.ok n) (ai (mz.ok n) aC)) (dI (qz.ok n) aD) func75
def Cj.f (n:Nat) (a0:oe):Option (Int×Unit):=(quiet.f n a0).bind fun r1=>br r1.1 (some (1,())) ((stuck.f n a0).bind fun r2=>br r2.1 (some (2,())) (some (3,())))
def Cj.ae (n:Nat):ar:=⟨[.fX zv],[.val I],fun x=>Cj.f n x.1⟩
theorem Cj.ok (n:Nat):aH 231 (Cj.ae n):=aJ n [] [] (ai (quiet.ok n) (ai (stuck.ok n) aC)) aD func231
def qA.f (n:Nat) (a0:ak) (a1:State) (a2:List Int) (a3:Int):Option (State×Int×Unit):=(so.f n a0 a1 a2).bind fun r1=>br (!r1.1) (some (([],[],[],0),0,())) ((og.f n a0.1 a0.2 a1.1 a1.2.1 a1.2.2.1 a1.2.2.2 a2).bind fun r2=>(turns.f n a3 r2.1 r2.2.1 r2.2.2.1 r2.2.2.2.1 r2.2.2.2.2.1 r2.2.2.2.2.2.1 r2.2.2.2.2.2.2.1 r2.2.2.2.2.2.2.2.1 r2.2.2.2.2.2.2.2.2.1).bind fun r3=>(Cj.f n ((r3.1,r3.2.1),(r3.2.2.2.2.1,r3.2.2.2.2.2.1,r3.2.2.2.2.2.2.1,r3.2.2.1),r3.2.2.2.2.2.2.2.1,r3.2.2.2.2.2.2.2.2.1,r3.2.2.2.1)).bind fun r4=>some ((r3.2.2.2.2.1,r3.2.2.2.2.2.1,r3.2.2.2.2.2.2.1,r3.2.2.1),r4.1,()))
def qA.ae (n:Nat):ar:=⟨[.val bZ,.val dk,.val IS,.val I],[.val dk,.val I],fun x=>qA.f n x.1 x.2.1 x.2.2.1 x.2.2.2.1⟩
theorem qA.ok (n:Nat):aH 169 (qA.ae n):=aJ n [] [] (ai (so.ok n) (ai (Cj.ok n) aC)) (dI (og.ok n) (dI (turns.ok n) aD)) func169
end Go.AmT
