/- The state at the start, in plain Lean: both programs make the same. -/
import Derived.Test.YtjfaphipihgomaaGreatDoorMRnD5
open Go Go.Am
noncomputable section
set_option linter.unusedVariables false
set_option linter.unusedSimpArgs false
set_option maxRecDepth 100000
open Bool renaming and_eq_true → aw, not_true → bf, true_and → kW
open Int renaming lt_irrefl → bR, lt_or_le → Jx, natCast_nonneg → Bo, toNat_natCast → ay
open List renaming getElem_mem → ct, map_id → Ou, range → bA
open Nat renaming le_of_lt_succ → yJ, le_refl → cj, lt_or_eq_of_le → ry
open Option renaming bind_some → aC
namespace Go.AmT
variable {n:Nat} {nt:aq}
theorem Vp (h:dq nt) (hn:1048576<n):tc.f n nt=some (nt.2.map (fun l=>l.2.2.2.2),()):=by
 have hl:=h.dB;unfold tc.f;refine yO nt.2 (fun l=>l.2.2.2.2) (fun i s=>(i,s,())) (R:=fun s=>some (s,())) (fun ih i hi s hs=>?_) (fun ih s=>av (bR _)) (by omega);have c1:(i:Int)<(nt.2.length:Int):=by omega
 have e1:nt.2.getD i aE=nt.2[i]:=aJ hi _;show br (decide ((i:Int)<(nt.2.length:Int))) _ _=_;rw [aG c1,af ⟨Bo i,c1⟩];simp only [ay,e1];rw [wV (h.link _ (ct hi)).tokens,aC,db (by simp; omega),a_ (by omega)]
theorem adx {p:Program} (hp:pJ p) (h:cJ p=true) (hn:1048576<n):yV.f n p=some (rE,()):=by unfold yV.f;rw [FV hp hn,h]; rfl
theorem Vq {p:Program} (hp:pJ p) (h:cJ p=true) (hn:1048576<n):uT.f n p=some (rE,()):=by unfold uT.f;rw [FW hp hn,h];simp only [aC,bf,ar];rw [af (by have:=iD; refine ⟨by trivial,?_⟩; omega)]; rfl
theorem Vr (h:dq nt) (o:cK nt) (hn:1048576<n):uS.f n nt=some (start nt,()):=by
 have ho:cm nt=true:=by simp [cm,o]
 have hp:=h.eX;unfold uS.f start;rw [rz h hn,ho,Vp h hn];simp only [aC,bf,ar];generalize nt.2.map (fun l=>l.2.2.2.2)=T;refine yO nt.1 (fun _=>rE) (fun i s=>(i,0,s,T,T,())) (R:=fun s=>some ((s,T,T,0),())) (fun ih i hi s hs=>?_) (fun ih s=>av (bR _)) (by omega);have c1:(i:Int)<(nt.1.length:Int):=by omega
 have e1:nt.1.getD i bC=nt.1[i]:=aJ hi _;show br (decide ((i:Int)<(nt.1.length:Int))) _ _=_;rw [aG c1,af ⟨Bo i,c1⟩];simp only [ay,e1];rw [adx (h.prog _ (ct hi)) (o.prog i hi) hn,aC,db (by simp; omega),a_ (by omega)]
theorem Vs (h:dq nt) (o:cK nt) (hn:1048576<n):uU.f n nt=some (start nt,()):=by
 have ho:cm nt=true:=by simp [cm,o]
 have hp:=h.eX;have hl:=h.dB;unfold uU.f start;rw [s6 h hn,ho];simp only [aC,bf,ar];refine uL nt.1 (fun _=>rE) (fun i s=>(i,0,s,())) (fun ih i hi s hs=>?_) (fun ih=>?_) (by omega)
 ·have c1:(i:Int)<(nt.1.length:Int):=by omega
  have e1:nt.1.getD i bC=nt.1[i]:=aJ hi _;show br (decide ((i:Int)<(nt.1.length:Int))) _ _=_;rw [aG c1,af ⟨Bo i,c1⟩];simp only [ay,e1];rw [Vq (h.prog _ (ct hi)) (o.prog i hi) hn,aC,db (by simp; omega),a_ (by omega)]
 show br (decide ((nt.1.length:Int)<(nt.1.length:Int))) _ _=_;rw [av (bR _)];generalize (nt.1.map fun _=>rE)=A;have dz:((0:Int),(0:Int),A,([]:List (List Int)),([]:List (List Int)),())=(fun (i:Nat)=>((i:Int),(0:Int),A,(nt.2.take i).map (fun l:bb=>l.2.2.2.2),(nt.2.take i).map (fun l:bb=>l.2.2.2.2),())) 0:=by simp
 show iter n _ ((0:Int),(0:Int),A,([]:List (List Int)),([]:List (List Int)),())=_;rw [dz];refine mc (fun i=>((i:Int),(0:Int),A,(nt.2.take i).map (fun l:bb=>l.2.2.2.2),(nt.2.take i).map (fun l:bb=>l.2.2.2.2),())) nt.2.length (fun ih i hi=>?_) (fun ih=>?_) (by omega)
 ·have c1:(i:Int)<(nt.2.length:Int):=by omega
  have e1:nt.2.getD i aE=nt.2[i]:=aJ hi _;show br (decide ((i:Int)<(nt.2.length:Int))) _ _=_;rw [aG c1,af ⟨Bo i,c1⟩];simp only [ay,e1];rw [wS (h.link _ (ct hi)).tokens,aC,db (by simp; omega)];simp only [aC];rw [db (by simp; omega),a_ (by omega),List.take_succ_eq_append_getElem hi,List.map_append]; rfl
 show br (decide ((nt.2.length:Int)<(nt.2.length:Int))) _ _=_;rw [av (bR _),List.take_length]
end Go.AmT
namespace Go.AmT
open Go.Proofs Go.Proofs.Tryz
def mh.f (n:Nat) (a0:State):Option (State×Unit):=iter n (fun Ov gZ=>br (decide (gZ.1<(a0.1.length:Int))) (ab (0≤gZ.1∧gZ.1<(a0.1.length:Int)) (let v30:=(a0.1.getD gZ.1.toNat bK); (gJ.f n v30.2).bind fun lG=>ab ((gZ.2.2.1.length+([(v30.1,lG.1)]:List bM).length)*32≤bo) (Ov (ah (gZ.1+1),gZ.2.1,gZ.2.2.1++[(v30.1,lG.1)],())))) (iter n (fun NI iO=>br (decide (iO.1<(a0.2.1.length:Int))) (ab (0≤iO.1∧iO.1<(a0.2.1.length:Int)) (let eW:=(a0.2.1.getD iO.1.toNat []); (gJ.f n eW).bind fun Vt=>ab ((iO.2.2.2.1.length+([Vt.1]:List (List Int)).length)*24≤bo) (NI (ah (iO.1+1),iO.2.1,iO.2.2.1,iO.2.2.2.1++[Vt.1],())))) (iter n (fun ady pQ=>br (decide (pQ.1<(a0.2.2.1.length:Int))) (ab (0≤pQ.1∧pQ.1<(a0.2.2.1.length:Int)) (let v82:=(a0.2.2.1.getD pQ.1.toNat []); (gJ.f n v82).bind fun Vu=>ab ((pQ.2.2.2.2.1.length+([Vu.1]:List (List Int)).length)*24≤bo) (ady (ah (pQ.1+1),pQ.2.1,pQ.2.2.1,pQ.2.2.2.1,pQ.2.2.2.2.1++[Vu.1],())))) (some ((pQ.2.2.1,pQ.2.2.2.1,pQ.2.2.2.2.1,pQ.2.1),()))) (0,iO.2.1,iO.2.2.1,iO.2.2.2.1,[],()))) (0,gZ.2.1,gZ.2.2.1,[],()))) (0,a0.2.2.2,[],())
def mh.ae (n:Nat):au:=⟨[.val dG],[.val dG],fun x=>mh.f n x.1⟩
theorem mh.ok (n:Nat):aP 54 (mh.ae n):=aU n [(4,⟨[(3,.bn 1000 0),(16,.int .i64)],[(1000,.cells [] [.own 1001 bp,.lP (.nil),.lP (.nil),.int .i64]),(1001,.row true bp)],[1,2,14,15],[]⟩),(13,⟨[(3,.bn 1000 0),(35,.int .i64)],[(1000,.cells [] [.own 1001 bp,.own 1002 IS,.lP (.nil),.int .i64]),(1001,.row true bp),(1002,.row true IS)],[1,2,33,34],[]⟩),(22,⟨[(3,.bn 1000 0),(50,.int .i64)],[(1000,.cells [] [.own 1001 bp,.own 1002 IS,.own 1003 IS,.int .i64]),(1001,.row true bp),(1002,.row true IS),(1003,.row true IS)],[2,48,49],[]⟩)] [] (ai (gJ.ok n) aK) aL func54
def yW.f (n:Nat) (a0:aq) (a1:Int):Option (Bool×Unit):=br (decide (0≤a1)) (some (decide (a1<(a0.1.length:Int)),())) (some (false,()))
def yW.ae (n:Nat):au:=⟨[.val cd,.val I],[.val .bool],fun x=>yW.f n x.1 x.2.1⟩
theorem yW.ok (n:Nat):aP 195 (yW.ae n):=aU n [] [] aK aL func195
end Go.AmT
namespace Go.AmT
variable {n:Nat} {nt:aq} {s:State}
theorem Vv (o:bG nt s) (hn:1048576<n):W (qH.f n nt s) (fun r=>decide (0≤r.1)=kj nt s∧(0≤r.1→∃ k:Nat,r.1=(k:Int)∧k<nt.1.length∧cS nt s k=true∧∀ j,j<k→cS nt s j=false)):=by
 have hp:=o.cf.eX;unfold qH.f;refine fT (fun i (_:Unit)=>((i:Int),())) nt.1.length (fun i _=>∀ j,j<i→cS nt s j=false) (s0:=()) rfl (fun j hj=>by omega) (by omega) (fun ih s' hI=>?_) (fun ih i s' hi hI hS=>?_)
 ·simp only [av (bR _)];rw [ak];refine ⟨?_,fun h=>by omega⟩;rw [kj,Jl hI]; rfl
 simp only [aG (show (i:Int)<(nt.1.length:Int) by omega),Bh o hi hn,aC];cases hc:cS nt s i
 ·simp only [ar];rw [a_ (by omega)];refine hS () (fun j hj=>?_);rcases Nat.lt_or_ge j i with h | h
  ·exact hI j h
  rwa [show j=i by omega]
 simp only [aB];rw [ak];refine ⟨?_,fun _=>⟨i,rfl,hi,hc,hI⟩⟩;rw [kj,Jk hi hc]; simp
theorem Ow {r:nJ} (R:kH nt s r) (o:bG nt s) (hn:1048576<n):quiet.f n r=some (!kj nt s,()):=by
 have hp:=o.cf.eX;unfold quiet.f;rw [R.cf];refine dZ.1 (NW nt.1.length (cS nt s) (yes:=fun _=>some (false,())) (fun ih i hi=>?_) (fun ih=>av (bR _)) (by omega) (fun i hi h=>?_) (fun h=>?_))
 ·rw [aG (by omega),Dp R o hi,a_ (by omega),aC,NX]
 ·rw [ak,kj,Jk hi h]; rfl
 rw [ak,kj,Jl h]; rfl
theorem Dx (h:kf s) (hn:1048576<n):mh.f n s=some (s,()):=by
 have ha:=h.UE;have hq:=h.UF;have hs:=h.UG;unfold mh.f;refine uL s.1 id (fun i ps=>(i,s.2.2.2,ps,())) (fun ih i hi ps Vw=>?_) (fun ih=>?_) (by omega)
 ·have c1:(i:Int)<(s.1.length:Int):=by omega
  have e1:s.1.getD i bK=s.1[i]:=aJ hi _;show br (decide ((i:Int)<(s.1.length:Int))) _ _=_;rw [aG c1,af ⟨Bo i,c1⟩];simp only [ay,e1];rw [wV (h.mV _ (ct hi)),aC,db (by simp; omega),a_ (by omega)]; rfl
 show br (decide ((s.1.length:Int)<(s.1.length:Int))) _ _=_;rw [av (bR _),Ou];refine uL s.2.1 id (fun i ps=>(i,s.2.2.2,s.1,ps,())) (fun ih i hi ps Vw=>?_) (fun ih=>?_) (by omega)
 ·have c1:(i:Int)<(s.2.1.length:Int):=by omega
  have e1:s.2.1.getD i []=s.2.1[i]:=aJ hi _;show br (decide ((i:Int)<(s.2.1.length:Int))) _ _=_;rw [aG c1,af ⟨Bo i,c1⟩];simp only [ay,e1];rw [wV (h.queue _ (ct hi)),aC,db (by simp; omega),a_ (by omega)]; rfl
 show br (decide ((s.2.1.length:Int)<(s.2.1.length:Int))) _ _=_;rw [av (bR _),Ou];refine uL s.2.2.1 id (fun i ps=>(i,s.2.2.2,s.1,s.2.1,ps,())) (fun ih i hi ps Vw=>?_) (fun ih=>?_) (by omega)
 ·have c1:(i:Int)<(s.2.2.1.length:Int):=by omega
  have e1:s.2.2.1.getD i []=s.2.2.1[i]:=aJ hi _;show br (decide ((i:Int)<(s.2.2.1.length:Int))) _ _=_;rw [aG c1,af ⟨Bo i,c1⟩];simp only [ay,e1];rw [wV (h.fG _ (ct hi)),aC,db (by simp; omega),a_ (by omega)]; rfl
 show br (decide ((s.2.2.1.length:Int)<(s.2.2.1.length:Int))) _ _=_;rw [av (bR _),Ou]
theorem Vx {α:Type} {c:Prop} [Decidable c] {x y z:α} (h:y=z):(if c then x else y)=if c then x else z:=by rw [h]
theorem adz {made most:Int} (o:bG nt s) (hn:1048576<n) {ρ:Type} (X Y:Option ρ) :
  cut (α:=Bool×Unit) ((qH.f n nt s).bind fun r=>br (decide (0≤r.1)) (some (.inr (decide (made<most),()))) (some (.inr (false,())))) (fun y=>br y.1 X Y)=if (bA nt.1.length).any (cS nt s)=true∧made<most then X else Y:=by
 obtain ⟨⟨r,⟨⟩⟩,e,hr,-⟩:=Vv (n:=n) o hn;have hr:decide (0≤r)=kj nt s:=hr;simp only [e,aC,hr];show _=if kj nt s=true∧made<most then _ else _
 cases ha:kj nt s
 ·simp only [ar,aY,Bool.false_eq_true,false_and,if_false]
 simp only [aB,aY,true_and,iF]
theorem Vy (o:bG nt s) (hn:1048576<n) {ρ:Type} (f:Bool→Option ρ) :
  ((qH.f n nt s).bind fun r=>f (decide (r.1<0)))=f (!kj nt s):=by
 obtain ⟨⟨r,⟨⟩⟩,e,hr,-⟩:=Vv (n:=n) o hn;have hr:decide (0≤r)=kj nt s:=hr;rw [e,aC,← hr];congr 1;by_cases h:0≤r
 ·simp [h,show ¬ r<0 by omega]
 simp [h,show r<0 by omega]
end Go.AmT
namespace Go.AmT
open Go.Proofs Go.Proofs.Tryz
def rH.f (n:Nat) (a0:aq) (a1:State) (a2:List Int):Option (Bool×Unit):=iter n (fun Gd j_=>br (decide (j_.1<(a0.1.length:Int))) ((s8.f n a0 a1 a2 j_.1).bind fun fU=>br fU.1 (some (true,())) (Gd (ah (j_.1+1),()))) (some (false,()))) (0,())
def rH.ae (n:Nat):au:=⟨[.val cd,.val dG,.val IS],[.val .bool],fun x=>rH.f n x.1 x.2.1 x.2.2.1⟩
theorem rH.ok (n:Nat):aP 197 (rH.ae n):=aU n [(3,⟨[(11,.int .i64)],[],[2,3,4,10],[]⟩)] [] (ai (s8.ok n) aK) aL func197
def wZ.f (n:Nat) (a0:aq) (a1:State) (a2:List Int):Option (List Int×Int×Bool×Unit):=iter n (fun uJ c_=>br (decide (c_.2.1<(a0.1.length:Int))) ((uQ.f n a0 a1 a2 c_.2.1).bind fun ec=>cut (br (decide (ec.1<0)) (some (.inr (true,()))) ((ki.f n a0 a1 c_.2.1).bind fun oN=>some (.inr (!oN.1,())))) fun Ox=>br Ox.1 (uJ (c_.1,ah (c_.2.1+1),())) (br (decide (c_.1<0)) (uJ (ec.1,ah (c_.2.1+1),())) (ab (0≤ec.1∧ec.1<(a2.length:Int)) (ab (0≤c_.1∧c_.1<(a2.length:Int)) (br (decide ((a2.getD ec.1.toNat 0)<(a2.getD c_.1.toNat 0))) (uJ (ec.1,ah (c_.2.1+1),())) (ab (0≤ec.1∧ec.1<(a2.length:Int)) (ab (0≤c_.1∧c_.1<(a2.length:Int)) (br (decide ((a2.getD ec.1.toNat 0)=(a2.getD c_.1.toNat 0))) (br (decide (ec.1<c_.1)) (uJ (ec.1,ah (c_.2.1+1),())) (uJ (c_.1,ah (c_.2.1+1),()))) (uJ (c_.1,ah (c_.2.1+1),())))))))))) (cut (br (decide (c_.1<0)) (some (.inr (true,()))) (ab (0≤c_.1∧c_.1<(a2.length:Int)) (some (.inr (decide (400≤(a2.getD c_.1.toNat 0)),()))))) fun Jy=>br Jy.1 (some ([],0,false,())) ((gJ.f n a2).bind fun di=>ab (0≤c_.1∧c_.1<(di.1.length:Int)) (ab (0≤c_.1∧c_.1<(di.1.length:Int)) (let v28:=(di.1.set c_.1.toNat (ah ((di.1.getD c_.1.toNat 0)+1))); some (v28,c_.1,true,())))))) (-1,0,())
def wZ.ae (n:Nat):au:=⟨[.val cd,.val dG,.val IS],[.val IS,.val I,.val .bool],fun x=>wZ.f n x.1 x.2.1 x.2.2.1⟩
theorem wZ.ok (n:Nat):aP 139 (wZ.ae n):=aU n [(4,⟨[(9,.int .i64),(16,.int .i64)],[],[2,3,4,15],[]⟩),(10,⟨[(32,.bool)],[],[2,3,4,9,11,15,16],[]⟩),(16,⟨[(72,.bool)],[],[2,9],[]⟩)] [] (ai (uQ.ok n) (ai (ki.ok n) (ai (gJ.ok n) aK))) aL func139
def stuck.f (n:Nat) (a0:nJ):Option (Bool×Unit):=iter n (fun jY x5=>br (decide (x5.1<(a0.1.1.length:Int))) ((may.f n a0 x5.1).bind fun r7=>br r7.1 (some (false,())) (jY (ah (x5.1+1),()))) (some (true,()))) (0,())
def stuck.ae (n:Nat):au:=⟨[.fQ yF],[.val .bool],fun x=>stuck.f n x.1⟩
theorem stuck.ok (n:Nat):aP 271 (stuck.ae n):=aU n [(3,⟨[(10,.int .i64)],[],[0,9],[]⟩)] [] (ai (may.ok n) aK) aL func271
def yX.f (n:Nat) (a0:aq) (a1:State) (a2:List Int):Option (Bool×Unit):=(rG.f n a0 a1 a2).bind fun r1=>br (!r1.1) (some (false,())) ((nL.f n a0.1 a0.2 a1.1 a1.2.1 a1.2.2.1 a1.2.2.2 a2).bind fun r2=>(stuck.f n ((r2.1,r2.2.1),(r2.2.2.2.2.1,r2.2.2.2.2.2.1,r2.2.2.2.2.2.2.1,r2.2.2.1),r2.2.2.2.2.2.2.2.1,r2.2.2.2.2.2.2.2.2.1,r2.2.2.2.1)).bind fun r3=>br r3.1 ((quiet.f n ((r2.1,r2.2.1),(r2.2.2.2.2.1,r2.2.2.2.2.2.1,r2.2.2.2.2.2.2.1,r2.2.2.1),r2.2.2.2.2.2.2.2.1,r2.2.2.2.2.2.2.2.2.1,r2.2.2.2.1)).bind fun r4=>some (!r4.1,())) (some (false,())))
def yX.ae (n:Nat):au:=⟨[.val cd,.val dG,.val IS],[.val .bool],fun x=>yX.f n x.1 x.2.1 x.2.2.1⟩
theorem yX.ok (n:Nat):aP 272 (yX.ae n):=aU n [] [] (ai (rG.ok n) (ai (stuck.ok n) (ai (quiet.ok n) aK))) (eM (nL.ok n) aL) func272
def td.f (n:Nat) (a0:aq) (a1:State) (a2:List Int):Option (List Int×Int×Bool×Unit):=(yX.f n a0 a1 a2).bind fun r1=>br (!r1.1) (some ([],0,false,())) ((nL.f n a0.1 a0.2 a1.1 a1.2.1 a1.2.2.1 a1.2.2.2 a2).bind fun r2=>iter n (fun adA lf=>br (decide (lf.2.1<(a0.2.length:Int))) (iter n (fun Bp kK=>br (decide (kK.2.1<(a0.1.length:Int))) ((iP.f n ((r2.1,r2.2.1),(r2.2.2.2.2.1,r2.2.2.2.2.2.1,r2.2.2.2.2.2.2.1,r2.2.2.1),r2.2.2.2.2.2.2.2.1,r2.2.2.2.2.2.2.2.2.1,r2.2.2.2.1) kK.2.1).bind fun Vz=>br (decide (Vz.1=3)) (br (decide (Vz.2.1=lf.2.1)) ((can.f n ((r2.1,r2.2.1),(r2.2.2.2.2.1,r2.2.2.2.2.2.1,r2.2.2.2.2.2.2.1,r2.2.2.1),r2.2.2.2.2.2.2.2.1,r2.2.2.2.2.2.2.2.2.1,r2.2.2.2.1) kK.2.1).bind fun N8=>br N8.1 ((may.f n ((r2.1,r2.2.1),(r2.2.2.2.2.1,r2.2.2.2.2.2.1,r2.2.2.2.2.2.2.1,r2.2.2.1),r2.2.2.2.2.2.2.2.1,r2.2.2.2.2.2.2.2.2.1,r2.2.2.2.1) kK.2.1).bind fun r79=>br (!r79.1) (br (decide (kK.1<0)) (Bp (lf.2.1,ah (kK.2.1+1),())) (ab (0≤lf.2.1∧lf.2.1<(a2.length:Int)) (let v80:=(a2.getD lf.2.1.toNat 0); ab (0≤kK.1∧kK.1<(a2.length:Int)) (br (decide (v80<(a2.getD kK.1.toNat 0))) (Bp (lf.2.1,ah (kK.2.1+1),())) (Bp (kK.1,ah (kK.2.1+1),())))))) (Bp (kK.1,ah (kK.2.1+1),()))) (Bp (kK.1,ah (kK.2.1+1),()))) (Bp (kK.1,ah (kK.2.1+1),()))) (Bp (kK.1,ah (kK.2.1+1),()))) (adA (kK.1,ah (lf.2.1+1),()))) (lf.1,0,())) (cut (br (decide (lf.1<0)) (some (.inr (true,()))) (ab (0≤lf.1∧lf.1<(a2.length:Int)) (some (.inr (decide ((a2.getD lf.1.toNat 0)=400),()))))) fun y81=>br y81.1 (some ([],0,false,())) ((cR.f n a2).bind fun Jz=>ab (0≤lf.1∧lf.1<(Jz.1.length:Int)) (ab (0≤lf.1∧lf.1<(Jz.1.length:Int)) (let v83:=(Jz.1.set lf.1.toNat (ah ((Jz.1.getD lf.1.toNat 0)+1))); some (v83,lf.1,true,())))))) (-1,0,()))
def td.ae (n:Nat):au:=⟨[.val cd,.val dG,.val IS],[.val IS,.val I,.val .bool],fun x=>td.f n x.1 x.2.1 x.2.2.1⟩
theorem td.ok (n:Nat):aP 232 (td.ae n):=aU n [(7,⟨[(10,.int .i64),(28,.int .i64)],[],[2,3,9,27],[]⟩),(14,⟨[(10,.int .i64),(34,.int .i64)],[],[2,3,9,11,27,28,33],[]⟩),(25,⟨[(87,.bool)],[],[2,10],[]⟩)] [] (ai (yX.ok n) (ai (iP.ok n) (ai (can.ok n) (ai (may.ok n) (ai ⟨cR.sound n,cR.aD⟩ aK))))) (eM (nL.ok n) aL) func232
end Go.AmT
namespace Go.AmT
variable {n k:Nat} {nt:aq} {s:State} {caps:List Int} {b:Int}
theorem VA (o:bG nt s) (hc:caps.length=nt.2.length) (hn:1048576<n):rH.f n nt s caps=some (mY nt s caps,()):=by
 have hp:=o.cf.eX;unfold rH.f;refine dZ.1 (NW nt.1.length (mX nt s caps) (yes:=fun _=>some (true,())) (fun ih i hi=>?_) (fun ih=>av (bR _)) (by omega) (fun i hi h=>?_) (fun h=>?_))
 ·rw [aG (by omega),Va o hc hi hn,a_ (by omega),aC,NX]
 ·rw [ak,mY,Jk hi h]
 rw [ak,mY,Jl h]
theorem VB {r:nJ} (R:kH nt s r) (o:bG nt s) (hc:caps.length=nt.2.length) (e:r.2.2.2.2=some caps) (hn:1048576<n):stuck.f n r=some (!mY nt s caps,()):=by
 have hp:=o.cf.eX;unfold stuck.f;rw [R.cf];refine dZ.1 (NW nt.1.length (mX nt s caps) (yes:=fun _=>some (false,())) (fun ih i hi=>?_) (fun ih=>av (bR _)) (by omega) (fun i hi h=>?_) (fun h=>?_))
 ·rw [aG (by omega),Oj R o hc e hi,a_ (by omega),aC,NX]
 ·rw [ak,mY,Jk hi h]; rfl
 rw [ak,mY,Jl h]; rfl
def w_ (nt:aq) (s:State) (caps:List Int):Bool:=ij nt s&&(fi nt.2 caps&&(!mY nt s caps&&kj nt s))
theorem adB (h:dq nt) (hs:kf s) (hc:caps.length≤1048576) (hn:1048576<n):yX.f n nt s caps=some (w_ nt s caps,()):=by
 unfold yX.f w_;rw [Oh h hs hc hn];cases e1:ij nt s
 ·rfl
 cases e2:fi nt.2 caps
 ·rfl
 simp only [aC,kW,bf,ar];refine dZ.1 (c8.2 (bz (Oi (qF e1) hs hc hn) (fun r ⟨R,e⟩=>dZ.2 ?_)));rw [VB R (qF e1) (qG e2) e hn,Ow R (qF e1) hn];cases mY nt s caps<;>cases kj nt s<;>rfl
def rI (nt:aq) (s:State) (caps:List Int) (k:Nat):Bool:=cS nt s k&&!mX nt s caps k
def dP (caps:List Int) (j:Nat):Int:=caps.getD j 0
theorem JA (o:bG nt s) (hk:k<nt.1.length) (h:rI nt s caps k=true):∃ j:Nat,j<nt.2.length∧bg nt s k=(j:Int)∧(bd nt s k).1=3∧cS nt s k=true∧¬ (nt.2.getD j aE).2.2.1<0∧¬ ((s.2.1.getD j []).length:Int)<dP caps j:=by unfold rI at h;simp only [aw,Bool.not_eq_true'] at h;obtain ⟨h1,h2⟩:=h;unfold mX at h2;rw [h1,kW] at h2;simp only [Bool.or_eq_false_iff,Bool.not_eq_false',decide_eq_true_eq,decide_eq_false_iff_not] at h2;obtain ⟨c3,c4,c5⟩:=h2;obtain ⟨j,hj,e,-⟩:=rD o hk c3;rw [e,ay] at c4 c5;exact ⟨j,hj,e,c3,h1,c4,c5⟩
theorem adC (o:bG nt s) (hk:k<nt.1.length) :
  rI nt s caps k=(cS nt s k&&decide (0≤(if (bd nt s k).1=3∧¬ (nt.2.getD (bg nt s k).toNat aE).2.2.1<0∧¬ ((s.2.1.getD (bg nt s k).toNat []).length:Int)<caps.getD (bg nt s k).toNat 0 then bg nt s k else -1))):=by
 unfold rI mX;cases cS nt s k
 ·rfl
 simp only [kW];by_cases c3:(bd nt s k).1=3
 ·obtain ⟨j,hj,e,-⟩:=rD o hk c3;rw [e,ay];by_cases c4:(nt.2.getD j aE).2.2.1<0
  ·rw [if_neg (fun h=>h.2.1 c4)]; simp only [c3,c4]; simp
  by_cases c5:((s.2.1.getD j []).length:Int)<caps.getD j 0
  ·rw [if_neg (fun h=>h.2.2 c5)]; simp only [c3,c4,c5]; simp
  rw [if_pos ⟨c3,c4,c5⟩];simp only [c3,c4,c5];simp
 rw [if_neg (fun h=>c3 h.1)]; simp [c3]
structure lH (caps:List Int) (P:Nat→Prop) (b:Int):Prop where
 none:b<0→b = -1∧∀ j,¬ P j
 some:0≤b→P b.toNat∧∀ i,P i→dP caps b.toNat<dP caps i∨(dP caps b.toNat=dP caps i∧b.toNat≤i)
theorem lH.uniq {P:Nat→Prop} {c:Int} (B:lH caps P b) (C:lH caps P c):b=c:=by
 rcases Jx b 0 with hb | hb
 ·rcases Jx c 0 with hc | hc
  ·rw [(B.none hb).1,(C.none hc).1]
  exact absurd (C.some hc).1 ((B.none hb).2 _)
 rcases Jx c 0 with hc | hc
 ·exact absurd (B.some hb).1 ((C.none hc).2 _)
 have h1:=(B.some hb).2 _ (C.some hc).1;have h2:=(C.some hc).2 _ (B.some hb).1;omega
theorem lH.congr {P Q:Nat→Prop} (B:lH caps P b) (h:∀ j,P j↔Q j):lH caps Q b:=
 ⟨fun hb=>⟨(B.none hb).1,fun j hj=>(B.none hb).2 j ((h j).2 hj)⟩,fun hb=>⟨(h _).1 (B.some hb).1,fun i hi=>(B.some hb).2 i ((h i).2 hi)⟩⟩
theorem lH.more {P:Nat→Prop} (B:lH caps P b) (j:Nat):lH caps (fun i=>P i∨i=j) (if b<0∨dP caps j<dP caps b.toNat∨(dP caps j=dP caps b.toNat∧(j:Int)<b) then (j:Int) else b):=by
 split
 ·rename_i h;refine ⟨fun hb=>by omega,fun _=>⟨.inr (by omega),fun i hi=>?_⟩⟩;rw [ay];rcases hi with hi | rfl
  ·rcases Jx b 0 with hb | hb
   ·exact absurd hi ((B.none hb).2 i)
   have:=(B.some hb).2 i hi;omega
  exact .inr ⟨rfl,cj _⟩
 rename_i h;have hb:0≤b:=by omega
 refine ⟨fun hb=>by omega,fun _=>⟨.inl (B.some hb).1,fun i hi=>?_⟩⟩;rcases hi with hi | rfl
 ·exact (B.some hb).2 i hi
 omega
def qI (nt:aq) (s:State) (caps:List Int) (b:Int) (k:Nat):Int:=
 if rI nt s caps k=true then (if b<0∨dP caps (bg nt s k).toNat<dP caps b.toNat∨(dP caps (bg nt s k).toNat=dP caps b.toNat∧bg nt s k<b) then bg nt s k else b) else b
def Dy (nt:aq) (s:State) (caps:List Int):Int:=(bA nt.1.length).foldl (qI nt s caps) (-1)
def rJ (nt:aq) (s:State) (caps:List Int) (K:Nat) (j:Nat):Prop:=∃ k,k<K∧rI nt s caps k=true∧bg nt s k=(j:Int)
theorem adD (o:bG nt s) (hk:k<nt.1.length) (B:lH caps (rJ nt s caps k) b):lH caps (rJ nt s caps (k+1)) (qI nt s caps b k):=by
 unfold qI;split
 ·rename_i h;obtain ⟨j,hj,e,-⟩:=JA o hk h;rw [e,ay];refine (B.more j).congr (fun i=>⟨?_,?_⟩)
  ·rintro (⟨k',a,b,c⟩ | rfl)
   ·exact ⟨k',by omega,b,c⟩
   exact ⟨k,by omega,h,e⟩
  rintro ⟨k',a,b,c⟩;rcases ry (yJ a) with h1 | h1
  ·exact .inl ⟨k',h1,b,c⟩
  subst h1; rw [e] at c; exact .inr (by omega)
 rename_i h;refine B.congr (fun i=>⟨?_,?_⟩)
 ·rintro ⟨k',a,b,c⟩; exact ⟨k',by omega,b,c⟩
 rintro ⟨k',a,b,c⟩;rcases ry (yJ a) with h1 | h1
 ·exact ⟨k',h1,b,c⟩
 subst h1; exact absurd b h
theorem adE : lH caps (rJ nt s caps 0) (-1):=⟨fun _=>⟨rfl,fun j ⟨k,h,_⟩=>by omega⟩,fun h=>by omega⟩
theorem Oy (o:bG nt s):∀ k,k≤nt.1.length→lH caps (rJ nt s caps k) ((bA k).foldl (qI nt s caps) (-1))
 | 0,_=>adE
 | k+1,hk=>by rw [List.range_succ,List.foldl_append];exact adD o (by omega) (Oy o k (by omega))
theorem Oz (o:bG nt s):lH caps (rJ nt s caps nt.1.length) (Dy nt s caps):=Oy o _ (cj _)
theorem VC {K j:Nat} (o:bG nt s) (hK:K≤nt.1.length) (h:rJ nt s caps K j):j<nt.2.length:=by obtain ⟨k,a,b,c⟩:=h;obtain ⟨i,hi,e,-⟩:=JA o (show k<nt.1.length by omega) b;omega
theorem JB {K:Nat} (o:bG nt s) (hK:K≤nt.1.length) (B:lH caps (rJ nt s caps K) b) (hb:0≤b):b<(nt.2.length:Int):=by have:=VC o hK (B.some hb).1;omega
def JC (caps:List Int) (b:Int):List Int×Int×Bool:=if b<0∨dP caps b.toNat=400 then ([],0,false) else (caps.set b.toNat (dP caps b.toNat+1),b,true)
def lI (nt:aq) (s:State) (caps:List Int):List Int×Int×Bool:=JC caps (Dy nt s caps)
theorem Bq {ls:List bb} (h:fi ls caps=true) {j:Nat} (hj:j<ls.length):((ls.getD j aE).2.2.2.2.length:Int)≤dP caps j∧dP caps j≤400:=by have hl:=qG h;unfold fi at h;simp only [aw,decide_eq_true_eq,List.all_eq_true,List.mem_range] at h;exact h.2 j (by omega)
theorem adF (o:bG nt s) (hc:fi nt.2 caps=true) (hn:1048576<n):wZ.f n nt s caps=some ((lI nt s caps).1,(lI nt s caps).2.1,(lI nt s caps).2.2,()):=by
 have hp:=o.cf.eX;have hl:=o.cf.dB;have eO:=qG hc;unfold wZ.f;refine dZ.1 (fT (fun i (b:Int)=>(b,(i:Int),())) nt.1.length (fun i b=>b=(bA i).foldl (qI nt s caps) (-1)) (s0:=-1) rfl rfl (by omega) (fun ih b hI=>?_) (fun ih i b hi hI hS=>?_))
 ·simp only [av (bR _)];have B:=Oz (caps:=caps) o;rw [show (bA nt.1.length).foldl (qI nt s caps) (-1)=Dy nt s caps from rfl] at hI;rw [← hI] at B;rw [dZ];unfold lI JC;rw [← hI];by_cases hb:b<0
  ·rw [aG hb,aY,aB,if_pos (.inl hb)]
  have ax:=JB o (cj _) B (by omega);have fu:=Bq hc (show b.toNat<nt.2.length by omega);rw [av hb,af (by omega),aY];by_cases h4:dP caps b.toNat=400
  ·rw [if_pos (.inr h4)];have:decide (400≤caps.getD b.toNat 0)=true:=decide_eq_true (by unfold dP at h4; omega);rw [this]; rfl
  rw [if_neg (by omega)];have:decide (400≤caps.getD b.toNat 0)=false:=decide_eq_false (by unfold dP at h4 fu; omega);rw [this];simp only [ar];rw [wV (by omega)];simp only [aC];rw [af (by omega),af (by omega),bP (by unfold dP at fu; omega) (by unfold dP at fu; omega)];rfl
 have adG:=U9 (n:=n) (caps:=caps) o eO hi hn;have rK:=adC (caps:=caps) o hi;simp only [aG (show (i:Int)<(nt.1.length:Int) by omega),adG,aC];generalize hf:(if (bd nt s i).1=3∧¬ (nt.2.getD (bg nt s i).toNat aE).2.2.1<0∧¬ ((s.2.1.getD (bg nt s i).toNat []).length:Int)<caps.getD (bg nt s i).toNat 0 then bg nt s i else -1)=at' at *;rw [a_ (by omega)];have OA:(bA (i+1)).foldl (qI nt s caps) (-1)=qI nt s caps b i:=by rw [List.range_succ,List.foldl_append,← hI]; rfl
 have hB:lH caps (rJ nt s caps i) b:=by rw [hI]; exact Oy o i (by omega)
 cases qJ:rI nt s caps i
 ·have hk:W (ih (b,((i+1:Nat):Int),())) _:=hS b (by rw [OA]; unfold qI; rw [qJ]; rfl);rw [qJ] at rK;by_cases h0:at'<0
  ·rw [aG h0,aY,aB]; exact hk
  rw [av h0,Bh o hi hn];have:cS nt s i=false:=by
   cases yU:cS nt s i
   ·rfl
   rw [yU,decide_eq_true (show 0≤at' by omega)] at rK; cases rK
  rw [this];simp only [aC,aY,Bool.not_false,aB]; exact hk
 rw [qJ] at rK;have rK:=rK.symm;rw [aw,decide_eq_true_eq] at rK;obtain ⟨j,hj,e,-⟩:=JA o hi qJ;have he:at'=(j:Int):=by
  rw [← hf] at rK ⊢;split at rK
  ·rename_i h; rw [if_pos h,e]
  omega
 have sH:qI nt s caps b i=if b<0∨dP caps j<dP caps b.toNat∨(dP caps j=dP caps b.toNat∧(j:Int)<b) then (j:Int) else b:=by unfold qI;rw [qJ,if_pos rfl,e,ay]
 rw [he,av (by omega),Bh o hi hn,rK.1];simp only [aC,aY,bf,ar];have qh:qI nt s caps b i=(j:Int)→W (ih ((j:Int),((i+1:Nat):Int),())) _:=fun h=>hS (j:Int) (by rw [OA,h]);have rh:qI nt s caps b i=b→W (ih (b,((i+1:Nat):Int),())) _:=fun h=>hS b (by rw [OA,h]);by_cases hb:b<0
 ·rw [aG hb];exact qh (by rw [sH,if_pos (.inl hb)])
 have ax:=JB o (by omega) hB (by omega);rw [av hb,af (by omega),af (by omega)];simp only [ay];by_cases h1:caps.getD j 0<caps.getD b.toNat 0
 ·rw [aG h1];exact qh (by rw [sH,if_pos (.inr (.inl h1))])
 rw [av h1,af (by omega),af (by omega)];by_cases h2:caps.getD j 0=caps.getD b.toNat 0
 ·rw [aG h2];by_cases h3:(j:Int)<b
  ·rw [aG h3];exact qh (by rw [sH,if_pos (.inr (.inr ⟨h2,h3⟩))])
  rw [av h3];exact rh (by rw [sH,if_neg (by unfold dP; omega)])
 rw [av h2];exact rh (by rw [sH,if_neg (by unfold dP; omega)])
def Dz (nt:aq) (s:State) (caps:List Int):List Int×Int×Bool:=if w_ nt s caps=true then lI nt s caps else ([],0,false)
theorem adH (h:w_ nt s caps=true):bG nt s∧fi nt.2 caps=true∧mY nt s caps=false∧kj nt s=true:=by unfold w_ at h;simp only [aw,Bool.not_eq_true'] at h;exact ⟨qF h.1,h.2.1,h.2.2⟩
def VD (nt:aq) (s:State) (caps:List Int) (i k:Nat) (j:Nat):Prop:=(j<i∧rJ nt s caps nt.1.length j)∨(j=i∧rJ nt s caps k j)
theorem adI (h:dq nt) (hs:kf s) (hc:caps.length≤1048576) (hn:1048576<n):td.f n nt s caps=some ((Dz nt s caps).1,(Dz nt s caps).2.1,(Dz nt s caps).2.2,()):=by
 unfold td.f Dz;rw [adB h hs hc hn];cases e:w_ nt s caps
 ·rfl
 obtain ⟨o,ok,-⟩:=adH e;have hp:=o.cf.eX;have hl:=o.cf.dB;have eO:=qG ok;simp only [aC,bf,ar,if_true];refine dZ.1 (c8.2 (bz (Oi o hs hc hn) (fun r ⟨R,e⟩=>?_)));refine fT (fun i (b:Int)=>(b,(i:Int),())) nt.2.length (fun i b=>lH caps (fun j=>j<i∧rJ nt s caps nt.1.length j) b) (s0:=-1) rfl ⟨fun _=>⟨rfl,fun j hj=>by omega⟩,fun h=>by omega⟩ (by omega) (fun ih b hB=>?_) (fun ih i b hi hI hS=>?_)
 ·simp only [av (bR _)];have B:lH caps (rJ nt s caps nt.1.length) b:=hB.congr (fun j=>⟨fun hh=>hh.2,fun hh=>⟨VC o (cj _) hh,hh⟩⟩);have hI:=B.uniq (Oz o);rw [dZ];unfold lI JC;rw [← hI];by_cases hb:b<0
  ·rw [aG hb,aY,aB,if_pos (.inl hb)]
  have ax:=JB o (cj _) B (by omega);have fu:=Bq ok (show b.toNat<nt.2.length by omega);rw [av hb,af (by omega),aY];by_cases h4:dP caps b.toNat=400
  ·rw [if_pos (.inr h4)];have:decide (caps.getD b.toNat 0=400)=true:=decide_eq_true h4;rw [this]; rfl
  rw [if_neg (by omega)];have:decide (caps.getD b.toNat 0=400)=false:=decide_eq_false h4;rw [this];simp only [ar];rw [wS (by omega)];simp only [aC];rw [af (by omega),af (by omega),bP (by unfold dP at fu; omega) (by unfold dP at fu; omega)];rfl
 simp only [aG (show (i:Int)<(nt.2.length:Int) by omega)];refine fT (fun k (b:Int)=>(b,(k:Int),())) nt.1.length (fun k b=>lH caps (VD nt s caps i k) b) (s0:=b) rfl (hI.congr (fun j=>⟨fun hh=>.inl hh,fun hh=>?_⟩)) (by omega) (fun xT b hB=>?_) (fun xT k b hk hB uV=>?_)
 ·rcases hh with hh | ⟨-,k,hk,-⟩
  ·exact hh
  omega
 ·simp only [av (bR _)];rw [a_ (by omega)];refine hS b (hB.congr (fun j=>⟨?_,?_⟩))
  ·rintro (⟨a,b⟩ | ⟨rfl,b⟩)
   ·exact ⟨by omega,b⟩
   exact ⟨by omega,b⟩
  rintro ⟨a,b⟩;rcases ry (yJ a) with h1 | h1
  ·exact .inl ⟨h1,b⟩
  exact .inr ⟨h1,b⟩
 have hw:iP.f n ((r.1,r.2.1),(r.2.2.2.2.1,r.2.2.2.2.2.1,r.2.2.2.2.2.2.1,r.2.2.1),r.2.2.2.2.2.2.2.1,r.2.2.2.2.2.2.2.2.1,r.2.2.2.1) (k:Int)=some ((bd nt s k).1,bg nt s k,()):=Dn R o hk;have yU:=Dp (n:=n) R o hk;have adJ:=Oj (n:=n) R o eO e hk;simp only [aG (show (k:Int)<(nt.1.length:Int) by omega),hw,yU,adJ,aC];rw [a_ (by omega)];have JD:(rI nt s caps k=true→bg nt s k≠(i:Int))→W (xT (b,((k+1:Nat):Int),())) _:=fun aA=>uV b (hB.congr (fun j=>⟨?_,?_⟩));rotate_left
 ·rintro (hh | ⟨rfl,k',a,b,c⟩)
  ·exact .inl hh
  exact .inr ⟨rfl,k',by omega,b,c⟩
 ·rintro (hh | ⟨rfl,k',a,b,c⟩)
  ·exact .inl hh
  rcases ry (yJ a) with h1 | h1
  ·exact .inr ⟨rfl,k',h1,b,c⟩
  subst h1; exact absurd c (aA b)
 by_cases c3:(bd nt s k).1=3
 ·rw [aG c3];by_cases cl:bg nt s k=(i:Int)
  ·rw [aG cl];cases gj:cS nt s k
   ·rw [ar]; exact JD (fun hh=>by unfold rI at hh; rw [gj] at hh; cases hh)
   rw [aB];cases dE:mX nt s caps k
   ·rw [Bool.not_false,aB];have qJ:rI nt s caps k=true:=by unfold rI; rw [gj,dE]; rfl
    have hM:=(hB.more i).congr (Q:=VD nt s caps i (k+1)) (fun j=>⟨?_,?_⟩);rotate_left
    ·rintro ((hh | ⟨rfl,k',a,b,c⟩) | rfl)
     ·exact .inl hh
     ·exact .inr ⟨rfl,k',by omega,b,c⟩
     exact .inr ⟨rfl,k,by omega,qJ,cl⟩
    ·rintro (hh | ⟨rfl,-⟩)
     ·exact .inl (.inl hh)
     exact .inr rfl
    by_cases hb:b<0
    ·rw [aG hb];rw [if_pos (.inl hb)] at hM;exact uV _ hM
    have hPb:=(hB.some (by omega)).1;have agN:b.toNat≤i:=by rcases hPb with hh | hh<;>omega
    rw [av hb,af (by omega),af (by omega)];simp only [ay];by_cases h1:caps.getD i 0<caps.getD b.toNat 0
    ·rw [aG h1];rw [if_pos (.inr (.inl h1))] at hM;exact uV _ hM
    rw [av h1];rw [if_neg (by unfold dP; omega)] at hM;exact uV _ hM
   rw [bf,ar]; exact JD (fun hh=>by unfold rI at hh; rw [gj,dE] at hh; cases hh)
  rw [av cl]; exact JD (fun _=>cl)
 rw [av c3];refine JD (fun hh=>?_);obtain ⟨j,-,-,hc3,-⟩:=JA o hk hh;exact absurd hc3 c3
end Go.AmT
namespace Go.AmT
open Go.Proofs Go.Proofs.Tryz
def pR.la:LA:=⟨[(0,.agg [.sh b_,.sh du]),(1,.agg [.own 0 bp,.own 1 IS,.own 2 IS,.int .i64]),(2,.sh I),(3,.int .i64)],[(0,.row true bp),(1,.row true IS),(2,.row true IS)],[],[]⟩
def pR.lb:LA:=⟨[(0,.agg [.own 0 bp,.own 1 IS,.own 2 IS,.int .i64]),(1,.int .i64)],[(0,.row true bp),(1,.row true IS),(2,.row true IS)],[],[]⟩
def pR.f (n:Nat) (a0:List Program) (a1:List bb) (a2:Int) (a3:List Int) (a4:Int) (a5:List bM) (a6 a7:List (List Int)):Option (Int×Int×List bM×List (List Int)×List (List Int)×Unit):=iter n (fun adK gK=>cut ((rH.f n (a0,a1) (gK.2.2.1,gK.2.2.2.1,gK.2.2.2.2.1,gK.2.1) a3).bind fun r60=>br r60.1 (some (.inr (decide (gK.1<a4),()))) (some (.inr (false,())))) fun y59=>br y59.1 (iter n (fun VE jl=>cut (br (decide (jl.2.1<(a0.length:Int))) (some (.inr (decide (jl.1<a4),()))) (some (.inr (false,())))) fun y63=>br y63.1 ((s8.f n (a0,a1) (jl.2.2.2.1,jl.2.2.2.2.1,jl.2.2.2.2.2.1,jl.2.2.1) a3 jl.2.1).bind fun DB=>br DB.1 ((k_.f n a0 a1 jl.2.2.1 jl.2.1 jl.2.2.2.1 jl.2.2.2.2.1 jl.2.2.2.2.2.1).bind fun DC=>VE (ah (jl.1+1),ah (jl.2.1+1),DC.1,DC.2.1,DC.2.2.1,DC.2.2.2.1,())) (VE (jl.1,ah (jl.2.1+1),jl.2.2.1,jl.2.2.2.1,jl.2.2.2.2.1,jl.2.2.2.2.2.1,()))) (adK (jl.1,jl.2.2.1,jl.2.2.2.1,jl.2.2.2.2.1,jl.2.2.2.2.2.1,()))) (gK.1,0,gK.2.1,gK.2.2.1,gK.2.2.2.1,gK.2.2.2.2.1,())) ((qH.f n (a0,a1) (gK.2.2.1,gK.2.2.2.1,gK.2.2.2.2.1,gK.2.1)).bind fun dQ=>br (decide (dQ.1<0)) (some (gK.2.1,1,gK.2.2.1,gK.2.2.2.1,gK.2.2.2.2.1,())) ((rH.f n (a0,a1) (gK.2.2.1,gK.2.2.2.1,gK.2.2.2.2.1,gK.2.1) a3).bind fun OB=>br (!OB.1) (some (gK.2.1,2,gK.2.2.1,gK.2.2.2.1,gK.2.2.2.2.1,())) (some (gK.2.1,3,gK.2.2.1,gK.2.2.2.1,gK.2.2.2.2.1,()))))) (0,a2,a5,a6,a7,())
def pR.ae (n:Nat):dn:=⟨pR.la,pR.lb,fun x=>pR.f n x.1 x.2.1 x.2.2.1 x.2.2.2.1 x.2.2.2.2.1 x.2.2.2.2.2.1 x.2.2.2.2.2.2.1 x.2.2.2.2.2.2.2.1⟩
theorem pR.ok (n:Nat):pD 138 (pR.ae n):=rv n [(3,⟨[(5,.bn 1000 0),(10,.int .i64)],[(1000,.cells [] [.own 0 bp,.own 1 IS,.own 2 IS,.int .i64]),(0,.row true bp),(1,.row true IS),(2,.row true IS)],[2,3,4,8],[]⟩),(4,⟨[(20,.bool)],[],[2,3,4,5,8,10],[0,1,2]⟩),(9,⟨[(5,.bn 1000 0),(10,.int .i64),(11,.int .i64)],[(1000,.cells [] [.own 0 bp,.own 1 IS,.own 2 IS,.int .i64]),(0,.row true bp),(1,.row true IS),(2,.row true IS)],[2,3,4,8],[]⟩),(10,⟨[(30,.bool)],[],[2,3,4,5,8,10,11],[0,1,2]⟩)] [] (ai (rH.ok n) (ai (s8.ok n) (ai (qH.ok n) aK))) (eM (k_.ok n) aL) func138
def yY.f (n:Nat) (a0:aq) (a1:State) (a2:List Int) (a3:Int):Option (State×Int×Unit):=(rB.f n a0 a1 a2).bind fun r1=>br (!r1.1) (some (([],[],[],0),0,())) ((mh.f n a1).bind fun r2=>(pR.f n a0.1 a0.2 r2.1.2.2.2 a2 a3 r2.1.1 r2.1.2.1 r2.1.2.2.1).bind fun r3=>some ((r3.2.2.1,r3.2.2.2.1,r3.2.2.2.2.1,r3.1),r3.2.1,()))
def yY.ae (n:Nat):au:=⟨[.val cd,.val dG,.val IS,.val I],[.sh dG,.val I],fun x=>yY.f n x.1 x.2.1 x.2.2.1 x.2.2.2.1⟩
theorem yY.ok (n:Nat):aP 75 (yY.ae n):=aU n [] [] (ai (rB.ok n) (ai (mh.ok n) aK)) (eM (pR.ok n) aL) func75
def Br.f (n:Nat) (a0:nJ):Option (Int×Unit):=(quiet.f n a0).bind fun r1=>br r1.1 (some (1,())) ((stuck.f n a0).bind fun r2=>br r2.1 (some (2,())) (some (3,())))
def Br.ae (n:Nat):au:=⟨[.fQ yF],[.val I],fun x=>Br.f n x.1⟩
theorem Br.ok (n:Nat):aP 231 (Br.ae n):=aU n [] [] (ai (quiet.ok n) (ai (stuck.ok n) aK)) aL func231
def pS.f (n:Nat) (a0:aq) (a1:State) (a2:List Int) (a3:Int):Option (State×Int×Unit):=(rG.f n a0 a1 a2).bind fun r1=>br (!r1.1) (some (([],[],[],0),0,())) ((nL.f n a0.1 a0.2 a1.1 a1.2.1 a1.2.2.1 a1.2.2.2 a2).bind fun r2=>(turns.f n a3 r2.1 r2.2.1 r2.2.2.1 r2.2.2.2.1 r2.2.2.2.2.1 r2.2.2.2.2.2.1 r2.2.2.2.2.2.2.1 r2.2.2.2.2.2.2.2.1 r2.2.2.2.2.2.2.2.2.1).bind fun r3=>(Br.f n ((r3.1,r3.2.1),(r3.2.2.2.2.1,r3.2.2.2.2.2.1,r3.2.2.2.2.2.2.1,r3.2.2.1),r3.2.2.2.2.2.2.2.1,r3.2.2.2.2.2.2.2.2.1,r3.2.2.2.1)).bind fun r4=>some ((r3.2.2.2.2.1,r3.2.2.2.2.2.1,r3.2.2.2.2.2.2.1,r3.2.2.1),r4.1,()))
def pS.ae (n:Nat):au:=⟨[.val cd,.val dG,.val IS,.val I],[.val dG,.val I],fun x=>pS.f n x.1 x.2.1 x.2.2.1 x.2.2.2.1⟩
theorem pS.ok (n:Nat):aP 169 (pS.ae n):=aU n [] [] (ai (rG.ok n) (ai (Br.ok n) aK)) (eM (nL.ok n) (eM (turns.ok n) aL)) func169
end Go.AmT
