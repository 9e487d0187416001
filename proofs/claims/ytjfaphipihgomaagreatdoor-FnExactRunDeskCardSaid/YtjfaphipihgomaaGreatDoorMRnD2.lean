/- Functions of the program, each as a plain Lean function. No condition. -/
import Derived.Test.YtjfaphipihgomaaGreatDoorMRnD1
open Go Go.Am
noncomputable section
set_option linter.unusedVariables false
set_option maxRecDepth 100000
set_option linter.unusedSimpArgs false
open Bool renaming false_eq_true → fF, or_eq_false_iff → oB
open Int renaming lt_irrefl → bR, toNat_natCast → ay
open List renaming getD_eq_getElem?_getD → jN, getElem?_append_right → Ew, getElem_mem → ct, take_length → jj, take_succ_eq_append_getElem → iC
open Option renaming bind_some → aC
namespace Go.AmT
open Go.Proofs Go.Proofs.Tryz
abbrev bM:Type:=Int×List Int
def bK:bM:=(0,[])
abbrev State:Type:=List bM×(List (List Int)×List (List Int)×Int)
def yL.f (n:Nat) (a0:Program) (a1:bM):Option (Bool×Unit):=(bY.f n a1.1 0 (a0.2.2.length:Int)).bind fun r1=>br r1.1 (br (decide ((a1.2.length:Int)=4)) ((fE.f n a1.2).bind fun r2=>some (r2.1,())) (some (false,()))) (some (false,()))
def yL.ae (n:Nat):au:=⟨[.val b_,.val bp],[.val .bool],fun x=>yL.f n x.1 x.2.1⟩
theorem yL.ok (n:Nat):aP 185 (yL.ae n):=aU n [] [] (ai ⟨bY.sound n,bY.aD⟩ (ai ⟨fE.sound n,fE.aD⟩ aK)) aL func185
def pL.f (n:Nat) (a0 a1:List Int):Option (Bool×Unit):=br (decide ((a1.length:Int)<(a0.length:Int))) (some (false,())) (iter n (fun jY x5=>br (decide (x5.1<(a0.length:Int))) (ab (0≤x5.1∧x5.1<(a0.length:Int)) (ab (0≤x5.1∧x5.1<(a1.length:Int)) (br (!decide ((a1.getD x5.1.toNat 0)=(a0.getD x5.1.toNat 0))) (some (false,())) (jY (ah (x5.1+1),()))))) (some (true,()))) (0,()))
def pL.ae (n:Nat):au:=⟨[.val IS,.val IS],[.val .bool],fun x=>pL.f n x.1 x.2.1⟩
theorem pL.ok (n:Nat):aP 186 (pL.ae n):=aU n [(6,⟨[(14,.int .i64)],[],[1,12,13],[]⟩)] [] aK aL func186
def wM.f (n:Nat) (a0 a1:List Int):Option (Bool×Unit):=br (decide ((a0.length:Int)≤(a1.length:Int))) (ab (0≤(ah ((a1.length:Int)-(a0.length:Int)))∧(ah ((a1.length:Int)-(a0.length:Int)))≤(a1.length:Int)∧(a1.length:Int)≤(a1.length:Int)) ((pL.f n a0 ((a1.take (a1.length:Int).toNat).drop (ah ((a1.length:Int)-(a0.length:Int))).toNat)).bind fun r1=>some (r1.1,()))) (some (false,()))
def wM.ae (n:Nat):au:=⟨[.val IS,.val IS],[.val .bool],fun x=>wM.f n x.1 x.2.1⟩
theorem wM.ok (n:Nat):aP 187 (wM.ae n):=aU n [] [] (ai (pL.ok n) aK) aL func187
def nI.f (n:Nat) (a0:aq) (a1:State):Option (Bool×Unit):=cut ((eH.f n a0).bind fun r4=>br (!r4.1) (some (.inr (true,()))) (br (!decide ((a1.1.length:Int)=(a0.1.length:Int))) (some (.inr (true,()))) (br (!decide ((a1.2.1.length:Int)=(a0.2.length:Int))) (some (.inr (true,()))) (br (!decide ((a1.2.2.1.length:Int)=(a0.2.length:Int))) (some (.inr (true,()))) ((bY.f n a1.2.2.2 0 20000).bind fun r5=>some (.inr (!r5.1,()))))))) fun y3=>br y3.1 (some (false,())) (iter n (fun F1 gG=>br (decide (gG.1<(a1.1.length:Int))) (ab (0≤gG.1∧gG.1<(a1.1.length:Int)) (let F2:=(a1.1.getD gG.1.toNat bK); ab (0≤gG.1∧gG.1<(a0.1.length:Int)) (let v26:=(a0.1.getD gG.1.toNat bC); (yL.f n v26 F2).bind fun di=>br (!di.1) (some (false,())) (F1 (ah (gG.1+1),()))))) (iter n (fun Jg pM=>br (decide (pM.1<(a0.2.length:Int))) (ab (0≤pM.1∧pM.1<(a0.2.length:Int)) (let F3:=(a0.2.getD pM.1.toNat aE); ab (0≤pM.1∧pM.1<(a1.2.1.length:Int)) (let uI:=(a1.2.1.getD pM.1.toNat []); ab (0≤pM.1∧pM.1<(a1.2.2.1.length:Int)) (let v49:=(a1.2.2.1.getD pM.1.toNat []); cut ((fE.f n uI).bind fun NQ=>br (!NQ.1) (some (.inr (true,()))) ((fE.f n v49).bind fun wN=>br (!wN.1) (some (.inr (true,()))) ((pL.f n F3.2.2.2.2 v49).bind fun mU=>br (!mU.1) (some (.inr (true,()))) ((wM.f n uI v49).bind fun Jh=>some (.inr (!Jh.1,())))))) fun NR=>br NR.1 (some (false,())) (br (decide (F3.1=(-1))) (br (!decide ((v49.length:Int)=(F3.2.2.2.2.length:Int))) (some (false,())) (br (decide (F3.2.2.1=(-1))) (br (!decide ((v49.length:Int)=(uI.length:Int))) (some (false,())) (Jg (ah (pM.1+1),()))) (Jg (ah (pM.1+1),())))) (br (decide (F3.2.2.1=(-1))) (br (!decide ((v49.length:Int)=(uI.length:Int))) (some (false,())) (Jg (ah (pM.1+1),()))) (Jg (ah (pM.1+1),())))))))) (some (true,()))) (0,()))) (0,()))
def nI.ae (n:Nat):au:=⟨[.val cd,.val dG],[.val .bool],fun x=>nI.f n x.1 x.2.1⟩
theorem nI.ok (n:Nat):aP 119 (nI.ae n):=aU n [(1,⟨[(46,.bool)],[],[2,3],[]⟩),(6,⟨[(50,.int .i64)],[],[2,3,48,49],[]⟩),(17,⟨[(67,.int .i64)],[],[3,65,66],[]⟩),(24,⟨[(102,.bool)],[],[3,8,9,10,65,66,67],[]⟩)] [] (ai ⟨eH.sound n,eH.aD⟩ (ai ⟨bY.sound n,bY.aD⟩ (ai (yL.ok n) (ai ⟨fE.sound n,fE.aD⟩ (ai (pL.ok n) (ai (wM.ok n) aK)))))) aL func119
def rB.f (n:Nat) (a0:aq) (a1:State) (a2:List Int):Option (Bool×Unit):=(yK.f n a0 a2).bind fun r1=>br r1.1 ((nI.f n a0 a1).bind fun r2=>some (r2.1,())) (some (false,()))
def rB.ae (n:Nat):au:=⟨[.val cd,.val dG,.val IS],[.val .bool],fun x=>rB.f n x.1 x.2.1 x.2.2.1⟩
theorem rB.ok (n:Nat):aP 56 (rB.ae n):=aU n [] [] (ai (yK.ok n) (ai (nI.ok n) aK)) aL func56
def yM.f (n:Nat) (a0:Program) (a1:bM):Option (Bool×Unit):=br (decide (0≤a1.1)) (br (decide (a1.1≤(a0.2.2.length:Int))) (br (decide ((a1.2.length:Int)=4)) ((eV.f n a1.2).bind fun r1=>some (r1.1,())) (some (false,()))) (some (false,()))) (some (false,()))
def yM.ae (n:Nat):au:=⟨[.val b_,.val bp],[.val .bool],fun x=>yM.f n x.1 x.2.1⟩
theorem yM.ok (n:Nat):aP 144 (yM.ae n):=aU n [] [] (ai ⟨eV.sound n,eV.aD⟩ aK) aL func144
def qz.f (n:Nat) (a0 a1:List Int):Option (Bool×Unit):=br (!decide ((a0.length:Int)=(a1.length:Int))) (some (false,())) (iter n (fun jY x5=>br (decide (x5.1<(a0.length:Int))) (ab (0≤x5.1∧x5.1<(a0.length:Int)) (ab (0≤x5.1∧x5.1<(a1.length:Int)) (br (!decide ((a0.getD x5.1.toNat 0)=(a1.getD x5.1.toNat 0))) (some (false,())) (jY (ah (x5.1+1),()))))) (some (true,()))) (0,()))
def qz.ae (n:Nat):au:=⟨[.val IS,.val IS],[.val .bool],fun x=>qz.f n x.1 x.2.1⟩
theorem qz.ok (n:Nat):aP 147 (qz.ae n):=aU n [(6,⟨[(13,.int .i64)],[],[0,1,12],[]⟩)] [] aK aL func147
def wO.f (n:Nat) (a0 a1:List Int):Option (Bool×Unit):=(eV.f n a0).bind fun r1=>br r1.1 ((eV.f n a1).bind fun r2=>br r2.1 (br (decide ((a0.length:Int)≤(a1.length:Int))) (ab ((0:Int)≤0∧(0:Int)≤(a0.length:Int)∧(a0.length:Int)≤(a1.length:Int)) ((qz.f n a0 ((a1.take (a0.length:Int).toNat).drop 0)).bind fun r3=>some (r3.1,()))) (some (false,()))) (some (false,()))) (some (false,()))
def wO.ae (n:Nat):au:=⟨[.val IS,.val IS],[.val .bool],fun x=>wO.f n x.1 x.2.1⟩
theorem wO.ok (n:Nat):aP 146 (wO.ae n):=aU n [] [] (ai ⟨eV.sound n,eV.aD⟩ (ai (qz.ok n) aK)) aL func146
def mb.f (n:Nat) (a0:aq) (a1:State):Option (Bool×Unit):=cut ((ez.f n a0).bind fun r3=>br (!r3.1) (some (.inr (true,()))) (br (!decide ((a1.1.length:Int)=(a0.1.length:Int))) (some (.inr (true,()))) (br (!decide ((a1.2.1.length:Int)=(a0.2.length:Int))) (some (.inr (true,()))) (br (!decide ((a1.2.2.1.length:Int)=(a0.2.length:Int))) (some (.inr (true,()))) (br (decide (a1.2.2.2<0)) (some (.inr (true,()))) (some (.inr (decide (20000<a1.2.2.2),())))))))) fun y2=>br y2.1 (some (false,())) (iter n (fun uJ c_=>br (decide (c_.1<(a0.1.length:Int))) (ab (0≤c_.1∧c_.1<(a0.1.length:Int)) (let v23:=(a0.1.getD c_.1.toNat bC); ab (0≤c_.1∧c_.1<(a1.1.length:Int)) (let v24:=(a1.1.getD c_.1.toNat bK); (yM.f n v23 v24).bind fun oN=>br (!oN.1) (some (false,())) (uJ (ah (c_.1+1),()))))) (iter n (fun Ji pN=>br (decide (pN.1<(a0.2.length:Int))) (ab (0≤pN.1∧pN.1<(a0.2.length:Int)) (let F4:=(a0.2.getD pN.1.toNat aE); ab (0≤pN.1∧pN.1<(a1.2.1.length:Int)) (let yN:=(a1.2.1.getD pN.1.toNat []); ab (0≤pN.1∧pN.1<(a1.2.2.1.length:Int)) (let lC:=(a1.2.2.1.getD pN.1.toNat []); cut ((eV.f n yN).bind fun eA=>br (!eA.1) (some (.inr (true,()))) ((wO.f n F4.2.2.2.2 lC).bind fun F5=>br (!F5.1) (some (.inr (true,()))) (br (decide ((lC.length:Int)<(yN.length:Int))) (some (.inr (true,()))) (ab (0≤(ah ((lC.length:Int)-(yN.length:Int)))∧(ah ((lC.length:Int)-(yN.length:Int)))≤(lC.length:Int)∧(lC.length:Int)≤(lC.length:Int)) ((qz.f n yN ((lC.take (lC.length:Int).toNat).drop (ah ((lC.length:Int)-(yN.length:Int))).toNat)).bind fun rC=>some (.inr (!rC.1,()))))))) fun NS=>br NS.1 (some (false,())) (br (decide (F4.1=(-1))) (br (!decide ((lC.length:Int)=(F4.2.2.2.2.length:Int))) (some (false,())) (br (decide (F4.2.2.1=(-1))) (br (!decide ((yN.length:Int)=(lC.length:Int))) (some (false,())) (Ji (ah (pN.1+1),()))) (Ji (ah (pN.1+1),())))) (br (decide (F4.2.2.1=(-1))) (br (!decide ((yN.length:Int)=(lC.length:Int))) (some (false,())) (Ji (ah (pN.1+1),()))) (Ji (ah (pN.1+1),())))))))) (some (true,()))) (0,()))) (0,()))
def mb.ae (n:Nat):au:=⟨[.val cd,.val dG],[.val .bool],fun x=>mb.f n x.1 x.2.1⟩
theorem mb.ok (n:Nat):aP 83 (mb.ae n):=aU n [(1,⟨[(50,.bool)],[],[2,3],[]⟩),(6,⟨[(54,.int .i64)],[],[2,3,52,53],[]⟩),(17,⟨[(71,.int .i64)],[],[3,69,70],[]⟩),(23,⟨[(114,.bool)],[],[3,8,9,10,69,70,71],[]⟩)] [] (ai ⟨ez.sound n,ez.aD⟩ (ai (yM.ok n) (ai ⟨eV.sound n,eV.aD⟩ (ai (wO.ok n) (ai (qz.ok n) aK))))) aL func83
end Go.AmT
namespace Go.AmT
variable {n:Nat} {l:bb} {nt:aq} {s:State}
structure kf (s:State):Prop where
 UE:s.1.length≤1048576
 mV:∀ a∈s.1,a.2.length≤1048576
 UF:s.2.1.length≤1048576
 queue:∀ q∈s.2.1,q.length≤1048576
 UG:s.2.2.1.length≤1048576
 fG:∀ q∈s.2.2.1,q.length≤1048576
theorem Left.mono {left UH:Int} {o:Option (Int×Unit)} {P:Prop} (h:Left left o P) (hl:left≤UH):Left UH o P:=by obtain ⟨r,e,r1,r2⟩:=h;exact ⟨r,e,by omega,r2⟩
theorem UI {a b:List Int} (hl:a.length=b.length) (h:∀ i,i<a.length→a.getD i 0=b.getD i 0):a=b:=by refine List.ext_getElem hl (fun i h1 h2=>?_);have:=h i h1;rwa [aJ h1,aJ h2] at this
theorem NT {a b:List Int} (hl:a.length≤1048576) (hn:1048576<n):qz.f n a b=some (decide (a=b),()):=by
 unfold qz.f;by_cases h:a.length=b.length
 ·have h':(a.length:Int)=(b.length:Int):=by omega
  rw [show (!decide ((a.length:Int)=(b.length:Int)))=false by simp [h'],ar];refine wC (oF (bad:=some (false,())) a.length (fun i=>decide (a.getD i 0=b.getD i 0)) (fun ih i hi=>?_) (fun ih=>av (bR _)) (by omega) (fun bF=>?_) (fun i hi hb=>?_))
  ·have h1:(i:Int)<(a.length:Int):=by omega
   simp only [h1,decide_true,aB,ay];rw [af (by simp),af (by simp; omega),a_ (by omega),yz]
  ·simp only [ak,true_iff];exact UI h (fun i hi=>by simpa using bF i hi)
  simp only [ak,fF,false_iff];intro e; subst e; simp at hb
 have h':¬ (a.length:Int)=(b.length:Int):=by omega
 have aA:a≠b:=fun e=>h (by rw [e]);simp [h',aA,br]
theorem Jj {a b:List Int} : a <+: b↔a.length≤b.length∧∀ i,i<a.length→b.getD i 0=a.getD i 0:=by
 constructor
 ·rintro ⟨c,rfl⟩;refine ⟨by simp,fun i hi=>?_⟩;rw [aJ hi,aJ (by simp; omega),List.getElem_append_left hi]
 rintro ⟨hl,h⟩;rw [List.prefix_iff_eq_take];refine UI (by simp; omega) (fun i hi=>?_);rw [← h i hi,aJ (by omega),aJ (by simp; omega),List.getElem_take]
theorem NU {a b:List Int} (hl:a.length≤1048576) (hn:1048576<n):pL.f n a b=some (decide (a <+: b),()):=by
 unfold pL.f;by_cases h:b.length<a.length
 ·have aA:¬ a <+: b:=fun e=>by have:=(Jj.1 e).1; omega
  simp [aA,br,show (b.length:Int)<(a.length:Int) by omega]
 rw [av (by omega)];refine wC (oF (bad:=some (false,())) a.length (fun i=>decide (b.getD i 0=a.getD i 0)) (fun ih i hi=>?_) (fun ih=>av (bR _)) (by omega) (fun bF=>?_) (fun i hi hb=>?_))
 ·have h1:(i:Int)<(a.length:Int):=by omega
  simp only [h1,decide_true,aB,ay];rw [af (by simp),af (by simp; omega),a_ (by omega),yz]
 ·simp only [ak,true_iff];exact Jj.2 ⟨by omega,fun i hi=>by simpa using bF i hi⟩
 simp only [ak,fF,false_iff];intro e;have:=(Jj.1 e).2 i hi;rw [this] at hb; simp at hb
theorem UJ {a b:List Int} (h:a.length≤b.length):a <:+ b↔a=b.drop (b.length-a.length):=List.suffix_iff_eq_drop
theorem acY {a b:List Int} (hl:a.length≤1048576) (hb:b.length≤1048576) (hn:1048576<n):wM.f n a b=some (decide (a <:+ b),()):=by
 unfold wM.f;by_cases h:a.length≤b.length
 ·have h':(a.length:Int)≤(b.length:Int):=by omega
  rw [aG h',bP (by omega) (by omega),af (by omega)];simp only [ay,jj];rw [show ((b.length:Int)-(a.length:Int)).toNat=b.length-a.length by omega,NU hl hn];simp only [aC];congr 2;refine decide_eq_decide.2 ?_;rw [UJ h];constructor
  ·intro hp;obtain ⟨c,hc⟩:=hp;have:c=[]:=by have:=congrArg List.length hc;simp at this;exact List.eq_nil_of_length_eq_zero (by omega)
   rw [← hc,this,List.append_nil]
  intro e;rw [← e]; exact List.prefix_refl _
 have aA:¬ a <:+ b:=fun e=>h e.length_le;simp [aA,br,show ¬ (a.length:Int)≤(b.length:Int) by omega]
theorem acZ {a b:List Int} (hl:a.length≤1048576) (hb:b.length≤1048576) (hn:1048576<n):wO.f n a b=some (bS a&&(bS b&&decide (a <+: b)),()):=by
 unfold wO.f;rw [uD hl hn,uD hb hn];simp only [aC];cases bS a with
 | false=>rfl
 | true=>cases bS b with
  | false=>rfl
  | true=>
   simp only [aB,Bool.true_and];by_cases h:a.length≤b.length
   ·rw [aG (by omega),af (by omega)];simp only [ay,List.drop_zero];rw [NT hl hn];simp only [aC];congr 2;exact decide_eq_decide.2 List.prefix_iff_eq_take.symm
   have aA:¬ a <+: b:=fun e=>h e.length_le;rw [av (by omega)];simp [aA]
def f_ (p:Program) (a:bM):Bool:=decide (0≤a.1)&&(decide (a.1≤(p.2.2.length:Int))&&(decide (a.2.length=4)&&bS a.2))
theorem ac_ {p:Program} {a:bM} (hl:a.2.length≤1048576) (hn:1048576<n):yM.f n p a=some (f_ p a,()):=by unfold yM.f f_;rw [uD hl hn];simp only [aC];by_cases h1:0≤a.1<;>by_cases h2:a.1≤(p.2.2.length:Int)<;>by_cases h3:a.2.length=4<;>simp [h1,h2,h3,br,show ((a.2.length:Int)=4)↔a.2.length=4 by omega]
theorem ac0 {p:Program} {a:bM} (hl:a.2.length≤1048576) (hn:1048576<n):yL.f n p a=some (f_ p a,()):=by unfold yL.f f_;rw [wG hl hn,nG];simp only [aC];by_cases h1:0≤a.1<;>by_cases h2:a.1≤(p.2.2.length:Int)<;>by_cases h3:a.2.length=4<;>simp [h1,h2,h3,br,show ((a.2.length:Int)=4)↔a.2.length=4 by omega]
structure uK (l:bb) (q h:List Int):Prop where
 qs:bS q=true
 hs:bS h=true
 pre:l.2.2.2.2 <+: h
 Dh:q <:+ h
 UK:l.1 = -1→h.length=l.2.2.2.2.length
 out:l.2.2.1 = -1→h.length=q.length
instance (l:bb) (q h:List Int):Decidable (uK l q h):=Classical.propDecidable _
structure bG (nt:aq) (s:State):Prop where
 cf:cK nt
 na:s.1.length=nt.1.length
 nq:s.2.1.length=nt.2.length
 ns:s.2.2.1.length=nt.2.length
 steps:0≤s.2.2.2∧s.2.2.2≤20000
 act:∀ i,i<nt.1.length→f_ (nt.1.getD i bC) (s.1.getD i bK)=true
 bH:∀ i,i<nt.2.length→uK (nt.2.getD i aE) (s.2.1.getD i []) (s.2.2.1.getD i [])
instance (nt:aq) (s:State):Decidable (bG nt s):=Classical.propDecidable _
def ij (nt:aq) (s:State):Bool:=decide (bG nt s)
theorem ac1 {q g:List Int} : uK l q g↔(bS q=true∧bS g=true∧l.2.2.2.2 <+: g∧q <:+ g∧(l.1 = -1→g.length=l.2.2.2.2.length)∧(l.2.2.1 = -1→g.length=q.length)):=
 ⟨fun o=>⟨o.qs,o.hs,o.pre,o.Dh,o.UK,o.out⟩,fun ⟨a,b,c,d,e,f⟩=>⟨a,b,c,d,e,f⟩⟩
theorem UL (l:bb) (q g:List Int):decide (uK l q g)=(bS q&&(bS g&&(decide (l.2.2.2.2 <+: g)&&(decide (q <:+ g)&&((!decide (l.1 = -1)||decide (g.length=l.2.2.2.2.length))&&(!decide (l.2.2.1 = -1)||decide (g.length=q.length))))))):=by apply Bool.eq_iff_iff.2;rw [decide_eq_true_iff,ac1];by_cases c5:l.1 = -1<;>by_cases c7:l.2.2.1 = -1<;>simp [c5,c7]
theorem ac2 {q g:List Int} {Y:Option (Bool×Unit)} (e1:l.2.2.2.2.length≤1048576) (e2:q.length≤1048576) (e3:g.length≤1048576) (hn:1048576<n) :
  (cut (α:=(Bool×Unit)) ((fE.f n q).bind fun NQ=>br (!NQ.1) (some (.inr (true,()))) ((fE.f n g).bind fun wN=>br (!wN.1) (some (.inr (true,()))) ((pL.f n l.2.2.2.2 g).bind fun mU=>br (!mU.1) (some (.inr (true,()))) ((wM.f n q g).bind fun Jh=>some (.inr (!Jh.1,())))))) fun NR=>br NR.1 (some (false,())) (br (decide (l.1=(-1))) (br (!decide ((g.length:Int)=(l.2.2.2.2.length:Int))) (some (false,())) (br (decide (l.2.2.1=(-1))) (br (!decide ((g.length:Int)=(q.length:Int))) (some (false,())) Y) Y)) (br (decide (l.2.2.1=(-1))) (br (!decide ((g.length:Int)=(q.length:Int))) (some (false,())) Y) Y))) =
  if decide (uK l q g)=true then Y else some (false,()):=by
 rw [wG e2 hn,wG e3 hn,NU e1 hn,acY e2 e3 hn];rw [UL];simp only [aC,show ((g.length:Int)=(l.2.2.2.2.length:Int))↔g.length=l.2.2.2.2.length by omega,show ((g.length:Int)=(q.length:Int))↔g.length=q.length by omega];generalize bS q=b1;generalize bS g=b2;generalize decide (l.2.2.2.2 <+: g)=b3;generalize decide (q <:+ g)=b4;generalize decide (l.1 = -1)=b5;generalize decide (l.2.2.1 = -1)=b6;generalize decide (g.length=l.2.2.2.2.length)=b7;generalize decide (g.length=q.length)=b8;cases b1<;>cases b2<;>cases b3<;>cases b4<;>cases b5<;>cases b6<;>cases b7<;>cases b8<;>rfl
theorem ac3 {q g:List Int} {Y:Option (Bool×Unit)} (e1:l.2.2.2.2.length≤1048576) (e2:q.length≤1048576) (e3:g.length≤1048576) (e4:bS l.2.2.2.2=true) (hn:1048576<n) :
  (cut (α:=(Bool×Unit)) ((eV.f n q).bind fun eA=>br (!eA.1) (some (.inr (true,()))) ((wO.f n l.2.2.2.2 g).bind fun F5=>br (!F5.1) (some (.inr (true,()))) (br (decide ((g.length:Int)<(q.length:Int))) (some (.inr (true,()))) (ab (0≤(ah ((g.length:Int)-(q.length:Int)))∧(ah ((g.length:Int)-(q.length:Int)))≤(g.length:Int)∧(g.length:Int)≤(g.length:Int)) ((qz.f n q ((g.take (g.length:Int).toNat).drop (ah ((g.length:Int)-(q.length:Int))).toNat)).bind fun rC=>some (.inr (!rC.1,()))))))) fun NS=>br NS.1 (some (false,())) (br (decide (l.1=(-1))) (br (!decide ((g.length:Int)=(l.2.2.2.2.length:Int))) (some (false,())) (br (decide (l.2.2.1=(-1))) (br (!decide ((q.length:Int)=(g.length:Int))) (some (false,())) Y) Y)) (br (decide (l.2.2.1=(-1))) (br (!decide ((q.length:Int)=(g.length:Int))) (some (false,())) Y) Y))) =
  if decide (uK l q g)=true then Y else some (false,()):=by
 rw [uD e2 hn,acZ e1 e3 hn,e4];rw [UL];simp only [aC,Bool.true_and,show ((g.length:Int)=(l.2.2.2.2.length:Int))↔g.length=l.2.2.2.2.length by omega,show ((q.length:Int)=(g.length:Int))↔g.length=q.length by omega];by_cases c0:g.length<q.length
 ·have c4:¬ q <:+ g:=fun e=>by have:=e.length_le; omega
  cases bS q<;>cases bS g<;>by_cases c3:l.2.2.2.2 <+: g<;>simp [c0,c3,c4,br,cut,show (g.length:Int)<(q.length:Int) by omega]
 rw [bP (by omega) (by omega),af (by omega),show ((g.length:Int)).toNat=g.length by omega,jj,show ((g.length:Int)-(q.length:Int)).toNat=g.length-q.length by omega,NT e2 hn];have c4':decide (q=g.drop (g.length-q.length))=decide (q <:+ g):=decide_eq_decide.2 (UJ (by omega)).symm;rw [c4'];simp only [aC];have c9:decide ((g.length:Int)<(q.length:Int))=false:=decide_eq_false (by omega);have c10:decide (q.length=g.length)=decide (g.length=q.length):=decide_eq_decide.2 ⟨Eq.symm,Eq.symm⟩;simp only [c9,c10];generalize bS q=b1;generalize bS g=b2;generalize decide (l.2.2.2.2 <+: g)=b3;generalize decide (q <:+ g)=b4;generalize decide (l.1 = -1)=b5;generalize decide (l.2.2.1 = -1)=b6;generalize decide (g.length=l.2.2.2.2.length)=b7;generalize decide (g.length=q.length)=b8;cases b1<;>cases b2<;>cases b3<;>cases b4<;>cases b5<;>cases b6<;>cases b7<;>cases b8<;>rfl
theorem Di (h:dq nt) (hs:kf s) (hn:1048576<n):nI.f n nt s=some (ij nt s,()):=by
 have hp:=h.eX;have hl:=h.dB;unfold nI.f ij;refine wC ?_;refine qv (!(cm nt)||(!(decide (s.1.length=nt.1.length))||(!(decide (s.2.1.length=nt.2.length))||(!(decide (s.2.2.1.length=nt.2.length))||!(decide (0≤s.2.2.2)&&decide (s.2.2.2≤20000))))),()) ?_ ?_
 ·rw [rz h hn,nG];simp only [aC,show ((s.1.length:Int)=(nt.1.length:Int))↔s.1.length=nt.1.length by omega,show ((s.2.1.length:Int)=(nt.2.length:Int))↔s.2.1.length=nt.2.length by omega,show ((s.2.2.1.length:Int)=(nt.2.length:Int))↔s.2.2.1.length=nt.2.length by omega];cases cm nt<;>cases decide (s.1.length=nt.1.length)<;>cases decide (s.2.1.length=nt.2.length)<;>cases decide (s.2.2.1.length=nt.2.length)<;>rfl
 rw [cw];refine ⟨fun a=>?_,fun a=>?_⟩
 ·simp only [ak,fF,false_iff];intro o;have:=o.steps;simp [cm,o.cf,o.na,o.nq,o.ns,o.steps] at a
 simp only [oB,Bool.not_eq_false',Bool.and_eq_true,decide_eq_true_eq,cm] at a;obtain ⟨a1,a2,a3,a4,a5⟩:=a;refine oF (bad:=some (false,())) s.1.length (fun i=>f_ (nt.1.getD i bC) (s.1.getD i bK)) (fun ih i hi=>?_) (fun ih=>av (bR _)) (by omega) (fun bF=>?_) (fun i hi hb=>?_)
 ·have h1:(i:Int)<(s.1.length:Int):=by omega
  simp only [h1,decide_true,aB,ay];rw [af (by simp),af (by simp; omega),ac0 (by rw [aJ hi]; exact hs.mV _ (ct hi)) hn,a_ (by omega),aC,yz]
 rotate_left
 ·simp only [ak,fF,false_iff];intro o; have:=o.act i (by omega); rw [hb] at this; simp at this
 refine oF (bad:=some (false,())) nt.2.length (fun i=>decide (uK (nt.2.getD i aE) (s.2.1.getD i []) (s.2.2.1.getD i []))) (fun ih i hi=>?_) (fun ih=>av (bR _)) (by omega) (fun iN=>?_) (fun i hi hb=>?_)
 ·have h1:(i:Int)<(nt.2.length:Int):=by omega
  have e1:((nt.2.getD i aE).2.2.2.2).length≤1048576:=by rw [aJ hi]; exact (h.link _ (ct hi)).tokens
  have e2:(s.2.1.getD i []).length≤1048576:=by rw [aJ (by omega)]; exact hs.queue _ (ct (by omega))
  have e3:(s.2.2.1.getD i []).length≤1048576:=by rw [aJ (by omega)]; exact hs.fG _ (ct (by omega))
  simp only [h1,decide_true,aB,ay];rw [af (by simp),af (by simp; omega),af (by simp; omega),a_ (by omega)];exact ac2 e1 e2 e3 hn
 ·simp only [ak,true_iff];exact ⟨a1,a2,a3,a4,a5,fun i hi=>bF i (by omega),fun i hi=>by simpa using iN i hi⟩
 simp only [ak,fF,false_iff];intro o; have:=o.bH i hi; exact of_decide_eq_false hb this
theorem Dj (h:dq nt) (hs:kf s) (hn:1048576<n):mb.f n nt s=some (ij nt s,()):=by
 have hp:=h.eX;have hl:=h.dB;unfold mb.f ij;refine wC ?_;refine qv (!(cm nt)||(!(decide (s.1.length=nt.1.length))||(!(decide (s.2.1.length=nt.2.length))||(!(decide (s.2.2.1.length=nt.2.length))||(decide (s.2.2.2<0)||decide (20000<s.2.2.2))))),()) ?_ ?_
 ·rw [s6 h hn];simp only [aC,show ((s.1.length:Int)=(nt.1.length:Int))↔s.1.length=nt.1.length by omega,show ((s.2.1.length:Int)=(nt.2.length:Int))↔s.2.1.length=nt.2.length by omega,show ((s.2.2.1.length:Int)=(nt.2.length:Int))↔s.2.2.1.length=nt.2.length by omega];cases cm nt<;>cases decide (s.1.length=nt.1.length)<;>cases decide (s.2.1.length=nt.2.length)<;>cases decide (s.2.2.1.length=nt.2.length)<;>cases decide (s.2.2.2<0)<;>rfl
 rw [cw];refine ⟨fun a=>?_,fun a=>?_⟩
 ·simp only [ak,fF,false_iff];intro o;have:=o.steps;simp [cm,o.cf,o.na,o.nq,o.ns] at a;omega
 simp only [oB,Bool.not_eq_false',Bool.and_eq_true,decide_eq_true_eq,decide_eq_false_iff_not,cm] at a;obtain ⟨a1,a2,a3,a4,a5⟩:=a;refine oF (bad:=some (false,())) nt.1.length (fun i=>f_ (nt.1.getD i bC) (s.1.getD i bK)) (fun ih i hi=>?_) (fun ih=>av (bR _)) (by omega) (fun bF=>?_) (fun i hi hb=>?_)
 ·have h1:(i:Int)<(nt.1.length:Int):=by omega
  simp only [h1,decide_true,aB,ay];rw [af (by simp),af (by simp; omega),ac_ (by rw [aJ (by omega)]; exact hs.mV _ (ct (by omega))) hn,a_ (by omega),aC,yz]
 rotate_left
 ·simp only [ak,fF,false_iff];intro o; have:=o.act i (by omega); rw [hb] at this; simp at this
 refine oF (bad:=some (false,())) nt.2.length (fun i=>decide (uK (nt.2.getD i aE) (s.2.1.getD i []) (s.2.2.1.getD i []))) (fun ih i hi=>?_) (fun ih=>av (bR _)) (by omega) (fun iN=>?_) (fun i hi hb=>?_)
 ·have h1:(i:Int)<(nt.2.length:Int):=by omega
  have e1:((nt.2.getD i aE).2.2.2.2).length≤1048576:=by rw [aJ hi]; exact (h.link _ (ct hi)).tokens
  have e2:(s.2.1.getD i []).length≤1048576:=by rw [aJ (by omega)]; exact hs.queue _ (ct (by omega))
  have e3:(s.2.2.1.getD i []).length≤1048576:=by rw [aJ (by omega)]; exact hs.fG _ (ct (by omega))
  have e4:bS (nt.2.getD i aE).2.2.2.2=true:=by rw [aJ hi]; exact a1.ji i hi
  simp only [h1,decide_true,aB,ay];rw [af (by simp),af (by simp; omega),af (by simp; omega),a_ (by omega)];exact ac3 e1 e2 e3 e4 hn
 ·simp only [ak,true_iff];exact ⟨a1,a2,a3,a4,by omega,fun i hi=>bF i (by omega),fun i hi=>by simpa using iN i hi⟩
 simp only [ak,fF,false_iff];intro o; have:=o.bH i hi; exact of_decide_eq_false hb this
theorem NV {caps:List Int} (h:dq nt) (hs:kf s) (hc:caps.length≤1048576) (hn:1048576<n):rB.f n nt s caps=some (ij nt s&&fi nt.2 caps,()):=by
 unfold rB.f;rw [acX h hc hn,Di h hs hn];simp only [aC];by_cases o:bG nt s
 ·have:cm nt=true:=by simp [cm,o.cf]
  rw [this];cases fi nt.2 caps<;>simp [br]
 have:ij nt s=false:=by simp [ij,o]
 rw [this];cases cm nt<;>cases fi nt.2 caps<;>rfl
end Go.AmT
namespace Go.AmT
open Go.Proofs Go.Proofs.Tryz
end Go.AmT
namespace Go.AmT
theorem mc {γ ρ:Type} {F:(γ→Option ρ)→γ→Option ρ} (st:Nat→γ) (len:Nat) {R:Option ρ} (h1:∀ ih i,i<len→F ih (st i)=ih (st (i+1))) (h2:∀ ih,F ih (st len)=R) {n:Nat} (hn:len<n):iter n F (st 0)=R:=by
 have:∀ k i,i+k=len→∀ n,k<n→iter n F (st i)=R:=by
  intro k;induction k with
  | zero=>intro i e n hn; obtain ⟨m,rfl⟩:∃ m,n=m+1:=⟨n-1,by omega⟩; rw [show i=len by omega]; exact h2 _
  | succ k ih=>intro i e n hn; obtain ⟨m,rfl⟩:∃ m,n=m+1:=⟨n-1,by omega⟩; exact (h1 _ i (by omega)).trans (ih (i+1) (by omega) m (by omega))
 exact this len 0 (by omega) n hn
theorem yO {α β γ ρ:Type} (l:List α) (g:α→β) (st:Int→List β→γ) {F:(γ→Option ρ)→γ→Option ρ} {R:List β→Option ρ}
  (h1:∀ ih i (hi:i<l.length) (s:List β),s.length=i→F ih (st i s)=ih (st ((i+1:Nat):Int) (s++[g l[i]])))
  (h2:∀ ih s,F ih (st l.length s)=R s) {n:Nat} (hn:l.length<n):iter n F (st 0 [])=R (l.map g):=by
 have:=mc (F:=F) (fun i=>st (i:Int) ((l.take i).map g)) l.length (R:=R (l.map g)) (fun ih i hi=>by
  show F ih (st (i:Int) ((l.take i).map g))=_;rw [h1 ih i hi _ (by simp; omega),iC hi,List.map_append]; rfl) (fun ih=>by
  show F ih (st (l.length:Int) _)=_;rw [h2]; simp) hn
 simpa using this
theorem ao {ρ β:Type} {x:β} {f:β→Option ρ} : (some x).bind f=f x:=rfl
theorem iD:(bo:Int)=140737488355328:=rfl
theorem db {m:Nat} {ρ:Type} {x:Option ρ} (h:m≤1000000000):ab (m≤bo) x=x:=af (by simp only [bo]; omega)
theorem qA {ρ:Type} {i:Decidable True} {x:Option ρ} : @ab ρ True i x=x:=af trivial
theorem mW {α:Type} {l:List α} {i:Nat} (h:i<l.length) (x z:α):(l.set i x).getD i z=x:=by simp [h]
theorem NW {α:Type} {Q:α→Prop} {F:(Int×Unit→Option α)→Int×Unit→Option α} (len:Nat) (p:Nat→Bool) {yes:Nat→Option α} {no:Option α}
  (h1:∀ ih (i:Nat),i<len→F ih ((i:Int),())=if p i=true then yes i else ih (((i+1:Nat):Int),())) (h2:∀ ih,F ih ((len:Int),())=no) {n:Nat} (hn:len<n)
  (hy:∀ i,i<len→p i=true→W (yes i) Q) (qj:(∀ i,i<len→p i=false)→W no Q):W (iter n F (0,())) Q:=by
 refine fT (fun i (_:Unit)=>((i:Int),())) len (fun i _=>∀ j,j<i→p j=false) (s0:=()) rfl (fun j hj=>by omega) hn (fun ih s hI=>?_) (fun ih i s hi hI hS=>?_)
 ·rw [h2]; exact qj hI
 rw [h1 ih i hi];cases hp:p i
 ·refine hS () (fun j hj=>?_);rcases Nat.lt_or_ge j i with h | h
  ·exact hI j h
  rwa [show j=i by omega]
 exact hy i hi hp
theorem Jk {p:Nat→Bool} {len i:Nat} (hi:i<len) (h:p i=true):(List.range len).any p=true:=List.any_eq_true.2 ⟨i,List.mem_range.2 hi,h⟩
theorem Jl {p:Nat→Bool} {len:Nat} (h:∀ i,i<len→p i=false):(List.range len).any p=false:=by rw [List.any_eq_false]; intro i hi; rw [h i (List.mem_range.1 hi)]; simp
theorem NX {α:Type} {b:Bool} {x y:Option α} : br b x y=if b=true then x else y:=by cases b<;>rfl
theorem uL {α β γ ρ:Type} (l:List α) (g:α→β) (st:Int→List β→γ) {F:(γ→Option ρ)→γ→Option ρ} {R:Option ρ}
  (h1:∀ ih i (hi:i<l.length) (s:List β),s.length=i→F ih (st i s)=ih (st ((i+1:Nat):Int) (s++[g l[i]])))
  (h2:∀ ih,F ih (st l.length (l.map g))=R) {n:Nat} (hn:l.length<n):iter n F (st 0 [])=R:=by
 have:=mc (F:=F) (fun i=>st (i:Int) ((l.take i).map g)) l.length (R:=R) (fun ih i hi=>by
  show F ih (st (i:Int) ((l.take i).map g))=_;rw [h1 ih i hi _ (by simp; omega),iC hi,List.map_append]; rfl) (fun ih=>by
  show F ih (st (l.length:Int) _)=_;rw [jj]; exact h2 ih) hn
 simpa using this
def eY {α:Type} (f:α→Int→α×Int):List α→Int→List α×Int
 | [],k=>([],k)
 | a::l,k=>((f a k).1::(eY f l (f a k).2).1,(eY f l (f a k).2).2)
def iE {α:Type} (f:α→Int→α×Int) (l:List α) (k:Int) (i:Nat):Int:=(eY f (l.take i) k).2
def lv {α:Type} (f:α→Int→α×Int) (l:List α) (k:Int) (i:Nat):List α:=(eY f (l.take i) k).1++l.drop i
variable {α:Type} {f:α→Int→α×Int}
theorem NY (a b:List α) (k:Int):eY f (a++b) k=((eY f a k).1++(eY f b (eY f a k).2).1,(eY f b (eY f a k).2).2):=by
 induction a generalizing k with
 | nil=>rfl
 | cons x a ih=>simp [eY,ih]
theorem wP (l:List α) (k:Int):(eY f l k).1.length=l.length:=by
 induction l generalizing k with
 | nil=>rfl
 | cons x a ih=>simp [eY,ih]
theorem UM {l:List α} {k:Int} {i:Nat} (hi:i<l.length):iE f l k (i+1)=(f l[i] (iE f l k i)).2:=by unfold iE;rw [iC hi,NY]; rfl
theorem UN {l:List α} {k:Int} : iE f l k 0=k:=by simp [iE,eY]
theorem ac4 {l:List α} {k:Int} : lv f l k 0=l:=by simp [lv,eY]
theorem ac5 {l:List α} {k:Int} {i:Nat} : (lv f l k i).length=l.length:=by simp [lv,wP]; omega
theorem ac6 {l:List α} {k:Int} : lv f l k l.length=(eY f l k).1:=by simp [lv]
theorem NZ {l:List α} {k:Int} : iE f l k l.length=(eY f l k).2:=by simp [iE]
theorem ac7 {l:List α} {k:Int} {i:Nat} (hi:i<l.length) (z:α):(lv f l k i).getD i z=l[i]:=by unfold lv;rw [jN,Ew (by simp [wP]; omega)];simp [wP,Nat.min_eq_left (Nat.le_of_lt hi),hi]
theorem ac8 {l:List α} {k:Int} {i:Nat} (hi:i<l.length):lv f l k (i+1)=(lv f l k i).set i (f l[i] (iE f l k i)).1:=by
 unfold lv iE;have hl:(eY f (l.take i) k).1.length=i:=by simp [wP]; omega
 rw [iC hi,NY,List.set_append_right _ _ (by omega),hl,Nat.sub_self];simp only [eY,List.append_assoc,List.singleton_append];rw [List.drop_eq_getElem_cons hi]; rfl
theorem ac9 {l:List α} {k:Int} {i:Nat} (hi:i<l.length) (z:α):(eY f l k).1.getD i z=(f l[i] (iE f l k i)).1:=by
 have e:l=l.take i++l[i]::l.drop (i+1):=by rw [List.getElem_cons_drop,List.take_append_drop]
 have:(eY f l k).1=(eY f (l.take i) k).1++(f l[i] (iE f l k i)).1::(eY f (l.drop (i+1)) (f l[i] (iE f l k i)).2).1:=by
  conv=>lhs; rw [e]
  rw [NY]; rfl
 rw [this,jN,Ew (by simp [wP]; omega)];simp [wP,Nat.min_eq_left (Nat.le_of_lt hi)]
theorem ada {l:List α} {k B:Int} (hB:0≤B) (h:∀ x∈l,∀ k,k≤(f x k).2∧(f x k).2≤k+B):k≤(eY f l k).2∧(eY f l k).2≤k+B*l.length:=by
 induction l generalizing k with
 | nil=>simp [eY]
 | cons x a ih=>
  have h1:=h x (by simp) k;have h2:=ih (k:=(f x k).2) (fun y hy=>h y (by simp [hy]));simp only [eY,List.length_cons];have:B*((a.length+1:Nat):Int)=B*a.length+B:=by rw [Int.natCast_add,Int.mul_add]; simp
  omega
theorem adb {l:List α} {k B:Int} (hB:0≤B) (h:∀ x∈l,∀ k,k≤(f x k).2∧(f x k).2≤k+B) (i:Nat):k≤iE f l k i∧iE f l k i≤k+B*l.length:=by have:=ada (f:=f) (l:=l.take i) (k:=k) hB (fun x hx=>h x (List.mem_of_mem_take hx));have h2:B*((l.take i).length:Int)≤B*l.length:=Int.mul_le_mul_of_nonneg_left (by simp; omega) hB;unfold iE; omega
theorem ade {γ ρ:Type} {F:(γ→Option ρ)→γ→Option ρ} (f:α→Int→α×Int) (st:Int→Nat→List α→γ) {l:List α} {k:Int} {R:Option ρ}
  (h1:∀ ih i (hi:i<l.length) (m:List α),m.length=l.length→(∀ z,m.getD i z=l[i])→F ih (st (iE f l k i) i m)=ih (st (f l[i] (iE f l k i)).2 (i+1) (m.set i (f l[i] (iE f l k i)).1)))
  (h2:∀ ih (m:List α),m.length=l.length→m=(eY f l k).1→F ih (st (eY f l k).2 l.length m)=R) {n:Nat} (hn:l.length<n):iter n F (st k 0 l)=R:=by
 have:=mc (F:=F) (fun i=>st (iE f l k i) i (lv f l k i)) l.length (R:=R) (fun ih i hi=>by
  show F ih (st _ i _)=_;rw [h1 ih i hi _ ac5 (ac7 hi),← UM hi,← ac8 hi]) (fun ih=>by
  show F ih (st _ _ _)=_;rw [NZ,ac6]; exact h2 ih _ (wP l k) rfl) hn
 simpa only [UN,ac4] using this
theorem adf {γ ρ:Type} {F:(γ→Option ρ)→γ→Option ρ} (f:α→Int→α×Int) (st:Int→Nat→γ) {l:List α} {k:Int} {R:Option ρ}
  (h1:∀ ih i (hi:i<l.length),(∀ z,(eY f l k).1.getD i z=(f l[i] (iE f l k i)).1)→F ih (st (iE f l k i) i)=ih (st (f l[i] (iE f l k i)).2 (i+1)))
  (h2:∀ ih,F ih (st (eY f l k).2 l.length)=R) {n:Nat} (hn:l.length<n):iter n F (st k 0)=R:=by
 have:=mc (F:=F) (fun i=>st (iE f l k i) i) l.length (R:=R) (fun ih i hi=>by
  show F ih (st _ i)=_;rw [h1 ih i hi (fun z=>ac9 hi z),← UM hi]) (fun ih=>by
  show F ih (st _ _)=_;rw [NZ]; exact h2 ih) hn
 simpa only [UN] using this
end Go.AmT
namespace Go.AmT
end Go.AmT
