/- States, in plain Lean: both programs tell the same states valid. -/
import Derived.Test.YtjfaphipihgomaaGreatDoorLSt
open Go Go.Am
noncomputable section
set_option linter.unusedVariables false
set_option linter.unusedSimpArgs false
set_option maxRecDepth 100000
open Bool renaming false_eq_true → fM, or_eq_false_iff → oW
open Int renaming lt_irrefl → bH, toNat_natCast → az
open List renaming getElem_mem → bV
open Option renaming bind_some → aA
namespace Go.AmT
variable {n:Nat} {left:Int} {a:List (List Int)} {s:State} {l:aK} {nt:ak}
structure gP (s:State):Prop where
 B5:s.1.length≤1048576
 mr:∀ a∈s.1,a.2.length≤1048576
 B6:s.2.1.length≤1048576
 queue:∀ q∈s.2.1,q.length≤1048576
 B7:s.2.2.1.length≤1048576
 po:∀ q∈s.2.2.1,q.length≤1048576
theorem VC {α:Type} (a:List α) (S:α→Prop) (g:α→Int→Option (Int×Unit)) {F:(Int×(Int×Unit)→Option (Int×Unit))→Int×(Int×Unit)→Option (Int×Unit)}
  (hg:∀ x∈a,∀ left,0≤left→left≤1048576→Left left (g x left) (S x))
  (hF:∀ ih (i:Nat) (hi:i<a.length) (left:Int),F ih (left,(i:Int),())=(g a[i] left).bind fun r=>br (decide (r.1<0)) (some (-1,())) (ih (r.1,((i+1:Nat):Int),())))
  (hE:∀ ih left,F ih (left,(a.length:Int),())=some (left,())) {n:Nat} (hn:a.length<n) {left VD:Int} (h0:0≤left) (h1:left≤1048576) (hle:left≤VD) {P:Prop} (hP:(∀ x∈a,S x)→P) :
  Left VD (iter n F (left,0,())) P:=by
 obtain ⟨r,e,r1,r2⟩:=OA a S g hg hF hE hn h0 h1;exact ⟨r,e,by omega,fun h=>hP (r2 h)⟩
theorem ad4 (n:Nat) {p:aY} {left:Int} (hm:p.2.length≤maxLen) (h0:0≤left) (h1:left≤1048576):Left left (xn.f n p left) (p.2.length≤1048576):=by
 obtain ⟨r,e,h2,h3⟩:=J4 n hm h0 h1;unfold xn.f;rw [e];by_cases h:r<0
 ·exact ⟨-1,by simp [h,br],by omega,fun h=>by omega⟩
 exact ⟨r,by simp [h,br],h2,fun h=>h3 h⟩
theorem ad5 {a:List aY} (hn:1048576<n) (hm:a.length≤maxLen) (mo:∀ p∈a,p.2.length≤maxLen) (h0:0≤left) (h1:left≤1048576) :
  Left left (zz.f n a left) (a.length≤1048576∧∀ p∈a,p.2.length≤1048576):=by
 have qM:=D7;unfold zz.f;rw [bM (by omega) (by omega)];by_cases h:left-(a.length:Int)<0
 ·exact ⟨-1,by simp [h,br],by omega,fun h=>by omega⟩
 rw [au h];refine VC a (fun p=>p.2.length≤1048576) (fun p=>xn.f n p) (fun x hx left=>ad4 n (mo x hx)) (fun ih i hi left=>?_) (fun ih left=>au (bH _)) (by omega) (by omega) (by omega) (by omega) (fun h=>⟨by omega,h⟩);have h1:(i:Int)<(a.length:Int):=by omega
 simp only [h1,decide_true,ax,az,aU hi];rw [af (by simp),ba (by omega)]
theorem VE (hn:1048576<n) (hm:a.length≤maxLen) (mo:∀ p∈a,p.length≤maxLen) (h0:0≤left) (h1:left≤1048576) :
  Left left (xo.f n a left) (a.length≤1048576∧∀ p∈a,p.length≤1048576):=by
 have qM:=D7;unfold xo.f;rw [bM (by omega) (by omega)];by_cases h:left-(a.length:Int)<0
 ·exact ⟨-1,by simp [h,br],by omega,fun h=>by omega⟩
 rw [au h];refine VC a (fun p=>p.length≤1048576) (fun p=>jk.f n p) (fun x hx left=>J4 n (mo x hx)) (fun ih i hi left=>?_) (fun ih left=>au (bH _)) (by omega) (by omega) (by omega) (by omega) (fun h=>⟨by omega,h⟩);have h1:(i:Int)<(a.length:Int):=by omega
 simp only [h1,decide_true,ax,az,aU hi];rw [af (by simp),ba (by omega)]
theorem Left.next {o:Option (Int×Unit)} {P Q:Prop} {f:Int×Unit→Option (Int×Unit)} (h:Left left o P) (h0:0≤left) (h1:left≤1048576) (hf:P→∀ r:Int,0≤r→r≤1048576→r≤left→Left left (f (r,())) Q) :
  Left left (o.bind fun r=>br (decide (r.1<0)) (some (-1,())) (f r)) Q:=by
 obtain ⟨r,rfl,r1,r2⟩:=h;simp only [aA];by_cases h:r<0
 ·exact ⟨-1,by simp [h,br],by omega,fun h=>by omega⟩
 rw [au h]
 grind
theorem Left.mono {VF:Int} {o:Option (Int×Unit)} {P:Prop} (h:Left left o P) (hl:left≤VF):Left VF o P:=by obtain ⟨r,e,r1,r2⟩:=h;exact ⟨r,e,by omega,r2⟩
theorem Left.done {r:Int} {P:Prop} (h:r≤left) (hp:P):Left left (some (r,())) P:=⟨r,rfl,h,fun _=>hp⟩
theorem ad6 (hn:1048576<n) (hx:qd dk s) (h0:0≤left) (h1:left≤1048576):Left left (zA.f n s left) (gP s):=by
 obtain ⟨⟨a1,a2⟩,⟨q1,q2⟩,⟨s1,s2⟩,-⟩:=hx;unfold zA.f;refine Left.next (ad5 hn a1 (fun p hp=>(a2 p hp).2.1) h0 h1) h0 h1 (fun ⟨b1,b2⟩ r r0 r1 rl=>Left.mono ?_ rl)
 refine Left.next (VE hn q1 (fun p hp=>(q2 p hp).1) r0 r1) r0 r1 (fun ⟨c1,c2⟩ r' r0 r1 rl=>Left.mono ?_ rl)
 refine Left.next (VE hn s1 (fun p hp=>(s2 p hp).1) r0 r1) r0 r1 (fun ⟨d1,d2⟩ r' r0 r1 rl=>.done rl ⟨b1,b2,c1,c2,d1,d2⟩)
theorem ad7 {p:aY} (hp:p.2.length≤1048576) (hn:1048576<n):xp.f n p=some (p,()):=by unfold xp.f;rw [J5 hp hn]; rfl
theorem ad8 {a:List aY} (hl:a.length≤1048576) (ha:∀ p∈a,p.2.length≤1048576) (hn:1048576<n):zB.f n a=some (a,()):=by
 unfold zB.f;rw [af (by refine ⟨rfl,by omega,?_⟩; have:(bn:Int)=140737488355328:=rfl; omega)];refine GI a (fun x=>xp.f n x) (fun x hx=>ad7 (ha x hx) hn) (fun ih i hi ys hy=>?_) (fun ih ys=>au (bH _)) (by omega) (by simp);have h1:(i:Int)<(a.length:Int):=by omega
 have h2:(i:Int)<(ys.length:Int):=by omega
 simp only [h1,decide_true,ax,az,aU hi];rw [af (by simp)];congr 1; funext r;rw [af (by omega),ba (by omega)]
theorem VG (hl:a.length≤1048576) (ha:∀ p∈a,p.length≤1048576) (hn:1048576<n):xq.f n a=some (a,()):=by
 unfold xq.f;rw [af (by refine ⟨rfl,by omega,?_⟩; have:(bn:Int)=140737488355328:=rfl; omega)];refine GI a (fun x=>iA.f n x) (fun x hx=>J5 (ha x hx) hn) (fun ih i hi ys hy=>?_) (fun ih ys=>au (bH _)) (by omega) (by simp);have h1:(i:Int)<(a.length:Int):=by omega
 have h2:(i:Int)<(ys.length:Int):=by omega
 simp only [h1,decide_true,ax,az,aU hi];rw [af (by simp)];congr 1; funext r;rw [af (by omega),ba (by omega)]
theorem ad9 (h:gP s) (hn:1048576<n):toState.f n s=some (s,()):=by unfold toState.f;rw [ad8 h.B5 h.mr hn,VG h.B6 h.queue hn,VG h.B7 h.po hn]; rfl
theorem aea {p:aY} (hp:p.2.length≤1048576) (hn:1048576<n):xx.f n p p=some (true,()):=by unfold xx.f;rw [J6 hp hn]; simp [br]
theorem aeb {a:List aY} (hl:a.length≤1048576) (ha:∀ p∈a,p.2.length≤1048576) (hn:1048576<n):zF.f n a a=some (true,()):=by
 unfold zF.f;simp only [decide_true,Bool.not_true,aw];refine GJ a (fun x y=>xx.f n x y) (fun x hx=>aea (ha x hx) hn) (fun ih i hi=>?_) (fun ih=>au (bH _)) (by omega);have h1:(i:Int)<(a.length:Int):=by omega
 simp only [h1,decide_true,ax,az,aU hi];rw [af (by simp),af (by simp),ba (by omega)]
theorem VH (hl:a.length≤1048576) (ha:∀ p∈a,p.length≤1048576) (hn:1048576<n):xy.f n a a=some (true,()):=by
 unfold xy.f;simp only [decide_true,Bool.not_true,aw];refine GJ a (fun x y=>jl.f n x y) (fun x hx=>J6 (ha x hx) hn) (fun ih i hi=>?_) (fun ih=>au (bH _)) (by omega);have h1:(i:Int)<(a.length:Int):=by omega
 simp only [h1,decide_true,ax,az,aU hi];rw [af (by simp),af (by simp),ba (by omega)]
theorem aec (h:gP s) (hn:1048576<n):zG.f n s s=some (true,()):=by unfold zG.f;rw [aeb h.B5 h.mr hn,VH h.B6 h.queue hn,VH h.B7 h.po hn]; simp [br]
theorem VI {a b:List Int} (hl:a.length=b.length) (h:∀ i,i<a.length→a.getD i 0=b.getD i 0):a=b:=by
 refine List.ext_getElem hl (fun i h1 h2=>?_)
 grind
theorem OK {a b:List Int} (hl:a.length≤1048576) (hn:1048576<n):ri.f n a b=some (decide (a=b),()):=by
 unfold ri.f;by_cases h:a.length=b.length
 ·have h':(a.length:Int)=(b.length:Int):=by omega
  rw [show (!decide ((a.length:Int)=(b.length:Int)))=false by grind,aw];refine w8 (o5 (bad:=some (false,())) a.length (fun i=>decide (a.getD i 0=b.getD i 0)) (fun ih i hi=>?_) (fun ih=>au (bH _)) (by omega) (fun bK=>?_) (fun i hi hb=>?_))
  ·have h1:(i:Int)<(a.length:Int):=by omega
   simp only [h1,decide_true,ax,az];rw [af (by simp),af (by omega),ba (by omega),zq]
  ·simp only [ao,true_iff];exact VI h (fun i hi=>by grind)
  simp only [ao,fM,false_iff]
  grind
 have h':¬ (a.length:Int)=(b.length:Int):=by omega
 have aG:a≠b:=fun e=>h (by rw [e]);simp [h',aG,br]
theorem RJ {a b:List Int} : a <+: b↔a.length≤b.length∧∀ i,i<a.length→b.getD i 0=a.getD i 0:=by
 constructor
 ·rintro ⟨c,rfl⟩
  grind
 rintro ⟨hl,h⟩;rw [List.prefix_iff_eq_take];refine VI (by grind) (fun i hi=>?_)
 grind
theorem OL {a b:List Int} (hl:a.length≤1048576) (hn:1048576<n):qo.f n a b=some (decide (a <+: b),()):=by
 unfold qo.f;by_cases h:b.length<a.length
 ·have aG:¬ a <+: b:=fun e=>by grind
  simp [aG,br,show (b.length:Int)<(a.length:Int) by omega]
 rw [au (by omega)];refine w8 (o5 (bad:=some (false,())) a.length (fun i=>decide (b.getD i 0=a.getD i 0)) (fun ih i hi=>?_) (fun ih=>au (bH _)) (by omega) (fun bK=>?_) (fun i hi hb=>?_))
 ·have h1:(i:Int)<(a.length:Int):=by omega
  simp only [h1,decide_true,ax,az];rw [af (by simp),af (by omega),ba (by omega),zq]
 ·simp only [ao,true_iff];exact RJ.2 ⟨by omega,fun i hi=>by grind⟩
 simp only [ao,fM,false_iff];intro e;have:=(RJ.1 e).2 i hi
 grind
theorem VJ {a b:List Int} (h:a.length≤b.length):a <:+ b↔a=b.drop (b.length-a.length):=List.suffix_iff_eq_drop
theorem aed {a b:List Int} (hl:a.length≤1048576) (hb:b.length≤1048576) (hn:1048576<n):xt.f n a b=some (decide (a <:+ b),()):=by
 unfold xt.f;by_cases h:a.length≤b.length
 ·have h':(a.length:Int)≤(b.length:Int):=by omega
  rw [aM h',bM (by omega) (by omega),af (by omega)];simp only [az,List.take_length];rw [show ((b.length:Int)-(a.length:Int)).toNat=b.length-a.length by omega,OL hl hn];simp only [aA];congr 2;refine decide_eq_decide.2 ?_;rw [VJ h];constructor
  ·intro hp;obtain ⟨c,hc⟩:=hp;have:c=[]:=by have:=congrArg List.length hc;simp at this;exact List.eq_nil_of_length_eq_zero (by omega)
   grind
  grind
 have aG:¬ a <:+ b:=fun e=>h e.length_le;simp [aG,br,show ¬ (a.length:Int)≤(b.length:Int) by omega]
theorem aee {a b:List Int} (hl:a.length≤1048576) (hb:b.length≤1048576) (hn:1048576<n):xw.f n a b=some (bX a&&(bX b&&decide (a <+: b)),()):=by
 unfold xw.f;rw [vo hl hn,vo hb hn];simp only [aA];cases bX a with
 | false=>rfl
 | true=>cases bX b with
  | false=>rfl
  | true=>
   simp only [ax,Bool.true_and];by_cases h:a.length≤b.length
   ·rw [aM (by omega),af (by omega)];simp only [az,List.drop_zero];rw [OK hl hn];simp only [aA];congr 2;exact decide_eq_decide.2 List.prefix_iff_eq_take.symm
   have aG:¬ a <+: b:=fun e=>h e.length_le;rw [au (by omega)]
   grind
def gj (p:Program) (a:aY):Bool:=decide (0≤a.1)&&(decide (a.1≤(p.2.2.length:Int))&&(decide (a.2.length=4)&&bX a.2))
theorem aef {p:Program} {a:aY} (hl:a.2.length≤1048576) (hn:1048576<n):zD.f n p a=some (gj p a,()):=by unfold zD.f gj;rw [vo hl hn];simp only [aA];by_cases h1:0≤a.1<;>by_cases h2:a.1≤(p.2.2.length:Int)<;>by_cases h3:a.2.length=4<;>simp [h1,h2,h3,br,show ((a.2.length:Int)=4)↔a.2.length=4 by omega]
theorem aeg {p:Program} {a:aY} (hl:a.2.length≤1048576) (hn:1048576<n):zC.f n p a=some (gj p a,()):=by unfold zC.f gj;rw [xg hl hn,n_];simp only [aA];by_cases h1:0≤a.1<;>by_cases h2:a.1≤(p.2.2.length:Int)<;>by_cases h3:a.2.length=4<;>simp [h1,h2,h3,br,show ((a.2.length:Int)=4)↔a.2.length=4 by omega]
structure vw (l:aK) (q h:List Int):Prop where
 qs:bX q=true
 hs:bX h=true
 pre:l.2.2.2.2 <+: h
 Ka:q <:+ h
 VK:l.1 = -1→h.length=l.2.2.2.2.length
 out:l.2.2.1 = -1→h.length=q.length
instance (l:aK) (q h:List Int):Decidable (vw l q h):=Classical.propDecidable _
structure bU (nt:ak) (s:State):Prop where
 cb:cQ nt
 na:s.1.length=nt.1.length
 nq:s.2.1.length=nt.2.length
 ns:s.2.2.1.length=nt.2.length
 steps:0≤s.2.2.2∧s.2.2.2≤20000
 act:∀ i,i<nt.1.length→gj (nt.1.getD i bf) (s.1.getD i bz)=true
 bN:∀ i,i<nt.2.length→vw (nt.2.getD i ay) (s.2.1.getD i []) (s.2.2.1.getD i [])
instance (nt:ak) (s:State):Decidable (bU nt s):=Classical.propDecidable _
def gk (nt:ak) (s:State):Bool:=decide (bU nt s)
theorem aeh {q g:List Int} : vw l q g↔(bX q=true∧bX g=true∧l.2.2.2.2 <+: g∧q <:+ g∧(l.1 = -1→g.length=l.2.2.2.2.length)∧(l.2.2.1 = -1→g.length=q.length)):=
 ⟨fun o=>⟨o.qs,o.hs,o.pre,o.Ka,o.VK,o.out⟩,fun ⟨a,b,c,d,e,f⟩=>⟨a,b,c,d,e,f⟩⟩
theorem VL (l:aK) (q g:List Int):decide (vw l q g)=(bX q&&(bX g&&(decide (l.2.2.2.2 <+: g)&&(decide (q <:+ g)&&((!decide (l.1 = -1)||decide (g.length=l.2.2.2.2.length))&&(!decide (l.2.2.1 = -1)||decide (g.length=q.length))))))):=by
 apply Bool.eq_iff_iff.2;rw [decide_eq_true_iff,aeh]
 grind
theorem aei {q g:List Int} {Y:Option (Bool×Unit)} (e1:l.2.2.2.2.length≤1048576) (e2:q.length≤1048576) (e3:g.length≤1048576) (hn:1048576<n) :
  (cut (α:=(Bool×Unit)) ((fL.f n q).bind fun OH=>br (!OH.1) (some (.inr (true,()))) ((fL.f n g).bind fun xu=>br (!xu.1) (some (.inr (true,()))) ((qo.f n l.2.2.2.2 g).bind fun nk=>br (!nk.1) (some (.inr (true,()))) ((xt.f n q g).bind fun J8=>some (.inr (!J8.1,())))))) fun OI=>br OI.1 (some (false,())) (br (decide (l.1=(-1))) (br (!decide ((g.length:Int)=(l.2.2.2.2.length:Int))) (some (false,())) (br (decide (l.2.2.1=(-1))) (br (!decide ((g.length:Int)=(q.length:Int))) (some (false,())) Y) Y)) (br (decide (l.2.2.1=(-1))) (br (!decide ((g.length:Int)=(q.length:Int))) (some (false,())) Y) Y))) =
  if decide (vw l q g)=true then Y else some (false,()):=by
 rw [xg e2 hn,xg e3 hn,OL e1 hn,aed e2 e3 hn];rw [VL];simp only [aA,show ((g.length:Int)=(l.2.2.2.2.length:Int))↔g.length=l.2.2.2.2.length by omega,show ((g.length:Int)=(q.length:Int))↔g.length=q.length by omega];generalize bX q=b1;generalize bX g=b2;generalize decide (l.2.2.2.2 <+: g)=b3;generalize decide (q <:+ g)=b4;generalize decide (l.1 = -1)=b5;generalize decide (l.2.2.1 = -1)=b6;generalize decide (g.length=l.2.2.2.2.length)=b7;generalize decide (g.length=q.length)=b8;cases b1<;>cases b2<;>cases b3<;>cases b4<;>cases b5<;>cases b6<;>cases b7<;>cases b8<;>rfl
theorem aej {q g:List Int} {Y:Option (Bool×Unit)} (e1:l.2.2.2.2.length≤1048576) (e2:q.length≤1048576) (e3:g.length≤1048576) (e4:bX l.2.2.2.2=true) (hn:1048576<n) :
  (cut (α:=(Bool×Unit)) ((fb.f n q).bind fun ez=>br (!ez.1) (some (.inr (true,()))) ((xw.f n l.2.2.2.2 g).bind fun GW=>br (!GW.1) (some (.inr (true,()))) (br (decide ((g.length:Int)<(q.length:Int))) (some (.inr (true,()))) (ab (0≤(ag ((g.length:Int)-(q.length:Int)))∧(ag ((g.length:Int)-(q.length:Int)))≤(g.length:Int)∧(g.length:Int)≤(g.length:Int)) ((ri.f n q ((g.take (g.length:Int).toNat).drop (ag ((g.length:Int)-(q.length:Int))).toNat)).bind fun pn=>some (.inr (!pn.1,()))))))) fun OJ=>br OJ.1 (some (false,())) (br (decide (l.1=(-1))) (br (!decide ((g.length:Int)=(l.2.2.2.2.length:Int))) (some (false,())) (br (decide (l.2.2.1=(-1))) (br (!decide ((q.length:Int)=(g.length:Int))) (some (false,())) Y) Y)) (br (decide (l.2.2.1=(-1))) (br (!decide ((q.length:Int)=(g.length:Int))) (some (false,())) Y) Y))) =
  if decide (vw l q g)=true then Y else some (false,()):=by
 rw [vo e2 hn,aee e1 e3 hn,e4];rw [VL];simp only [aA,Bool.true_and,show ((g.length:Int)=(l.2.2.2.2.length:Int))↔g.length=l.2.2.2.2.length by omega,show ((q.length:Int)=(g.length:Int))↔g.length=q.length by omega];by_cases c0:g.length<q.length
 ·have c4:¬ q <:+ g:=fun e=>by have:=e.length_le; omega
  cases bX q<;>cases bX g<;>by_cases c3:l.2.2.2.2 <+: g<;>simp [c0,c3,c4,br,cut,show (g.length:Int)<(q.length:Int) by omega]
 rw [bM (by omega) (by omega),af (by omega),show ((g.length:Int)).toNat=g.length by omega,List.take_length,show ((g.length:Int)-(q.length:Int)).toNat=g.length-q.length by omega,OK e2 hn];have c4':decide (q=g.drop (g.length-q.length))=decide (q <:+ g):=decide_eq_decide.2 (VJ (by omega)).symm;rw [c4'];simp only [aA];have c9:decide ((g.length:Int)<(q.length:Int))=false:=decide_eq_false (by omega);have c10:decide (q.length=g.length)=decide (g.length=q.length):=decide_eq_decide.2 ⟨Eq.symm,Eq.symm⟩;simp only [c9,c10];generalize bX q=b1;generalize bX g=b2;generalize decide (l.2.2.2.2 <+: g)=b3;generalize decide (q <:+ g)=b4;generalize decide (l.1 = -1)=b5;generalize decide (l.2.2.1 = -1)=b6;generalize decide (g.length=l.2.2.2.2.length)=b7;generalize decide (g.length=q.length)=b8;cases b1<;>cases b2<;>cases b3<;>cases b4<;>cases b5<;>cases b6<;>cases b7<;>cases b8<;>rfl
theorem D9 {n:Nat} {nt:ak} {s:State} (h:cL nt) (hs:gP s) (hn:1048576<n):od.f n nt s=some (gk nt s,()):=by
 have hp:=h.dZ
 have hl:=h.dp
 unfold od.f gk
 refine w8 ?_
 refine re (!(cr nt)||(!(decide (s.1.length=nt.1.length))||(!(decide (s.2.1.length=nt.2.length))||(!(decide (s.2.2.1.length=nt.2.length))||!(decide (0≤s.2.2.2)&&decide (s.2.2.2≤20000))))),()) ?_ ?_
 ·rw [sb h hn,n_]
  simp only [aA,show ((s.1.length:Int)=(nt.1.length:Int))↔s.1.length=nt.1.length by omega,show ((s.2.1.length:Int)=(nt.2.length:Int))↔s.2.1.length=nt.2.length by omega,show ((s.2.2.1.length:Int)=(nt.2.length:Int))↔s.2.2.1.length=nt.2.length by omega]
  cases cr nt<;>cases decide (s.1.length=nt.1.length)<;>cases decide (s.2.1.length=nt.2.length)<;>cases decide (s.2.2.1.length=nt.2.length)<;>rfl
 rw [cC]
 refine ⟨fun a=>?_,fun a=>?_⟩
 ·simp only [ao,fM,false_iff]
  intro o
  have:=o.steps
  simp [cr,o.cb,o.na,o.nq,o.ns,o.steps] at a
 simp only [oW,Bool.not_eq_false',Bool.and_eq_true,decide_eq_true_eq,cr] at a
 obtain ⟨a1,a2,a3,a4,a5⟩:=a
 refine o5 (bad:=some (false,())) s.1.length (fun i=>gj (nt.1.getD i bf) (s.1.getD i bz)) (fun ih i hi=>?_) (fun ih=>au (bH _)) (by omega) (fun bK=>?_) (fun i hi hb=>?_)
 ·have h1:(i:Int)<(s.1.length:Int):=by omega
  simp only [h1,decide_true,ax,az]
  rw [af (by simp),af (by simp; omega),aeg (by rw [aU hi]; exact hs.mr _ (bV hi)) hn,ba (by omega),aA,zq]
 rotate_left
 ·simp only [ao,fM,false_iff]
  intro o; have:=o.act i (by omega); rw [hb] at this; simp at this
 refine o5 (bad:=some (false,())) nt.2.length (fun i=>decide (vw (nt.2.getD i ay) (s.2.1.getD i []) (s.2.2.1.getD i []))) (fun ih i hi=>?_) (fun ih=>au (bH _)) (by omega) (fun jY=>?_) (fun i hi hb=>?_)
 ·have h1:(i:Int)<(nt.2.length:Int):=by omega
  have e1:((nt.2.getD i ay).2.2.2.2).length≤1048576:=by rw [aU hi]; exact (h.link _ (bV hi)).tokens
  have e2:(s.2.1.getD i []).length≤1048576:=by rw [aU (by omega)]; exact hs.queue _ (bV (by omega))
  have e3:(s.2.2.1.getD i []).length≤1048576:=by rw [aU (by omega)]; exact hs.po _ (bV (by omega))
  simp only [h1,decide_true,ax,az]
  rw [af (by simp),af (by simp; omega),af (by simp; omega),ba (by omega)]
  exact aei e1 e2 e3 hn
 ·simp only [ao,true_iff]
  exact ⟨a1,a2,a3,a4,a5,fun i hi=>bK i (by omega),fun i hi=>by simpa using jY i hi⟩
 ·simp only [ao,fM,false_iff]
  intro o; have:=o.bN i hi; exact of_decide_eq_false hb this
theorem B8 {n:Nat} {nt:ak} {s:State} (h:cL nt) (hs:gP s) (hn:1048576<n):mq.f n nt s=some (gk nt s,()):=by
 have hp:=h.dZ
 have hl:=h.dp
 unfold mq.f gk
 refine w8 ?_
 refine re (!(cr nt)||(!(decide (s.1.length=nt.1.length))||(!(decide (s.2.1.length=nt.2.length))||(!(decide (s.2.2.1.length=nt.2.length))||(decide (s.2.2.2<0)||decide (20000<s.2.2.2))))),()) ?_ ?_
 ·rw [tW h hn]
  simp only [aA,show ((s.1.length:Int)=(nt.1.length:Int))↔s.1.length=nt.1.length by omega,show ((s.2.1.length:Int)=(nt.2.length:Int))↔s.2.1.length=nt.2.length by omega,show ((s.2.2.1.length:Int)=(nt.2.length:Int))↔s.2.2.1.length=nt.2.length by omega]
  cases cr nt<;>cases decide (s.1.length=nt.1.length)<;>cases decide (s.2.1.length=nt.2.length)<;>cases decide (s.2.2.1.length=nt.2.length)<;>cases decide (s.2.2.2<0)<;>rfl
 rw [cC]
 refine ⟨fun a=>?_,fun a=>?_⟩
 ·simp only [ao,fM,false_iff]
  intro o
  have:=o.steps
  simp [cr,o.cb,o.na,o.nq,o.ns] at a
  omega
 simp only [oW,Bool.not_eq_false',Bool.and_eq_true,decide_eq_true_eq,decide_eq_false_iff_not,cr] at a
 obtain ⟨a1,a2,a3,a4,a5⟩:=a
 refine o5 (bad:=some (false,())) nt.1.length (fun i=>gj (nt.1.getD i bf) (s.1.getD i bz)) (fun ih i hi=>?_) (fun ih=>au (bH _)) (by omega) (fun bK=>?_) (fun i hi hb=>?_)
 ·have h1:(i:Int)<(nt.1.length:Int):=by omega
  simp only [h1,decide_true,ax,az]
  rw [af (by simp),af (by simp; omega),aef (by rw [aU (by omega)]; exact hs.mr _ (bV (by omega))) hn,ba (by omega),aA,zq]
 rotate_left
 ·simp only [ao,fM,false_iff]
  intro o; have:=o.act i (by omega); rw [hb] at this; simp at this
 refine o5 (bad:=some (false,())) nt.2.length (fun i=>decide (vw (nt.2.getD i ay) (s.2.1.getD i []) (s.2.2.1.getD i []))) (fun ih i hi=>?_) (fun ih=>au (bH _)) (by omega) (fun jY=>?_) (fun i hi hb=>?_)
 ·have h1:(i:Int)<(nt.2.length:Int):=by omega
  have e1:((nt.2.getD i ay).2.2.2.2).length≤1048576:=by rw [aU hi]; exact (h.link _ (bV hi)).tokens
  have e2:(s.2.1.getD i []).length≤1048576:=by rw [aU (by omega)]; exact hs.queue _ (bV (by omega))
  have e3:(s.2.2.1.getD i []).length≤1048576:=by rw [aU (by omega)]; exact hs.po _ (bV (by omega))
  have e4:bX (nt.2.getD i ay).2.2.2.2=true:=by rw [aU hi]; exact a1.j7 i hi
  simp only [h1,decide_true,ax,az]
  rw [af (by simp),af (by simp; omega),af (by simp; omega),ba (by omega)]
  exact aej e1 e2 e3 e4 hn
 ·simp only [ao,true_iff]
  exact ⟨a1,a2,a3,a4,by omega,fun i hi=>bK i (by omega),fun i hi=>by simpa using jY i hi⟩
 ·simp only [ao,fM,false_iff]
  intro o; have:=o.bN i hi; exact of_decide_eq_false hb this
theorem Kb {caps:List Int} (h:cL nt) (hs:gP s) (hc:caps.length≤1048576) (hn:1048576<n):sc.f n nt s caps=some (gk nt s&&eQ nt.2 caps,()):=by
 unfold sc.f;rw [ad3 h hc hn,D9 h hs hn];simp only [aA];by_cases o:bU nt s
 ·have:cr nt=true:=by simp [cr,o.cb]
  rw [this];cases eQ nt.2 caps<;>simp [br]
 have:gk nt s=false:=by simp [gk,o]
 rw [this];cases cr nt<;>cases eQ nt.2 caps<;>rfl
end Go.AmT
namespace Go.AmT
open Go.Proofs Go.Proofs.Tryz
def sd.la:LA:=⟨[(0,.nJ 0 bp 2 cV),(1,.int .i64)],[(0,.row true bp)],[],[]⟩
def sd.lb:LA:=⟨[(0,.int .i64)],[(0,.row true bp)],[],[]⟩
def sd.f (n:Nat) (a0:Nat) (a1:Int) (a2:List Program):Option (Int×List Program×Unit):=iter n (fun oc x9=>br (decide (x9.2.2.1<((x9.2.2.2.1.getD x9.1 bf).2.2.length:Int))) (ab (0≤x9.2.2.1∧x9.2.2.1<((x9.2.2.2.1.getD x9.1 bf).2.2.length:Int)) (let v11:=(x9.2.2.2.1.set x9.1 ((x9.2.2.2.1.getD x9.1 bf).1,(x9.2.2.2.1.getD x9.1 bf).2.1,(x9.2.2.2.1.getD x9.1 bf).2.2.set x9.2.2.1.toNat (x9.2.1,((x9.2.2.2.1.getD x9.1 bf).2.2.getD x9.2.2.1.toNat fK).2))); ab (0≤x9.2.2.1∧x9.2.2.1<((v11.getD x9.1 bf).2.2.length:Int)) (let v12:=(v11.set x9.1 ((v11.getD x9.1 bf).1,(v11.getD x9.1 bf).2.1,(v11.getD x9.1 bf).2.2.set x9.2.2.1.toNat (((v11.getD x9.1 bf).2.2.getD x9.2.2.1.toNat fK).1,ag (x9.2.1+1),((v11.getD x9.1 bf).2.2.getD x9.2.2.1.toNat fK).2.2))); ab (0≤x9.2.2.1∧x9.2.2.1<((v12.getD x9.1 bf).2.2.length:Int)) (let jr:=(v12.set x9.1 ((v12.getD x9.1 bf).1,(v12.getD x9.1 bf).2.1,(v12.getD x9.1 bf).2.2.set x9.2.2.1.toNat (((v12.getD x9.1 bf).2.2.getD x9.2.2.1.toNat fK).1,((v12.getD x9.1 bf).2.2.getD x9.2.2.1.toNat fK).2.1,ag ((ag (x9.2.1+1))+1),((v12.getD x9.1 bf).2.2.getD x9.2.2.1.toNat fK).2.2.2))); ab (0≤x9.2.2.1∧x9.2.2.1<((jr.getD x9.1 bf).2.2.length:Int)) (let tX:=(jr.set x9.1 ((jr.getD x9.1 bf).1,(jr.getD x9.1 bf).2.1,(jr.getD x9.1 bf).2.2.set x9.2.2.1.toNat (((jr.getD x9.1 bf).2.2.getD x9.2.2.1.toNat fK).1,((jr.getD x9.1 bf).2.2.getD x9.2.2.1.toNat fK).2.1,((jr.getD x9.1 bf).2.2.getD x9.2.2.1.toNat fK).2.2.1,ag ((ag ((ag (x9.2.1+1))+1))+1)))); oc (x9.1,ag ((ag ((ag ((ag (x9.2.1+1))+1))+1))+1),ag (x9.2.2.1+1),tX,())))))) (some (x9.2.1,x9.2.2.2.1,()))) (a0,a1,0,a2,())
def sd.ae (n:Nat):cM:=⟨sd.la,sd.lb,fun x=>sd.f n x.1 x.2.1 x.2.2.1⟩
theorem sd.ok (n:Nat):ks 178 (sd.ae n):=lj n [(3,⟨[(0,.nJ 0 bp 2 cV),(1,.int .i64),(5,.int .i64)],[(0,.row true bp)],[],[]⟩)] [] aC aD func178
def zH.f (n:Nat) (a0:List Program) (a1:Int):Option (Int×List Program×Unit):=iter n (fun ml x7=>br (decide (x7.2.1<(x7.2.2.1.length:Int))) (ab (0≤x7.2.1∧x7.2.1<(x7.2.2.1.length:Int)) (let v9:=(x7.2.2.1.set x7.2.1.toNat (x7.1,(x7.2.2.1.getD x7.2.1.toNat bf).2)); ab (0≤x7.2.1∧x7.2.1<(v9.length:Int)) (let v10:=(v9.set x7.2.1.toNat ((v9.getD x7.2.1.toNat bf).1,ag (x7.1+1),(v9.getD x7.2.1.toNat bf).2.2)); ab (0≤x7.2.1∧x7.2.1<(v10.length:Int)) ((sd.f n x7.2.1.toNat (ag ((ag (x7.1+1))+1)) v10).bind fun cW=>ml (cW.1,ag (x7.2.1+1),cW.2.1,()))))) (some (x7.1,x7.2.2.1,()))) (a1,0,a0,())
def zH.ae (n:Nat):ar:=⟨[.io (.sl bp),.val I],[.val I],fun x=>zH.f n x.1 x.2.1⟩
theorem zH.ok (n:Nat):aH 102 (zH.ae n):=aJ n [(3,⟨[(0,.own 0 bp),(1,.int .i64),(5,.int .i64)],[(0,.row true bp)],[],[]⟩)] [] aC (dI (sd.ok n) aD) func102
def se.la:LA:=⟨[(0,.nJ 0 bJ 4 I),(1,.int .i64)],[(0,.row true bJ)],[],[]⟩
def se.lb:LA:=⟨[(0,.int .i64)],[(0,.row true bJ)],[],[]⟩
def se.f (n:Nat) (a0:Nat) (a1:Int) (a2:List aK):Option (Int×List aK×Unit):=iter n (fun fC x6=>br (decide (x6.2.2.1<((x6.2.2.2.1.getD x6.1 ay).2.2.2.2.length:Int))) (ab (0≤x6.2.2.1∧x6.2.2.1<((x6.2.2.2.1.getD x6.1 ay).2.2.2.2.length:Int)) (let v8:=(x6.2.2.2.1.set x6.1 ((x6.2.2.2.1.getD x6.1 ay).1,(x6.2.2.2.1.getD x6.1 ay).2.1,(x6.2.2.2.1.getD x6.1 ay).2.2.1,(x6.2.2.2.1.getD x6.1 ay).2.2.2.1,(x6.2.2.2.1.getD x6.1 ay).2.2.2.2.set x6.2.2.1.toNat x6.2.1)); fC (x6.1,ag (x6.2.1+1),ag (x6.2.2.1+1),v8,()))) (some (x6.2.1,x6.2.2.2.1,()))) (a0,a1,0,a2,())
def se.ae (n:Nat):cM:=⟨se.la,se.lb,fun x=>se.f n x.1 x.2.1 x.2.2.1⟩
theorem se.ok (n:Nat):ks 44 (se.ae n):=lj n [(3,⟨[(0,.nJ 0 bJ 4 I),(1,.int .i64),(5,.int .i64)],[(0,.row true bJ)],[],[]⟩)] [] aC aD func44
def zI.f (n:Nat) (a0:List aK) (a1:Int):Option (Int×List aK×Unit):=iter n (fun oc x9=>br (decide (x9.2.1<(x9.2.2.1.length:Int))) (ab (0≤x9.2.1∧x9.2.1<(x9.2.2.1.length:Int)) (let v11:=(x9.2.2.1.set x9.2.1.toNat (x9.1,(x9.2.2.1.getD x9.2.1.toNat ay).2)); ab (0≤x9.2.1∧x9.2.1<(v11.length:Int)) (let v12:=(v11.set x9.2.1.toNat ((v11.getD x9.2.1.toNat ay).1,ag (x9.1+1),(v11.getD x9.2.1.toNat ay).2.2)); ab (0≤x9.2.1∧x9.2.1<(v12.length:Int)) (let jr:=(v12.set x9.2.1.toNat ((v12.getD x9.2.1.toNat ay).1,(v12.getD x9.2.1.toNat ay).2.1,ag ((ag (x9.1+1))+1),(v12.getD x9.2.1.toNat ay).2.2.2)); ab (0≤x9.2.1∧x9.2.1<(jr.length:Int)) (let tX:=(jr.set x9.2.1.toNat ((jr.getD x9.2.1.toNat ay).1,(jr.getD x9.2.1.toNat ay).2.1,(jr.getD x9.2.1.toNat ay).2.2.1,ag ((ag ((ag (x9.1+1))+1))+1),(jr.getD x9.2.1.toNat ay).2.2.2.2)); ab (0≤x9.2.1∧x9.2.1<(tX.length:Int)) ((se.f n x9.2.1.toNat (ag ((ag ((ag ((ag (x9.1+1))+1))+1))+1)) tX).bind fun dz=>oc (dz.1,ag (x9.2.1+1),dz.2.1,()))))))) (some (x9.1,x9.2.2.1,()))) (a1,0,a0,())
def zI.ae (n:Nat):ar:=⟨[.io (.sl bJ),.val I],[.val I],fun x=>zI.f n x.1 x.2.1⟩
theorem zI.ok (n:Nat):aH 103 (zI.ae n):=aJ n [(3,⟨[(0,.own 0 bJ),(1,.int .i64),(5,.int .i64)],[(0,.row true bJ)],[],[]⟩)] [] aC (dI (se.ok n) aD) func103
def zJ.f (n:Nat) (a0:ak) (a1:Int):Option (Int×List Program×List aK×Unit):=(zH.f n a0.1 a1).bind fun r1=>(zI.f n a0.2 r1.1).bind fun r2=>some (r2.1,r1.2.1,r2.2.1,())
def zJ.ae (n:Nat):ar:=⟨[.io bZ,.val I],[.val I],fun x=>zJ.f n x.1 x.2.1⟩
theorem zJ.ok (n:Nat):aH 42 (zJ.ae n):=aJ n [] [] (ai (zH.ok n) (ai (zI.ok n) aC)) aD func42
def zK.f (n:Nat) (a0:List Int) (a1:Int):Option (Int×List Int×Unit):=iter n (fun GD x4=>br (decide (x4.2.1<(x4.2.2.1.length:Int))) (ab (0≤x4.2.1∧x4.2.1<(x4.2.2.1.length:Int)) (let v6:=(x4.2.2.1.set x4.2.1.toNat x4.1); GD (ag (x4.1+1),ag (x4.2.1+1),v6,()))) (some (x4.1,x4.2.2.1,()))) (a1,0,a0,())
def zK.ae (n:Nat):ar:=⟨[.io IS,.val I],[.val I],fun x=>zK.f n x.1 x.2.1⟩
theorem zK.ok (n:Nat):aH 44 (zK.ae n):=aJ n [(3,⟨[(0,.own 0 I),(1,.int .i64),(5,.int .i64)],[(0,.row true I)],[],[]⟩)] [] aC aD func44
def qu.f (n:Nat) (a0:List Int) (a1:Int):Option (Int×Unit):=iter n (fun GD x4=>br (decide (x4.2.1<(a0.length:Int))) (ab (0≤x4.2.1∧x4.2.1<(a0.length:Int)) (br (!decide ((a0.getD x4.2.1.toNat 0)=x4.1)) (some (-1,())) (GD (ag (x4.1+1),ag (x4.2.1+1),())))) (some (x4.1,()))) (a1,0,())
def qu.ae (n:Nat):ar:=⟨[.val IS,.val I],[.val I],fun x=>qu.f n x.1 x.2.1⟩
theorem qu.ok (n:Nat):aH 47 (qu.ae n):=aJ n [(3,⟨[(1,.int .i64),(5,.int .i64)],[],[0],[]⟩)] [] aC aD func47
def zL.f (n:Nat) (a0:List Instr) (a1:Int):Option (Int×Unit):=iter n (fun ni x8=>br (decide (x8.2.1<(a0.length:Int))) (ab (0≤x8.2.1∧x8.2.1<(a0.length:Int)) (let v10:=(a0.getD x8.2.1.toNat fK); br (!decide (v10.1=x8.1)) (some (-1,())) (ab (0≤x8.2.1∧x8.2.1<(a0.length:Int)) (let v11:=(a0.getD x8.2.1.toNat fK); br (!decide (v11.2.1=(ag (x8.1+1)))) (some (-1,())) (ab (0≤x8.2.1∧x8.2.1<(a0.length:Int)) (let v12:=(a0.getD x8.2.1.toNat fK); br (!decide (v12.2.2.1=(ag ((ag (x8.1+1))+1)))) (some (-1,())) (ab (0≤x8.2.1∧x8.2.1<(a0.length:Int)) (let jr:=(a0.getD x8.2.1.toNat fK); br (!decide (jr.2.2.2=(ag ((ag ((ag (x8.1+1))+1))+1)))) (some (-1,())) (ni (ag ((ag ((ag ((ag (x8.1+1))+1))+1))+1),ag (x8.2.1+1),())))))))))) (some (x8.1,()))) (a1,0,())
def zL.ae (n:Nat):ar:=⟨[.val (.sl cV),.val I],[.val I],fun x=>zL.f n x.1 x.2.1⟩
theorem zL.ok (n:Nat):aH 179 (zL.ae n):=aJ n [(3,⟨[(1,.int .i64),(5,.int .i64)],[],[0],[]⟩)] [] aC aD func179
def xz.f (n:Nat) (a0:List Program) (a1:Int):Option (Int×Unit):=iter n (fun ni x8=>br (decide (x8.2.1<(a0.length:Int))) (ab (0≤x8.2.1∧x8.2.1<(a0.length:Int)) (let v10:=(a0.getD x8.2.1.toNat bf); br (!decide (v10.1=x8.1)) (some (-1,())) (ab (0≤x8.2.1∧x8.2.1<(a0.length:Int)) (let v11:=(a0.getD x8.2.1.toNat bf); br (!decide (v11.2.1=(ag (x8.1+1)))) (some (-1,())) (ab (0≤x8.2.1∧x8.2.1<(a0.length:Int)) (let v12:=(a0.getD x8.2.1.toNat bf); (zL.f n v12.2.2 (ag ((ag (x8.1+1))+1))).bind fun fD=>br (decide (fD.1<0)) (some (-1,())) (ni (fD.1,ag (x8.2.1+1),())))))))) (some (x8.1,()))) (a1,0,())
def xz.ae (n:Nat):ar:=⟨[.val (.sl bp),.val I],[.val I],fun x=>xz.f n x.1 x.2.1⟩
theorem xz.ok (n:Nat):aH 106 (xz.ae n):=aJ n [(3,⟨[(1,.int .i64),(5,.int .i64)],[],[0],[]⟩)] [] (ai (zL.ok n) aC) aD func106
def xA.f (n:Nat) (a0:List aK) (a1:Int):Option (Int×Unit):=iter n (fun fa x5=>br (decide (x5.2.1<(a0.length:Int))) (ab (0≤x5.2.1∧x5.2.1<(a0.length:Int)) (let v7:=(a0.getD x5.2.1.toNat ay); br (!decide (v7.1=x5.1)) (some (-1,())) (ab (0≤x5.2.1∧x5.2.1<(a0.length:Int)) (let v8:=(a0.getD x5.2.1.toNat ay); br (!decide (v8.2.1=(ag (x5.1+1)))) (some (-1,())) (ab (0≤x5.2.1∧x5.2.1<(a0.length:Int)) (let v9:=(a0.getD x5.2.1.toNat ay); br (!decide (v9.2.2.1=(ag ((ag (x5.1+1))+1)))) (some (-1,())) (ab (0≤x5.2.1∧x5.2.1<(a0.length:Int)) (let v10:=(a0.getD x5.2.1.toNat ay); br (!decide (v10.2.2.2.1=(ag ((ag ((ag (x5.1+1))+1))+1)))) (some (-1,())) (ab (0≤x5.2.1∧x5.2.1<(a0.length:Int)) (let v11:=(a0.getD x5.2.1.toNat ay); (qu.f n v11.2.2.2.2 (ag ((ag ((ag ((ag (x5.1+1))+1))+1))+1))).bind fun fq=>br (decide (fq.1<0)) (some (-1,())) (fa (fq.1,ag (x5.2.1+1),())))))))))))) (some (x5.1,()))) (a1,0,())
def xA.ae (n:Nat):ar:=⟨[.val (.sl bJ),.val I],[.val I],fun x=>xA.f n x.1 x.2.1⟩
theorem xA.ok (n:Nat):aH 107 (xA.ae n):=aJ n [(3,⟨[(1,.int .i64),(5,.int .i64)],[],[0],[]⟩)] [] (ai (qu.ok n) aC) aD func107
def xB.f (n:Nat) (a0:ak) (a1:Int):Option (Int×Unit):=(xz.f n a0.1 a1).bind fun r1=>br (decide (r1.1<0)) (some (-1,())) ((xA.f n a0.2 r1.1).bind fun r2=>br (decide (r2.1<0)) (some (-1,())) (some (r2.1,())))
def xB.ae (n:Nat):ar:=⟨[.val bZ,.val I],[.val I],fun x=>xB.f n x.1 x.2.1⟩
theorem xB.ok (n:Nat):aH 45 (xB.ae n):=aJ n [] [] (ai (xz.ok n) (ai (xA.ok n) aC)) aD func45
end Go.AmT
