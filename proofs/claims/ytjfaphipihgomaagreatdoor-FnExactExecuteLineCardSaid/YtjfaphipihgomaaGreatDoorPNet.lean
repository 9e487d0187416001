/- Networks, in plain Lean: what a valid one is, told by both programs alike. -/
import Derived.Test.YtjfaphipihgomaaGreatDoorLNet
set_option linter.unusedVariables false
set_option linter.unusedSimpArgs false
open Go Go.Am
open Bool renaming and_eq_true → aB, not_eq_true → pM, not_true → bo, true_and → lF
open Int renaming toNat_natCast → az
open List renaming any_eq_not_all_not → ZD, getElem_mem → bV
open Option renaming bind_some → aA
namespace Go.AmT
variable {n:Nat} {a:List Program} {left:Int} {nt:ak} {p:Program}
theorem bg {α ρ:Type} (y:α) (f:α→Option ρ):cut (some (.inr y)) f=f y:=rfl
theorem n_ (n:Nat) (a b c:Int):ch.f n a b c=some (decide (b≤a)&&decide (a≤c),()):=by unfold ch.f;by_cases h:b≤a<;>simp [h,br]
structure jq (p:Program):Prop where
 code:p.2.2.length≤1048576
structure nj (l:aK):Prop where
 tokens:l.2.2.2.2.length≤1048576
structure cL (nt:ak):Prop where
 dZ:nt.1.length≤1048576
 prog:∀ p∈nt.1,jq p
 dp:nt.2.length≤1048576
 link:∀ l∈nt.2,nj l
theorem D7:maxLen=9223372036854775807:=by decide
def Left (left:Int) (o:Option (Int×Unit)) (P:Prop):Prop:=∃ r:Int,o=some (r,())∧r≤left∧(0≤r→P)
theorem adF (n:Nat) {a:List Instr} {left:Int} (hm:a.length≤maxLen) (h0:0≤left) (h1:left≤1048576):Left left (o6.f n a left) (a.length≤1048576):=by
 have qM:=D7;unfold o6.f;rw [bM (by omega) (by omega)];by_cases h:left-(a.length:Int)<0
 ·exact ⟨-1,by simp [h,br],by omega,fun h=>by omega⟩
 exact ⟨left-(a.length:Int),by simp [h,br],by omega,fun h=>by omega⟩
theorem J4 (n:Nat) {a:List Int} {left:Int} (hm:a.length≤maxLen) (h0:0≤left) (h1:left≤1048576):Left left (jk.f n a left) (a.length≤1048576):=by
 have qM:=D7;unfold jk.f;rw [bM (by omega) (by omega)];by_cases h:left-(a.length:Int)<0
 ·exact ⟨-1,by simp [h,br],by omega,fun h=>by omega⟩
 exact ⟨left-(a.length:Int),by simp [h,br],by omega,fun h=>by omega⟩
theorem adG (n:Nat) {p:Program} {left:Int} (hm:p.2.2.length≤maxLen) (h0:0≤left) (h1:left≤1048576):Left left (nd.f n p left) (jq p):=by
 obtain ⟨r,e,h2,h3⟩:=adF n hm h0 h1;unfold nd.f;rw [e];by_cases h:r<0
 ·exact ⟨-1,by simp [h,br],by omega,fun h=>by omega⟩
 exact ⟨r,by simp [h,br],h2,fun h=>⟨h3 h⟩⟩
theorem adH (n:Nat) {p:aK} {left:Int} (hm:p.2.2.2.2.length≤maxLen) (h0:0≤left) (h1:left≤1048576):Left left (ng.f n p left) (nj p):=by
 obtain ⟨r,e,h2,h3⟩:=J4 n hm h0 h1;unfold ng.f;rw [e];by_cases h:r<0
 ·exact ⟨-1,by simp [h,br],by omega,fun h=>by omega⟩
 exact ⟨r,by simp [h,br],h2,fun h=>⟨h3 h⟩⟩
theorem OA {α:Type} (a:List α) (S:α→Prop) (g:α→Int→Option (Int×Unit)) {F:(Int×(Int×Unit)→Option (Int×Unit))→Int×(Int×Unit)→Option (Int×Unit)}
  (hg:∀ x∈a,∀ left,0≤left→left≤1048576→Left left (g x left) (S x))
  (hF:∀ ih (i:Nat) (hi:i<a.length) (left:Int),F ih (left,(i:Int),())=(g a[i] left).bind fun r=>br (decide (r.1<0)) (some (-1,())) (ih (r.1,((i+1:Nat):Int),())))
  (hE:∀ ih left,F ih (left,(a.length:Int),())=some (left,())) {n:Nat} (hn:a.length<n) {left:Int} (h0:0≤left) (h1:left≤1048576) :
  Left left (iter n F (left,0,())) (∀ x∈a,S x):=by
 have:=JQ (F:=F) (fun i (s:Int)=>(s,(i:Int),())) a.length (fun i s o=>0≤s→s≤1048576→Left s o (∀ x∈a.drop i,S x))
  (fun ih s _ _=>⟨s,hE ih s,by omega,fun _=>by simp⟩)
  (fun ih i s hi h I7 Jv=>by
   rw [hF ih i hi s]
   obtain ⟨r,e,r1,r2⟩:=hg a[i] (bV hi) s I7 Jv
   rw [e]
   by_cases hr:r<0
   ·exact ⟨-1,by simp [hr,br],by omega,fun h=>by omega⟩
   ·obtain ⟨r',e',q1,q2⟩:=h r (by omega) (by omega)
    refine ⟨r',by simp [hr,br]; exact e',by omega,fun hp=>?_⟩
    rw [List.drop_eq_getElem_cons hi]
    intro x hx
    rcases List.mem_cons.1 hx with rfl | hx
    ·exact r2 (by omega)
    ·exact q2 hp x hx)
  n 0 left (Nat.zero_le _) (by omega) h0 h1
 simpa using this
theorem adI (hn:1048576<n) (hm:a.length≤maxLen) (mo:∀ p∈a,p.2.2.length≤maxLen) (h0:0≤left) (h1:left≤1048576) :
  Left left (o7.f n a left) (a.length≤1048576∧∀ p∈a,jq p):=by
 have qM:=D7;unfold o7.f;rw [bM (by omega) (by omega)];by_cases h:left-(a.length:Int)<0
 ·exact ⟨-1,by simp [h,br],by omega,fun h=>by omega⟩
 simp only [h,decide_false,aw];obtain ⟨r,e,r1,r2⟩:=OA a jq (fun p=>nd.f n p) (fun x hx left=>adG n (mo x hx)) (n:=n) (left:=left-(a.length:Int)) (F:=fun fC x6=>br (decide (x6.2.1<(a.length:Int))) (ab (0≤x6.2.1∧x6.2.1<(a.length:Int)) (let v8:=(a.getD x6.2.1.toNat bf); (nd.f n v8 x6.1).bind fun r9=>br (decide (r9.1<0)) (some (-1,())) (fC (r9.1,ag (x6.2.1+1),())))) (some (x6.1,())))
  (fun ih i hi left=>by
   have h1:(i:Int)<(a.length:Int):=by omega
   simp only [h1,decide_true,ax,az,aU hi];rw [af (by simp),ba (by omega)])
  (fun ih left=>by simp [br]) (by omega) (by omega) (by omega)
 exact ⟨r,e,by omega,fun h=>⟨by omega,r2 h⟩⟩
theorem adJ {a:List aK} (hn:1048576<n) (hm:a.length≤maxLen) (mo:∀ p∈a,p.2.2.2.2.length≤maxLen) (h0:0≤left) (h1:left≤1048576) :
  Left left (o8.f n a left) (a.length≤1048576∧∀ p∈a,nj p):=by
 have qM:=D7;unfold o8.f;rw [bM (by omega) (by omega)];by_cases h:left-(a.length:Int)<0
 ·exact ⟨-1,by simp [h,br],by omega,fun h=>by omega⟩
 simp only [h,decide_false,aw];obtain ⟨r,e,r1,r2⟩:=OA a nj (fun p=>ng.f n p) (fun x hx left=>adH n (mo x hx)) (n:=n) (left:=left-(a.length:Int)) (F:=fun fC x6=>br (decide (x6.2.1<(a.length:Int))) (ab (0≤x6.2.1∧x6.2.1<(a.length:Int)) (let v8:=(a.getD x6.2.1.toNat ay); (ng.f n v8 x6.1).bind fun r9=>br (decide (r9.1<0)) (some (-1,())) (fC (r9.1,ag (x6.2.1+1),())))) (some (x6.1,())))
  (fun ih i hi left=>by
   have h1:(i:Int)<(a.length:Int):=by omega
   simp only [h1,decide_true,ax,az,aU hi];rw [af (by simp),ba (by omega)])
  (fun ih left=>by simp [br]) (by omega) (by omega) (by omega)
 exact ⟨r,e,by omega,fun h=>⟨by omega,r2 h⟩⟩
theorem adK (hn:1048576<n) (hx:qd bZ nt) (h0:0≤left) (h1:left≤1048576):Left left (qe.f n nt left) (cL nt):=by
 obtain ⟨⟨p1,p2⟩,⟨l1,l2⟩⟩:=hx;obtain ⟨r,e,r1,r2⟩:=adI hn p1 (fun p hp=>(p2 p hp).2.2.1) h0 h1;unfold qe.f;rw [e];by_cases h:r<0
 ·exact ⟨-1,by simp [h,br],by omega,fun h=>by omega⟩
 obtain ⟨r',e',r1',r2'⟩:=adJ hn l1 (fun p hp=>(l2 p hp).2.2.2.2.1) (show 0≤r by omega) (by omega);simp only [aA,h,decide_false,aw,e'];by_cases h':r'<0
 ·exact ⟨-1,by simp [h',br],by omega,fun h=>by omega⟩
 refine ⟨r',by simp [h',br],by omega,fun h=>?_⟩;obtain ⟨a1,a2⟩:=r2 (by omega);obtain ⟨b1,b2⟩:=r2' (by omega);exact ⟨a1,a2,b1,b2⟩
theorem GI {α:Type} (a:List α) (f:α→Option (α×Unit)) (hf:∀ x∈a,f x=some (x,())) {F:(Int×List α×Unit→Option (List α×Unit))→Int×List α×Unit→Option (List α×Unit)}
  (hF:∀ ih (i:Nat) (hi:i<a.length) ys,ys.length=a.length→F ih ((i:Int),ys,())=(f a[i]).bind fun r=>ih (((i+1:Nat):Int),ys.set i r.1,()))
  (hE:∀ ih ys,F ih ((a.length:Int),ys,())=some (ys,())) {n:Nat} (hn:a.length<n) {ys:List α} (hy:ys.length=a.length):iter n F (0,ys,())=some (a,()):=
 Uz a (fun ih i hi ys hy=>by grind) hE hn hy
theorem adL {a:List Instr} (hl:a.length≤1048576) (hn:1048576<n):o9.f n a=some (a,()):=by
 unfold o9.f;rw [af (by refine ⟨rfl,by omega,?_⟩; have:(bn:Int)=140737488355328:=rfl; omega)];refine GI a (fun x=>qf.f n x) (fun x _=>rfl) (fun ih i hi ys hy=>?_) (fun ih ys=>?_) (by omega) (by simp)
 ·have h1:(i:Int)<(a.length:Int):=by omega
  have h2:(i:Int)<(ys.length:Int):=by omega
  simp only [h1,decide_true,ax,az,aU hi];rw [af (by simp)];congr 1; funext r;rw [af (by omega),ba (by omega)]
 simp [br]
theorem J5 {a:List Int} (hl:a.length≤1048576) (hn:1048576<n):iA.f n a=some (a,()):=by
 unfold iA.f;rw [af (by refine ⟨rfl,by omega,?_⟩; have:(bn:Int)=140737488355328:=rfl; omega)];refine Uz a (fun ih i hi ys hy=>?_) (fun ih ys=>?_) (by omega) (by simp)
 ·have h1:(i:Int)<(a.length:Int):=by omega
  have h2:(i:Int)<(ys.length:Int):=by omega
  simp only [h1,decide_true,ax];rw [af (by simp),af (by omega),ba (by omega),az,aU hi]
 simp [br]
theorem adM (hp:jq p) (hn:1048576<n):nV.f n p=some (p,()):=by unfold nV.f;rw [adL hp.code hn]; rfl
theorem adN {p:aK} (hp:nj p) (hn:1048576<n):nW.f n p=some (p,()):=by unfold nW.f;rw [J5 hp.tokens hn]; rfl
theorem adO (hl:a.length≤1048576) (ha:∀ p∈a,jq p) (hn:1048576<n):pa.f n a=some (a,()):=by
 unfold pa.f;rw [af (by refine ⟨rfl,by omega,?_⟩; have:(bn:Int)=140737488355328:=rfl; omega)];refine GI a (fun x=>nV.f n x) (fun x hx=>adM (ha x hx) hn) (fun ih i hi ys hy=>?_) (fun ih ys=>?_) (by omega) (by simp)
 ·have h1:(i:Int)<(a.length:Int):=by omega
  have h2:(i:Int)<(ys.length:Int):=by omega
  simp only [h1,decide_true,ax,az,aU hi];rw [af (by simp)];congr 1; funext r;rw [af (by omega),ba (by omega)]
 simp [br]
theorem adP {a:List aK} (hl:a.length≤1048576) (ha:∀ p∈a,nj p) (hn:1048576<n):pb.f n a=some (a,()):=by
 unfold pb.f;rw [af (by refine ⟨rfl,by omega,?_⟩; have:(bn:Int)=140737488355328:=rfl; omega)];refine GI a (fun x=>nW.f n x) (fun x hx=>adN (ha x hx) hn) (fun ih i hi ys hy=>?_) (fun ih ys=>?_) (by omega) (by simp)
 ·have h1:(i:Int)<(a.length:Int):=by omega
  have h2:(i:Int)<(ys.length:Int):=by omega
  simp only [h1,decide_true,ax,az,aU hi];rw [af (by simp)];congr 1; funext r;rw [af (by omega),ba (by omega)]
 simp [br]
theorem adQ (h:cL nt) (hn:1048576<n):nh.f n nt=some (nt,()):=by unfold nh.f;rw [adO h.dZ h.prog hn,adP h.dp h.link hn]; rfl
theorem GJ {α:Type} (a:List α) (f:α→α→Option (Bool×Unit)) (hf:∀ x∈a,f x x=some (true,())) {F:(Int×Unit→Option (Bool×Unit))→Int×Unit→Option (Bool×Unit)}
  (hF:∀ ih (i:Nat) (hi:i<a.length),F ih ((i:Int),())=(f a[i] a[i]).bind fun r=>br (!r.1) (some (false,())) (ih (((i+1:Nat):Int),())))
  (hE:∀ ih,F ih ((a.length:Int),())=some (true,())) {n:Nat} (hn:a.length<n):iter n F (0,())=some (true,()):=
 (N_ a (fun _=>true) (fun ih i hi=>by rw [hF ih i hi,hf _ (bV hi)]; rfl) hE hn).trans (by simp)
theorem adR (n:Nat) (e:Instr):nX.f n e e=some (true,()):=by unfold nX.f; simp [br]
theorem adS {a:List Instr} (hl:a.length≤1048576) (hn:1048576<n):pc.f n a a=some (true,()):=by
 unfold pc.f;simp only [decide_true,bo,aw];refine GJ a (fun x y=>nX.f n x y) (fun x _=>adR n x) (fun ih i hi=>?_) (fun ih=>?_) (by omega)
 ·have h1:(i:Int)<(a.length:Int):=by omega
  simp only [h1,decide_true,ax,az,aU hi];rw [af (by simp),af (by simp),ba (by omega)]
 simp [br]
theorem J6 {a:List Int} (hl:a.length≤1048576) (hn:1048576<n):jl.f n a a=some (true,()):=by
 unfold jl.f;simp only [decide_true,bo,aw];refine (N_ a (fun _=>true) (fun ih i hi=>?_) (fun ih=>?_) (by omega)).trans (by simp)
 ·have h1:(i:Int)<(a.length:Int):=by omega
  simp only [h1,decide_true,ax,bo,aw,if_true];rw [af (by simp),af (by simp),ba (by omega)]
 simp [br]
theorem adT (hp:jq p) (hn:1048576<n):nY.f n p p=some (true,()):=by unfold nY.f;rw [adS hp.code hn]; simp [br]
theorem adU {p:aK} (hp:nj p) (hn:1048576<n):nZ.f n p p=some (true,()):=by unfold nZ.f;rw [J6 hp.tokens hn]; simp [br]
theorem adV (hl:a.length≤1048576) (ha:∀ p∈a,jq p) (hn:1048576<n):pd.f n a a=some (true,()):=by
 unfold pd.f;simp only [decide_true,bo,aw];refine GJ a (fun x y=>nY.f n x y) (fun x hx=>adT (ha x hx) hn) (fun ih i hi=>?_) (fun ih=>?_) (by omega)
 ·have h1:(i:Int)<(a.length:Int):=by omega
  simp only [h1,decide_true,ax,az,aU hi];rw [af (by simp),af (by simp),ba (by omega)]
 simp [br]
theorem adW {a:List aK} (hl:a.length≤1048576) (ha:∀ p∈a,nj p) (hn:1048576<n):pe.f n a a=some (true,()):=by
 unfold pe.f;simp only [decide_true,bo,aw];refine GJ a (fun x y=>nZ.f n x y) (fun x hx=>adU (ha x hx) hn) (fun ih i hi=>?_) (fun ih=>?_) (by omega)
 ·have h1:(i:Int)<(a.length:Int):=by omega
  simp only [h1,decide_true,ax,az,aU hi];rw [af (by simp),af (by simp),ba (by omega)]
 simp [br]
theorem adX (h:cL nt) (hn:1048576<n):qg.f n nt nt=some (true,()):=by unfold qg.f;rw [adV h.dZ h.prog hn,adW h.dp h.link hn]; simp [br]
def gF (a:Int):Bool:=decide (0≤a)&&decide (a≤3)
def tok (a:Int):Bool:=decide (-999999≤a)&&decide (a≤999999)
def fH (ins outs size:Int) (x:Instr):Bool:=
 if x.1=1 then gF x.2.1&&(decide (0≤x.2.2.1)&&decide (x.2.2.1<ins)&&decide (x.2.2.2=0))
 else if x.1=2 then gF x.2.1&&(decide (0≤x.2.2.1)&&decide (x.2.2.1<outs)&&decide (x.2.2.2=0))
 else if x.1=3 then gF x.2.1&&(tok x.2.2.1&&decide (x.2.2.2=0))
 else if x.1=4∨x.1=5∨x.1=6∨x.1=7 then gF x.2.1&&(gF x.2.2.1&&gF x.2.2.2)
 else if x.1=8 then decide (x.2.1=0)&&(decide (0≤x.2.2.1)&&decide (x.2.2.1≤size)&&decide (x.2.2.2=0))
 else if x.1=9∨x.1=10 then gF x.2.1&&(decide (0≤x.2.2.1)&&decide (x.2.2.1≤size)&&decide (x.2.2.2=0))
 else if x.1=11 then decide (x.2.1=0)&&(decide (x.2.2.1=0)&&decide (x.2.2.2=0))
 else false
def cP (p:Program):Bool:=decide (0≤p.1)&&decide (p.1≤3)&&(decide (0≤p.2.1)&&decide (p.2.1≤3))&&(decide (1≤p.2.2.length)&&decide (p.2.2.length≤24))&&p.2.2.all (fH p.1 p.2.1 (p.2.2.length:Int))
def bX (s:List Int):Bool:=decide (s.length≤400)&&s.all tok
theorem adY (n:Nat) (a:Int):kO.f n a=some (gF a,()):=by unfold kO.f gF;by_cases h:0≤a<;>simp [h,br]
theorem Vl (n:Nat) (a:Int):isToken.f n a=some (tok a,()):=by unfold isToken.f tok;by_cases h : -999999≤a<;>simp [h,br]
theorem Vm (n:Nat) (a:Int):lk.f n a=some (tok a,()):=by unfold lk.f tok;rw [n_]; rfl
theorem Vn (n:Nat) (x:Instr) (ins outs size:Int):lP.f n x ins outs size=some (fH ins outs size x,()):=by
 have e1:(br (decide (0≤x.2.2.1)) (br (decide (x.2.2.1≤size)) (some (Sum.inr (α:=Bool×Unit) (decide (x.2.2.2=0),()))) (some (.inr (false,())))) (some (.inr (false,()))))=some (.inr (decide (0≤x.2.2.1)&&decide (x.2.2.1≤size)&&decide (x.2.2.2=0),())):=by cases decide (0≤x.2.2.1)<;>cases decide (x.2.2.1≤size)<;>rfl
 unfold lP.f fH;simp only [e1,bg,adY,Vl,aA];by_cases h1:x.1=1
 ·simp only [h1,decide_true,ax,if_true];cases gF x.2.1<;>cases decide (0≤x.2.2.1)<;>cases decide (x.2.2.1<ins)<;>rfl
 by_cases h2:x.1=2
 ·simp only [h2,decide_true,decide_false,ax,aw,if_true,show ¬ ((2:Int)=1) by omega,if_false];cases gF x.2.1<;>cases decide (0≤x.2.2.1)<;>cases decide (x.2.2.1<outs)<;>rfl
 by_cases h3:x.1=3
 ·simp only [h3,decide_true,decide_false,ax,aw,if_true,show ¬ ((3:Int)=1) by omega,show ¬ ((3:Int)=2) by omega,if_false];cases gF x.2.1<;>cases tok x.2.2.1<;>rfl
 simp only [h1,h2,h3,decide_false,aw,if_false];by_cases h4:x.1=4∨x.1=5∨x.1=6∨x.1=7
 ·have e2:br (decide (x.1=4)) (some (Sum.inr (α:=Bool×Unit) (decide (x.1=4),()))) (br (decide (x.1=5)) (some (.inr (decide (x.1=5),()))) (br (decide (x.1=6)) (some (.inr (decide (x.1=6),()))) (some (.inr (decide (x.1=7),())))))=some (.inr (true,())):=by rcases h4 with h | h | h | h<;>simp [h,br]
  rw [e2];simp only [h4,if_true,bg,ax];cases gF x.2.1<;>cases gF x.2.2.1<;>rfl
 have e2:br (decide (x.1=4)) (some (Sum.inr (α:=Bool×Unit) (decide (x.1=4),()))) (br (decide (x.1=5)) (some (.inr (decide (x.1=5),()))) (br (decide (x.1=6)) (some (.inr (decide (x.1=6),()))) (some (.inr (decide (x.1=7),())))))=some (.inr (false,())):=by simp only [not_or] at h4;simp [h4,br]
 rw [e2];simp only [h4,if_false,bg,aw];by_cases h8:x.1=8
 ·simp only [h8,decide_true,ax,if_true];cases decide (x.2.1=0)<;>rfl
 simp only [h8,decide_false,aw,if_false];by_cases h9:x.1=9∨x.1=10
 ·have e3:br (decide (x.1=9)) (some (Sum.inr (α:=Bool×Unit) (decide (x.1=9),()))) (some (.inr (decide (x.1=10),())))=some (.inr (true,())):=by rcases h9 with h | h<;>simp [h,br]
  rw [e3];simp only [h9,if_true,bg,ax];cases gF x.2.1<;>rfl
 have e3:br (decide (x.1=9)) (some (Sum.inr (α:=Bool×Unit) (decide (x.1=9),()))) (some (.inr (decide (x.1=10),())))=some (.inr (false,())):=by simp only [not_or] at h9;simp [h9,br]
 rw [e3];simp only [h9,if_false,bg,aw];by_cases ki:x.1=11
 ·simp only [ki,decide_true,ax,if_true,Bool.and_true,lF]
 simp only [ki,decide_false,aw,if_false]
theorem adZ (b ins:Int):decide (b≤ins-1)=decide (b<ins):=by grind
theorem OB (n:Nat) (p:Program) (x:Instr) (hi:0≤p.1∧p.1≤3) (ho:0≤p.2.1∧p.2.1≤3):mm.f n p x=some (fH p.1 p.2.1 (p.2.2.length:Int) x,()):=by
 have w1:ag (p.1-1)=p.1-1:=bM (by omega) (by omega);have w2:ag (p.2.1-1)=p.2.1-1:=bM (by omega) (by omega);have e0:(br (gF x.2.1) (br (gF x.2.2.1) (some (Sum.inr (α:=Bool×Unit) (gF x.2.2.2,()))) (some (.inr (false,())))) (some (.inr (false,()))))=some (.inr (gF x.2.1&&(gF x.2.2.1&&gF x.2.2.2),())):=by cases gF x.2.1<;>cases gF x.2.2.1<;>rfl
 have e1:(br (decide (0≤x.2.2.1)&&decide (x.2.2.1≤(p.2.2.length:Int))) (some (Sum.inr (α:=Bool×Unit) (decide (x.2.2.2=0),()))) (some (.inr (false,()))))=some (.inr (decide (0≤x.2.2.1)&&decide (x.2.2.1≤(p.2.2.length:Int))&&decide (x.2.2.2=0),())):=by cases decide (0≤x.2.2.1)<;>cases decide (x.2.2.1≤(p.2.2.length:Int))<;>rfl
 have hr:∀ a:Int,ch.f n a 0 3=some (gF a,()):=fun a=>n_ n a 0 3;unfold mm.f fH;simp only [hr,aA,e0,n_,e1,bg,Vm,w1,w2,adZ];by_cases h1:x.1=1
 ·simp only [h1,decide_true,ax,if_true];cases gF x.2.1<;>cases decide (0≤x.2.2.1)<;>cases decide (x.2.2.1<p.1)<;>rfl
 by_cases h2:x.1=2
 ·simp only [h2,decide_true,decide_false,ax,aw,if_true,show ¬ ((2:Int)=1) by omega,if_false];cases gF x.2.1<;>cases decide (0≤x.2.2.1)<;>cases decide (x.2.2.1<p.2.1)<;>rfl
 by_cases h3:x.1=3
 ·simp only [h3,decide_true,decide_false,ax,aw,if_true,show ¬ ((3:Int)=1) by omega,show ¬ ((3:Int)=2) by omega,if_false];cases gF x.2.1<;>cases tok x.2.2.1<;>rfl
 simp only [h1,h2,h3,decide_false,aw,if_false];by_cases h4:x.1=4∨x.1=5∨x.1=6∨x.1=7
 ·have e2:br (decide (x.1=4)) (some (Sum.inr (α:=Bool×Unit) (decide (x.1=4),()))) (br (decide (x.1=5)) (some (.inr (decide (x.1=5),()))) (br (decide (x.1=6)) (some (.inr (decide (x.1=6),()))) (some (.inr (decide (x.1=7),())))))=some (.inr (true,())):=by rcases h4 with h | h | h | h<;>simp [h,br]
  rw [e2];simp only [h4,if_true,bg,ax]
 have e2:br (decide (x.1=4)) (some (Sum.inr (α:=Bool×Unit) (decide (x.1=4),()))) (br (decide (x.1=5)) (some (.inr (decide (x.1=5),()))) (br (decide (x.1=6)) (some (.inr (decide (x.1=6),()))) (some (.inr (decide (x.1=7),())))))=some (.inr (false,())):=by simp only [not_or] at h4;simp [h4,br]
 rw [e2];simp only [h4,if_false,bg,aw];by_cases h8:x.1=8
 ·simp only [h8,decide_true,ax,if_true];cases decide (x.2.1=0)<;>rfl
 simp only [h8,decide_false,aw,if_false];by_cases h9:x.1=9∨x.1=10
 ·have e3:br (decide (x.1=9)) (some (Sum.inr (α:=Bool×Unit) (decide (x.1=9),()))) (some (.inr (decide (x.1=10),())))=some (.inr (true,())):=by rcases h9 with h | h<;>simp [h,br]
  rw [e3];simp only [h9,if_true,bg,ax];cases gF x.2.1<;>rfl
 have e3:br (decide (x.1=9)) (some (Sum.inr (α:=Bool×Unit) (decide (x.1=9),()))) (some (.inr (decide (x.1=10),())))=some (.inr (false,())):=by simp only [not_or] at h9;simp [h9,br]
 rw [e3];simp only [h9,if_false,bg,aw];by_cases ki:x.1=11
 ·simp only [ki,decide_true,ax,if_true];cases decide (x.2.1=0)<;>cases decide (x.2.2.1=0)<;>rfl
 simp only [ki,decide_false,aw,if_false]
theorem GK (hp:jq p) (hn:1048576<n):jn.f n p=some (cP p,()):=by
 have hc:=hp.code;unfold jn.f cP;simp only [n_,aA];by_cases h1:0≤p.1∧p.1≤3
 ·by_cases h2:0≤p.2.1∧p.2.1≤3
  ·by_cases h3:1≤p.2.2.length∧p.2.2.length≤24
   ·simp only [h1.1,h1.2,h2.1,h2.2,h3.1,h3.2,show (1:Int)≤(p.2.2.length:Int) by omega,show (p.2.2.length:Int)≤24 by omega,decide_true,Bool.and_self,bo,aw,lF,bg];refine N_ p.2.2 (fH p.1 p.2.1 (p.2.2.length:Int)) (fun ih i hi=>?_) (fun ih=>?_) (by omega)
    ·have h4:(i:Int)<(p.2.2.length:Int):=by omega
     simp only [h4,decide_true,ax,az,aU hi,OB n p _ h1 h2,aA];rw [af (by simp),ba (by omega),r_]
     grind
    simp [br]
   have e1:(decide ((1:Int)≤(p.2.2.length:Int))&&decide ((p.2.2.length:Int)≤24))=false:=by rw [← pM]; simp only [aB,decide_eq_true_eq]; omega
   have e2:(decide (1≤p.2.2.length)&&decide (p.2.2.length≤24))=false:=by rw [← pM]; simp only [aB,decide_eq_true_eq]; omega
   simp [h1,h2,e1,e2,br,cut]
  have e2:(decide (0≤p.2.1)&&decide (p.2.1≤3))=false:=by rw [← pM]; simp only [aB,decide_eq_true_eq]; omega
  simp [h1,e2,br,cut]
 have e2:(decide (0≤p.1)&&decide (p.1≤3))=false:=by rw [← pM]; simp only [aB,decide_eq_true_eq]; omega
 simp [e2,br,cut]
theorem GL (hp:jq p) (hn:1048576<n):jo.f n p=some (cP p,()):=by
 have hc:=hp.code;unfold jo.f cP;by_cases h1:0≤p.1∧p.1≤3
 ·by_cases h2:0≤p.2.1∧p.2.1≤3
  ·by_cases h3:1≤p.2.2.length∧p.2.2.length≤24
   ·have a1:¬ (p.1<0):=by omega
    have a2:¬ (3<p.1):=by omega
    have a3:¬ (p.2.1<0):=by omega
    have a4:¬ (3<p.2.1):=by omega
    have a5:¬ ((p.2.2.length:Int)<1):=by omega
    have a6:¬ (24<(p.2.2.length:Int)):=by omega
    simp only [a1,a2,a3,a4,a5,a6,h1.1,h1.2,h2.1,h2.2,h3.1,h3.2,decide_true,decide_false,aw,bg,Bool.and_self,lF];unfold qj.f qi.f;obtain ⟨r,e1,e2⟩:=N0 p.2.2 (fun x=>!(fH p.1 p.2.1 (p.2.2.length:Int) x)) (n:=n) (F:=fun fC x6=>br (decide (x6.1<(p.2.2.length:Int))) (ab (0≤x6.1∧x6.1<(p.2.2.length:Int)) (let v8:=(p.2.2.getD x6.1.toNat fK); (ph.f n v8 p).bind fun r9=>br r9.1 (some (x6.1,())) (fC (ag (x6.1+1),())))) (some (-1,())))
     (fun ih i hi=>by
      have h4:(i:Int)<(p.2.2.length:Int):=by omega
      unfold ph.f;simp only [h4,decide_true,ax,az,aU hi,Vn,aA];rw [af (by simp),ba (by omega),r_]) (fun ih=>by simp [br]) (by omega)
    grind
   have e2:(decide (1≤p.2.2.length)&&decide (p.2.2.length≤24))=false:=by rw [← pM]; simp only [aB,decide_eq_true_eq]; omega
   have a1:¬ (p.1<0):=by omega
   have a2:¬ (3<p.1):=by omega
   have a3:¬ (p.2.1<0):=by omega
   have a4:¬ (3<p.2.1):=by omega
   by_cases a5:(p.2.2.length:Int)<1
   ·simp [a1,a2,a3,a4,a5,e2,br,cut]
   have a6:(24<(p.2.2.length:Int)):=by omega
   simp [a1,a2,a3,a4,a5,a6,e2,br,cut]
  have e2:(decide (0≤p.2.1)&&decide (p.2.1≤3))=false:=by rw [← pM]; simp only [aB,decide_eq_true_eq]; omega
  have a1:¬ (p.1<0):=by omega
  have a2:¬ (3<p.1):=by omega
  by_cases a3:p.2.1<0
  ·simp [a1,a2,a3,e2,br,cut]
  have a4:(3<p.2.1):=by omega
  simp [a1,a2,a3,a4,e2,br,cut]
 have e2:(decide (0≤p.1)&&decide (p.1≤3))=false:=by rw [← pM]; simp only [aB,decide_eq_true_eq]; omega
 by_cases a1:p.1<0
 ·simp [a1,e2,br,cut]
 have a2:(3<p.1):=by omega
 simp [a1,a2,e2,br,cut]
theorem xg {s:List Int} (hs:s.length≤1048576) (hn:1048576<n):fL.f n s=some (bX s,()):=by
 unfold fL.f bX;have:=UA s.length (fun i=>tok (s.getD i 0)) (some (false,())) (some (decide ((s.length:Int)≤400),())) (n:=n) (F:=fun fC x6=>br (decide (x6.1<(s.length:Int))) (ab (0≤x6.1∧x6.1<(s.length:Int)) ((lk.f n (s.getD x6.1.toNat 0)).bind fun r8=>br (!r8.1) (some (false,())) (fC (ag (x6.1+1),())))) (some (decide ((s.length:Int)≤400),())))
  (fun ih i hi=>by
   have h4:(i:Int)<(s.length:Int):=by omega
   simp only [h4,decide_true,ax,az,Vm,aA];rw [af (by simp),ba (by omega),r_]
   grind)
  (fun ih=>by simp [br]) (by omega)
 by_cases h:∀ i,i<s.length→tok (s.getD i 0)=true
 ·rw [this.1 h];have:s.all tok=true:=by rw [List.all_eq_true];intro x hx;obtain ⟨i,hi,rfl⟩:=List.mem_iff_getElem.1 hx;have:=h i hi;rwa [aU hi] at this
  rw [this,Bool.and_true];congr 2
  grind
 grind
theorem vo {s:List Int} (hs:s.length≤1048576) (hn:1048576<n):fb.f n s=some (bX s,()):=by
 unfold fb.f bX qm.f qk.f;by_cases h:s.length≤400
 ·simp only [h,show (s.length:Int)≤400 by omega,decide_true,ax,lF];obtain ⟨r,e1,e2⟩:=N0 s (fun x=>!(tok x)) (n:=n) (F:=fun fa x5=>br (decide (x5.1<(s.length:Int))) (ab (0≤x5.1∧x5.1<(s.length:Int)) ((pj.f n (s.getD x5.1.toNat 0)).bind fun r7=>br r7.1 (some (x5.1,())) (fa (ag (x5.1+1),())))) (some (-1,())))
   (fun ih i hi=>by
    have h4:(i:Int)<(s.length:Int):=by omega
    unfold pj.f;simp only [h4,decide_true,ax,az,aU hi,Vl,aA];rw [af (by simp),ba (by omega),r_]) (fun ih=>by simp [br]) (by omega)
  grind
 have:¬ ((s.length:Int)≤400):=by omega
 simp [h,this,br]
end Go.AmT
