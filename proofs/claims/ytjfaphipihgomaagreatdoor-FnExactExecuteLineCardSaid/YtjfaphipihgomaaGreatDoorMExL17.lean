/- Programs that are read from texts, in plain Lean: both programs read the same. -/
import Derived.Test.YtjfaphipihgomaaGreatDoorMExL16
open Go Go.Am
noncomputable section
set_option linter.unusedVariables false
set_option linter.unusedSimpArgs false
set_option maxRecDepth 100000
open Bool renaming not_false → gT, not_true → bo
open Go.Lib renaming hasSuffix → HF, itoa → aj
open Int renaming lt_irrefl → bH, toNat_natCast → az
open List renaming append_assoc → nR, getElem_mem → bV, isSuffixOf_iff_suffix → Zs, length_append → cY, length_cons → bh, length_map → mD, length_nil → bP, mem_append → eF, range → bD, take_length → mN
namespace Go.AmT
variable {n:Nat} {s:BB} {p:Program}
theorem XH (c:UInt8):∀ s:BB,∃ a r,bC c s=a::r∧s=a++(r.map fun p=>c::p).flatten
 | []=>⟨[],[],rfl,rfl⟩
 | x::xs=>by
  obtain ⟨a,r,e,h⟩:=XH c xs;rw [bC,e];by_cases hx:x=c
  ·grind
  rw [if_neg hx];refine ⟨x::a,r,rfl,?_⟩
  grind
theorem XI {α:Type} (c:UInt8) (g:α→BB):∀ (l:List α) (a:BB),c∉a→(∀ x∈l,c∉g x)→bC c (a++(l.map fun x=>c::g x).flatten)=a::l.map g
 | [],a,ha,_=>by simp [As ha]
 | x::l,a,ha,h=>by
  have e:a++((x::l).map fun x=>c::g x).flatten=a++c::(g x++(l.map fun x=>c::g x).flatten):=by simp
  rw [e,mE _ ha,XI c g l (g x) (h x (by simp)) (fun y hy=>h y (by grind))];rfl
theorem XJ {n:Nat} {s:List UInt8} (hs:s.length≤1048576):W (fi.f n s) (fun r=>r.2.1=true→aj r.1=s):=by
 have ha:W (qD.f n s) (fun r=>r.2.1=true→-9223372036854775808≤r.1∧r.1≤9223372036854775807):=by
  unfold qD.f B2
  rw [if_pos (by omega)]
  cases h:Lib.atoiAll s with
  | ok v=>exact ao.2 (fun _=>Lib.atoiAll_bounds h)
  | «syntax»=>exact ao.2 (fun h=>by cases h)
  | range=>exact ao.2 (fun h=>by cases h)
 unfold fi.f
 rw [dt]
 refine bA ha (fun r hr=>?_)
 rw [cC]
 refine ⟨fun h=>?_,fun _=>ao.2 (fun h=>by cases h)⟩
 unfold dV.f zt
 rw [if_pos (hr h)]
 exact ao.2 (fun h=>of_decide_eq_true h)
theorem agc {s:List UInt8} {r:Instr×(Bool×Unit)} (h:Cs s r) (ht:r.2.1=true):fH 3 3 24 r.1=true∧du r.1=s:=by
 rcases h.uq with ⟨x,o,e⟩ | e
 ·rw [h.all x o e]; exact ⟨o,e⟩
 ·rw [e] at ht; cases ht
theorem XK {x:Instr} (O:KJ x):(59:UInt8)∉du x∧(10:UInt8)∉du x:=by
 have key:∀ c:UInt8,c=59∨c=10→c∉du x:=fun c hc=>by
  have hn:c.toNat<97∧c≠45∧¬ (48≤c.toNat∧c.toNat≤57)∧c≠32:=by rcases hc with rfl | rfl<;>decide
  have h0:=Xy O.op hn.1;have sp:∀ {v:Int},Cq v→c∉lX v:=fun hv=>by simp only [lX,eF,List.mem_singleton,not_or];exact ⟨hn.2.2.2,qE hv hn.2.1 hn.2.2.1⟩
  unfold du;rw [eF,not_or];refine ⟨h0,?_⟩;split
  ·rw [eF,not_or]; exact ⟨sp O.a,sp O.b⟩
  split
  ·rw [eF,eF,not_or,not_or]; exact ⟨sp O.a,sp O.b,sp O.c⟩
  split
  ·exact sp O.b
  simp
 grind
theorem KS (h:cP p=true):∀ x∈p.2.2,fH 3 3 24 x=true:=fun x hx=>by obtain ⟨h1,h2,h3,h4⟩:=uw h;exact af9 (h4 x hx) (by omega) (by omega) (by omega)
theorem QB {l:List Instr} (h:∀ x∈l,fH 3 3 24 x=true):l.map ux=l.map fun x=>59::du x:=by refine List.map_congr_left (fun x hx=>?_);rw [ux,nr,if_pos (h x hx)];rfl
theorem XL (h:cP p=true):bC 59 (jA p)=aj p.1::aj p.2.1::p.2.2.map du:=by
 obtain ⟨h1,h2,h3,h4⟩:=uw h;have hi:=KS h;have e:jA p=aj p.1++59::(aj p.2.1++(p.2.2.map fun x=>59::du x).flatten):=by rw [jA,QB hi]; simp
 rw [e,mE _ (qE ⟨by omega,by omega⟩ (by decide) (by decide)),XI 59 du _ _ (qE ⟨by omega,by omega⟩ (by decide) (by decide)) (fun x hx=>(XK (Ar (hi x hx) (by omega) (by omega) (by omega))).1)]
abbrev KT:Program:=(0,0,[])
structure Cu (s:BB) (r:Program×Bool×Unit):Prop where
 all:∀ p,cP p=true→jA p=s→r=(p,true,())
 uq:(∃ p,cP p=true∧jA p=s)∨r=(KT,false,())
theorem Cu.one {s:BB} {r r':Program×(Bool×Unit)} (h:Cu s r) (h':Cu s r'):r=r':=by
 rcases h.uq with ⟨x,o,e⟩ | e
 ·rw [h.all x o e,h'.all x o e]
 rcases h'.uq with ⟨x,o,e'⟩ | e'
 ·rw [h.all x o e',h'.all x o e']
 grind
theorem QC {s:BB} {m:Option (Program×Bool×Unit)} (h1:W m (fun r=>r=(KT,false,())∨(cP r.1=true∧jA r.1=s))) (h2:∀ x,cP x=true→jA x=s→m=some (x,true,())):W m (Cu s):=by
 obtain ⟨r,e,h⟩:=h1;refine ⟨r,e,⟨fun x o et=>?_,?_⟩⟩
 ·grind
 grind
theorem QD {s:BB} {r:Program×(Bool×Unit)} (h:Cu s r):jq r.1:=by
 rcases h.uq with ⟨x,o,e⟩ | e
 ·rw [h.all x o e]; exact ⟨by show x.2.2.length≤_; have:=(uw o).2.2.1; omega⟩
 rw [e]; exact ⟨by simp⟩
theorem XM {s:BB} (hs:s.length≤1048576) (hn:1048577<n):W (rC.f n s) (fun r=>r=(KT,false,())∨(cP r.1=true∧jA r.1=s)):=by
 have hB:=iR;unfold rC.f;rw [sI (by omega),aq];have hp:=oq 59 s;have hlen:=vL 59 s;obtain ⟨a,r,yF,Jv⟩:=XH 59 s;rw [yF] at hp hlen;dsimp only;rw [yF,cZ];refine ⟨fun _=>ao.2 (.inl rfl),fun h3=>?_⟩;cases r with
 | nil=>grind
 | cons b D=>
  have pA:(a::b::D).length=D.length+2:=rfl;have ha:=hp a (by simp);have hb:=hp b (by simp);have g0:(a::b::D).getD 0 []=a:=rfl;have g1:(a::b::D).getD 1 []=b:=rfl;have eD:((a::b::D).take ((a::b::D).length:Int).toNat).drop 2=D:=by rw [az,mN]; rfl
  rw [af (by omega),g0,dt];refine bA (XJ (by omega)) (fun r2 h2=>?_);rw [af (by omega),g1,dt];refine bA (XJ (by omega)) (fun r3 h3'=>?_);rw [af (by omega),eD];refine gu (fun (i:Nat) (o:List Instr)=>((i:Int),r2.1,r3.1,o,())) D.length (fun i o=>o.length≤i∧(∀ x∈o,fH 3 3 24 x=true)∧o.map du=D.take i) (s0:=[]) rfl ⟨by simp,fun x hx=>by grind,by simp⟩ (by omega) (fun ih o hI=>?_) (fun ih i o hi hI hS=>?_)
  ·obtain ⟨i1,i2,i3⟩:=hI;simp only [au (bH _)];refine fB.2 (bA (P:=fun z=>∃ y:Bool×Unit,z = .inr y∧(y.1=false→cP (r2.1,r3.1,o)=true∧jA (r2.1,r3.1,o)=s)) ?_ (fun z hz=>?_))
   ·rw [cC];refine ⟨fun _=>ao.2 ⟨_,rfl,fun h=>by cases h⟩,fun c2=>?_⟩;rw [cC];refine ⟨fun _=>ao.2 ⟨_,rfl,fun h=>by cases h⟩,fun c3=>?_⟩;rw [GL ⟨by grind⟩ (by omega),aq];refine ao.2 ⟨_,rfl,fun h=>?_⟩;have h:cP (r2.1,r3.1,o)=true:=by simpa using h
    have e2:=h2 (by grind);have e3:=h3' (by grind);refine ⟨h,?_⟩;rw [mN] at i3;rw [jA,QB i2,Jv];show aj r2.1++[59]++aj r3.1++(o.map fun x=>59::du x).flatten=_;have e4:(o.map fun x=>59::du x)=D.map fun p=>59::p:=by rw [← i3,List.map_map]; rfl
    grind
   obtain ⟨y,rfl,hy⟩:=hz;simp only;rw [cC];exact ⟨fun _=>ao.2 (.inl rfl),fun h=>ao.2 (.inr (hy h))⟩
  obtain ⟨i1,i2,i3⟩:=hI;simp only [aM (show (i:Int)<(D.length:Int) by omega),az];have hd:=hp (D.getD i []) (by grind);rw [pA] at hd hlen;obtain ⟨q,e2,hq⟩:=af7 (n:=n) (s:=D.getD i []) (by omega) hn;rw [af (by omega),e2,aq,cC];refine ⟨fun _=>ao.2 (.inl rfl),fun c=>?_⟩;obtain ⟨q1,q2⟩:=agc hq (by simpa using c);rw [af (by simp only [bh,bP]; omega),ba (by omega)];refine hS (o++[q.1]) ⟨by simp; omega,Ls i2 q1,?_⟩;rw [List.map_append,i3,List.take_succ_eq_append_getElem hi,List.map_cons,List.map_nil,q2,aU hi]
theorem QE (h:cP p=true) (hn:1048577<n):rC.f n (jA p)=some (p,true,()):=by
 have hB:=iR;have hl:=HD h;obtain ⟨h1,h2,h3,h4⟩:=uw h;have QF:=KS h;unfold rC.f;rw [sI (by omega),XL h,aq];dsimp only;have pA:(aj p.1::aj p.2.1::p.2.2.map du).length=p.2.2.length+2:=by simp
 have g0:(aj p.1::aj p.2.1::p.2.2.map du).getD 0 []=aj p.1:=rfl;have g1:(aj p.1::aj p.2.1::p.2.2.map du).getD 1 []=aj p.2.1:=rfl;have eD:((aj p.1::aj p.2.1::p.2.2.map du).take ((aj p.1::aj p.2.1::p.2.2.map du).length:Int).toNat).drop 2=p.2.2.map du:=by rw [az,mN]; rfl
 rw [au (by omega),af (by omega),g0,rB (by omega) (by omega),aq,af (by omega),g1,rB (by omega) (by omega),aq,af (by omega),eD];refine vz p.2.2 (fun x=>x) (fun i l=>(i,p.1,p.2.1,l,())) (fun ih i hi l pO=>?_) (fun ih=>?_) (by omega)
 ·have aF:(i:Int)<((p.2.2.map du).length:Int):=by rw [mD]; omega
  have hg:(p.2.2.map du).getD i []=du p.2.2[i]:=by rw [aU (by omega),List.getElem_map]
  simp only [aM aF,az];rw [af (by omega),hg,Qx (QF _ (bV hi)) hn,aq];simp only [bo,aw];rw [af (by grind),ba (by omega)]
 have aF:¬ ((p.2.2.length:Int)<((p.2.2.map du).length:Int)):=by rw [mD]; omega
 simp only [au aF,bo,aw];rw [List.map_id'' (fun _=>rfl)];show cut ((jo.f n p).bind _) _=_;rw [GL ⟨by omega⟩ (by omega),h,aq];rfl
theorem agd {s:BB} (hs:s.length≤1048576) (hn:1048577<n):W (uz.f n s) (fun r=>r=(KT,false,())∨(cP r.1=true∧jA r.1=s)):=by
 have hB:=iR;unfold uz.f;rw [rA (by omega) (by omega) (by omega) hn,aq];have hp:=oq (UInt8.ofNat (59:Int).toNat) s;dsimp only;generalize bC (UInt8.ofNat (59:Int).toNat) s=L at hp;rw [n_,aq,cC];refine ⟨fun _=>ao.2 (.inl rfl),fun c=>?_⟩;simp only [Bool.not_eq_false',Bool.and_eq_true,decide_eq_true_eq] at c;have piece:∀ j,j<L.length→(L.getD j []).length≤1048576:=fun j hj=>by grind
 rw [af (by omega),dt];refine bA (Hz (piece 0 (by omega)) (by omega)) (fun r3 _=>?_);rw [af (by omega),dt];refine bA (Hz (piece 1 (by omega)) (by omega)) (fun r4 _=>?_);rw [af (by omega)];have hlen:(((L.length:Int).toNat-2:Nat):Int)=((L.length-2:Nat):Int):=by rw [az]
 simp only [hlen];refine gu (fun (i:Nat) (o:List Instr)=>((i:Int),r3.1,r4.1,o,())) (L.length-2) (fun i o=>o.length≤i) (s0:=[]) rfl (by simp) (by omega) (fun ih o hI=>?_) (fun ih i o hi hI hS=>?_)
 ·have hI:o.length≤L.length-2:=hI;simp only [au (bH _)];have XN:jq (r3.1,r4.1,o):=⟨by grind⟩
  refine fB.2 (bA (P:=fun z=>∃ y:Bool×Unit,z = .inr y∧(y.1=false→cP (r3.1,r4.1,o)=true∧jA (r3.1,r4.1,o)=s)) ?_ (fun z hz=>?_))
  ·rw [GK XN (by omega),aq];cases hk:cP (r3.1,r4.1,o)
   ·exact ao.2 ⟨_,rfl,fun h=>by cases h⟩
   simp only [bo,aw];rw [Qz XN (by omega),aq,vM,if_pos hk];exact ao.2 ⟨_,rfl,fun h=>⟨trivial,by grind⟩⟩
  obtain ⟨y,rfl,hy⟩:=hz;simp only;rw [cC];exact ⟨fun _=>ao.2 (.inl rfl),fun h=>ao.2 (.inr (hy h))⟩
 have hI:o.length≤i:=hI;simp only [aM (show (i:Int)<((L.length-2:Nat):Int) by omega),az];obtain ⟨q,e1,e2,hq⟩:=af8 (n:=n) (s:=L.getD (2+i) []) (piece _ (by omega)) hn;rw [af (by omega),e1,aq,cC];refine ⟨fun _=>ao.2 (.inl rfl),fun _=>?_⟩;rw [af (by grind),ba (by omega)]
 grind
theorem XO (h:cP p=true) (hn:1048577<n):uz.f n (jA p)=some (p,true,()):=by
 have hB:=iR;have hl:=HD h;obtain ⟨h1,h2,h3,h4⟩:=uw h;have QF:=KS h;unfold uz.f;have e59:UInt8.ofNat (59:Int).toNat=59:=rfl;rw [rA (by omega) (by omega) (by omega) hn,aq,e59,XL h];dsimp only;have pA:(aj p.1::aj p.2.1::p.2.2.map du).length=p.2.2.length+2:=by simp
 have g0:(aj p.1::aj p.2.1::p.2.2.map du).getD 0 []=aj p.1:=rfl;have g1:(aj p.1::aj p.2.1::p.2.2.map du).getD 1 []=aj p.2.1:=rfl;rw [n_,aq];have cU:(decide (3≤((aj p.1::aj p.2.1::p.2.2.map du).length:Int))&&decide (((aj p.1::aj p.2.1::p.2.2.map du).length:Int)≤26))=true:=by rw [pA]; simp only [Bool.and_eq_true,decide_eq_true_eq]; omega
 rw [cU];simp only [bo,aw];rw [af (by omega),g0,Au (by omega) (by omega) (by omega),aq,af (by omega),g1,Au (by omega) (by omega) (by omega),aq,af (by omega)];have hlen:((((aj p.1::aj p.2.1::p.2.2.map du).length:Int).toNat-2:Nat):Int)=(p.2.2.length:Int):=by rw [az,pA]; omega
 simp only [hlen];refine vz p.2.2 (fun x=>x) (fun i l=>(i,p.1,p.2.1,l,())) (fun ih i hi l pO=>?_) (fun ih=>?_) (by omega)
 ·have aF:(i:Int)<(p.2.2.length:Int):=by omega
  have hg:(aj p.1::aj p.2.1::p.2.2.map du).getD (2+i) []=du p.2.2[i]:=by
   have:(aj p.1::aj p.2.1::p.2.2.map du).getD (2+i) []=(p.2.2.map du).getD i []:=by rw [Nat.add_comm]; rfl
   rw [this,aU (by grind),List.getElem_map]
  simp only [aM aF,az];rw [af (by omega),hg,XE (QF _ (bV hi)) hn,aq];simp only [bo,aw];rw [af (by grind),ba (by omega)]
 simp only [au (bH _)];rw [List.map_id'' (fun _=>rfl)];show cut ((jn.f n p).bind _) _=_;rw [GK ⟨by omega⟩ (by omega),h,aq];simp only [bo,aw];show cut ((ur.f n p).bind _) _=_;rw [Qz ⟨by omega⟩ (by omega),aq,vM,if_pos h,decide_eq_true rfl];rfl
theorem age {s:BB} (hs:s.length≤1048576) (hn:1048577<n):∃ r,rC.f n s=some r∧Cu s r:=QC (XM hs hn) (fun x o et=>by subst et; exact QE o hn)
theorem agf {s:BB} (hs:s.length≤1048576) (hn:1048577<n):∃ r,uz.f n s=some r∧rC.f n s=some r∧Cu s r:=by
 obtain ⟨r,e,h⟩:=QC (agd hs hn) (fun x o et=>by subst et; exact XO o hn);obtain ⟨r',e',h'⟩:=QC (XM hs hn) (fun x o et=>by subst et; exact QE o hn);have:=h.one h'
 grind
end Go.AmT
namespace Go.AmT
open Go.Proofs Go.Proofs.Tryz
def xZ.f (n:Nat) (a0:ak):Option ((BB)×Unit):=(eO.f n a0).bind fun r1=>br (!r1.1) (some ([],())) (iter n (fun GH iK=>br (decide (iK.2.1<(a0.1.length:Int))) (ab (0≤iK.2.1∧iK.2.1<(a0.1.length:Int)) (let B4:=(a0.1.getD iK.2.1.toNat bf); ab (iK.1.length+([112,114,111,99,101,115,115,32]:BB).length<ca) ((ur.f n B4).bind fun eN=>ab ((iK.1++([112,114,111,99,101,115,115,32]:BB)).length+eN.1.length<ca) (ab (((iK.1++([112,114,111,99,101,115,115,32]:BB))++eN.1).length+([10]:BB).length<ca) (GH (((iK.1++([112,114,111,99,101,115,115,32]:BB))++eN.1)++([10]:BB),ag (iK.2.1+1),())))))) (iter n (fun Pp ir=>br (decide (ir.2.1<(a0.2.length:Int))) (ab (0≤ir.2.1∧ir.2.1<(a0.2.length:Int)) (let v30:=(a0.2.getD ir.2.1.toNat ay); ab (ir.1.length+([108,105,110,107,32]:BB).length<ca) ((cf.f n v30.1).bind fun oj=>ab ((ir.1++([108,105,110,107,32]:BB)).length+oj.1.length<ca) (ab (((ir.1++([108,105,110,107,32]:BB))++oj.1).length+([32]:BB).length<ca) ((cf.f n v30.2.1).bind fun gE=>ab ((((ir.1++([108,105,110,107,32]:BB))++oj.1)++([32]:BB)).length+gE.1.length<ca) (ab (((((ir.1++([108,105,110,107,32]:BB))++oj.1)++([32]:BB))++gE.1).length+([32]:BB).length<ca) ((cf.f n v30.2.2.1).bind fun kN=>ab ((((((ir.1++([108,105,110,107,32]:BB))++oj.1)++([32]:BB))++gE.1)++([32]:BB)).length+kN.1.length<ca) (ab (((((((ir.1++([108,105,110,107,32]:BB))++oj.1)++([32]:BB))++gE.1)++([32]:BB))++kN.1).length+([32]:BB).length<ca) ((cf.f n v30.2.2.2.1).bind fun kt=>ab ((((((((ir.1++([108,105,110,107,32]:BB))++oj.1)++([32]:BB))++gE.1)++([32]:BB))++kN.1)++([32]:BB)).length+kt.1.length<ca) (ab (((((((((ir.1++([108,105,110,107,32]:BB))++oj.1)++([32]:BB))++gE.1)++([32]:BB))++kN.1)++([32]:BB))++kt.1).length+([32]:BB).length<ca) ((sD.f n v30.2.2.2.2).bind fun kb=>ab ((((((((((ir.1++([108,105,110,107,32]:BB))++oj.1)++([32]:BB))++gE.1)++([32]:BB))++kN.1)++([32]:BB))++kt.1)++([32]:BB)).length+kb.1.length<ca) (ab (((((((((((ir.1++([108,105,110,107,32]:BB))++oj.1)++([32]:BB))++gE.1)++([32]:BB))++kN.1)++([32]:BB))++kt.1)++([32]:BB))++kb.1).length+([10]:BB).length<ca) (Pp (((((((((((ir.1++([108,105,110,107,32]:BB))++oj.1)++([32]:BB))++gE.1)++([32]:BB))++kN.1)++([32]:BB))++kt.1)++([32]:BB))++kb.1)++([10]:BB),ag (ir.2.1+1),())))))))))))))) (some (ir.1,()))) (iK.1,0,()))) ([],0,()))
def xZ.ae (n:Nat):ar:=⟨[.val bZ],[.val .str],fun x=>xZ.f n x.1⟩
theorem xZ.ok (n:Nat):aH 131 (xZ.ae n):=aJ n [(7,⟨[(3,.str),(14,.int .i64)],[],[1,12,13],[]⟩),(16,⟨[(3,.str),(28,.int .i64)],[],[26,27],[]⟩)] [] (ai ⟨eO.sound n,eO.av⟩ (ai (ur.ok n) (ai (sD.ok n) aC))) (dI ⟨cf.sound n,cf.av⟩ aD) func131
def vN.f (n:Nat) (a0:ak):Option ((BB)×Unit):=(dS.f n a0).bind fun r1=>br (!r1.1) (some ([],())) (iter n (fun GH iK=>br (decide (iK.2.1<(a0.1.length:Int))) (ab (0≤iK.2.1∧iK.2.1<(a0.1.length:Int)) (let B4:=(a0.1.getD iK.2.1.toNat bf); (Aw.f n B4).bind fun eN=>ab (([112,114,111,99,101,115,115,32]:BB).length+eN.1.length<ca) (ab ((([112,114,111,99,101,115,115,32]:BB)++eN.1).length+([10]:BB).length<ca) (ab (iK.1.length+((([112,114,111,99,101,115,115,32]:BB)++eN.1)++([10]:BB)).length<ca) (GH (iK.1++((([112,114,111,99,101,115,115,32]:BB)++eN.1)++([10]:BB)),ag (iK.2.1+1),())))))) (iter n (fun zW cJ=>br (decide (cJ.2.1<(a0.2.length:Int))) (ab (0≤cJ.2.1∧cJ.2.1<(a0.2.length:Int)) (let xO:=(a0.2.getD cJ.2.1.toNat ay); (Ap.f n ([xO.1,xO.2.1,xO.2.2.1,xO.2.2.2.1]:List Int)).bind fun ef=>ab (([108,105,110,107,32]:BB).length+ef.1.length<ca) ((lW.f n xO.2.2.2.2).bind fun i_=>ab ((([108,105,110,107,32]:BB)++ef.1).length+i_.1.length<ca) (ab (((([108,105,110,107,32]:BB)++ef.1)++i_.1).length+([10]:BB).length<ca) (ab (cJ.1.length+(((([108,105,110,107,32]:BB)++ef.1)++i_.1)++([10]:BB)).length<ca) (zW (cJ.1++(((([108,105,110,107,32]:BB)++ef.1)++i_.1)++([10]:BB)),ag (cJ.2.1+1),()))))))) (some (cJ.1,()))) (iK.1,0,()))) ([],0,()))
def vN.ae (n:Nat):ar:=⟨[.val bZ],[.val .str],fun x=>vN.f n x.1⟩
theorem vN.ok (n:Nat):aH 157 (vN.ae n):=aJ n [(7,⟨[(3,.str),(14,.int .i64)],[],[1,12,13],[]⟩),(16,⟨[(3,.str),(28,.int .i64)],[],[26,27],[]⟩)] [] (ai ⟨dS.sound n,dS.av⟩ (ai (Aw.ok n) (ai (Ap.ok n) (ai (lW.ok n) aC)))) aD func157
end Go.AmT
namespace Go.AmT
variable {nt:ak}
def uA (p:Program):BB:=[112,114,111,99,101,115,115,32]++vM p++[10]
def vO (l:aK):BB:=[108,105,110,107,32]++aj l.1++[32]++aj l.2.1++[32]++aj l.2.2.1++[32]++aj l.2.2.2.1++[32]++fmtS l.2.2.2.2++[10]
def pB (nt:ak):BB:=((bD nt.1.length).map fun i=>uA (nt.1.getD i bf)).flatten++((bD nt.2.length).map fun i=>vO (nt.2.getD i ay)).flatten
def Ax (nt:ak):BB:=if cr nt then pB nt else []
theorem EC (h:cr nt=true):cQ nt:=of_decide_eq_true h
structure x_ (l:aK):Prop where
 a : -1≤l.1∧l.1≤12
 b:0≤l.2.1∧l.2.1≤3
 c : -1≤l.2.2.1∧l.2.2.1≤12
 d:0≤l.2.2.2.1∧l.2.2.2.1≤3
 t:bX l.2.2.2.2=true
theorem XP (o:cQ nt) (k:Int) (h0:0≤k) (h1:k<(nt.1.length:Int)):(nt.1.getD k.toNat bf).1≤3∧(nt.1.getD k.toNat bf).2.1≤3:=by
 have hk:k.toNat<nt.1.length:=by omega
 rw [aU hk];have:=uw (o.prog k.toNat hk);omega
theorem Ay (o:cQ nt) {i:Nat} (hi:i<nt.2.length):x_ (nt.2.getD i ay):=by
 rw [aU hi];have E:=o.ends i hi;have hp:=o.dZ;refine ⟨?_,?_,?_,?_,o.j7 i hi⟩
 ·rcases E.out with h | h
  ·omega
  have:=h.1; have:=h.2.1; omega
 ·rcases E.out with h | h
  ·omega
  have:=(XP o _ h.1 h.2.1).2; have:=h.2.2.1; have:=h.2.2.2; omega
 ·rcases E.q_ with h | h
  ·omega
  have:=h.1; have:=h.2.1; omega
 rcases E.q_ with h | h
 ·omega
 have:=(XP o _ h.1 h.2.1).1; have:=h.2.2.1; have:=h.2.2.2; omega
theorem QG (p:Program):(uA p).length≤1200:=by have:=Qy p;simp only [uA,cY,bh,bP];omega
theorem QH {l:aK} (B:x_ l):(vO l).length≤4100:=by have h1:=B.a;have h2:=B.b;have h3:=B.c;have h4:=B.d;have l1:=fv (x:=l.1) (by omega) (by omega);have l2:=fv (x:=l.2.1) (by omega) (by omega);have l3:=fv (x:=l.2.2.1) (by omega) (by omega);have l4:=fv (x:=l.2.2.2.1) (by omega) (by omega);have l5:=Es l.2.2.2.2;simp only [vO,cY,bh,bP];omega
theorem QI (nt:ak) (o:cQ nt):(((bD nt.1.length).map fun i=>uA (nt.1.getD i bf)).flatten).length≤20000:=by have:=kq (fun i=>uA (nt.1.getD i bf)) 1200 (bD nt.1.length) (fun x hx=>QG _);rw [List.length_range] at this;have:=o.dZ;omega
theorem XQ (o:cQ nt):(pB nt).length≤150000:=by
 have h1:=QI nt o;have h2:=kq (fun i=>vO (nt.2.getD i ay)) 4100 (bD nt.2.length) (fun x hx=>QH (Ay o (List.mem_range.1 hx)));rw [List.length_range] at h2;have:=o.dp;unfold pB
 grind
theorem XR (h:cL nt) {i:Nat} (hi:i<nt.1.length):jq (nt.1.getD i bf):=by rw [aU hi]; exact h.prog _ (bV _)
theorem XS {n:Nat} (h:cL nt) (hn:1048576<n):xZ.f n nt=some (Ax nt,()):=by
 unfold xZ.f Ax;rw [sb h hn,aq];cases hk:cr nt
 ·simp only [gT,ax]; rfl
 have o:=EC hk;have pO:=o.dp;have QJ:=o.dZ;simp only [bo,aw,if_true];refine Hv (fun i=>uA (nt.1.getD i bf)) nt.1.length 1200 [] (fun i hi=>QG _) (fun t i=>(t,i,())) (fun ih i t hi ht=>?_) (fun ih=>?_) (by omega)
 ·have hf:=Qy (nt.1.getD i bf);simp only [bP] at ht;simp only [aM (show (i:Int)<(nt.1.length:Int) by omega),az];rw [af (by omega),ka (by simp only [bh,bP]; omega),Qz (XR h hi) hn,aq,ka (by simp only [cY,bh,bP]; omega),ka (by simp only [cY,bh,bP]; omega),ba (by omega)];simp only [uA,nR]
 simp only [au (bH _)];rw [List.nil_append];have hL:=QI nt o;refine Hv (fun i=>vO (nt.2.getD i ay)) nt.2.length 4100 _ (fun i hi=>QH (Ay o hi)) (fun t i=>(t,i,())) (fun ih i t hi ht=>?_) (fun ih=>?_) (by omega)
 ·have ht:t.length≤200000:=by omega
  obtain ⟨b1,b2,b3,b4,b5⟩:=Ay o hi;have l1:=fv (x:=(nt.2.getD i ay).1) (by omega) (by omega);have l2:=fv (x:=(nt.2.getD i ay).2.1) (by omega) (by omega);have l3:=fv (x:=(nt.2.getD i ay).2.2.1) (by omega) (by omega);have l4:=fv (x:=(nt.2.getD i ay).2.2.2.1) (by omega) (by omega);have l5:=Es (nt.2.getD i ay).2.2.2.2;have l6:=(pz b5).1;simp only [aM (show (i:Int)<(nt.2.length:Int) by omega),az];have L:∀ {m:Nat} {ρ:Type} {y:Option ρ},m≤300000→ab (m<ca) y=y:=fun h=>ka (by omega);rw [af (by omega),L (by grind),sE hn (by omega) (by omega),aq];rw [L (by grind),L (by grind),sE hn (by omega) (by omega),aq];rw [L (by grind),L (by grind),sE hn (by omega) (by omega),aq];rw [L (by grind),L (by simp only [cY,bh,bP]; omega),sE hn (by omega) (by omega),aq];rw [L (by simp only [cY,bh,bP]; omega),L (by simp only [cY,bh,bP]; omega),KG (by omega) hn,aq];rw [L (by simp only [cY,bh,bP]; omega),L (by simp only [cY,bh,bP]; omega),ba (by omega)];simp only [vO,nR]
 simp only [au (bH _)];rfl
theorem XT {n:Nat} (h:cL nt) (hn:1048576<n):vN.f n nt=some (Ax nt,()):=by
 unfold vN.f Ax;rw [tW h hn,aq];cases hk:cr nt
 ·simp only [gT,ax]; rfl
 have o:=EC hk;have pO:=o.dp;have QJ:=o.dZ;simp only [bo,aw,if_true];refine Hv (fun i=>uA (nt.1.getD i bf)) nt.1.length 1200 [] (fun i hi=>QG _) (fun t i=>(t,i,())) (fun ih i t hi ht=>?_) (fun ih=>?_) (by omega)
 ·have hf:=Qy (nt.1.getD i bf);simp only [bP] at ht;simp only [aM (show (i:Int)<(nt.1.length:Int) by omega),az];rw [af (by omega),aga (XR h hi) hn,aq,ka (by simp only [bh,bP]; omega),ka (by simp only [cY,bh,bP]; omega),ka (by simp only [cY,bh,bP]; omega),ba (by omega)];simp only [uA,nR]
 simp only [au (bH _)];rw [List.nil_append];have hL:=QI nt o;refine Hv (fun i=>vO (nt.2.getD i ay)) nt.2.length 4100 _ (fun i hi=>QH (Ay o hi)) (fun t i=>(t,i,())) (fun ih i t hi ht=>?_) (fun ih=>?_) (by omega)
 ·have ht:t.length≤200000:=by omega
  obtain ⟨b1,b2,b3,b4,b5⟩:=Ay o hi;have l1:=fv (x:=(nt.2.getD i ay).1) (by omega) (by omega);have l2:=fv (x:=(nt.2.getD i ay).2.1) (by omega) (by omega);have l3:=fv (x:=(nt.2.getD i ay).2.2.1) (by omega) (by omega);have l4:=fv (x:=(nt.2.getD i ay).2.2.2.1) (by omega) (by omega);have l5:=Es (nt.2.getD i ay).2.2.2.2;have l6:=(pz b5).1;simp only [aM (show (i:Int)<(nt.2.length:Int) by omega),az];have L:∀ {m:Nat} {ρ:Type} {y:Option ρ},m≤300000→ab (m<ca) y=y:=fun h=>ka (by omega);rw [af (by omega),afT hn (by omega) (by omega) (by omega) (by omega),aq,L (by simp only [cY,bh,bP]; omega),KH (by omega) hn,aq];rw [L (by simp only [cY,bh,bP]; omega),L (by simp only [cY,bh,bP]; omega),L (by simp only [cY,bh,bP]; omega),ba (by omega)];simp only [vO,nR]
 simp only [au (bH _)];rfl
end Go.AmT
namespace Go.AmT
open Go.Proofs Go.Proofs.Tryz
def sK.f (n:Nat) (a0 a1:BB):Option (Bool×Unit):=D4 a0 a1
def sK.ae (n:Nat):ar:=⟨[.val .str,.val .str],[.val .bool],fun x=>sK.f n x.1 x.2.1⟩
theorem sK.av:ck Tryz.prog 208:=cD func208 (by kernel_rfl) (by kernel_rfl)
theorem sK.sound (n:Nat):Sound Tryz.prog 208 (sK.ae n):=ac8 (fun s p w h=>Tryz.strings_HasSuffix s p w h)
def vP.f (n:Nat) (a0 a1:BB):Option (BB×Unit):=Gv a0 a1
def vP.ae (n:Nat):ar:=⟨[.val .str,.val .str],[.val .str],fun x=>vP.f n x.1 x.2.1⟩
theorem vP.av:ck Tryz.prog 209:=cD func209 (by kernel_rfl) (by kernel_rfl)
theorem vP.sound (n:Nat):Sound Tryz.prog 209 (vP.ae n):=ac9 (fun s p w h=>Tryz.strings_TrimSuffix s p w h)
def qF.f (n:Nat) (a0:BB):Option (List (BB)×Bool×Unit):=br (decide (a0=([]:BB))) (some ([],true,())) ((sK.f n a0 ([10]:BB)).bind fun r1=>br (!r1.1) (some ([],false,())) ((vP.f n a0 ([10]:BB)).bind fun r2=>(iE.f n r2.1 ([10]:BB)).bind fun r3=>some (r3.1,true,())))
def qF.ae (n:Nat):ar:=⟨[.val .str],[.sh (.sl .str),.val .bool],fun x=>qF.f n x.1⟩
theorem qF.ok (n:Nat):aH 153 (qF.ae n):=aJ n [] [] (ai ⟨sK.sound n,sK.av⟩ (ai ⟨vP.sound n,vP.av⟩ (ai ⟨iE.sound n,iE.av⟩ aC))) aD func153
end Go.AmT
namespace Go.AmT
variable {n:Nat}
theorem XU (t:BB):HF (t++[10]) [10]=true:=by
 unfold HF
 grind
theorem XV {t:BB} (hl:(t++[10]).length≤1048576):qF.f n (t++[10])=some (bC 10 t,true,()):=by
 have jW:t.length≤1048575:=by simp at hl; omega
 unfold qF.f;rw [au (by simp)];have e1:sK.f n (t++[10]) [10]=some (true,()):=by unfold sK.f D4;rw [if_pos (by omega),XU];rfl
 have e2:vP.f n (t++[10]) [10]=some (t,()):=by unfold vP.f Gv Lib.trimSuffix;rw [if_pos (by omega),XU];simp;rfl
 rw [e1,aq];simp only [bo,aw];rw [e2,aq,sI (by grind),aq]
theorem agh {t:BB} (hl:t.length≤1048576):W (qF.f n t) (fun r=>r.1.length≤1048576∧∀ p∈r.1,p.length≤1048575):=by
 by_cases h0:t=[]
 ·unfold qF.f;rw [aM h0];exact ao.2 ⟨by simp,fun p h=>by grind⟩
 by_cases hs:HF t [10]=true
 ·obtain ⟨u,rfl⟩:∃ u,t=u++[10]:=by
   unfold HF at hs;rw [Zs] at hs;obtain ⟨u,e⟩:=hs
   grind
  rw [XV hl];refine ao.2 ⟨?_,fun p hp=>?_⟩
  ·have:=vL 10 u
   grind
  have:=oq 10 u p hp
  grind
 unfold qF.f;rw [au h0];have e1:sK.f n t [10]=some (false,()):=by unfold sK.f D4;rw [if_pos (by omega),show HF t [10]=false by grind];rfl
 rw [e1,aq];simp only [gT,ax];exact ao.2 ⟨by simp,fun p h=>by grind⟩
theorem agi {l:List (BB)} (h:∀ a∈l,(10:UInt8)∉a) (hl:((l.map (·++[10])).flatten).length≤1048576):qF.f n ((l.map (·++[10])).flatten)=some (l,true,()):=by
 by_cases aG:l=[]
 ·subst aG;unfold qF.f;rw [aM (by rfl)]
 have hs:=Qm l h;have:=List.dropLast_concat_getLast aG;have e:(l.map (·++[10])).flatten=((l.dropLast).map (·++[10])).flatten++l.getLast aG++[10]:=by
  conv=>lhs; rw [← this]
  simp
 rw [e] at hl hs ⊢;rw [Xd] at hs;rw [XV hl,List.append_cancel_right hs]
end Go.AmT
namespace Go.AmT
open Go.Proofs Go.Proofs.Tryz
def rE.f (n:Nat) (a0 a1:BB):Option (BB×BB×Bool×Unit):=D5 a0 a1
def rE.ae (n:Nat):ar:=⟨[.val .str,.val .str],[.val .str,.val .str,.val .bool],fun x=>rE.f n x.1 x.2.1⟩
theorem rE.av:ck Tryz.prog 154:=cD func154 (by kernel_rfl) (by kernel_rfl)
theorem rE.sound (n:Nat):Sound Tryz.prog 154 (rE.ae n):=ada (b:=0) (by kernel_rfl) (fun s sep m w hs hm=>Tryz.strings_Cut s sep m w hs hm)
def uB.f (n:Nat) (a0:BB):Option (aK×Bool×Unit):=(iE.f n a0 ([32]:BB)).bind fun r1=>br (!decide ((r1.1.length:Int)=5)) (some ((0,0,0,0,[]),false,())) (cut (ab ((0:Int)≤0∧0<(r1.1.length:Int)) ((fi.f n (r1.1.getD 0 [])).bind fun gi=>ab ((0:Int)≤1∧(1:Int)<(r1.1.length:Int)) ((fi.f n (r1.1.getD 1 [])).bind fun cW=>br gi.2.1 (ab ((0:Int)≤2∧(2:Int)<(r1.1.length:Int)) ((fi.f n (r1.1.getD 2 [])).bind fun fq=>br cW.2.1 (ab ((0:Int)≤3∧(3:Int)<(r1.1.length:Int)) ((fi.f n (r1.1.getD 3 [])).bind fun fD=>br fq.2.1 (some (.inr (fD.2.1,gi.1,cW.1,fq.1,fD.1,()))) (some (.inr (false,gi.1,cW.1,fq.1,fD.1,()))))) (ab ((0:Int)≤3∧(3:Int)<(r1.1.length:Int)) ((fi.f n (r1.1.getD 3 [])).bind fun ie=>some (.inr (false,gi.1,cW.1,fq.1,ie.1,())))))) (ab ((0:Int)≤2∧(2:Int)<(r1.1.length:Int)) ((fi.f n (r1.1.getD 2 [])).bind fun dz=>ab ((0:Int)≤3∧(3:Int)<(r1.1.length:Int)) ((fi.f n (r1.1.getD 3 [])).bind fun iB=>some (.inr (false,gi.1,cW.1,dz.1,iB.1,())))))))) fun y9=>ab ((0:Int)≤4∧(4:Int)<(r1.1.length:Int)) ((pP.f n (r1.1.getD 4 [])).bind fun eN=>br y9.1 (some ((y9.2.1,y9.2.2.1,y9.2.2.2.1,y9.2.2.2.2.1,eN.1),eN.2.1,())) (some ((y9.2.1,y9.2.2.1,y9.2.2.2.1,y9.2.2.2.2.1,eN.1),false,()))))
def uB.ae (n:Nat):ar:=⟨[.val .str],[.val bJ,.val .bool],fun x=>uB.f n x.1⟩
theorem uB.ok (n:Nat):aH 156 (uB.ae n):=aJ n [(7,⟨[(5,.bt 1000 0),(6,.bool)],[(1000,.cells [] [.int .i64,.int .i64,.int .i64,.int .i64,.mc (.nil)])],[2,4],[]⟩),(500008,⟨[],[],[],[]⟩)] [] (ai ⟨iE.sound n,iE.av⟩ (ai (fi.ok n) (ai (pP.ok n) aC))) aD func156
def CO.f (n:Nat) (a0:BB):Option (ak×Bool×Unit):=(qF.f n a0).bind fun r1=>iter n (fun rD b_=>br (decide (b_.2.1<(r1.1.length:Int))) (ab (0≤b_.2.1∧b_.2.1<(r1.1.length:Int)) (let v31:=(r1.1.getD b_.2.1.toNat []); (rE.f n v31 ([32]:BB)).bind fun gE=>cut (br (decide (gE.1=([112,114,111,99,101,115,115]:BB))) (some (.inr (decide ((b_.2.2.2.1.length:Int)=0),()))) (some (.inr (false,())))) fun QK=>br QK.1 ((rC.f n gE.2.1).bind fun kt=>ab ((b_.2.2.1.length+([kt.1]:List Program).length)*40≤bn) (br b_.1 (rD (kt.2.1,ag (b_.2.1+1),b_.2.2.1++[kt.1],b_.2.2.2.1,())) (rD (false,ag (b_.2.1+1),b_.2.2.1++[kt.1],b_.2.2.2.1,())))) (br (decide (gE.1=([108,105,110,107]:BB))) ((uB.f n gE.2.1).bind fun kb=>ab ((b_.2.2.2.1.length+([kb.1]:List aK).length)*56≤bn) (br b_.1 (rD (kb.2.1,ag (b_.2.1+1),b_.2.2.1,b_.2.2.2.1++[kb.1],())) (rD (false,ag (b_.2.1+1),b_.2.2.1,b_.2.2.2.1++[kb.1],())))) (rD (false,ag (b_.2.1+1),b_.2.2.1,b_.2.2.2.1,()))))) (cut (br (!b_.1) (some (.inr (true,()))) ((dS.f n (b_.2.2.1,b_.2.2.2.1)).bind fun Cv=>br (!Cv.1) (some (.inr (true,()))) ((vN.f n (b_.2.2.1,b_.2.2.2.1)).bind fun rF=>some (.inr (!decide (rF.1=a0),()))))) fun QL=>br QL.1 (some (([],[]),false,())) (some ((b_.2.2.1,b_.2.2.2.1),true,())))) (r1.2.1,0,[],[],())
def vQ.f (n:Nat) (a0:List (BB)):Option (aK×Bool×Unit):=br (!decide ((a0.length:Int)=6)) (some ((0,0,0,0,[]),false,())) (ab ((0:Int)≤1∧(1:Int)<(a0.length:Int)) ((bO.f n (a0.getD 1 [])).bind fun r1=>ab ((0:Int)≤2∧(2:Int)<(a0.length:Int)) ((bO.f n (a0.getD 2 [])).bind fun r2=>ab ((0:Int)≤3∧(3:Int)<(a0.length:Int)) ((bO.f n (a0.getD 3 [])).bind fun r3=>ab ((0:Int)≤4∧(4:Int)<(a0.length:Int)) ((bO.f n (a0.getD 4 [])).bind fun r4=>ab ((0:Int)≤5∧(5:Int)<(a0.length:Int)) ((sH.f n (a0.getD 5 [])).bind fun r5=>some ((r1.1,r2.1,r3.1,r4.1,r5.1),r5.2.1,())))))))
def vQ.ae (n:Nat):ar:=⟨[.val (.sl .str)],[.val bJ,.val .bool],fun x=>vQ.f n x.1⟩
theorem vQ.ok (n:Nat):aH 129 (vQ.ae n):=aJ n [] [] (ai (sH.ok n) aC) (dI ⟨bO.sound n,bO.av⟩ aD) func129
def uC.f (n:Nat) (a0:BB):Option (ak×Bool×Unit):=(nu.f n a0 10).bind fun r1=>br (decide (43<(r1.1.length:Int))) (some (([],[]),false,())) (ab ((0:Int)≤0∧(0:Int)≤(ag ((r1.1.length:Int)-1))∧(ag ((r1.1.length:Int)-1))≤(r1.1.length:Int)) (iter n (fun J3 gM=>br (decide (gM.1<(((ag ((r1.1.length:Int)-1)).toNat-0):Int))) (ab (0≤gM.1∧gM.1<(((ag ((r1.1.length:Int)-1)).toNat-0):Int)) ((nu.f n (r1.1.getD (0+gM.1.toNat) []) 32).bind fun gE=>ab ((0:Int)≤0∧0<(gE.1.length:Int)) (br (decide ((gE.1.getD 0 [])=([108,105,110,107]:BB))) ((vQ.f n gE.1).bind fun kN=>br (!kN.2.1) (some (([],[]),false,())) (ab ((gM.2.2.1.length+([kN.1]:List aK).length)*56≤bn) (J3 (ag (gM.1+1),gM.2.1,gM.2.2.1++[kN.1],())))) (br (decide (((r1.1.getD (0+gM.1.toNat) []).length:Int)<8)) (some (([],[]),false,())) (ab ((0:Int)≤8∧(8:Int)≤((r1.1.getD (0+gM.1.toNat) []).length:Int)∧((r1.1.getD (0+gM.1.toNat) []).length:Int)≤((r1.1.getD (0+gM.1.toNat) []).length:Int)) ((uz.f n (((r1.1.getD (0+gM.1.toNat) []).take ((r1.1.getD (0+gM.1.toNat) []).length:Int).toNat).drop 8)).bind fun kt=>ab ((gM.2.1.length+([kt.1]:List Program).length)*40≤bn) (J3 (ag (gM.1+1),gM.2.1++[kt.1],gM.2.2.1,())))))))) (cut ((eO.f n (gM.2.1,gM.2.2.1)).bind fun ov=>br (!ov.1) (some (.inr (true,()))) ((xZ.f n (gM.2.1,gM.2.2.1)).bind fun Cv=>some (.inr (!decide (Cv.1=a0),())))) fun ya=>br ya.1 (some (([],[]),false,())) (some ((gM.2.1,gM.2.2.1),true,())))) (0,[],[],())))
def uC.ae (n:Nat):ar:=⟨[.val .str],[.sh bZ,.val .bool],fun x=>uC.f n x.1⟩
theorem uC.ok (n:Nat):aH 66 (uC.ae n):=aJ n [(8,⟨[(5,.bt 1000 0),(26,.int .i64)],[(1000,.cells [] [.own 1001 bp,.own 1002 bJ]),(1001,.row true bp),(1002,.row true bJ)],[0,2,24,25],[]⟩),(27,⟨[(75,.bool)],[],[2,5],[]⟩)] [] (ai (nu.ok n) (ai (vQ.ok n) (ai (uz.ok n) (ai ⟨eO.sound n,eO.av⟩ (ai (xZ.ok n) aC))))) aD func66
end Go.AmT
