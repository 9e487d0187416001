/- Networks that are read from texts, in plain Lean: both programs read the same. -/
import Derived.Test.YtjfaphipihgomaaGreatDoorMExL17
open Go Go.Am
noncomputable section
set_option linter.unusedVariables false
set_option linter.unusedSimpArgs false
set_option maxRecDepth 100000
open Bool renaming and_eq_true → aB, not_true → bo
open Go.Lib renaming itoa → aj
open Int renaming lt_irrefl → bH, toNat_natCast → az
open List renaming getD_eq_getElem?_getD → lG, getElem?_eq_none → HW, getElem_map → p5, getElem_mem → bV, getElem_of_mem → XW, getElem_range → CL, length_append → cY, length_cons → bh, length_drop → pH, length_nil → bP, length_pos_iff → kX, length_take → nH, map_congr_left → Cw, mem_append → eF, mem_cons → gC, mem_range → rN, prefix_rfl → aim, range → bD, take_of_length_le → Cc, take_succ_eq_append_getElem → jt
open UInt8 renaming ofNat → eS
namespace Go.AmT
variable {nt:ak} {l:aK} {s:BB} {k n:Nat} {A:List Program} {B:List aK}
def oy (p:Program):BB:=[112,114,111,99,101,115,115]++32::jA p
def yb (l:aK):BB:=aj l.1++32::(aj l.2.1++32::(aj l.2.2.1++32::(aj l.2.2.2.1++32::eB l.2.2.2.2)))
def sL (l:aK):BB:=[108,105,110,107]++32::yb l
def yd (nt:ak) (i:Nat):BB:=if i<nt.1.length then oy (nt.1.getD i bf) else sL (nt.2.getD (i-nt.1.length) ay)
def qG (nt:ak):List (BB):=(bD (nt.1.length+nt.2.length)).map (yd nt)
theorem HZ (nt:ak):(qG nt).length=nt.1.length+nt.2.length:=by simp [qG]
theorem XX (nt:ak) {i:Nat} (h:i<nt.1.length+nt.2.length):(qG nt).getD i []=yd nt i:=by rw [aU (by rw [HZ]; exact h)];simp [qG]
theorem XY (nt:ak):qG nt=((bD nt.1.length).map fun i=>oy (nt.1.getD i bf))++((bD nt.2.length).map fun i=>sL (nt.2.getD i ay)):=by
 refine List.ext_getElem (by simp [qG]) (fun i h1 h2=>?_);rw [HZ] at h1;simp only [qG,p5,CL];by_cases hi:i<nt.1.length
 ·rw [List.getElem_append_left (by grind)];simp only [p5,CL,yd]
  grind
 rw [List.getElem_append_right (by grind)];simp only [p5,CL,yd,List.length_map,List.length_range]
 grind
theorem QM (o:cQ nt) {i:Nat} (hi:i<nt.1.length):cP (nt.1.getD i bf)=true:=by rw [aU hi]; exact o.prog i hi
theorem agj {s:List Int} (h:bX s=true):fmtS s=eB s:=if_pos h
theorem KU (o:cQ nt):pB nt=((qG nt).map (·++[10])).flatten:=by
 rw [XY];unfold pB;have e1:((bD nt.1.length).map fun i=>uA (nt.1.getD i bf))=((bD nt.1.length).map fun i=>oy (nt.1.getD i bf)).map (·++[10]):=by rw [List.map_map];refine Cw (fun i hi=>?_);have hi:=rN.1 hi;simp only [uA,oy,Function.comp,vM,if_pos (QM o hi)];simp
 have e2:((bD nt.2.length).map fun i=>vO (nt.2.getD i ay))=((bD nt.2.length).map fun i=>sL (nt.2.getD i ay)).map (·++[10]):=by rw [List.map_map];refine Cw (fun i hi=>?_);have hi:=rN.1 hi;simp only [vO,sL,yb,Function.comp,agj (Ay o hi).t];simp
 grind
theorem agk {p:Program} (h:cP p=true) {c:UInt8} (hc:c=10):c∉jA p:=by
 subst hc;obtain ⟨h1,h2,h3,h4⟩:=uw h;have n1:=qE (x:=p.1) ⟨by omega,by omega⟩ (c:=10) (by decide) (by decide);have n2:=qE (x:=p.2.1) ⟨by omega,by omega⟩ (c:=10) (by decide) (by decide);have hi:=KS h;rw [jA,QB hi];simp only [eF,List.mem_singleton,List.mem_flatten,List.mem_map,not_or,not_exists,not_and];refine ⟨⟨⟨n1,by decide⟩,n2⟩,?_⟩;rintro l ⟨x,hx,rfl⟩ hm;rcases gC.1 hm with e | hm
 ·grind
 exact (XK (Ar (hi x hx) (by omega) (by omega) (by omega))).2 hm
theorem QN (B:x_ l):bC 32 (yb l)=[aj l.1,aj l.2.1,aj l.2.2.1,aj l.2.2.2.1,eB l.2.2.2.2]∧(10:UInt8)∉yb l:=by
 obtain ⟨a,b,c,d,t⟩:=B;have ht:=(pz t).2;have n:∀ {v:Int},-1≤v→v≤12→∀ c:UInt8,c=32∨c=10→c∉aj v:=fun h0 h1 c hc=>qE ⟨by omega,by omega⟩ (by grind) (by rcases hc with rfl | rfl<;>decide);have m:∀ c:UInt8,c=32∨c=10→c∉eB l.2.2.2.2:=fun c hc=>by
  rcases hc with rfl | rfl
  ·exact Xr ht (by decide) (by decide) (by decide) (by decide)
  exact Xr ht (by decide) (by decide) (by decide) (by decide)
 refine ⟨?_,?_⟩
 ·unfold yb;rw [mE _ (n a.1 a.2 32 (.inl rfl)),mE _ (n (by omega) (by omega) 32 (.inl rfl)),mE _ (n c.1 c.2 32 (.inl rfl)),mE _ (n (by omega) (by omega) 32 (.inl rfl)),As (m 32 (.inl rfl))]
 have n1:=n a.1 a.2 10 (.inr rfl);have n2:=n (v:=l.2.1) (by omega) (by omega) 10 (.inr rfl);have n3:=n c.1 c.2 10 (.inr rfl);have n4:=n (v:=l.2.2.2.1) (by omega) (by omega) 10 (.inr rfl);have n5:=m 10 (.inr rfl);simp only [yb,eF,gC,not_or]
 grind
theorem XZ (o:cQ nt):∀ l∈qG nt,(10:UInt8)∉l:=by
 rw [XY];intro l hl;simp only [eF,List.mem_map,rN] at hl;rcases hl with ⟨i,hi,rfl⟩ | ⟨i,hi,rfl⟩
 ·have:=agk (QM o hi) rfl;simp only [oy,eF,gC,List.not_mem_nil,or_false,not_or]
  grind
 have:=(QN (Ay o hi)).2;simp only [sL,eF,gC,List.not_mem_nil,or_false,not_or]
 grind
theorem X_ (B:x_ l):(yb l).length≤5000:=by obtain ⟨a,b,c,d,t⟩:=B;have l1:=fv (x:=l.1) (by omega) (by omega);have l2:=fv (x:=l.2.1) (by omega) (by omega);have l3:=fv (x:=l.2.2.1) (by omega) (by omega);have l4:=fv (x:=l.2.2.2.1) (by omega) (by omega);have l5:=Qr t;simp only [yb,cY,bh];omega
abbrev KW:ak:=([],[])
structure ED (s:BB) (r:ak×Bool×Unit):Prop where
 all:∀ nt,cQ nt→pB nt=s→r=(nt,true,())
 uq:(∃ nt,cQ nt∧pB nt=s)∨r=(KW,false,())
theorem ED.one {s:BB} {r r':ak×(Bool×Unit)} (h:ED s r) (h':ED s r'):r=r':=by
 rcases h.uq with ⟨x,o,e⟩ | e
 ·rw [h.all x o e,h'.all x o e]
 rcases h'.uq with ⟨x,o,e'⟩ | e'
 ·rw [h.all x o e',h'.all x o e']
 grind
theorem X0 {s:BB} {m:Option (ak×Bool×Unit)} (h1:W m (fun r=>r=(KW,false,())∨(cQ r.1∧pB r.1=s))) (h2:∀ x,cQ x→pB x=s→m=some (x,true,())):W m (ED s):=by
 obtain ⟨r,e,h⟩:=h1;refine ⟨r,e,⟨fun x o et=>?_,?_⟩⟩
 ·grind
 grind
theorem KX (o:cQ nt):cL nt:=by
 have h1:=o.dZ;have h2:=o.dp;refine ⟨by omega,fun p hp=>?_,by omega,fun l hl=>?_⟩
 ·obtain ⟨i,hi,rfl⟩:=XW hp;exact ⟨by have:=(uw (o.prog i hi)).2.2.1; omega⟩
 obtain ⟨i,hi,rfl⟩:=XW hl;exact ⟨by have:=(pz (o.j7 i hi)).1; omega⟩
structure nv (k:Nat) (A:List Program) (B:List aK):Prop where
 la:A.length≤k
 lb:B.length≤k
 ra:∀ p∈A,jq p
 rb:∀ l∈B,nj l
theorem nv.nil:nv 0 [] []:=⟨by simp,by simp,fun _ h=>(by grind),fun _ h=>(by grind)⟩
theorem nv.mono {k k':Nat} {A:List Program} {B:List aK} (I:nv k A B) (h:k≤k'):nv k' A B:=⟨by have:=I.la; omega,by have:=I.lb; omega,I.ra,I.rb⟩
theorem nv.prog {k:Nat} {A:List Program} {B:List aK} (I:nv k A B) {p:Program} (h:jq p):nv (k+1) (A++[p]) B:=⟨by have:=I.la; simp; omega,by have:=I.lb; omega,Ls I.ra h,I.rb⟩
theorem nv.link {k:Nat} {A:List Program} {B:List aK} (I:nv k A B) {l:aK} (h:nj l):nv (k+1) A (B++[l]):=⟨by have:=I.la; omega,by have:=I.lb; simp; omega,I.ra,Ls I.rb h⟩
theorem nv.small (I:nv k A B) (h:k≤1048576):cL (A,B):=⟨by have:=I.la; show A.length≤_; omega,I.ra,by have:=I.lb; show B.length≤_; omega,I.rb⟩
def ny (nt:ak) (i:Nat):List Program×(List aK×Unit):=(nt.1.take i,nt.2.take (i-nt.1.length),())
theorem X1 (o:cQ nt) {i:Nat} (hi:i<nt.1.length+nt.2.length) :
  (∃ A p,ny nt i=(A,[],())∧yd nt i=oy p∧ny nt (i+1)=(A++[p],[],())∧cP p=true∧A.length≤12)∨
  (∃ A B l,ny nt i=(A,B,())∧yd nt i=sL l∧ny nt (i+1)=(A,B++[l],())∧x_ l∧B.length≤30):=by
 have iP:=o.dp;have A1:=o.dZ;by_cases hA:i<nt.1.length
 ·have e0:i-nt.1.length=0:=by omega
  have e1:i+1-nt.1.length=0:=by omega
  refine .inl ⟨nt.1.take i,nt.1.getD i bf,?_,?_,?_,QM o hA,by grind⟩
  ·rw [ny,e0,List.take_zero]
  ·rw [yd,if_pos hA]
  rw [ny,e1,List.take_zero,jt hA,aU hA]
 have hq:i-nt.1.length<nt.2.length:=by omega
 refine .inr ⟨nt.1.take i,nt.2.take (i-nt.1.length),nt.2.getD (i-nt.1.length) ay,rfl,?_,?_,Ay o hq,by grind⟩
 ·rw [yd,if_neg hA]
 have e3:i+1-nt.1.length=(i-nt.1.length)+1:=by omega
 have e1:nt.1.take (i+1)=nt.1.take i:=by rw [Cc (by omega),Cc (by omega)]
 rw [ny,e3,e1,jt hq,aU hq]
theorem X2 : ny nt (nt.1.length+nt.2.length)=(nt.1,nt.2,()):=by unfold ny;rw [Cc (by omega),Cc (by omega)]
theorem X3 {c:UInt8} (r:BB):∀ {w:BB},c∉w→Lib.index (w++c::r) [c]=(w.length:Int)
 | [],_=>by rw [List.nil_append,Lib.index]; simp [List.isPrefixOf]
 | x::xs,h=>by
  have h1:x≠c:=fun e=>h (by simp [e]);have h2:c∉xs:=fun e=>h (by simp [e]);have ih:=X3 r h2;have hp:([c]:BB).isPrefixOf (x::(xs++c::r))=false:=by simp [List.isPrefixOf,Ne.symm h1]
  rw [List.cons_append,Lib.index,hp,ih];have n:(((xs.length:Nat):Int)==-1)=false:=by simp
  simp only [Bool.false_eq_true,if_false,n,bh];omega
theorem X4 {w r:BB} {c:UInt8} (h:c∉w) (hl:(w++c::r).length≤1048576):rE.f n (w++c::r) [c]=some (w,r,true,()):=by unfold rE.f D5;rw [if_pos (by omega)];unfold Lib.cut;rw [X3 r h,if_pos (by omega)];simp;rfl
theorem agl {s:BB} {c:BB} (hl:s.length≤1048576):W (rE.f n s c) (fun r=>r.2.1.length≤s.length):=by
 unfold rE.f D5;rw [if_pos (by omega)];refine ao.2 ?_;show (Lib.cut s c).2.1.length≤_;unfold Lib.cut
 grind
theorem agm (B:x_ l) (hn:1048577<n):uB.f n (yb l)=some (l,true,()):=by have hl:=X_ B;have hs:=(QN B).1;obtain ⟨a,b,c,d,t⟩:=B;unfold uB.f;rw [sI (by omega),hs,aq];dsimp only;have h5:(([aj l.1,aj l.2.1,aj l.2.2.1,aj l.2.2.2.1,eB l.2.2.2.2]:List (BB)).length:Int)=5:=rfl;rw [h5,decide_eq_true rfl];simp only [bo,aw];have g0:([aj l.1,aj l.2.1,aj l.2.2.1,aj l.2.2.2.1,eB l.2.2.2.2]:List (BB)).getD 0 []=aj l.1:=rfl;have g1:([aj l.1,aj l.2.1,aj l.2.2.1,aj l.2.2.2.1,eB l.2.2.2.2]:List (BB)).getD 1 []=aj l.2.1:=rfl;have g2:([aj l.1,aj l.2.1,aj l.2.2.1,aj l.2.2.2.1,eB l.2.2.2.2]:List (BB)).getD 2 []=aj l.2.2.1:=rfl;have g3:([aj l.1,aj l.2.1,aj l.2.2.1,aj l.2.2.2.1,eB l.2.2.2.2]:List (BB)).getD 3 []=aj l.2.2.2.1:=rfl;have g4:([aj l.1,aj l.2.1,aj l.2.2.1,aj l.2.2.2.1,eB l.2.2.2.2]:List (BB)).getD 4 []=eB l.2.2.2.2:=rfl;rw [g0,g1,g2,g3,g4,rB (x:=l.1) (by omega) (by omega),rB (x:=l.2.1) (by omega) (by omega),rB (x:=l.2.2.1) (by omega) (by omega),rB (x:=l.2.2.2.1) (by omega) (by omega),af_ t hn];rw [af (show (0:Int)≤0∧(0:Int)<5 by omega)];simp only [aq,ax];rw [af (show (0:Int)≤1∧(1:Int)<5 by omega),af (show (0:Int)≤2∧(2:Int)<5 by omega),af (show (0:Int)≤3∧(3:Int)<5 by omega)];simp only [bg,ax];rw [af (show (0:Int)≤4∧(4:Int)<5 by omega)]
theorem agn {s:BB} (hs:s.length≤1048576) (hn:1048577<n):W (uB.f n s) (fun r=>nj r.1):=by
 unfold uB.f;rw [sI (by omega),aq];have hp:=oq 32 s;dsimp only;generalize bC 32 s=L at hp;rw [cC];refine ⟨fun _=>ao.2 ⟨by simp⟩,fun c=>?_⟩;have c:(L.length:Int)=5:=by simpa using c
 have piece:∀ j,j<5→(L.getD j []).length≤1048575:=fun j hj=>by grind
 have num:∀ j,j<5→W (fi.f n (L.getD j [])) (fun _=>True):=fun j hj=>Av (by grind);refine fB.2 (bA (P:=fun z=>∃ y:Bool×(Int×Int×Int×Int×Unit),z = .inr y) ?_ (fun z hz=>?_))
 ·rw [af (by omega),dt];refine bA (num 0 (by omega)) (fun gi _=>?_);rw [af (by omega),dt];refine bA (num 1 (by omega)) (fun cW _=>?_);rw [cC];refine ⟨fun _=>?_,fun _=>?_⟩
  ·rw [af (by omega),dt];refine bA (num 2 (by omega)) (fun fq _=>?_);rw [cC];refine ⟨fun _=>?_,fun _=>?_⟩
   ·rw [af (by omega),dt];refine bA (num 3 (by omega)) (fun fD _=>?_);rw [cC];exact ⟨fun _=>ao.2 ⟨_,rfl⟩,fun _=>ao.2 ⟨_,rfl⟩⟩
   rw [af (by omega),dt];exact bA (num 3 (by omega)) (fun fD _=>ao.2 ⟨_,rfl⟩)
  rw [af (by omega),dt];refine bA (num 2 (by omega)) (fun fq _=>?_);rw [af (by omega),dt];exact bA (num 3 (by omega)) (fun fD _=>ao.2 ⟨_,rfl⟩)
 obtain ⟨y,rfl⟩:=hz;simp only;rw [af (by omega),dt];refine bA (af1 (piece 4 (by omega)) hn) (fun r h=>?_);have hb:r.1.length≤1048576:=by have:=(pz h).1; omega
 rw [cC];exact ⟨fun _=>ao.2 ⟨hb⟩,fun _=>ao.2 ⟨hb⟩⟩
theorem X5 {p:Program} (h:cP p=true):(oy p).length≤2000:=by have:=HD h;simp only [oy,cY,bh,bP];omega
theorem X6 (B:x_ l):(sL l).length≤6000:=by have:=X_ B;simp only [sL,cY,bh,bP];omega
theorem ago (o:cQ nt) (hn:1048577<n):CO.f n (pB nt)=some (nt,true,()):=by
 have hB:=iR;have hS:=KX o;have iP:=o.dp;have A1:=o.dZ;have hL:=XQ o;have pO:=agi (n:=n) (XZ o) (by rw [← KU o]; omega);rw [← KU o] at pO;have hlen:=HZ nt;have hz:ny nt 0=([],[],()):=by simp [ny]
 unfold CO.f;rw [pO,aq];dsimp only;refine Eq.trans (congrArg (iter n _) (show _=(true,((0:Nat):Int),ny nt 0) from by grind)) ?_;refine mu (n:=n) (fun i=>(true,(i:Int),ny nt i)) (nt.1.length+nt.2.length) (fun ih i hi=>?_) (fun ih=>?_) (by omega)
 ·have gU:(i:Int)<((qG nt).length:Int):=by omega
  simp only [aM gU,az];rw [af (by omega),XX nt hi,ba (by omega)];rcases X1 o hi with ⟨A,p,e1,e2,e3,hp,hA⟩ | ⟨A,B,l,e1,e2,e3,EE,hA⟩
  ·rw [e1,e2,e3];have yD:=X5 hp;rw [oy,X4 (by decide) (by rw [oy] at yD; omega),aq];dsimp only;rw [aM rfl];simp only [bg,bP];rw [decide_eq_true (show ((0:Nat):Int)=0 from rfl),ax,QE hp hn,aq,af (by grind)];simp only [ax]
  rw [e1,e2,e3];have yD:=X6 EE;rw [sL,X4 (by decide) (by rw [sL] at yD; omega),aq];dsimp only;rw [au (by decide)];simp only [bg,aw];simp only [decide_true,ax];rw [agm EE hn,aq,af (by grind)]
 have gU:¬ (((nt.1.length+nt.2.length:Nat):Int)<((qG nt).length:Int)):=by omega
 simp only [au gU,bo,aw];rw [X2];show cut ((dS.f n nt).bind _) _=_;rw [tW hS (by omega),show cr nt=true from decide_eq_true o,aq];simp only [bo,aw];show cut ((vN.f n nt).bind _) _=_;rw [XT hS (by omega),aq,Ax,if_pos (show cr nt=true from decide_eq_true o),decide_eq_true rfl];rfl
theorem agp {t:BB} (hl:t.length≤1048576) (hn:1048577<n):W (CO.f n t) (fun r=>r=(KW,false,())∨(cQ r.1∧pB r.1=t)):=by
 have hB:=iR;unfold CO.f;rw [dt];refine bA (agh hl) (fun r1 ⟨hL,hP⟩=>?_);obtain ⟨L,ok0,⟨⟩⟩:=r1;dsimp only at hL hP ⊢;refine gu (fun (i:Nat) (o:Bool×List Program×List aK)=>(o.1,(i:Int),o.2.1,o.2.2,())) L.length (fun i o=>nv i o.2.1 o.2.2) (s0:=(ok0,[],[])) rfl nv.nil (by omega) (fun ih o I=>?_) (fun ih i o hi I hS=>?_)
 ·simp only [au (bH _)];have hS:=I.small (by omega);refine fB.2 (bA (P:=fun z=>∃ y:Bool×Unit,z = .inr y∧(y.1=false→cQ (o.2.1,o.2.2)∧pB (o.2.1,o.2.2)=t)) ?_ (fun z hz=>?_))
  ·rw [cC];refine ⟨fun _=>ao.2 ⟨_,rfl,fun h=>by cases h⟩,fun _=>?_⟩;rw [tW hS (by omega),aq,cC];refine ⟨fun _=>ao.2 ⟨_,rfl,fun h=>by cases h⟩,fun hk=>?_⟩;have hk:cr (o.2.1,o.2.2)=true:=by simpa using hk
   rw [XT hS (by omega),aq];refine ao.2 ⟨_,rfl,fun h=>⟨EC hk,?_⟩⟩;rw [Ax,if_pos hk] at h
   grind
  obtain ⟨y,rfl,hy⟩:=hz;simp only;rw [cC];exact ⟨fun _=>ao.2 (.inl rfl),fun h=>ao.2 (.inr (hy h))⟩
 simp only [aM (show (i:Int)<(L.length:Int) by omega),az];have hla:=I.la;have BW:=I.lb;have ain:=hP (L.getD i []) (by grind);rw [af (by omega),dt,ba (by omega)];refine bA (agl (by omega)) (fun gE X7=>?_);refine fB.2 (bA (P:=fun z=>∃ y:Bool×Unit,z = .inr y) ?_ (fun z hz=>?_))
 ·rw [cZ];exact ⟨fun _=>ao.2 ⟨_,rfl⟩,fun _=>ao.2 ⟨_,rfl⟩⟩
 obtain ⟨y,rfl⟩:=hz;simp only;rw [cC];refine ⟨fun _=>?_,fun _=>?_⟩
 ·obtain ⟨q,e2,hq⟩:=age (n:=n) (s:=gE.2.1) (by omega) hn;rw [e2,aq,af (by simp only [bh,bP]; omega),cC];exact ⟨fun _=>hS (q.2.1,o.2.1++[q.1],o.2.2) (I.prog (QD hq)),fun _=>hS (false,o.2.1++[q.1],o.2.2) (I.prog (QD hq))⟩
 rw [cZ];refine ⟨fun _=>?_,fun _=>hS (false,o.2.1,o.2.2) (I.mono (by omega))⟩;rw [dt];refine bA (agn (by omega) hn) (fun kb X8=>?_);rw [af (by grind),cC];exact ⟨fun _=>hS (kb.2.1,o.2.1,o.2.2++[kb.1]) (I.link X8),fun _=>hS (false,o.2.1,o.2.2++[kb.1]) (I.link X8)⟩
theorem agq (B:x_ l):bC 32 (sL l)=[[108,105,110,107],aj l.1,aj l.2.1,aj l.2.2.1,aj l.2.2.2.1,eB l.2.2.2.2]:=by rw [sL,mE _ (by decide),(QN B).1]
theorem agr (B:x_ l) (hn:1048577<n):vQ.f n [[108,105,110,107],aj l.1,aj l.2.1,aj l.2.2.1,aj l.2.2.2.1,eB l.2.2.2.2]=some (l,true,()):=by obtain ⟨a,b,c,d,t⟩:=B;unfold vQ.f;have h6:(([[108,105,110,107],aj l.1,aj l.2.1,aj l.2.2.1,aj l.2.2.2.1,eB l.2.2.2.2]:List (BB)).length:Int)=6:=rfl;rw [h6,decide_eq_true rfl];simp only [bo,aw];have g1:([[108,105,110,107],aj l.1,aj l.2.1,aj l.2.2.1,aj l.2.2.2.1,eB l.2.2.2.2]:List (BB)).getD 1 []=aj l.1:=rfl;have g2:([[108,105,110,107],aj l.1,aj l.2.1,aj l.2.2.1,aj l.2.2.2.1,eB l.2.2.2.2]:List (BB)).getD 2 []=aj l.2.1:=rfl;have g3:([[108,105,110,107],aj l.1,aj l.2.1,aj l.2.2.1,aj l.2.2.2.1,eB l.2.2.2.2]:List (BB)).getD 3 []=aj l.2.2.1:=rfl;have g4:([[108,105,110,107],aj l.1,aj l.2.1,aj l.2.2.1,aj l.2.2.2.1,eB l.2.2.2.2]:List (BB)).getD 4 []=aj l.2.2.2.1:=rfl;have g5:([[108,105,110,107],aj l.1,aj l.2.1,aj l.2.2.1,aj l.2.2.2.1,eB l.2.2.2.2]:List (BB)).getD 5 []=eB l.2.2.2.2:=rfl;rw [af (by omega),g1,Au (by omega) (by omega) (by omega),aq,af (by omega),g2,Au (by omega) (by omega) (by omega),aq,af (by omega),g3,Au (by omega) (by omega) (by omega),aq,af (by omega),g4,Au (by omega) (by omega) (by omega),aq,af (by omega),g5,afZ t hn,aq]
theorem ags {L:List (BB)} (hp:∀ p∈L,p.length+L.length≤1048577) (hn:1048577<n):W (vQ.f n L) (fun r=>nj r.1):=by
 unfold vQ.f;rw [cC];refine ⟨fun _=>ao.2 ⟨by simp⟩,fun c=>?_⟩;have c:(L.length:Int)=6:=by simpa using c
 have piece:∀ j,j<6→(L.getD j []).length≤1048575:=fun j hj=>by grind
 have num:∀ j,j<6→W (bO.f n (L.getD j [])) (fun _=>True):=fun j hj=>Hz (by grind) (by omega);rw [af (by omega),dt];refine bA (num 1 (by omega)) (fun r1 _=>?_);rw [af (by omega),dt];refine bA (num 2 (by omega)) (fun r2 _=>?_);rw [af (by omega),dt];refine bA (num 3 (by omega)) (fun r3 _=>?_);rw [af (by omega),dt];refine bA (num 4 (by omega)) (fun r4 _=>?_);rw [af (by omega),dt];refine bA (af0 (piece 5 (by omega)) hn) (fun r h=>ao.2 ⟨?_⟩);show r.1.length≤_;have:=(pz h).1;omega
theorem agt (o:cQ nt) (hn:1048577<n):uC.f n (pB nt)=some (nt,true,()):=by
 have hB:=iR;have hS:=KX o;have iP:=o.dp;have A1:=o.dZ;have hL:=XQ o;unfold uC.f;have e10:eS (10:Int).toNat=10:=rfl;rw [rA (by omega) (by omega) (by omega) hn,aq,e10,KU o,Qm _ (XZ o)];dsimp only;have hlen:(qG nt++[[]]).length=(nt.1.length+nt.2.length)+1:=by simp [HZ]
 have hw:ag (((qG nt++[[]]).length:Int)-1)=((nt.1.length+nt.2.length:Nat):Int):=by rw [hlen,bM]<;>omega
 rw [au (by omega),hw,af (by omega)];simp only [az,Int.sub_zero];have hz:ny nt 0=([],[],()):=by simp [ny]
 refine Eq.trans (congrArg (iter n _) (show _=(((0:Nat):Int),ny nt 0) from by grind)) ?_;refine mu (n:=n) (fun i=>((i:Int),ny nt i)) (nt.1.length+nt.2.length) (fun ih i hi=>?_) (fun ih=>?_) (by omega)
 ·have gU:(i:Int)<((nt.1.length+nt.2.length:Nat):Int):=by omega
  simp only [aM gU,az,Nat.zero_add];have hg:(qG nt++[[]]).getD i []=yd nt i:=by rw [← XX nt hi,lG,List.getElem?_append_left (by grind),← lG]
  have EA:eS (32:Int).toNat=32:=rfl;rw [af (by omega),hg,ba (by omega)];rcases X1 o hi with ⟨A,p,e1,e2,e3,hp,hA⟩ | ⟨A,B,l,e1,e2,e3,EE,hA⟩
  ·rw [e1,e2,e3];have yD:=X5 hp;have h8:8≤(oy p).length:=by simp only [oy,cY,bh,bP]; omega
   rw [rA (by omega) (by omega) (by omega) hn,aq,EA];have hsp:bC 32 (oy p)=[112,114,111,99,101,115,115]::bC 32 (jA p):=by rw [oy,mE _ (by decide)]
   rw [hsp];dsimp only;have g0:([112,114,111,99,101,115,115]::bC 32 (jA p)).getD 0 []=[112,114,111,99,101,115,115]:=rfl;have ed:((oy p).take (oy p).length).drop 8=jA p:=by rw [List.take_length]; rfl
   rw [af (by grind),g0,au (by decide),au (by omega),af (by omega),ed,XO hp hn,aq,af (by grind)]
  rw [e1,e2,e3];have yD:=X6 EE;rw [rA (by omega) (by omega) (by omega) hn,aq,EA,agq EE];dsimp only;have g0:([[108,105,110,107],aj l.1,aj l.2.1,aj l.2.2.1,aj l.2.2.2.1,eB l.2.2.2.2]:List (BB)).getD 0 []=[108,105,110,107]:=rfl;rw [af (by grind),g0,aM rfl,agr EE hn,aq];simp only [bo,aw];rw [af (by grind)]
 simp only [au (bH _)];rw [X2];show cut ((eO.f n nt).bind _) _=_;rw [sb hS (by omega),show cr nt=true from decide_eq_true o,aq];simp only [bo,aw];show cut ((xZ.f n nt).bind _) _=_;rw [XS hS (by omega),aq,Ax,if_pos (show cr nt=true from decide_eq_true o),KU o,decide_eq_true rfl];rfl
theorem agu {t:BB} (hl:t.length≤1048576) (hn:1048577<n):W (uC.f n t) (fun r=>r=(KW,false,())∨(cQ r.1∧pB r.1=t)):=by
 have hB:=iR;unfold uC.f;rw [rA (by omega) (by omega) hl hn,aq];have aG:=nD (eS (10:Int).toNat) t;have hp:=oq (eS (10:Int).toNat) t;dsimp only;generalize bC (eS (10:Int).toNat) t=L at aG hp;have fG:=kX.2 aG;rw [cZ];refine ⟨fun _=>ao.2 (.inl rfl),fun h43=>?_⟩;have hw:ag ((L.length:Int)-1)=((L.length-1:Nat):Int):=by rw [bM]<;>omega
 rw [hw,af (by omega)];simp only [az,Int.sub_zero];refine gu (fun (i:Nat) (o:List Program×List aK)=>((i:Int),o.1,o.2,())) (L.length-1) (fun i o=>nv i o.1 o.2) (s0:=([],[])) rfl nv.nil (by omega) (fun ih o I=>?_) (fun ih i o hi I hS=>?_)
 ·simp only [au (bH _)];have hS:=I.small (by omega);refine fB.2 (bA (P:=fun z=>∃ y:Bool×Unit,z = .inr y∧(y.1=false→cQ (o.1,o.2)∧pB (o.1,o.2)=t)) ?_ (fun z hz=>?_))
  ·rw [sb hS (by omega),aq,cC];refine ⟨fun _=>ao.2 ⟨_,rfl,fun h=>by cases h⟩,fun hk=>?_⟩;have hk:cr (o.1,o.2)=true:=by simpa using hk
   rw [XS hS (by omega),aq];refine ao.2 ⟨_,rfl,fun h=>⟨EC hk,?_⟩⟩;rw [Ax,if_pos hk] at h
   grind
  obtain ⟨y,rfl,hy⟩:=hz;simp only;rw [cC];exact ⟨fun _=>ao.2 (.inl rfl),fun h=>ao.2 (.inr (hy h))⟩
 simp only [aM (show (i:Int)<((L.length-1:Nat):Int) by omega),az,Nat.zero_add];have hla:=I.la;have BW:=I.lb;have hq:=hp (L.getD i []) (by grind);rw [af (by omega),rA (by omega) (by omega) (by omega) hn,aq,ba (by omega)];have Lj:=nD (eS (32:Int).toNat) (L.getD i []);have mX:=oq (eS (32:Int).toNat) (L.getD i []);dsimp only;generalize bC (eS (32:Int).toNat) (L.getD i [])=M at Lj mX;have aio:=kX.2 Lj;rw [af (by omega),cZ];refine ⟨fun _=>?_,fun _=>?_⟩
 ·rw [dt];refine bA (ags (fun p hp=>by grind) hn) (fun r h=>?_);rw [cC];refine ⟨fun _=>ao.2 (.inl rfl),fun _=>?_⟩;rw [af (by grind)];exact hS (o.1,o.2++[r.1]) (I.link h)
 rw [cZ];refine ⟨fun _=>ao.2 (.inl rfl),fun h8=>?_⟩;rw [af (by omega)];have hd:(((L.getD i []).take (L.getD i []).length).drop 8).length≤1048576:=by rw [pH,nH]; omega
 obtain ⟨q,e1,e2,hq⟩:=agf (n:=n) hd hn;rw [e1,aq,af (by grind)];exact hS (o.1++[q.1],o.2) (I.prog (QD hq))
theorem X9 {s:BB} (hs:s.length≤1048576) (hn:1048577<n):∃ r,uC.f n s=some r∧CO.f n s=some r∧ED s r:=by
 obtain ⟨r,e,h⟩:=X0 (agu hs hn) (fun x o et=>by subst et; exact agt o hn);obtain ⟨r',e',h'⟩:=X0 (agp hs hn) (fun x o et=>by subst et; exact ago o hn);have:=h.one h'
 grind
end Go.AmT
namespace Go.AmT
open Go.Proofs
end Go.AmT
namespace Go.AmT
abbrev Lc:Type:=aY×(Nat→List Int)×(Nat→Nat)
def lz {α:Type} (f:Nat→α) (b:Nat) (x:α):Nat→α:=fun c=>if c=b then x else f c
theorem Ya {α:Type} {f:Nat→α} {b:Nat} {x:α} : lz f b x b=x:=by simp [lz]
theorem Yb {α:Type} {f:Nat→α} {b c:Nat} {x:α} (h:c≠b):lz f b x c=f c:=by simp [lz,h]
def jc (p:Program) (I:Nat→List Int) (c:Lc):Option Lc:=
 if (ct p c.1).1=0 then none
 else if (ct p c.1).1=2 then
  if c.2.2 (ct p c.1).2.toNat<(I (ct p c.1).2.toNat).length then some (jR p c.1 ((I (ct p c.1).2.toNat).getD (c.2.2 (ct p c.1).2.toNat) 0),c.2.1,lz c.2.2 (ct p c.1).2.toNat (c.2.2 (ct p c.1).2.toNat+1)) else none
 else if (ct p c.1).1=3 then some (jR p c.1 0,lz c.2.1 (ct p c.1).2.toNat (c.2.1 (ct p c.1).2.toNat++[pq (kR p c.1) c.1]),c.2.2)
 else some (jR p c.1 0,c.2.1,c.2.2)
def bN (nt:ak) (j:Nat):aK:=nt.2.getD j ay
def j7 (nt:ak) (j:Nat):List Int:=(bN nt j).2.2.2.2
def po (s:State) (j:Nat):List Int:=s.2.2.1.getD j []
def kV (nt:ak) (k b:Nat):Nat:=(nU (mJ (k:Int) (b:Int)) nt.2).toNat
theorem QO {nt:ak} (o:cQ nt) {k b:Nat} (hk:k<nt.1.length) (hb:(b:Int)<(prog nt k).1) :
  kV nt k b<nt.2.length∧(bN nt (kV nt k b)).2.2.1=(k:Int)∧(bN nt (kV nt k b)).2.2.2.1=(b:Int):=by
 unfold prog at hb;rw [aU hk] at hb;obtain ⟨j,hj,hf,e⟩:=GZ (o.ins k hk b hb);unfold mJ at hf;simp only [aB,decide_eq_true_eq] at hf;have e2:kV nt k b=j:=by unfold kV; rw [e]; rfl
 rw [e2];unfold bN
 grind
theorem agv {nt:ak} (o:cQ nt) {j k b:Nat} (hj:j<nt.2.length) (hk:k<nt.1.length) (hb:(b:Int)<(prog nt k).1) (h1:(bN nt j).2.2.1=(k:Int)) (h2:(bN nt j).2.2.2.1=(b:Int)):kV nt k b=j:=by unfold prog at hb;rw [aU hk] at hb;unfold bN at h1 h2;rw [aU hj] at h1 h2;unfold kV;rw [VP hj (o.ins k hk b hb) (by simp [mJ,h1,h2])]; rfl
def kB (nt:ak) (h:Nat→List Int) (k:Nat):Nat→List Int:=fun b=>if (b:Int)<(prog nt k).1 then h (kV nt k b) else []
section
variable {nt:ak} {g:State→Nat→Bool} {s0 s t:State} {m mt:Nat→Nat}
end
end Go.AmT
namespace Go.AmT
def c0:Lc:=(sg,fun _=>[],fun _=>0)
theorem agw (nt:ak) (j:Nat):po (start nt) j=j7 nt j:=by
 unfold po j7 bN start;rcases Nat.lt_or_ge j nt.2.length with h | h
 ·simp [h]
 simp only [lG,List.getElem?_map,HW h]; rfl
def uD (p:Program) (I:Nat→List Int) (c:Lc):Bool:=
 decide ((ct p c.1).1=0)||(decide ((ct p c.1).1=2)&&decide (c.2.2 (ct p c.1).2.toNat=(I (ct p c.1).2.toNat).length))||(decide ((ct p c.1).1=3)&&decide ((c.2.1 (ct p c.1).2.toNat).length=400))
def al (p:Program) (I:Nat→List Int):Nat→Lc→Lc×Int×Int
 | 0,c=>if uD p I c=true then (c,ct p c.1) else (c,1,0)
 | f+1,c=>if uD p I c=true then (c,ct p c.1) else al p I f ((jc p I c).getD c)
structure Wf (I:Nat→List Int) (c:Lc):Prop where
 rd:∀ b,c.2.2 b≤(I b).length
 wr:∀ b,(c.2.1 b).length≤400
theorem QP (I:Nat→List Int):Wf I c0:=⟨fun _=>Nat.zero_le _,fun _=>by show ([]:List Int).length≤400; simp⟩
theorem QQ {p:Program} {I:Nat→List Int} {c:Lc} (w:Wf I c) (h:uD p I c=false):∃ d,jc p I c=some d∧Wf I d:=by
 unfold uD at h;simp only [Bool.or_eq_false_iff,Bool.and_eq_false_iff,decide_eq_false_iff_not] at h;obtain ⟨⟨h0,h2⟩,h3⟩:=h;unfold jc;rw [if_neg h0];by_cases c2:(ct p c.1).1=2
 ·have h2:¬ c.2.2 (ct p c.1).2.toNat=(I (ct p c.1).2.toNat).length:=by
   rcases h2 with h | h
   ·omega
   exact h
  have aF:c.2.2 (ct p c.1).2.toNat<(I (ct p c.1).2.toNat).length:=by have:=w.rd (ct p c.1).2.toNat; omega
  rw [if_pos c2,if_pos aF];refine ⟨_,rfl,fun b=>?_,w.wr⟩;show lz _ _ _ b≤_;by_cases hb:b=(ct p c.1).2.toNat
  ·subst hb; rw [Ya]; omega
  rw [Yb hb]; exact w.rd b
 rw [if_neg c2];by_cases c3:(ct p c.1).1=3
 ·have h3:¬ (c.2.1 (ct p c.1).2.toNat).length=400:=by
   rcases h3 with h | h
   ·omega
   exact h
  rw [if_pos c3];refine ⟨_,rfl,w.rd,fun b=>?_⟩;show List.length (lz _ _ _ b)≤400;by_cases hb:b=(ct p c.1).2.toNat
  ·subst hb; rw [Ya,cY,List.length_singleton];have:=w.wr (ct p c.1).2.toNat; omega
  rw [Yb hb]; exact w.wr b
 rw [if_neg c3];exact ⟨_,rfl,w.rd,w.wr⟩
def aW (h:List (List Int)) (j:Nat):List Int:=h.getD j []
def runK (nt:ak) (h:Nat→List Int) (k:Nat):Lc×Int×Int:=al (prog nt k) (kB nt h k) 3000 c0
def jS (nt:ak) (h:Nat→List Int) (j:Nat):List Int:=j7 nt j++if 0≤(bN nt j).1 then (runK nt h (bN nt j).1.toNat).1.2.1 (bN nt j).2.1.toNat else []
def HG (nt:ak) (h:Nat→List Int):Bool:=((bD nt.1.length).all fun k=>decide ((runK nt h k).2.1≠1)&&decide ((runK nt h k).2.1≠3))&&(bD nt.2.length).all fun j=>bX (jS nt h j)
def oz (nt:ak) (h:List (List Int)):Option (List (List Int)):=if HG nt (aW h)=true then some ((bD nt.2.length).map (jS nt (aW h))) else none
def Az (nt:ak):Nat→Int→List (List Int)→Option (List (List Int)×Int)
 | 0,_,_=>none
 | m+1,r,h=>match oz nt h with | none=>none | some g=>if g=h then some (h,r) else Az nt m (r+1) g
def uE (nt:ak):List (List Int):=nt.2.map (fun l=>l.2.2.2.2)
def ye (nt:ak):Option (List (List Int)×Int):=Az nt 300 1 (uE nt)
section
variable {nt:ak}
theorem agx (j:Nat):aW (uE nt) j=j7 nt j:=agw nt j
theorem Yc {h:Nat→List Int} (ok:HG nt h=true) {j:Nat} (hj:j<nt.2.length):bX (jS nt h j)=true:=by
 unfold HG at ok
 grind
theorem QR {h g:List (List Int)} (e:oz nt h=some g):HG nt (aW h)=true∧g=(bD nt.2.length).map (jS nt (aW h)):=by
 unfold oz at e;split at e
 ·rename_i h1; cases e; exact ⟨h1,rfl⟩
 cases e
theorem Yd {f:Nat→List Int} {L j:Nat} (hj:j<L):aW ((bD L).map f) j=f j:=by unfold aW; simp [hj]
theorem Ye {f:Nat→List Int} {L j:Nat} (hj:L≤j):aW ((bD L).map f) j=[]:=by
 unfold aW
 grind
inductive EF (nt:ak):Nat→List (List Int)→Prop
 | zero:EF nt 0 (uE nt)
 | succ {i:Nat} {h g:List (List Int)} : EF nt i h→oz nt h=some g→EF nt (i+1) g
theorem Yf:∀ {m:Nat} {r:Int} {h g:List (List Int)} {r':Int} {i:Nat},EF nt i h→Az nt m r h=some (g,r')→∃ j,i≤j∧j<i+m∧r'=r+((j-i:Nat):Int)∧EF nt j g∧oz nt g=some g
 | 0,r,h,g,r',i,C,e=>by cases e
 | m+1,r,h,g,r',i,C,e=>by
  unfold Az at e;cases h1:oz nt h with
  | none=>grind
  | some x=>
   rw [h1] at e;simp only at e;split at e
   ·grind
   obtain ⟨j,a1,a2,a3,a4,a5⟩:=Yf (.succ C h1) e
   grind
theorem Yg {h:List (List Int)} {r:Int} (e:ye nt=some (h,r)):∃ j:Nat,j<300∧r=(j:Int)+1∧EF nt j h∧oz nt h=some h:=by
 obtain ⟨j,-,a2,a3,a4,a5⟩:=Yf .zero e
 grind
theorem Yh {h:List (List Int)} {r:Int} (e:ye nt=some (h,r)):h.length=nt.2.length:=by
 obtain ⟨j,-,-,-,e2⟩:=Yg e;have:=(QR e2).2
 grind
theorem Yi {h:List (List Int)} {r:Int} (e:ye nt=some (h,r)) {j:Nat} (hj:j<nt.2.length):bX (aW h j)=true:=by obtain ⟨i,-,-,-,e2⟩:=Yg e;obtain ⟨ok,e3⟩:=QR e2;rw [e3,Yd hj];exact Yc ok hj
variable {g:State→Nat→Bool} {s0 s:State} {m:Nat→Nat} {h:Nat→List Int}
end
end Go.AmT
