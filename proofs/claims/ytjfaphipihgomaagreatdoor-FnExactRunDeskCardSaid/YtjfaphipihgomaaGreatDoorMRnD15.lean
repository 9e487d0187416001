/- Networks that are read from texts, in plain Lean: both programs read the same. -/
import Derived.Test.YtjfaphipihgomaaGreatDoorMRnD14
open Go Go.Am
noncomputable section
set_option linter.unusedVariables false
set_option linter.unusedSimpArgs false
set_option maxRecDepth 100000
open Bool renaming and_eq_true → aw, not_true → bf
open Go.Lib renaming itoa → aj
open Int renaming lt_irrefl → bR, toNat_natCast → ay
open List renaming getD_eq_getElem?_getD → jN, getElem?_eq_none → F9, getElem_map → og, getElem_mem → ct, getElem_of_mem → W2, getElem_range → AT, length_append → cg, length_cons → aQ, length_drop → qW, length_nil → bh, length_pos_iff → jA, length_take → ll, map_congr_left → BG, mem_append → eh, mem_cons → fZ, mem_range → oL, prefix_rfl → PS, range → bA, take_of_length_le → Bi, take_succ_eq_append_getElem → iC
open UInt8 renaming ofNat → dH
namespace Go.AmT
variable {nt:aq} {l:bb} {s:BB} {k n:Nat} {A:List Program} {B:List bb}
def nQ (p:Program):BB:=[112,114,111,99,101,115,115]++32::ju p
def xj (l:bb):BB:=aj l.1++32::(aj l.2.1++32::(aj l.2.2.1++32::(aj l.2.2.2.1++32::eC l.2.2.2.2)))
def rY (l:bb):BB:=[108,105,110,107]++32::xj l
def xk (nt:aq) (i:Nat):BB:=if i<nt.1.length then nQ (nt.1.getD i bC) else rY (nt.2.getD (i-nt.1.length) aE)
def pX (nt:aq):List (BB):=(bA (nt.1.length+nt.2.length)).map (xk nt)
theorem GV (nt:aq):(pX nt).length=nt.1.length+nt.2.length:=by simp [pX]
theorem W3 (nt:aq) {i:Nat} (h:i<nt.1.length+nt.2.length):(pX nt).getD i []=xk nt i:=by rw [aJ (by rw [GV]; exact h)];simp [pX]
theorem W4 (nt:aq):pX nt=((bA nt.1.length).map fun i=>nQ (nt.1.getD i bC))++((bA nt.2.length).map fun i=>rY (nt.2.getD i aE)):=by
 refine List.ext_getElem (by simp [pX]) (fun i h1 h2=>?_);rw [GV] at h1;simp only [pX,og,AT];by_cases hi:i<nt.1.length
 ·rw [List.getElem_append_left (by simpa using hi)];simp only [og,AT,xk];rw [if_pos hi]
 rw [List.getElem_append_right (by simpa using hi)];simp only [og,AT,xk,List.length_map,List.length_range];rw [if_neg hi]
theorem PT (o:cK nt) {i:Nat} (hi:i<nt.1.length):cJ (nt.1.getD i bC)=true:=by rw [aJ hi]; exact o.prog i hi
theorem aeS {s:List Int} (h:bS s=true):fmtS s=eC s:=if_pos h
theorem J8 (o:cK nt):o_ nt=((pX nt).map (·++[10])).flatten:=by
 rw [W4];unfold o_;have e1:((bA nt.1.length).map fun i=>tA (nt.1.getD i bC))=((bA nt.1.length).map fun i=>nQ (nt.1.getD i bC)).map (·++[10]):=by rw [List.map_map];refine BG (fun i hi=>?_);have hi:=oL.1 hi;simp only [tA,nQ,Function.comp,u7,if_pos (PT o hi)];simp
 have e2:((bA nt.2.length).map fun i=>u9 (nt.2.getD i aE))=((bA nt.2.length).map fun i=>rY (nt.2.getD i aE)).map (·++[10]):=by rw [List.map_map];refine BG (fun i hi=>?_);have hi:=oL.1 hi;simp only [u9,rY,xj,Function.comp,aeS (zx o hi).t];simp
 rw [e1,e2];simp
theorem aeT {p:Program} (h:cJ p=true) {c:UInt8} (hc:c=10):c∉ju p:=by
 subst hc;obtain ⟨h1,h2,h3,h4⟩:=tw h;have n1:=pW (x:=p.1) ⟨by omega,by omega⟩ (c:=10) (by decide) (by decide);have n2:=pW (x:=p.2.1) ⟨by omega,by omega⟩ (c:=10) (by decide) (by decide);have hi:=J6 h;rw [ju,PH hi];simp only [eh,List.mem_singleton,List.mem_flatten,List.mem_map,not_or,not_exists,not_and];refine ⟨⟨⟨n1,by decide⟩,n2⟩,?_⟩;rintro l ⟨x,hx,rfl⟩ hm;rcases fZ.1 hm with e | hm
 ·exact absurd e (by decide)
 exact (WQ (zp (hi x hx) (by omega) (by omega) (by omega))).2 hm
theorem PU (B:xh l):bt 32 (xj l)=[aj l.1,aj l.2.1,aj l.2.2.1,aj l.2.2.2.1,eC l.2.2.2.2]∧(10:UInt8)∉xj l:=by
 obtain ⟨a,b,c,d,t⟩:=B;have ht:=(oX t).2;have n:∀ {v:Int},-1≤v→v≤12→∀ c:UInt8,c=32∨c=10→c∉aj v:=fun h0 h1 c hc=>pW ⟨by omega,by omega⟩ (by rcases hc with rfl | rfl<;>decide) (by rcases hc with rfl | rfl<;>decide);have m:∀ c:UInt8,c=32∨c=10→c∉eC l.2.2.2.2:=fun c hc=>by
  rcases hc with rfl | rfl
  ·exact Wu ht (by decide) (by decide) (by decide) (by decide)
  exact Wu ht (by decide) (by decide) (by decide) (by decide)
 refine ⟨?_,?_⟩
 ·unfold xj;rw [mo _ (n a.1 a.2 32 (.inl rfl)),mo _ (n (by omega) (by omega) 32 (.inl rfl)),mo _ (n c.1 c.2 32 (.inl rfl)),mo _ (n (by omega) (by omega) 32 (.inl rfl)),zq (m 32 (.inl rfl))]
 have n1:=n a.1 a.2 10 (.inr rfl);have n2:=n (v:=l.2.1) (by omega) (by omega) 10 (.inr rfl);have n3:=n c.1 c.2 10 (.inr rfl);have n4:=n (v:=l.2.2.2.1) (by omega) (by omega) 10 (.inr rfl);have n5:=m 10 (.inr rfl);simp only [xj,eh,fZ,not_or];exact ⟨n1,by decide,n2,by decide,n3,by decide,n4,by decide,n5⟩
theorem W5 (o:cK nt):∀ l∈pX nt,(10:UInt8)∉l:=by
 rw [W4];intro l hl;simp only [eh,List.mem_map,oL] at hl;rcases hl with ⟨i,hi,rfl⟩ | ⟨i,hi,rfl⟩
 ·have:=aeT (PT o hi) rfl;simp only [nQ,eh,fZ,List.not_mem_nil,or_false,not_or];exact ⟨by decide,by decide,this⟩
 have:=(PU (zx o hi)).2;simp only [rY,eh,fZ,List.not_mem_nil,or_false,not_or];exact ⟨by decide,by decide,this⟩
theorem W6 (B:xh l):(xj l).length≤5000:=by obtain ⟨a,b,c,d,t⟩:=B;have l1:=fk (x:=l.1) (by omega) (by omega);have l2:=fk (x:=l.2.1) (by omega) (by omega);have l3:=fk (x:=l.2.2.1) (by omega) (by omega);have l4:=fk (x:=l.2.2.2.1) (by omega) (by omega);have l5:=Px t;simp only [xj,cg,aQ];omega
abbrev J9:aq:=([],[])
structure DP (s:BB) (r:aq×Bool×Unit):Prop where
 all:∀ nt,cK nt→o_ nt=s→r=(nt,true,())
 tu:(∃ nt,cK nt∧o_ nt=s)∨r=(J9,false,())
theorem DP.one {s:BB} {r r':aq×(Bool×Unit)} (h:DP s r) (h':DP s r'):r=r':=by
 rcases h.tu with ⟨x,o,e⟩ | e
 ·rw [h.all x o e,h'.all x o e]
 rcases h'.tu with ⟨x,o,e'⟩ | e'
 ·rw [h.all x o e',h'.all x o e']
 rw [e,e']
theorem W7 {s:BB} {m:Option (aq×Bool×Unit)} (h1:W m (fun r=>r=(J9,false,())∨(cK r.1∧o_ r.1=s))) (h2:∀ x,cK x→o_ x=s→m=some (x,true,())):W m (DP s):=by
 obtain ⟨r,e,h⟩:=h1;refine ⟨r,e,⟨fun x o et=>?_,?_⟩⟩
 ·rw [h2 x o et] at e;exact (Option.some.inj e).symm
 rcases h with h | ⟨o,et⟩
 ·exact .inr h
 exact .inl ⟨_,o,et⟩
theorem Ka (o:cK nt):dq nt:=by
 have h1:=o.eX;have h2:=o.dB;refine ⟨by omega,fun p hp=>?_,by omega,fun l hl=>?_⟩
 ·obtain ⟨i,hi,rfl⟩:=W2 hp;exact ⟨by have:=(tw (o.prog i hi)).2.2.1; omega⟩
 obtain ⟨i,hi,rfl⟩:=W2 hl;exact ⟨by have:=(oX (o.ji i hi)).1; omega⟩
structure ng (k:Nat) (A:List Program) (B:List bb):Prop where
 la:A.length≤k
 lb:B.length≤k
 ra:∀ p∈A,pJ p
 rb:∀ l∈B,Df l
theorem ng.nil:ng 0 [] []:=⟨by simp,by simp,fun _ h=>(by simp at h),fun _ h=>(by simp at h)⟩
theorem ng.mono {k':Nat} (I:ng k A B) (h:k≤k'):ng k' A B:=⟨by have:=I.la; omega,by have:=I.lb; omega,I.ra,I.rb⟩
theorem ng.prog (I:ng k A B) {p:Program} (h:pJ p):ng (k+1) (A++[p]) B:=⟨by have:=I.la; simp; omega,by have:=I.lb; omega,JV I.ra h,I.rb⟩
theorem ng.link (I:ng k A B) {l:bb} (h:Df l):ng (k+1) A (B++[l]):=⟨by have:=I.la; omega,by have:=I.lb; simp; omega,I.ra,JV I.rb h⟩
theorem ng.small (I:ng k A B) (h:k≤1048576):dq (A,B):=⟨by have:=I.la; show A.length≤_; omega,I.ra,by have:=I.lb; show B.length≤_; omega,I.rb⟩
def nh (nt:aq) (i:Nat):List Program×(List bb×Unit):=(nt.1.take i,nt.2.take (i-nt.1.length),())
theorem W8 (o:cK nt) {i:Nat} (hi:i<nt.1.length+nt.2.length) :
  (∃ A p,nh nt i=(A,[],())∧xk nt i=nQ p∧nh nt (i+1)=(A++[p],[],())∧cJ p=true∧A.length≤12)∨
  (∃ A B l,nh nt i=(A,B,())∧xk nt i=rY l∧nh nt (i+1)=(A,B++[l],())∧xh l∧B.length≤30):=by
 have iz:=o.dB;have xO:=o.eX;by_cases hA:i<nt.1.length
 ·have e0:i-nt.1.length=0:=by omega
  have e1:i+1-nt.1.length=0:=by omega
  refine .inl ⟨nt.1.take i,nt.1.getD i bC,?_,?_,?_,PT o hA,by rw [ll]; omega⟩
  ·rw [nh,e0,List.take_zero]
  ·rw [xk,if_pos hA]
  rw [nh,e1,List.take_zero,iC hA,aJ hA]
 have hq:i-nt.1.length<nt.2.length:=by omega
 refine .inr ⟨nt.1.take i,nt.2.take (i-nt.1.length),nt.2.getD (i-nt.1.length) aE,rfl,?_,?_,zx o hq,by rw [ll]; omega⟩
 ·rw [xk,if_neg hA]
 have e3:i+1-nt.1.length=(i-nt.1.length)+1:=by omega
 have e1:nt.1.take (i+1)=nt.1.take i:=by rw [Bi (by omega),Bi (by omega)]
 rw [nh,e3,e1,iC hq,aJ hq]
theorem W9 : nh nt (nt.1.length+nt.2.length)=(nt.1,nt.2,()):=by unfold nh;rw [Bi (by omega),Bi (by omega)]
theorem Xa {c:UInt8} (r:BB):∀ {w:BB},c∉w→Lib.index (w++c::r) [c]=(w.length:Int)
 | [],_=>by rw [List.nil_append,Lib.index]; simp [List.isPrefixOf]
 | x::xs,h=>by
  have h1:x≠c:=fun e=>h (by simp [e]);have h2:c∉xs:=fun e=>h (by simp [e]);have ih:=Xa r h2;have hp:([c]:BB).isPrefixOf (x::(xs++c::r))=false:=by simp [List.isPrefixOf,Ne.symm h1]
  rw [List.cons_append,Lib.index,hp,ih];have n:(((xs.length:Nat):Int)==-1)=false:=by simp
  simp only [Bool.false_eq_true,if_false,n,aQ];omega
theorem Xb {w r:BB} {c:UInt8} (h:c∉w) (hl:(w++c::r).length≤1048576):rX.f n (w++c::r) [c]=some (w,r,true,()):=by unfold rX.f Db;rw [if_pos (by omega)];unfold Lib.cut;rw [Xa r h,if_pos (by omega)];simp;rfl
theorem aeU {s:BB} {c:BB} (hl:s.length≤1048576):W (rX.f n s c) (fun r=>r.2.1.length≤s.length):=by
 unfold rX.f Db;rw [if_pos (by omega)];refine ak.2 ?_;show (Lib.cut s c).2.1.length≤_;unfold Lib.cut;split
 ·show (s.drop _).length≤_;rw [qW]; omega
 simp
theorem aeV (B:xh l) (hn:1048577<n):vc.f n (xj l)=some (l,true,()):=by have hl:=W6 B;have hs:=(PU B).1;obtain ⟨a,b,c,d,t⟩:=B;unfold vc.f;rw [qM (by omega),hs,ao];dsimp only;have h5:(([aj l.1,aj l.2.1,aj l.2.2.1,aj l.2.2.2.1,eC l.2.2.2.2]:List (BB)).length:Int)=5:=rfl;rw [h5,decide_eq_true rfl];simp only [bf,ar];have g0:([aj l.1,aj l.2.1,aj l.2.2.1,aj l.2.2.2.1,eC l.2.2.2.2]:List (BB)).getD 0 []=aj l.1:=rfl;have g1:([aj l.1,aj l.2.1,aj l.2.2.1,aj l.2.2.2.1,eC l.2.2.2.2]:List (BB)).getD 1 []=aj l.2.1:=rfl;have g2:([aj l.1,aj l.2.1,aj l.2.2.1,aj l.2.2.2.1,eC l.2.2.2.2]:List (BB)).getD 2 []=aj l.2.2.1:=rfl;have g3:([aj l.1,aj l.2.1,aj l.2.2.1,aj l.2.2.2.1,eC l.2.2.2.2]:List (BB)).getD 3 []=aj l.2.2.2.1:=rfl;have g4:([aj l.1,aj l.2.1,aj l.2.2.1,aj l.2.2.2.1,eC l.2.2.2.2]:List (BB)).getD 4 []=eC l.2.2.2.2:=rfl;rw [g0,g1,g2,g3,g4,qN (x:=l.1) (by omega) (by omega),qN (x:=l.2.1) (by omega) (by omega),qN (x:=l.2.2.1) (by omega) (by omega),qN (x:=l.2.2.2.1) (by omega) (by omega),aez t hn];rw [af (show (0:Int)≤0∧(0:Int)<5 by omega)];simp only [ao,aB];rw [af (show (0:Int)≤1∧(1:Int)<5 by omega),af (show (0:Int)≤2∧(2:Int)<5 by omega),af (show (0:Int)≤3∧(3:Int)<5 by omega)];simp only [aY,aB];rw [af (show (0:Int)≤4∧(4:Int)<5 by omega)]
theorem aeW {s:BB} (hs:s.length≤1048576) (hn:1048577<n):W (vc.f n s) (fun r=>Df r.1):=by
 unfold vc.f;rw [qM (by omega),ao];have hp:=mq 32 s;dsimp only;generalize bt 32 s=L at hp;rw [cw];refine ⟨fun _=>ak.2 ⟨by simp⟩,fun c=>?_⟩;have c:(L.length:Int)=5:=by simpa using c
 have piece:∀ j,j<5→(L.getD j []).length≤1048575:=fun j hj=>by have:=hp (L.getD j []) (by rw [aJ (by omega)]; exact ct _);omega
 have num:∀ j,j<5→W (e9.f n (L.getD j [])) (fun _=>True):=fun j hj=>zu (by have:=piece j hj; omega);refine fx.2 (bz (P:=fun z=>∃ y:Bool×(Int×Int×Int×Int×Unit),z = .inr y) ?_ (fun z hz=>?_))
 ·rw [af (by omega),c8];refine bz (num 0 (by omega)) (fun gv _=>?_);rw [af (by omega),c8];refine bz (num 1 (by omega)) (fun dT _=>?_);rw [cw];refine ⟨fun _=>?_,fun _=>?_⟩
  ·rw [af (by omega),c8];refine bz (num 2 (by omega)) (fun fh _=>?_);rw [cw];refine ⟨fun _=>?_,fun _=>?_⟩
   ·rw [af (by omega),c8];refine bz (num 3 (by omega)) (fun fU _=>?_);rw [cw];exact ⟨fun _=>ak.2 ⟨_,rfl⟩,fun _=>ak.2 ⟨_,rfl⟩⟩
   rw [af (by omega),c8];exact bz (num 3 (by omega)) (fun fU _=>ak.2 ⟨_,rfl⟩)
  rw [af (by omega),c8];refine bz (num 2 (by omega)) (fun fh _=>?_);rw [af (by omega),c8];exact bz (num 3 (by omega)) (fun fU _=>ak.2 ⟨_,rfl⟩)
 obtain ⟨y,rfl⟩:=hz;simp only;rw [af (by omega),c8];refine bz (aeB (piece 4 (by omega)) hn) (fun r h=>?_);have hb:r.1.length≤1048576:=by have:=(oX h).1; omega
 rw [cw];exact ⟨fun _=>ak.2 ⟨hb⟩,fun _=>ak.2 ⟨hb⟩⟩
theorem Xc {p:Program} (h:cJ p=true):(nQ p).length≤2000:=by have:=GQ h;simp only [nQ,cg,aQ,bh];omega
theorem Xd (B:xh l):(rY l).length≤6000:=by have:=W6 B;simp only [rY,cg,aQ,bh];omega
theorem aeX (o:cK nt) (hn:1048577<n):qP.f n (o_ nt)=some (nt,true,()):=by
 have hB:=iD;have hS:=Ka o;have iz:=o.dB;have xO:=o.eX;have hL:=WW o;have oY:=aeR (n:=n) (W5 o) (by rw [← J8 o]; omega);rw [← J8 o] at oY;have hlen:=GV nt;have hz:nh nt 0=([],[],()):=by simp [nh]
 unfold qP.f;rw [oY,ao];dsimp only;refine Eq.trans (congrArg (iter n _) (show _=(true,((0:Nat):Int),nh nt 0) from by rw [hz]; rfl)) ?_;refine mc (n:=n) (fun i=>(true,(i:Int),nh nt i)) (nt.1.length+nt.2.length) (fun ih i hi=>?_) (fun ih=>?_) (by omega)
 ·have gm:(i:Int)<((pX nt).length:Int):=by omega
  simp only [aG gm,ay];rw [af (by omega),W3 nt hi,a_ (by omega)];rcases W8 o hi with ⟨A,p,e1,e2,e3,hp,hA⟩ | ⟨A,B,l,e1,e2,e3,DQ,hA⟩
  ·rw [e1,e2,e3];have wh:=Xc hp;rw [nQ,Xb (by decide) (by rw [nQ] at wh; omega),ao];dsimp only;rw [aG rfl];simp only [aY,bh];rw [decide_eq_true (show ((0:Nat):Int)=0 from rfl),aB,PL hp hn,ao,af (by simp only [aQ,bh]; omega)];simp only [aB]
  rw [e1,e2,e3];have wh:=Xd DQ;rw [rY,Xb (by decide) (by rw [rY] at wh; omega),ao];dsimp only;rw [av (by decide)];simp only [aY,ar];simp only [decide_true,aB];rw [aeV DQ hn,ao,af (by simp only [aQ,bh]; omega)]
 have gm:¬ (((nt.1.length+nt.2.length:Nat):Int)<((pX nt).length:Int)):=by omega
 simp only [av gm,bf,ar];rw [W9];show cut ((ez.f n nt).bind _) _=_;rw [s6 hS (by omega),show cm nt=true from decide_eq_true o,ao];simp only [bf,ar];show cut ((xg.f n nt).bind _) _=_;rw [WZ hS (by omega),ao,zw,if_pos (show cm nt=true from decide_eq_true o),decide_eq_true rfl];rfl
theorem aeY {t:BB} (hl:t.length≤1048576) (hn:1048577<n):W (qP.f n t) (fun r=>r=(J9,false,())∨(cK r.1∧o_ r.1=t)):=by
 have hB:=iD;unfold qP.f;rw [c8];refine bz (aeQ hl) (fun r1 ⟨hL,hP⟩=>?_);obtain ⟨L,ok0,⟨⟩⟩:=r1;dsimp only at hL hP ⊢;refine fT (fun (i:Nat) (o:Bool×List Program×List bb)=>(o.1,(i:Int),o.2.1,o.2.2,())) L.length (fun i o=>ng i o.2.1 o.2.2) (s0:=(ok0,[],[])) rfl ng.nil (by omega) (fun ih o I=>?_) (fun ih i o hi I hS=>?_)
 ·simp only [av (bR _)];have hS:=I.small (by omega);refine fx.2 (bz (P:=fun z=>∃ y:Bool×Unit,z = .inr y∧(y.1=false→cK (o.2.1,o.2.2)∧o_ (o.2.1,o.2.2)=t)) ?_ (fun z hz=>?_))
  ·rw [cw];refine ⟨fun _=>ak.2 ⟨_,rfl,fun h=>by cases h⟩,fun _=>?_⟩;rw [s6 hS (by omega),ao,cw];refine ⟨fun _=>ak.2 ⟨_,rfl,fun h=>by cases h⟩,fun hk=>?_⟩;have hk:cm (o.2.1,o.2.2)=true:=by simpa using hk
   rw [WZ hS (by omega),ao];refine ak.2 ⟨_,rfl,fun h=>⟨DO hk,?_⟩⟩;rw [zw,if_pos hk] at h;simpa using h
  obtain ⟨y,rfl,hy⟩:=hz;simp only;rw [cw];exact ⟨fun _=>ak.2 (.inl rfl),fun h=>ak.2 (.inr (hy h))⟩
 simp only [aG (show (i:Int)<(L.length:Int) by omega),ay];have hla:=I.la;have A4:=I.lb;have agO:=hP (L.getD i []) (by rw [aJ hi]; exact ct _);rw [af (by omega),c8,a_ (by omega)];refine bz (aeU (by omega)) (fun iW Xe=>?_);refine fx.2 (bz (P:=fun z=>∃ y:Bool×Unit,z = .inr y) ?_ (fun z hz=>?_))
 ·rw [cM];exact ⟨fun _=>ak.2 ⟨_,rfl⟩,fun _=>ak.2 ⟨_,rfl⟩⟩
 obtain ⟨y,rfl⟩:=hz;simp only;rw [cw];refine ⟨fun _=>?_,fun _=>?_⟩
 ·obtain ⟨q,e2,hq⟩:=aeO (n:=n) (s:=iW.2.1) (by omega) hn;rw [e2,ao,af (by simp only [aQ,bh]; omega),cw];exact ⟨fun _=>hS (q.2.1,o.2.1++[q.1],o.2.2) (I.prog (PJ hq)),fun _=>hS (false,o.2.1++[q.1],o.2.2) (I.prog (PJ hq))⟩
 rw [cM];refine ⟨fun _=>?_,fun _=>hS (false,o.2.1,o.2.2) (I.mono (by omega))⟩;rw [c8];refine bz (aeW (by omega) hn) (fun mr Xf=>?_);rw [af (by simp only [aQ,bh]; omega),cw];exact ⟨fun _=>hS (mr.2.1,o.2.1,o.2.2++[mr.1]) (I.link Xf),fun _=>hS (false,o.2.1,o.2.2++[mr.1]) (I.link Xf)⟩
theorem aeZ (B:xh l):bt 32 (rY l)=[[108,105,110,107],aj l.1,aj l.2.1,aj l.2.2.1,aj l.2.2.2.1,eC l.2.2.2.2]:=by rw [rY,mo _ (by decide),(PU B).1]
theorem ae_ (B:xh l) (hn:1048577<n):ve.f n [[108,105,110,107],aj l.1,aj l.2.1,aj l.2.2.1,aj l.2.2.2.1,eC l.2.2.2.2]=some (l,true,()):=by obtain ⟨a,b,c,d,t⟩:=B;unfold ve.f;have h6:(([[108,105,110,107],aj l.1,aj l.2.1,aj l.2.2.1,aj l.2.2.2.1,eC l.2.2.2.2]:List (BB)).length:Int)=6:=rfl;rw [h6,decide_eq_true rfl];simp only [bf,ar];have g1:([[108,105,110,107],aj l.1,aj l.2.1,aj l.2.2.1,aj l.2.2.2.1,eC l.2.2.2.2]:List (BB)).getD 1 []=aj l.1:=rfl;have g2:([[108,105,110,107],aj l.1,aj l.2.1,aj l.2.2.1,aj l.2.2.2.1,eC l.2.2.2.2]:List (BB)).getD 2 []=aj l.2.1:=rfl;have g3:([[108,105,110,107],aj l.1,aj l.2.1,aj l.2.2.1,aj l.2.2.2.1,eC l.2.2.2.2]:List (BB)).getD 3 []=aj l.2.2.1:=rfl;have g4:([[108,105,110,107],aj l.1,aj l.2.1,aj l.2.2.1,aj l.2.2.2.1,eC l.2.2.2.2]:List (BB)).getD 4 []=aj l.2.2.2.1:=rfl;have g5:([[108,105,110,107],aj l.1,aj l.2.1,aj l.2.2.1,aj l.2.2.2.1,eC l.2.2.2.2]:List (BB)).getD 5 []=eC l.2.2.2.2:=rfl;rw [af (by omega),g1,zt (by omega) (by omega) (by omega),ao,af (by omega),g2,zt (by omega) (by omega) (by omega),ao,af (by omega),g3,zt (by omega) (by omega) (by omega),ao,af (by omega),g4,zt (by omega) (by omega) (by omega),ao,af (by omega),g5,aey t hn,ao]
theorem ae0 {L:List (BB)} (hp:∀ p∈L,p.length+L.length≤1048577) (hn:1048577<n):W (ve.f n L) (fun r=>Df r.1):=by
 unfold ve.f;rw [cw];refine ⟨fun _=>ak.2 ⟨by simp⟩,fun c=>?_⟩;have c:(L.length:Int)=6:=by simpa using c
 have piece:∀ j,j<6→(L.getD j []).length≤1048575:=fun j hj=>by have:=hp (L.getD j []) (by rw [aJ (by omega)]; exact ct _);omega
 have num:∀ j,j<6→W (bN.f n (L.getD j [])) (fun _=>True):=fun j hj=>GM (by have:=piece j hj; omega) (by omega);rw [af (by omega),c8];refine bz (num 1 (by omega)) (fun r1 _=>?_);rw [af (by omega),c8];refine bz (num 2 (by omega)) (fun r2 _=>?_);rw [af (by omega),c8];refine bz (num 3 (by omega)) (fun r3 _=>?_);rw [af (by omega),c8];refine bz (num 4 (by omega)) (fun r4 _=>?_);rw [af (by omega),c8];refine bz (aeA (piece 5 (by omega)) hn) (fun r h=>ak.2 ⟨?_⟩);show r.1.length≤_;have:=(oX h).1;omega
theorem ae1 (o:cK nt) (hn:1048577<n):tC.f n (o_ nt)=some (nt,true,()):=by
 have hB:=iD;have hS:=Ka o;have iz:=o.dB;have xO:=o.eX;have hL:=WW o;unfold tC.f;have PV:dH (10:Int).toNat=10:=rfl;rw [qL (by omega) (by omega) (by omega) hn,ao,PV,J8 o,Ps _ (W5 o)];dsimp only;have hlen:(pX nt++[[]]).length=(nt.1.length+nt.2.length)+1:=by simp [GV]
 have hw:ah (((pX nt++[[]]).length:Int)-1)=((nt.1.length+nt.2.length:Nat):Int):=by rw [hlen,bP]<;>omega
 rw [av (by rw [hlen]; omega),hw,af (by rw [hlen]; omega)];simp only [ay,Int.sub_zero];have hz:nh nt 0=([],[],()):=by simp [nh]
 refine Eq.trans (congrArg (iter n _) (show _=(((0:Nat):Int),nh nt 0) from by rw [hz]; rfl)) ?_;refine mc (n:=n) (fun i=>((i:Int),nh nt i)) (nt.1.length+nt.2.length) (fun ih i hi=>?_) (fun ih=>?_) (by omega)
 ·have gm:(i:Int)<((nt.1.length+nt.2.length:Nat):Int):=by omega
  simp only [aG gm,ay,Nat.zero_add];have hg:(pX nt++[[]]).getD i []=xk nt i:=by rw [← W3 nt hi,jN,List.getElem?_append_left (by rw [GV]; exact hi),← jN]
  have DM:dH (32:Int).toNat=32:=rfl;rw [af (by omega),hg,a_ (by omega)];rcases W8 o hi with ⟨A,p,e1,e2,e3,hp,hA⟩ | ⟨A,B,l,e1,e2,e3,DQ,hA⟩
  ·rw [e1,e2,e3];have wh:=Xc hp;have h8:8≤(nQ p).length:=by simp only [nQ,cg,aQ,bh]; omega
   rw [qL (by omega) (by omega) (by omega) hn,ao,DM];have hsp:bt 32 (nQ p)=[112,114,111,99,101,115,115]::bt 32 (ju p):=by rw [nQ,mo _ (by decide)]
   rw [hsp];dsimp only;have g0:([112,114,111,99,101,115,115]::bt 32 (ju p)).getD 0 []=[112,114,111,99,101,115,115]:=rfl;have ed:((nQ p).take (nQ p).length).drop 8=ju p:=by rw [List.take_length]; rfl
   rw [af (by simp only [aQ]; omega),g0,av (by decide),av (by omega),af (by omega),ed,WU hp hn,ao,af (by simp only [aQ,bh]; omega)]
  rw [e1,e2,e3];have wh:=Xd DQ;rw [qL (by omega) (by omega) (by omega) hn,ao,DM,aeZ DQ];dsimp only;have g0:([[108,105,110,107],aj l.1,aj l.2.1,aj l.2.2.1,aj l.2.2.2.1,eC l.2.2.2.2]:List (BB)).getD 0 []=[108,105,110,107]:=rfl;rw [af (by simp only [aQ,bh]; omega),g0,aG rfl,ae_ DQ hn,ao];simp only [bf,ar];rw [af (by simp only [aQ,bh]; omega)]
 simp only [av (bR _)];rw [W9];show cut ((eH.f n nt).bind _) _=_;rw [rz hS (by omega),show cm nt=true from decide_eq_true o,ao];simp only [bf,ar];show cut ((xf.f n nt).bind _) _=_;rw [WY hS (by omega),ao,zw,if_pos (show cm nt=true from decide_eq_true o),J8 o,decide_eq_true rfl];rfl
theorem ae2 {t:BB} (hl:t.length≤1048576) (hn:1048577<n):W (tC.f n t) (fun r=>r=(J9,false,())∨(cK r.1∧o_ r.1=t)):=by
 have hB:=iD;unfold tC.f;rw [qL (by omega) (by omega) hl hn,ao];have aA:=mR (dH (10:Int).toNat) t;have hp:=mq (dH (10:Int).toNat) t;dsimp only;generalize bt (dH (10:Int).toNat) t=L at aA hp;have fw:=jA.2 aA;rw [cM];refine ⟨fun _=>ak.2 (.inl rfl),fun h43=>?_⟩;have hw:ah ((L.length:Int)-1)=((L.length-1:Nat):Int):=by rw [bP]<;>omega
 rw [hw,af (by omega)];simp only [ay,Int.sub_zero];refine fT (fun (i:Nat) (o:List Program×List bb)=>((i:Int),o.1,o.2,())) (L.length-1) (fun i o=>ng i o.1 o.2) (s0:=([],[])) rfl ng.nil (by omega) (fun ih o I=>?_) (fun ih i o hi I hS=>?_)
 ·simp only [av (bR _)];have hS:=I.small (by omega);refine fx.2 (bz (P:=fun z=>∃ y:Bool×Unit,z = .inr y∧(y.1=false→cK (o.1,o.2)∧o_ (o.1,o.2)=t)) ?_ (fun z hz=>?_))
  ·rw [rz hS (by omega),ao,cw];refine ⟨fun _=>ak.2 ⟨_,rfl,fun h=>by cases h⟩,fun hk=>?_⟩;have hk:cm (o.1,o.2)=true:=by simpa using hk
   rw [WY hS (by omega),ao];refine ak.2 ⟨_,rfl,fun h=>⟨DO hk,?_⟩⟩;rw [zw,if_pos hk] at h;simpa using h
  obtain ⟨y,rfl,hy⟩:=hz;simp only;rw [cw];exact ⟨fun _=>ak.2 (.inl rfl),fun h=>ak.2 (.inr (hy h))⟩
 simp only [aG (show (i:Int)<((L.length-1:Nat):Int) by omega),ay,Nat.zero_add];have hla:=I.la;have A4:=I.lb;have hq:=hp (L.getD i []) (by rw [aJ (by omega)]; exact ct _);rw [af (by omega),qL (by omega) (by omega) (by omega) hn,ao,a_ (by omega)];have HI:=mR (dH (32:Int).toNat) (L.getD i []);have kx:=mq (dH (32:Int).toNat) (L.getD i []);dsimp only;generalize bt (dH (32:Int).toNat) (L.getD i [])=M at HI kx;have agP:=jA.2 HI;rw [af (by omega),cM];refine ⟨fun _=>?_,fun _=>?_⟩
 ·rw [c8];refine bz (ae0 (fun p hp=>by have:=kx p hp; omega) hn) (fun r h=>?_);rw [cw];refine ⟨fun _=>ak.2 (.inl rfl),fun _=>?_⟩;rw [af (by simp only [aQ,bh]; omega)];exact hS (o.1,o.2++[r.1]) (I.link h)
 rw [cM];refine ⟨fun _=>ak.2 (.inl rfl),fun h8=>?_⟩;rw [af (by omega)];have hd:(((L.getD i []).take (L.getD i []).length).drop 8).length≤1048576:=by rw [qW,ll]; omega
 obtain ⟨q,e1,e2,hq⟩:=aeP (n:=n) hd hn;rw [e1,ao,af (by simp only [aQ,bh]; omega)];exact hS (o.1++[q.1],o.2) (I.prog (PJ hq))
theorem Xg {s:BB} (hs:s.length≤1048576) (hn:1048577<n):∃ r,tC.f n s=some r∧qP.f n s=some r∧DP s r:=by obtain ⟨r,e,h⟩:=W7 (ae2 hs hn) (fun x o et=>by subst et; exact ae1 o hn);obtain ⟨r',e',h'⟩:=W7 (aeY hs hn) (fun x o et=>by subst et; exact aeX o hn);have:=h.one h';subst this;exact ⟨r,e,e',h⟩
end Go.AmT
namespace Go.AmT
open Go.Proofs
end Go.AmT
namespace Go.AmT
abbrev Lc:Type:=bM×(Nat→List Int)×(Nat→Nat)
def iG {α:Type} (f:Nat→α) (b:Nat) (x:α):Nat→α:=fun c=>if c=b then x else f c
theorem zy {α:Type} {f:Nat→α} {b:Nat} {x:α} : iG f b x b=x:=by simp [iG]
theorem zz {α:Type} {f:Nat→α} {b c:Nat} {x:α} (h:c≠b):iG f b x c=f c:=by simp [iG,h]
def gg (p:Program) (I:Nat→List Int) (c:Lc):Option Lc:=
 if (ch p c.1).1=0 then none
 else if (ch p c.1).1=2 then
  if c.2.2 (ch p c.1).2.toNat<(I (ch p c.1).2.toNat).length then some (jk p c.1 ((I (ch p c.1).2.toNat).getD (c.2.2 (ch p c.1).2.toNat) 0),c.2.1,iG c.2.2 (ch p c.1).2.toNat (c.2.2 (ch p c.1).2.toNat+1)) else none
 else if (ch p c.1).1=3 then some (jk p c.1 0,iG c.2.1 (ch p c.1).2.toNat (c.2.1 (ch p c.1).2.toNat++[oP (kI p c.1) c.1]),c.2.2)
 else some (jk p c.1 0,c.2.1,c.2.2)
def DR (p:Program) (I:Nat→List Int):Nat→Lc→Option Lc
 | 0,c=>some c
 | m+1,c=>(DR p I m c).bind (gg p I)
def Sub (I I':Nat→List Int):Prop:=∀ b,I b <+: I' b
theorem Sub.refl (I:Nat→List Int):Sub I I:=fun _=>PS
theorem Sub.trans {I J K:Nat→List Int} (h:Sub I J) (h':Sub J K):Sub I K:=fun b=>(h b).trans (h' b)
theorem Xh {p:Program} {I I':Nat→List Int} {c d:Lc} (h:Sub I I') (e:gg p I c=some d):gg p I' c=some d:=by
 unfold gg at e ⊢;split at e
 ·cases e
 rename_i h0;rw [if_neg h0];split at e
 ·rename_i h2;rw [if_pos h2];split at e
  ·rename_i ax;obtain ⟨h1,h3⟩:=Jj.1 (h (ch p c.1).2.toNat);rw [if_pos (Nat.lt_of_lt_of_le ax h1),h3 _ ax];exact e
  cases e
 rename_i h2;rw [if_neg h2]; exact e
theorem Xi {p:Program} {I I':Nat→List Int} (h:Sub I I'):∀ {m:Nat} {c d:Lc},DR p I m c=some d→DR p I' m c=some d
 | 0,c,d,e=>e
 | m+1,c,d,e=>by unfold DR at e ⊢;obtain ⟨x,e1,e2⟩:=Option.bind_eq_some_iff.1 e;rw [Xi h e1];exact Xh h e2
def bH (nt:aq) (j:Nat):bb:=nt.2.getD j aE
def ji (nt:aq) (j:Nat):List Int:=(bH nt j).2.2.2.2
def queue (s:State) (j:Nat):List Int:=s.2.1.getD j []
def fG (s:State) (j:Nat):List Int:=s.2.2.1.getD j []
def used (s:State) (j:Nat):Nat:=(fG s j).length-(queue s j).length
def fz (nt:aq) (k b:Nat):Nat:=(mQ (ma (k:Int) (b:Int)) nt.2).toNat
def tD (nt:aq) (k b:Nat):Nat:=(mQ (oM (k:Int) (b:Int)) nt.2).toNat
theorem BH {nt:aq} (o:cK nt) {k b:Nat} (hk:k<nt.1.length) (hb:(b:Int)<(prog nt k).1) :
  fz nt k b<nt.2.length∧(bH nt (fz nt k b)).2.2.1=(k:Int)∧(bH nt (fz nt k b)).2.2.2.1=(b:Int):=by
 unfold prog at hb;rw [aJ hk] at hb;obtain ⟨j,hj,hf,e⟩:=Dk (o.ins k hk b hb);unfold ma at hf;simp only [aw,decide_eq_true_eq] at hf;have e2:fz nt k b=j:=by unfold fz; rw [e]; rfl
 rw [e2];unfold bH;rw [aJ hj];exact ⟨hj,hf⟩
theorem Kb {nt:aq} (o:cK nt) {k b:Nat} (hk:k<nt.1.length) (hb:(b:Int)<(prog nt k).2.1) :
  tD nt k b<nt.2.length∧(bH nt (tD nt k b)).1=(k:Int)∧(bH nt (tD nt k b)).2.1=(b:Int):=by
 unfold prog at hb;rw [aJ hk] at hb;obtain ⟨j,hj,hf,e⟩:=Dk (o.outs k hk b hb);unfold oM at hf;simp only [aw,decide_eq_true_eq] at hf;have e2:tD nt k b=j:=by unfold tD; rw [e]; rfl
 rw [e2];unfold bH;rw [aJ hj];exact ⟨hj,hf⟩
theorem ae3 {nt:aq} (o:cK nt) {j k b:Nat} (hj:j<nt.2.length) (hk:k<nt.1.length) (hb:(b:Int)<(prog nt k).1) (h1:(bH nt j).2.2.1=(k:Int)) (h2:(bH nt j).2.2.2.1=(b:Int)):fz nt k b=j:=by unfold prog at hb;rw [aJ hk] at hb;unfold bH at h1 h2;rw [aJ hj] at h1 h2;unfold fz;rw [UP hj (o.ins k hk b hb) (by simp [ma,h1,h2])]; rfl
def hZ (nt:aq) (h:Nat→List Int) (k:Nat):Nat→List Int:=fun b=>if (b:Int)<(prog nt k).1 then h (fz nt k b) else []
def o5 (nt:aq) (h:Nat→List Int) (k:Nat):Nat→List Int:=fun b=>if (b:Int)<(prog nt k).2.1 then (h (tD nt k b)).drop (ji nt (tD nt k b)).length else []
def qQ (nt:aq) (u:Nat→Nat) (k:Nat):Nat→Nat:=fun b=>if (b:Int)<(prog nt k).1 then u (fz nt k b) else 0
def lc (nt:aq) (s:State) (k:Nat):Lc:=(mV s k,o5 nt (fG s) k,qQ nt (used s) k)
theorem Xj {nt:aq} {h h':Nat→List Int} {k:Nat} (S:Sub h h'):Sub (hZ nt h k) (hZ nt h' k):=by
 intro b;unfold hZ;split
 ·exact S _
 exact PS
theorem Xk {nt:aq} {s:State} {k:Nat} (hk:k<s.1.length) (j:Nat):mV (cX nt s k) j=if j=k then jk (prog nt k) (mV s k) (uO nt s k) else mV s j:=by
 show (s.1.set k _).getD j bK=_;by_cases h:j=k
 ·subst h; rw [mW hk,if_pos rfl]
 rw [getD_set_ne (Ne.symm h),if_neg h]; rfl
theorem BI {nt:aq} {s:State} {k:Nat} (o:bG nt s) (hk:k<nt.1.length) (j:Nat):fG (cX nt s k) j=if (bd nt s k).1=3∧j=(bg nt s k).toNat then fG s j++[uP nt s k] else fG s j:=by
 show (if (bd nt s k).1=3 then s.2.2.1.set (bg nt s k).toNat (s.2.2.1.getD (bg nt s k).toNat []++[uP nt s k]) else s.2.2.1).getD j []=_;by_cases c3:(bd nt s k).1=3
 ·obtain ⟨l,hl,e,-⟩:=rD o hk c3;rw [if_pos c3,e,ay];by_cases hj:j=l
  ·subst hj; rw [mW (by rw [o.ns]; exact hl),if_pos ⟨c3,rfl⟩]; rfl
  rw [getD_set_ne (Ne.symm hj),if_neg (fun h=>hj h.2)]; rfl
 rw [if_neg c3,if_neg (fun h=>c3 h.1)]; rfl
theorem Kc {nt:aq} {s:State} {k:Nat} (o:bG nt s) (hk:k<nt.1.length) (hc:cS nt s k=true) (j:Nat):used (cX nt s k) j=if (bd nt s k).1=2∧j=(bg nt s k).toNat then used s j+1 else used s j:=by
 have hs:=BI o hk j;have hq:=o.nq;obtain ⟨w0,Js,w2,w3⟩:=s7 hc;have wa:queue (cX nt s k) j=if (bd nt s k).1=2∧j=(bg nt s k).toNat then (queue s j).drop 1 else if (bd nt s k).1=3∧j=(bg nt s k).toNat then queue s j++[uP nt s k] else queue s j:=by
  show (if (bd nt s k).1=2 then s.2.1.set (bg nt s k).toNat ((s.2.1.getD (bg nt s k).toNat []).drop 1) else if (bd nt s k).1=3 then s.2.1.set (bg nt s k).toNat (s.2.1.getD (bg nt s k).toNat []++[uP nt s k]) else s.2.1).getD j []=_;by_cases c2:(bd nt s k).1=2
  ·obtain ⟨l,hl,e,-⟩:=nK o hk c2;rw [if_pos c2,e,ay];by_cases hj:j=l
   ·subst hj; rw [mW (by omega),if_pos ⟨c2,rfl⟩]; rfl
   rw [getD_set_ne (Ne.symm hj),if_neg (fun h=>hj h.2),if_neg (fun h=>hj h.2)]; rfl
  rw [if_neg c2];by_cases c3:(bd nt s k).1=3
  ·obtain ⟨l,hl,e,-⟩:=rD o hk c3;rw [if_pos c3,e,ay];by_cases hj:j=l
   ·subst hj; rw [mW (by omega),if_neg (fun h=>c2 h.1),if_pos ⟨c3,rfl⟩]; rfl
   rw [getD_set_ne (Ne.symm hj),if_neg (fun h=>hj h.2),if_neg (fun h=>hj h.2)]; rfl
  rw [if_neg c3,if_neg (fun h=>c2 h.1),if_neg (fun h=>c3 h.1)]; rfl
 unfold used;rw [hs,wa];by_cases hj:j=(bg nt s k).toNat
 ·by_cases c2:(bd nt s k).1=2
  ·have hlen:=w2 c2;obtain ⟨l,hl,e,-⟩:=nK o hk c2;have hle:=(o.bH l hl).Dh.length_le;rw [e,ay] at hj;rw [e,ay] at hlen;subst hj;rw [if_neg (fun h=>absurd h.1 (by omega)),if_pos ⟨c2,by rw [e]; rfl⟩,if_pos ⟨c2,by rw [e]; rfl⟩,qW];show (fG s j).length-((queue s j).length-1)=_;have h1:0<(queue s j).length:=hlen;have h2:(queue s j).length≤(fG s j).length:=hle;omega
  by_cases c3:(bd nt s k).1=3
  ·rw [if_pos ⟨c3,hj⟩,if_neg (fun h=>c2 h.1),if_pos ⟨c3,hj⟩,if_neg (fun h=>c2 h.1),cg,cg];omega
  rw [if_neg (fun h=>c3 h.1),if_neg (fun h=>c2 h.1),if_neg (fun h=>c3 h.1),if_neg (fun h=>c2 h.1)]
 rw [if_neg (fun h=>hj h.2),if_neg (fun h=>hj h.2),if_neg (fun h=>hj h.2),if_neg (fun h=>hj h.2)]
theorem ae4 {nt:aq} {s:State} {k:Nat} (o:bG nt s) (hk:k<nt.1.length):Sub (fG s) (fG (cX nt s k)):=by
 intro j;rw [BI o hk];split
 ·exact List.prefix_append _ _
 exact PS
theorem ae5 {nt:aq} {s:State} (o:bG nt s) {j:Nat} (hj:j<nt.2.length):ji nt j <+: fG s j:=(o.bH j hj).pre
theorem ae6 {nt:aq} {s:State} (o:bG nt s) {j:Nat} (hj:j<nt.2.length):queue s j=(fG s j).drop (used s j):=List.suffix_iff_eq_drop.1 (o.bH j hj).Dh
theorem ae7 {nt:aq} {s:State} {k:Nat} (o:bG nt s) (hk:k<nt.1.length) (hc:cS nt s k=true):gg (prog nt k) (hZ nt (fG s) k) (lc nt s k)=some (lc nt (cX nt s k) k):=by
 obtain ⟨w0,Js,w2,w3⟩:=s7 hc;obtain ⟨b,eb,dE,xX⟩:=F7 o hk;have oO:k<s.1.length:=by rw [o.na]; exact hk
 have ep:nt.1[k]=prog nt k:=by unfold prog; rw [aJ hk]
 rw [ep] at dE xX;have hA:=Xk (nt:=nt) oO k;rw [if_pos rfl] at hA;have hw:ch (prog nt k) (lc nt s k).1=bd nt s k:=rfl;unfold gg;rw [hw,eb,ay,if_neg w0];by_cases c2:(bd nt s k).1=2
 ·have hb:=dE c2;obtain ⟨hl,l1,l2⟩:=BH o.cf hk hb;have e:(bg nt s k).toNat=fz nt k b:=by unfold bg fz; rw [if_pos c2,eb]
  have hlen:=w2 c2;rw [e] at hlen;have hlen:0<(queue s (fz nt k b)).length:=hlen;have hq:=ae6 o hl;have hIn:hZ nt (fG s) k b=fG s (fz nt k b):=by unfold hZ; rw [if_pos hb]
  have hU:(lc nt s k).2.2 b=used s (fz nt k b):=by show qQ _ _ _ _=_; unfold qQ; rw [if_pos hb]
  have ax:used s (fz nt k b)<(fG s (fz nt k b)).length:=by rw [hq,qW] at hlen; omega
  have Kd:uO nt s k=(fG s (fz nt k b)).getD (used s (fz nt k b)) 0:=by unfold uO;rw [if_pos c2,e];show (queue s (fz nt k b)).getD 0 0=_;rw [hq,jN,jN,List.getElem?_drop,Nat.add_zero]
  rw [if_pos c2,hIn,hU,if_pos ax,← Kd];have e1:o5 nt (fG (cX nt s k)) k=o5 nt (fG s) k:=by
   funext c;unfold o5;split
   ·rw [BI o hk,if_neg (fun h=>absurd h.1 (by omega))]
   rfl
  have e2:qQ nt (used (cX nt s k)) k=iG (qQ nt (used s) k) b (used s (fz nt k b)+1):=by
   funext c;by_cases zA:c=b
   ·subst zA;rw [zy]; unfold qQ;rw [if_pos hb,Kc o hk hc,if_pos ⟨c2,e.symm⟩]
   rw [zz zA]; unfold qQ;split
   ·rename_i q9;rw [Kc o hk hc,if_neg];rintro ⟨-,h⟩;rw [e] at h;have:=(BH o.cf hk q9).2.2;rw [h,l2] at this;omega
   rfl
  unfold lc;rw [hA,e1,e2]
 rw [if_neg c2];have Kd:uO nt s k=0:=by unfold uO; rw [if_neg c2]
 have e2:qQ nt (used (cX nt s k)) k=qQ nt (used s) k:=by
  funext c;unfold qQ;split
  ·rw [Kc o hk hc,if_neg (fun h=>c2 h.1)]
  rfl
 by_cases c3:(bd nt s k).1=3
 ·have hb:=xX c3;obtain ⟨hl,l1,l2⟩:=Kb o.cf hk hb;have e:(bg nt s k).toNat=tD nt k b:=by unfold bg tD; rw [if_neg c2,if_pos c3,eb]
  rw [if_pos c3];have e1:o5 nt (fG (cX nt s k)) k=iG (o5 nt (fG s) k) b (o5 nt (fG s) k b++[uP nt s k]):=by
   funext c;by_cases zA:c=b
   ·subst zA;rw [zy]; unfold o5;rw [if_pos hb,if_pos hb,BI o hk,if_pos ⟨c3,e.symm⟩,List.drop_append_of_le_length (ae5 o hl).length_le]
   rw [zz zA]; unfold o5;split
   ·rename_i q9;rw [BI o hk,if_neg];rintro ⟨-,h⟩;rw [e] at h;have:=(Kb o.cf hk q9).2.2;rw [h,l2] at this;omega
   rfl
  unfold lc;rw [hA,e1,e2,Kd]; rfl
 rw [if_neg c3];have e1:o5 nt (fG (cX nt s k)) k=o5 nt (fG s) k:=by
  funext c;unfold o5;split
  ·rw [BI o hk,if_neg (fun h=>c3 h.1)]
  rfl
 unfold lc;rw [hA,e1,e2,Kd]
theorem ae8 {nt:aq} {s:State} {k j:Nat} (o:bG nt s) (hk:k<nt.1.length) (hj:j<nt.1.length) (hc:cS nt s k=true) (hjk:j≠k):lc nt (cX nt s k) j=lc nt s j:=by
 obtain ⟨b,eb,dE,xX⟩:=F7 o hk;have oO:k<s.1.length:=by rw [o.na]; exact hk
 have ep:nt.1[k]=prog nt k:=by unfold prog; rw [aJ hk]
 rw [ep] at dE xX;have hA:=Xk (nt:=nt) oO j;rw [if_neg hjk] at hA;have e1:o5 nt (fG (cX nt s k)) j=o5 nt (fG s) j:=by
  funext c;unfold o5;split
  ·rename_i q9;rw [BI o hk,if_neg];rintro ⟨c3,h⟩;have e:(bg nt s k).toNat=tD nt k b:=by unfold bg tD; rw [if_neg (by omega),if_pos c3,eb]
   rw [e] at h;have h1:=(Kb o.cf hj q9).2.1;rw [h,(Kb o.cf hk (xX c3)).2.1] at h1;omega
  rfl
 have e2:qQ nt (used (cX nt s k)) j=qQ nt (used s) j:=by
  funext c;unfold qQ;split
  ·rename_i q9;rw [Kc o hk hc,if_neg];rintro ⟨c2,h⟩;have e:(bg nt s k).toNat=fz nt k b:=by unfold bg fz; rw [if_pos c2,eb]
   rw [e] at h;have h1:=(BH o.cf hj q9).2.1;rw [h,(BH o.cf hk (dE c2)).2.1] at h1;omega
  rfl
 unfold lc;rw [hA,e1,e2]
inductive Steps (nt:aq) (g:State→Nat→Bool) (s0:State):State→(Nat→Nat)→Prop
 | refl:Steps nt g s0 s0 (fun _=>0)
 | step {s:State} {m:Nat→Nat} {k:Nat} : Steps nt g s0 s m→k<nt.1.length→g s k=true→cS nt s k=true→Steps nt g s0 (cX nt s k) (iG m k (m k+1))
section
variable {nt:aq} {g:State→Nat→Bool} {s0 s t:State} {m mt:Nat→Nat}
theorem Steps.ok (o:bG nt s0) (S:Steps nt g s0 s m):bG nt s:=by
 induction S with
 | refl=>exact o
 | step _ hk _ hc ih=>exact Bm ih hk hc
theorem Steps.run (o:bG nt s0) (S:Steps nt g s0 s m):∀ k,k<nt.1.length→DR (prog nt k) (hZ nt (fG s) k) (m k) (lc nt s0 k)=some (lc nt s k):=by
 induction S with
 | refl=>intro k hk; rfl
 | @step s m k S hk _ hc ih=>
  intro j hj;have os:=S.ok o;have hg:=ae4 os hk;have h1:=Xi (Xj (nt:=nt) (k:=j) hg) (ih j hj);by_cases h:j=k
  ·subst h;rw [zy];show (DR _ _ _ _).bind _=_;rw [h1];exact Xh (Xj hg) (ae7 os hj hc)
  rw [zz h,ae8 os hk hj hc h];exact h1
def total (m:Nat→Nat):Nat→Nat
 | 0=>0
 | K+1=>total m K+m K
theorem Xl {m:Nat→Nat} {k:Nat} : ∀ {K:Nat},total (iG m k (m k+1)) K=total m K+if k<K then 1 else 0
 | 0=>by simp [total]
 | K+1=>by
  show total _ K+iG m k (m k+1) K=total m K+m K+_;rw [Xl];by_cases h:K=k
  ·subst h; rw [zy];simp; omega
  rw [zz h];by_cases h1:k<K
  ·rw [if_pos h1,if_pos (by omega)]; omega
  rw [if_neg h1,if_neg (by omega)]; omega
theorem Steps.count (S:Steps nt g s0 s m):s.2.2.2=s0.2.2.2+(total m nt.1.length:Int):=by
 induction S with
 | refl=>
  have:∀ K,total (fun _=>0) K=0:=by
   intro K;induction K with
   | zero=>rfl
   | succ K ih=>show total (fun _=>0) K+0=0; omega
  rw [this]; simp
 | @step s m k S hk _ hc ih=>
  rw [Xl,if_pos hk];show s.2.2.2+1=_;rw [ih]; omega
theorem Steps.mono {g':State→Nat→Bool} (h:∀ s k,g s k=true→g' s k=true) (S:Steps nt g s0 s m):Steps nt g' s0 s m:=by
 induction S with
 | refl=>exact .refl
 | step S hk hg hc ih=>exact .step ih hk (h _ _ hg) hc
theorem Steps.trans (A:Steps nt g s0 s m) (B:Steps nt g s t mt):Steps nt g s0 t (fun k=>m k+mt k):=by
 induction B with
 | refl=>exact A
 | @step u mu k B hk hg hc ih=>
  have:=Steps.step ih hk hg hc;have e:iG (fun j=>m j+mu j) k ((fun j=>m j+mu j) k+1)=fun j=>m j+iG mu k (mu k+1) j:=by
   funext j;by_cases h:j=k
   ·subst h; rw [zy,zy]; simp only; omega
   rw [zz h,zz h]
  rw [e] at this;exact this
end
end Go.AmT
namespace Go.AmT
def c0:Lc:=(rE,fun _=>[],fun _=>0)
theorem ae9 (nt:aq) (j:Nat):fG (start nt) j=ji nt j:=by
 unfold fG ji bH start;rcases Nat.lt_or_ge j nt.2.length with h | h
 ·simp [h]
 simp only [jN,List.getElem?_map,F9 h]; rfl
def tE (p:Program) (I:Nat→List Int) (c:Lc):Bool:=
 decide ((ch p c.1).1=0)||(decide ((ch p c.1).1=2)&&decide (c.2.2 (ch p c.1).2.toNat=(I (ch p c.1).2.toNat).length))||(decide ((ch p c.1).1=3)&&decide ((c.2.1 (ch p c.1).2.toNat).length=400))
def al (p:Program) (I:Nat→List Int):Nat→Lc→Lc×Int×Int
 | 0,c=>if tE p I c=true then (c,ch p c.1) else (c,1,0)
 | f+1,c=>if tE p I c=true then (c,ch p c.1) else al p I f ((gg p I c).getD c)
structure Wf (I:Nat→List Int) (c:Lc):Prop where
 rd:∀ b,c.2.2 b≤(I b).length
 wr:∀ b,(c.2.1 b).length≤400
theorem PW (I:Nat→List Int):Wf I c0:=⟨fun _=>Nat.zero_le _,fun _=>by show ([]:List Int).length≤400; simp⟩
theorem PX {p:Program} {I:Nat→List Int} {c:Lc} (w:Wf I c) (h:tE p I c=false):∃ d,gg p I c=some d∧Wf I d:=by
 unfold tE at h;simp only [Bool.or_eq_false_iff,Bool.and_eq_false_iff,decide_eq_false_iff_not] at h;obtain ⟨⟨h0,h2⟩,h3⟩:=h;unfold gg;rw [if_neg h0];by_cases c2:(ch p c.1).1=2
 ·have h2:¬ c.2.2 (ch p c.1).2.toNat=(I (ch p c.1).2.toNat).length:=by
   rcases h2 with h | h
   ·exact absurd c2 h
   exact h
  have ax:c.2.2 (ch p c.1).2.toNat<(I (ch p c.1).2.toNat).length:=by have:=w.rd (ch p c.1).2.toNat; omega
  rw [if_pos c2,if_pos ax];refine ⟨_,rfl,fun b=>?_,w.wr⟩;show iG _ _ _ b≤_;by_cases hb:b=(ch p c.1).2.toNat
  ·subst hb; rw [zy]; omega
  rw [zz hb]; exact w.rd b
 rw [if_neg c2];by_cases c3:(ch p c.1).1=3
 ·have h3:¬ (c.2.1 (ch p c.1).2.toNat).length=400:=by
   rcases h3 with h | h
   ·exact absurd c3 h
   exact h
  rw [if_pos c3];refine ⟨_,rfl,w.rd,fun b=>?_⟩;show List.length (iG _ _ _ b)≤400;by_cases hb:b=(ch p c.1).2.toNat
  ·subst hb; rw [zy,cg,List.length_singleton];have:=w.wr (ch p c.1).2.toNat; omega
  rw [zz hb]; exact w.wr b
 rw [if_neg c3];exact ⟨_,rfl,w.rd,w.wr⟩
def aT (h:List (List Int)) (j:Nat):List Int:=h.getD j []
def runK (nt:aq) (h:Nat→List Int) (k:Nat):Lc×Int×Int:=al (prog nt k) (hZ nt h k) 3000 c0
def jv (nt:aq) (h:Nat→List Int) (j:Nat):List Int:=ji nt j++if 0≤(bH nt j).1 then (runK nt h (bH nt j).1.toNat).1.2.1 (bH nt j).2.1.toNat else []
def GW (nt:aq) (h:Nat→List Int):Bool:=((bA nt.1.length).all fun k=>decide ((runK nt h k).2.1≠1)&&decide ((runK nt h k).2.1≠3))&&(bA nt.2.length).all fun j=>bS (jv nt h j)
def nR (nt:aq) (h:List (List Int)):Option (List (List Int)):=if GW nt (aT h)=true then some ((bA nt.2.length).map (jv nt (aT h))) else none
def zB (nt:aq):Nat→Int→List (List Int)→Option (List (List Int)×Int)
 | 0,_,_=>none
 | m+1,r,h=>match nR nt h with | none=>none | some g=>if g=h then some (h,r) else zB nt m (r+1) g
def tF (nt:aq):List (List Int):=nt.2.map (fun l=>l.2.2.2.2)
def xm (nt:aq):Option (List (List Int)×Int):=zB nt 300 1 (tF nt)
section
variable {nt:aq}
theorem afa (j:Nat):aT (tF nt) j=ji nt j:=ae9 nt j
theorem Xm {h:Nat→List Int} (ok:GW nt h=true) {j:Nat} (hj:j<nt.2.length):bS (jv nt h j)=true:=by unfold GW at ok;simp only [aw,List.all_eq_true,oL,decide_eq_true_eq] at ok;exact ok.2 j hj
theorem PY {h g:List (List Int)} (e:nR nt h=some g):GW nt (aT h)=true∧g=(bA nt.2.length).map (jv nt (aT h)):=by
 unfold nR at e;split at e
 ·rename_i h1; cases e; exact ⟨h1,rfl⟩
 cases e
theorem Xn {f:Nat→List Int} {L j:Nat} (hj:j<L):aT ((bA L).map f) j=f j:=by unfold aT; simp [hj]
theorem Xo {f:Nat→List Int} {L j:Nat} (hj:L≤j):aT ((bA L).map f) j=[]:=by unfold aT;rw [jN,F9 (by simpa using hj)]; rfl
inductive DS (nt:aq):Nat→List (List Int)→Prop
 | zero:DS nt 0 (tF nt)
 | succ {i:Nat} {h g:List (List Int)} : DS nt i h→nR nt h=some g→DS nt (i+1) g
theorem Xp:∀ {m:Nat} {r:Int} {h g:List (List Int)} {r':Int} {i:Nat},DS nt i h→zB nt m r h=some (g,r')→∃ j,i≤j∧j<i+m∧r'=r+((j-i:Nat):Int)∧DS nt j g∧nR nt g=some g
 | 0,r,h,g,r',i,C,e=>by cases e
 | m+1,r,h,g,r',i,C,e=>by
  unfold zB at e;cases h1:nR nt h with
  | none=>rw [h1] at e; cases e
  | some x=>
   rw [h1] at e;simp only at e;split at e
   ·rename_i hx;cases e;subst hx;exact ⟨i,Nat.le_refl _,by omega,by simp,C,h1⟩
   obtain ⟨j,a1,a2,a3,a4,a5⟩:=Xp (.succ C h1) e;exact ⟨j,by omega,by omega,by omega,a4,a5⟩
theorem Xq {h:List (List Int)} {r:Int} (e:xm nt=some (h,r)):∃ j:Nat,j<300∧r=(j:Int)+1∧DS nt j h∧nR nt h=some h:=by obtain ⟨j,-,a2,a3,a4,a5⟩:=Xp .zero e;exact ⟨j,by omega,by omega,a4,a5⟩
theorem Xr {h:List (List Int)} {r:Int} (e:xm nt=some (h,r)):h.length=nt.2.length:=by obtain ⟨j,-,-,-,e2⟩:=Xq e;have:=(PY e2).2;rw [this]; simp
theorem Xs {h:List (List Int)} {r:Int} (e:xm nt=some (h,r)) {j:Nat} (hj:j<nt.2.length):bS (aT h j)=true:=by obtain ⟨i,-,-,-,e2⟩:=Xq e;obtain ⟨ok,e3⟩:=PY e2;rw [e3,Xn hj];exact Xm ok hj
variable {g:State→Nat→Bool} {s0 s:State} {m:Nat→Nat} {h:Nat→List Int}
end
end Go.AmT
