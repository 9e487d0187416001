/- Programs that are read from texts, in plain Lean: both programs read the same. -/
import Derived.Test.YtjfaphipihgomaaGreatDoorMRnD13
open Go Go.Am
noncomputable section
set_option linter.unusedVariables false
set_option linter.unusedSimpArgs false
set_option maxRecDepth 100000
open Bool renaming not_false → iR, not_true → bf
open Go.Lib renaming hasSuffix → GS, itoa → aj
open Int renaming lt_irrefl → bR, toNat_natCast → ay
open List renaming append_assoc → lZ, getElem_mem → ct, isSuffixOf_iff_suffix → WL, length_append → cg, length_cons → aQ, length_map → mn, length_nil → bh, mem_append → eh, range → bA, take_length → jj
namespace Go.AmT
variable {n:Nat} {s:BB} {p:Program}
theorem WM (c:UInt8):∀ s:BB,∃ a r,bt c s=a::r∧s=a++(r.map fun p=>c::p).flatten
 | []=>⟨[],[],rfl,rfl⟩
 | x::xs=>by
  obtain ⟨a,r,e,h⟩:=WM c xs;rw [bt,e];by_cases hx:x=c
  ·rw [if_pos hx];refine ⟨[],a::r,rfl,?_⟩;rw [hx]
   conv=>lhs; rw [h]
   simp
  rw [if_neg hx];refine ⟨x::a,r,rfl,?_⟩
  conv=>lhs; rw [h]
  simp
theorem WN {α:Type} (c:UInt8) (g:α→BB):∀ (l:List α) (a:BB),c∉a→(∀ x∈l,c∉g x)→bt c (a++(l.map fun x=>c::g x).flatten)=a::l.map g
 | [],a,ha,_=>by simp [zq ha]
 | x::l,a,ha,h=>by
  have e:a++((x::l).map fun x=>c::g x).flatten=a++c::(g x++(l.map fun x=>c::g x).flatten):=by simp
  rw [e,mo _ ha,WN c g l (g x) (h x (by simp)) (fun y hy=>h y (by simp [hy]))];rfl
theorem WO {s:BB} (hs:s.length≤1048576):W (e9.f n s) (fun r=>r.2.1=true→aj r.1=s):=by
 have ha:W (pV.f n s) (fun r=>r.2.1=true→-9223372036854775808≤r.1∧r.1≤9223372036854775807):=by
  unfold pV.f Bb;rw [if_pos (by omega)];cases h:Lib.atoiAll s with
  | ok v=>exact ak.2 (fun _=>Lib.atoiAll_bounds h)
  | «syntax»=>exact ak.2 (fun h=>by cases h)
  | range=>exact ak.2 (fun h=>by cases h)
 unfold e9.f;rw [c8];refine bz ha (fun r hr=>?_);rw [cw];refine ⟨fun h=>?_,fun _=>ak.2 (fun h=>by cases h)⟩;unfold dR.f yB;rw [if_pos (hr h)];exact ak.2 (fun h=>of_decide_eq_true h)
theorem aeM {s:BB} {r:Instr×(Bool×Unit)} (h:BC s r) (ht:r.2.1=true):fy 3 3 24 r.1=true∧de r.1=s:=by
 rcases h.tu with ⟨x,o,e⟩ | e
 ·rw [h.all x o e]; exact ⟨o,e⟩
 rw [e] at ht; cases ht
theorem WQ {x:Instr} (O:JX x):(59:UInt8)∉de x∧(10:UInt8)∉de x:=by
 have key:∀ c:UInt8,c=59∨c=10→c∉de x:=fun c hc=>by
  have hn:c.toNat<97∧c≠45∧¬ (48≤c.toNat∧c.toNat≤57)∧c≠32:=by rcases hc with rfl | rfl<;>decide
  have h0:=WB O.op hn.1;have sp:∀ {v:Int},By v→c∉lK v:=fun hv=>by simp only [lK,eh,List.mem_singleton,not_or];exact ⟨hn.2.2.2,pW hv hn.2.1 hn.2.2.1⟩
  unfold de;rw [eh,not_or];refine ⟨h0,?_⟩;split
  ·rw [eh,not_or]; exact ⟨sp O.a,sp O.b⟩
  split
  ·rw [eh,eh,not_or,not_or]; exact ⟨sp O.a,sp O.b,sp O.c⟩
  split
  ·exact sp O.b
  simp
 exact ⟨key 59 (.inl rfl),key 10 (.inr rfl)⟩
theorem J6 (h:cJ p=true):∀ x∈p.2.2,fy 3 3 24 x=true:=fun x hx=>by obtain ⟨h1,h2,h3,h4⟩:=tw h;exact aeJ (h4 x hx) (by omega) (by omega) (by omega)
theorem PH {l:List Instr} (h:∀ x∈l,fy 3 3 24 x=true):l.map tx=l.map fun x=>59::de x:=by refine List.map_congr_left (fun x hx=>?_);rw [tx,m_,if_pos (h x hx)];rfl
theorem WR (h:cJ p=true):bt 59 (ju p)=aj p.1::aj p.2.1::p.2.2.map de:=by
 obtain ⟨h1,h2,h3,h4⟩:=tw h;have hi:=J6 h;have e:ju p=aj p.1++59::(aj p.2.1++(p.2.2.map fun x=>59::de x).flatten):=by rw [ju,PH hi]; simp
 rw [e,mo _ (pW ⟨by omega,by omega⟩ (by decide) (by decide)),WN 59 de _ _ (pW ⟨by omega,by omega⟩ (by decide) (by decide)) (fun x hx=>(WQ (zp (hi x hx) (by omega) (by omega) (by omega))).1)]
abbrev J7:Program:=(0,0,[])
structure BF (s:BB) (r:Program×Bool×Unit):Prop where
 all:∀ p,cJ p=true→ju p=s→r=(p,true,())
 tu:(∃ p,cJ p=true∧ju p=s)∨r=(J7,false,())
theorem BF.one {s:BB} {r r':Program×(Bool×Unit)} (h:BF s r) (h':BF s r'):r=r':=by
 rcases h.tu with ⟨x,o,e⟩ | e
 ·rw [h.all x o e,h'.all x o e]
 rcases h'.tu with ⟨x,o,e'⟩ | e'
 ·rw [h.all x o e',h'.all x o e']
 rw [e,e']
theorem PI {s:BB} {m:Option (Program×Bool×Unit)} (h1:W m (fun r=>r=(J7,false,())∨(cJ r.1=true∧ju r.1=s))) (h2:∀ x,cJ x=true→ju x=s→m=some (x,true,())):W m (BF s):=by
 obtain ⟨r,e,h⟩:=h1;refine ⟨r,e,⟨fun x o et=>?_,?_⟩⟩
 ·rw [h2 x o et] at e;exact (Option.some.inj e).symm
 rcases h with h | ⟨o,et⟩
 ·exact .inr h
 exact .inl ⟨_,o,et⟩
theorem PJ {s:BB} {r:Program×(Bool×Unit)} (h:BF s r):pJ r.1:=by
 rcases h.tu with ⟨x,o,e⟩ | e
 ·rw [h.all x o e]; exact ⟨by show x.2.2.length≤_; have:=(tw o).2.2.1; omega⟩
 rw [e]; exact ⟨by simp⟩
theorem WS {s:BB} (hs:s.length≤1048576) (hn:1048577<n):W (rV.f n s) (fun r=>r=(J7,false,())∨(cJ r.1=true∧ju r.1=s)):=by
 have hB:=iD;unfold rV.f;rw [qM (by omega),ao];have hp:=mq 59 s;have hlen:=u6 59 s;obtain ⟨a,r,ur,SO⟩:=WM 59 s;rw [ur] at hp hlen;dsimp only;rw [ur,cM];refine ⟨fun _=>ak.2 (.inl rfl),fun h3=>?_⟩;cases r with
 | nil=>exfalso; simp at h3
 | cons b D=>
  have lL:(a::b::D).length=D.length+2:=rfl;have ha:=hp a (by simp);have hb:=hp b (by simp);have g0:(a::b::D).getD 0 []=a:=rfl;have g1:(a::b::D).getD 1 []=b:=rfl;have eD:((a::b::D).take ((a::b::D).length:Int).toNat).drop 2=D:=by rw [ay,jj]; rfl
  rw [af (by rw [lL]; omega),g0,c8];refine bz (WO (by omega)) (fun r2 h2=>?_);rw [af (by rw [lL]; omega),g1,c8];refine bz (WO (by omega)) (fun r3 h3'=>?_);rw [af (by rw [lL]; omega),eD];refine fT (fun (i:Nat) (o:List Instr)=>((i:Int),r2.1,r3.1,o,())) D.length (fun i o=>o.length≤i∧(∀ x∈o,fy 3 3 24 x=true)∧o.map de=D.take i) (s0:=[]) rfl ⟨by simp,fun x hx=>by simp at hx,by simp⟩ (by rw [lL] at hlen; omega) (fun ih o hI=>?_) (fun ih i o hi hI hS=>?_)
  ·obtain ⟨i1,i2,i3⟩:=hI;simp only [av (bR _)];refine fx.2 (bz (P:=fun z=>∃ y:Bool×Unit,z = .inr y∧(y.1=false→cJ (r2.1,r3.1,o)=true∧ju (r2.1,r3.1,o)=s)) ?_ (fun z hz=>?_))
   ·rw [cw];refine ⟨fun _=>ak.2 ⟨_,rfl,fun h=>by cases h⟩,fun c2=>?_⟩;rw [cw];refine ⟨fun _=>ak.2 ⟨_,rfl,fun h=>by cases h⟩,fun c3=>?_⟩;rw [FW ⟨by show o.length≤_; rw [lL] at hlen; omega⟩ (by omega),ao];refine ak.2 ⟨_,rfl,fun h=>?_⟩;have h:cJ (r2.1,r3.1,o)=true:=by simpa using h
    have e2:=h2 (by simpa using c2);have e3:=h3' (by simpa using c3);refine ⟨h,?_⟩;rw [jj] at i3;rw [ju,PH i2,SO];show aj r2.1++[59]++aj r3.1++(o.map fun x=>59::de x).flatten=_;have e4:(o.map fun x=>59::de x)=D.map fun p=>59::p:=by rw [← i3,List.map_map]; rfl
    rw [e2,e3,e4];simp
   obtain ⟨y,rfl,hy⟩:=hz;simp only;rw [cw];exact ⟨fun _=>ak.2 (.inl rfl),fun h=>ak.2 (.inr (hy h))⟩
  obtain ⟨i1,i2,i3⟩:=hI;simp only [aG (show (i:Int)<(D.length:Int) by omega),ay];have hd:=hp (D.getD i []) (by rw [aJ hi]; simp);rw [lL] at hd hlen;obtain ⟨q,e2,hq⟩:=aeH (n:=n) (s:=D.getD i []) (by omega) hn;rw [af (by omega),e2,ao,cw];refine ⟨fun _=>ak.2 (.inl rfl),fun c=>?_⟩;obtain ⟨q1,q2⟩:=aeM hq (by simpa using c);rw [af (by simp only [aQ,bh]; omega),a_ (by omega)];refine hS (o++[q.1]) ⟨by simp; omega,JV i2 q1,?_⟩;rw [List.map_append,i3,List.take_succ_eq_append_getElem hi,List.map_cons,List.map_nil,q2,aJ hi]
theorem PL (h:cJ p=true) (hn:1048577<n):rV.f n (ju p)=some (p,true,()):=by
 have hB:=iD;have hl:=GQ h;obtain ⟨h1,h2,h3,h4⟩:=tw h;have PM:=J6 h;unfold rV.f;rw [qM (by omega),WR h,ao];dsimp only;have lL:(aj p.1::aj p.2.1::p.2.2.map de).length=p.2.2.length+2:=by simp
 have g0:(aj p.1::aj p.2.1::p.2.2.map de).getD 0 []=aj p.1:=rfl;have g1:(aj p.1::aj p.2.1::p.2.2.map de).getD 1 []=aj p.2.1:=rfl;have eD:((aj p.1::aj p.2.1::p.2.2.map de).take ((aj p.1::aj p.2.1::p.2.2.map de).length:Int).toNat).drop 2=p.2.2.map de:=by rw [ay,jj]; rfl
 rw [av (by rw [lL]; omega),af (by rw [lL]; omega),g0,qN (by omega) (by omega),ao,af (by rw [lL]; omega),g1,qN (by omega) (by omega),ao,af (by rw [lL]; omega),eD];refine uL p.2.2 (fun x=>x) (fun i l=>(i,p.1,p.2.1,l,())) (fun ih i hi l oY=>?_) (fun ih=>?_) (by omega)
 ·have ax:(i:Int)<((p.2.2.map de).length:Int):=by rw [mn]; omega
  have hg:(p.2.2.map de).getD i []=de p.2.2[i]:=by rw [aJ (by rw [mn]; exact hi),List.getElem_map]
  simp only [aG ax,ay];rw [af (by omega),hg,PD (PM _ (ct hi)) hn,ao];simp only [bf,ar];rw [af (by simp only [aQ,bh]; omega),a_ (by omega)]
 have ax:¬ ((p.2.2.length:Int)<((p.2.2.map de).length:Int)):=by rw [mn]; omega
 simp only [av ax,bf,ar];rw [List.map_id'' (fun _=>rfl)];show cut ((jh.f n p).bind _) _=_;rw [FW ⟨by omega⟩ (by omega),h,ao];rfl
theorem aeN {s:BB} (hs:s.length≤1048576) (hn:1048577<n):W (tz.f n s) (fun r=>r=(J7,false,())∨(cJ r.1=true∧ju r.1=s)):=by
 have hB:=iD;unfold tz.f;rw [qL (by omega) (by omega) (by omega) hn,ao];have hp:=mq (UInt8.ofNat (59:Int).toNat) s;dsimp only;generalize bt (UInt8.ofNat (59:Int).toNat) s=L at hp;rw [nG,ao,cw];refine ⟨fun _=>ak.2 (.inl rfl),fun c=>?_⟩;simp only [Bool.not_eq_false',Bool.and_eq_true,decide_eq_true_eq] at c;have piece:∀ j,j<L.length→(L.getD j []).length≤1048576:=fun j hj=>by have:=hp (L.getD j []) (by rw [aJ hj]; exact ct _);omega
 rw [af (by omega),c8];refine bz (GM (piece 0 (by omega)) (by omega)) (fun r3 _=>?_);rw [af (by omega),c8];refine bz (GM (piece 1 (by omega)) (by omega)) (fun r4 _=>?_);rw [af (by omega)];have hlen:(((L.length:Int).toNat-2:Nat):Int)=((L.length-2:Nat):Int):=by rw [ay]
 simp only [hlen];refine fT (fun (i:Nat) (o:List Instr)=>((i:Int),r3.1,r4.1,o,())) (L.length-2) (fun i o=>o.length≤i) (s0:=[]) rfl (by simp) (by omega) (fun ih o hI=>?_) (fun ih i o hi hI hS=>?_)
 ·have hI:o.length≤L.length-2:=hI;simp only [av (bR _)];have WT:pJ (r3.1,r4.1,o):=⟨by show o.length≤_; omega⟩
  refine fx.2 (bz (P:=fun z=>∃ y:Bool×Unit,z = .inr y∧(y.1=false→cJ (r3.1,r4.1,o)=true∧ju (r3.1,r4.1,o)=s)) ?_ (fun z hz=>?_))
  ·rw [FV WT (by omega),ao];cases hk:cJ (r3.1,r4.1,o)
   ·exact ak.2 ⟨_,rfl,fun h=>by cases h⟩
   simp only [bf,ar];rw [PF WT (by omega),ao,u7,if_pos hk];exact ak.2 ⟨_,rfl,fun h=>⟨trivial,by simpa using h⟩⟩
  obtain ⟨y,rfl,hy⟩:=hz;simp only;rw [cw];exact ⟨fun _=>ak.2 (.inl rfl),fun h=>ak.2 (.inr (hy h))⟩
 have hI:o.length≤i:=hI;simp only [aG (show (i:Int)<((L.length-2:Nat):Int) by omega),ay];obtain ⟨q,e1,e2,hq⟩:=aeI (n:=n) (s:=L.getD (2+i) []) (piece _ (by omega)) hn;rw [af (by omega),e1,ao,cw];refine ⟨fun _=>ak.2 (.inl rfl),fun _=>?_⟩;rw [af (by simp only [aQ,bh]; omega),a_ (by omega)];exact hS (o++[q.1]) (by simp; omega)
theorem WU (h:cJ p=true) (hn:1048577<n):tz.f n (ju p)=some (p,true,()):=by
 have hB:=iD;have hl:=GQ h;obtain ⟨h1,h2,h3,h4⟩:=tw h;have PM:=J6 h;unfold tz.f;have e59:UInt8.ofNat (59:Int).toNat=59:=rfl;rw [qL (by omega) (by omega) (by omega) hn,ao,e59,WR h];dsimp only;have lL:(aj p.1::aj p.2.1::p.2.2.map de).length=p.2.2.length+2:=by simp
 have g0:(aj p.1::aj p.2.1::p.2.2.map de).getD 0 []=aj p.1:=rfl;have g1:(aj p.1::aj p.2.1::p.2.2.map de).getD 1 []=aj p.2.1:=rfl;rw [nG,ao];have cC:(decide (3≤((aj p.1::aj p.2.1::p.2.2.map de).length:Int))&&decide (((aj p.1::aj p.2.1::p.2.2.map de).length:Int)≤26))=true:=by rw [lL]; simp only [Bool.and_eq_true,decide_eq_true_eq]; omega
 rw [cC];simp only [bf,ar];rw [af (by rw [lL]; omega),g0,zt (by omega) (by omega) (by omega),ao,af (by rw [lL]; omega),g1,zt (by omega) (by omega) (by omega),ao,af (by rw [lL]; omega)];have hlen:((((aj p.1::aj p.2.1::p.2.2.map de).length:Int).toNat-2:Nat):Int)=(p.2.2.length:Int):=by rw [ay,lL]; omega
 simp only [hlen];refine uL p.2.2 (fun x=>x) (fun i l=>(i,p.1,p.2.1,l,())) (fun ih i hi l oY=>?_) (fun ih=>?_) (by omega)
 ·have ax:(i:Int)<(p.2.2.length:Int):=by omega
  have hg:(aj p.1::aj p.2.1::p.2.2.map de).getD (2+i) []=de p.2.2[i]:=by
   have:(aj p.1::aj p.2.1::p.2.2.map de).getD (2+i) []=(p.2.2.map de).getD i []:=by rw [Nat.add_comm]; rfl
   rw [this,aJ (by rw [mn]; exact hi),List.getElem_map]
  simp only [aG ax,ay];rw [af (by omega),hg,WI (PM _ (ct hi)) hn,ao];simp only [bf,ar];rw [af (by simp only [aQ,bh]; omega),a_ (by omega)]
 simp only [av (bR _)];rw [List.map_id'' (fun _=>rfl)];show cut ((jg.f n p).bind _) _=_;rw [FV ⟨by omega⟩ (by omega),h,ao];simp only [bf,ar];show cut ((tv.f n p).bind _) _=_;rw [PF ⟨by omega⟩ (by omega),ao,u7,if_pos h,decide_eq_true rfl];rfl
theorem aeO {s:BB} (hs:s.length≤1048576) (hn:1048577<n):∃ r,rV.f n s=some r∧BF s r:=PI (WS hs hn) (fun x o et=>by subst et; exact PL o hn)
theorem aeP {s:BB} (hs:s.length≤1048576) (hn:1048577<n):∃ r,tz.f n s=some r∧rV.f n s=some r∧BF s r:=by obtain ⟨r,e,h⟩:=PI (aeN hs hn) (fun x o et=>by subst et; exact WU o hn);obtain ⟨r',e',h'⟩:=PI (WS hs hn) (fun x o et=>by subst et; exact PL o hn);have:=h.one h';subst this;exact ⟨r,e,e',h⟩
end Go.AmT
namespace Go.AmT
open Go.Proofs Go.Proofs.Tryz
def xf.f (n:Nat) (a0:aq):Option ((BB)×Unit):=(eH.f n a0).bind fun r1=>br (!r1.1) (some ([],())) (iter n (fun FU iB=>br (decide (iB.2.1<(a0.1.length:Int))) (ab (0≤iB.2.1∧iB.2.1<(a0.1.length:Int)) (let Be:=(a0.1.getD iB.2.1.toNat bC); ab (iB.1.length+([112,114,111,99,101,115,115,32]:BB).length<bU) ((tv.f n Be).bind fun fD=>ab ((iB.1++([112,114,111,99,101,115,115,32]:BB)).length+fD.1.length<bU) (ab (((iB.1++([112,114,111,99,101,115,115,32]:BB))++fD.1).length+([10]:BB).length<bU) (FU (((iB.1++([112,114,111,99,101,115,115,32]:BB))++fD.1)++([10]:BB),ah (iB.2.1+1),())))))) (iter n (fun Ov gZ=>br (decide (gZ.2.1<(a0.2.length:Int))) (ab (0≤gZ.2.1∧gZ.2.1<(a0.2.length:Int)) (let v30:=(a0.2.getD gZ.2.1.toNat aE); ab (gZ.1.length+([108,105,110,107,32]:BB).length<bU) ((bX.f n v30.1).bind fun lG=>ab ((gZ.1++([108,105,110,107,32]:BB)).length+lG.1.length<bU) (ab (((gZ.1++([108,105,110,107,32]:BB))++lG.1).length+([32]:BB).length<bU) ((bX.f n v30.2.1).bind fun iW=>ab ((((gZ.1++([108,105,110,107,32]:BB))++lG.1)++([32]:BB)).length+iW.1.length<bU) (ab (((((gZ.1++([108,105,110,107,32]:BB))++lG.1)++([32]:BB))++iW.1).length+([32]:BB).length<bU) ((bX.f n v30.2.2.1).bind fun kE=>ab ((((((gZ.1++([108,105,110,107,32]:BB))++lG.1)++([32]:BB))++iW.1)++([32]:BB)).length+kE.1.length<bU) (ab (((((((gZ.1++([108,105,110,107,32]:BB))++lG.1)++([32]:BB))++iW.1)++([32]:BB))++kE.1).length+([32]:BB).length<bU) ((bX.f n v30.2.2.2.1).bind fun mT=>ab ((((((((gZ.1++([108,105,110,107,32]:BB))++lG.1)++([32]:BB))++iW.1)++([32]:BB))++kE.1)++([32]:BB)).length+mT.1.length<bU) (ab (((((((((gZ.1++([108,105,110,107,32]:BB))++lG.1)++([32]:BB))++iW.1)++([32]:BB))++kE.1)++([32]:BB))++mT.1).length+([32]:BB).length<bU) ((rP.f n v30.2.2.2.2).bind fun mr=>ab ((((((((((gZ.1++([108,105,110,107,32]:BB))++lG.1)++([32]:BB))++iW.1)++([32]:BB))++kE.1)++([32]:BB))++mT.1)++([32]:BB)).length+mr.1.length<bU) (ab (((((((((((gZ.1++([108,105,110,107,32]:BB))++lG.1)++([32]:BB))++iW.1)++([32]:BB))++kE.1)++([32]:BB))++mT.1)++([32]:BB))++mr.1).length+([10]:BB).length<bU) (Ov (((((((((((gZ.1++([108,105,110,107,32]:BB))++lG.1)++([32]:BB))++iW.1)++([32]:BB))++kE.1)++([32]:BB))++mT.1)++([32]:BB))++mr.1)++([10]:BB),ah (gZ.2.1+1),())))))))))))))) (some (gZ.1,()))) (iB.1,0,()))) ([],0,()))
def xf.ae (n:Nat):au:=⟨[.val cd],[.val .str],fun x=>xf.f n x.1⟩
theorem xf.ok (n:Nat):aP 131 (xf.ae n):=aU n [(7,⟨[(3,.str),(14,.int .i64)],[],[1,12,13],[]⟩),(16,⟨[(3,.str),(28,.int .i64)],[],[26,27],[]⟩)] [] (ai ⟨eH.sound n,eH.aD⟩ (ai (tv.ok n) (ai (rP.ok n) aK))) (eM ⟨bX.sound n,bX.aD⟩ aL) func131
def xg.f (n:Nat) (a0:aq):Option ((BB)×Unit):=(ez.f n a0).bind fun r1=>br (!r1.1) (some ([],())) (iter n (fun FU iB=>br (decide (iB.2.1<(a0.1.length:Int))) (ab (0≤iB.2.1∧iB.2.1<(a0.1.length:Int)) (let Be:=(a0.1.getD iB.2.1.toNat bC); (zv.f n Be).bind fun fD=>ab (([112,114,111,99,101,115,115,32]:BB).length+fD.1.length<bU) (ab ((([112,114,111,99,101,115,115,32]:BB)++fD.1).length+([10]:BB).length<bU) (ab (iB.1.length+((([112,114,111,99,101,115,115,32]:BB)++fD.1)++([10]:BB)).length<bU) (FU (iB.1++((([112,114,111,99,101,115,115,32]:BB)++fD.1)++([10]:BB)),ah (iB.2.1+1),())))))) (iter n (fun Dw dj=>br (decide (dj.2.1<(a0.2.length:Int))) (ab (0≤dj.2.1∧dj.2.1<(a0.2.length:Int)) (let wY:=(a0.2.getD dj.2.1.toNat aE); (zm.f n ([wY.1,wY.2.1,wY.2.2.1,wY.2.2.2.1]:List Int)).bind fun eB=>ab (([108,105,110,107,32]:BB).length+eB.1.length<bU) ((lJ.f n wY.2.2.2.2).bind fun iT=>ab ((([108,105,110,107,32]:BB)++eB.1).length+iT.1.length<bU) (ab (((([108,105,110,107,32]:BB)++eB.1)++iT.1).length+([10]:BB).length<bU) (ab (dj.1.length+(((([108,105,110,107,32]:BB)++eB.1)++iT.1)++([10]:BB)).length<bU) (Dw (dj.1++(((([108,105,110,107,32]:BB)++eB.1)++iT.1)++([10]:BB)),ah (dj.2.1+1),()))))))) (some (dj.1,()))) (iB.1,0,()))) ([],0,()))
def xg.ae (n:Nat):au:=⟨[.val cd],[.val .str],fun x=>xg.f n x.1⟩
theorem xg.ok (n:Nat):aP 157 (xg.ae n):=aU n [(7,⟨[(3,.str),(14,.int .i64)],[],[1,12,13],[]⟩),(16,⟨[(3,.str),(28,.int .i64)],[],[26,27],[]⟩)] [] (ai ⟨ez.sound n,ez.aD⟩ (ai (zv.ok n) (ai (zm.ok n) (ai (lJ.ok n) aK)))) aL func157
end Go.AmT
namespace Go.AmT
variable {nt:aq}
def tA (p:Program):BB:=[112,114,111,99,101,115,115,32]++u7 p++[10]
def u9 (l:bb):BB:=[108,105,110,107,32]++aj l.1++[32]++aj l.2.1++[32]++aj l.2.2.1++[32]++aj l.2.2.2.1++[32]++fmtS l.2.2.2.2++[10]
def o_ (nt:aq):BB:=((bA nt.1.length).map fun i=>tA (nt.1.getD i bC)).flatten++((bA nt.2.length).map fun i=>u9 (nt.2.getD i aE)).flatten
def zw (nt:aq):BB:=if cm nt then o_ nt else []
theorem DO (h:cm nt=true):cK nt:=of_decide_eq_true h
structure xh (l:bb):Prop where
 a : -1≤l.1∧l.1≤12
 b:0≤l.2.1∧l.2.1≤3
 c : -1≤l.2.2.1∧l.2.2.1≤12
 d:0≤l.2.2.2.1∧l.2.2.2.1≤3
 t:bS l.2.2.2.2=true
theorem WV (o:cK nt) (k:Int) (h0:0≤k) (h1:k<(nt.1.length:Int)):(nt.1.getD k.toNat bC).1≤3∧(nt.1.getD k.toNat bC).2.1≤3:=by
 have hk:k.toNat<nt.1.length:=by omega
 rw [aJ hk];have:=tw (o.prog k.toNat hk);exact ⟨this.1.2,this.2.1.2⟩
theorem zx (o:cK nt) {i:Nat} (hi:i<nt.2.length):xh (nt.2.getD i aE):=by
 rw [aJ hi];have E:=o.ends i hi;have hp:=o.eX;refine ⟨?_,?_,?_,?_,o.ji i hi⟩
 ·rcases E.out with h | h
  ·omega
  have:=h.1; have:=h.2.1; omega
 ·rcases E.out with h | h
  ·omega
  have:=(WV o _ h.1 h.2.1).2; have:=h.2.2.1; have:=h.2.2.2; omega
 ·rcases E.qo with h | h
  ·omega
  have:=h.1; have:=h.2.1; omega
 rcases E.qo with h | h
 ·omega
 have:=(WV o _ h.1 h.2.1).1; have:=h.2.2.1; have:=h.2.2.2; omega
theorem PN (p:Program):(tA p).length≤1200:=by have:=PE p;simp only [tA,cg,aQ,bh];omega
theorem PO {l:bb} (B:xh l):(u9 l).length≤4100:=by have h1:=B.a;have h2:=B.b;have h3:=B.c;have h4:=B.d;have l1:=fk (x:=l.1) (by omega) (by omega);have l2:=fk (x:=l.2.1) (by omega) (by omega);have l3:=fk (x:=l.2.2.1) (by omega) (by omega);have l4:=fk (x:=l.2.2.2.1) (by omega) (by omega);have l5:=DF l.2.2.2.2;simp only [u9,cg,aQ,bh];omega
theorem PQ (nt:aq) (o:cK nt):(((bA nt.1.length).map fun i=>tA (nt.1.getD i bC)).flatten).length≤20000:=by have:=j8 (fun i=>tA (nt.1.getD i bC)) 1200 (bA nt.1.length) (fun x hx=>PN _);rw [List.length_range] at this;have:=o.eX;omega
theorem WW (o:cK nt):(o_ nt).length≤150000:=by have h1:=PQ nt o;have h2:=j8 (fun i=>u9 (nt.2.getD i aE)) 4100 (bA nt.2.length) (fun x hx=>PO (zx o (List.mem_range.1 hx)));rw [List.length_range] at h2;have:=o.dB;unfold o_;rw [cg];omega
theorem WX (h:dq nt) {i:Nat} (hi:i<nt.1.length):pJ (nt.1.getD i bC):=by rw [aJ hi]; exact h.prog _ (ct _)
theorem WY {n:Nat} (h:dq nt) (hn:1048576<n):xf.f n nt=some (zw nt,()):=by
 unfold xf.f zw;rw [rz h hn,ao];cases hk:cm nt
 ·simp only [iR,aB]; rfl
 have o:=DO hk;have oY:=o.dB;have PR:=o.eX;simp only [bf,ar,if_true];refine GD (fun i=>tA (nt.1.getD i bC)) nt.1.length 1200 [] (fun i hi=>PN _) (fun t i=>(t,i,())) (fun ih i t hi ht=>?_) (fun ih=>?_) (by omega)
 ·have hf:=PE (nt.1.getD i bC);simp only [bh] at ht;simp only [aG (show (i:Int)<(nt.1.length:Int) by omega),ay];rw [af (by omega),jq (by simp only [aQ,bh]; omega),PF (WX h hi) hn,ao,jq (by simp only [cg,aQ,bh]; omega),jq (by simp only [cg,aQ,bh]; omega),a_ (by omega)];simp only [tA,lZ]
 simp only [av (bR _)];rw [List.nil_append];have hL:=PQ nt o;refine GD (fun i=>u9 (nt.2.getD i aE)) nt.2.length 4100 _ (fun i hi=>PO (zx o hi)) (fun t i=>(t,i,())) (fun ih i t hi ht=>?_) (fun ih=>?_) (by omega)
 ·have ht:t.length≤200000:=by omega
  obtain ⟨b1,b2,b3,b4,b5⟩:=zx o hi;have l1:=fk (x:=(nt.2.getD i aE).1) (by omega) (by omega);have l2:=fk (x:=(nt.2.getD i aE).2.1) (by omega) (by omega);have l3:=fk (x:=(nt.2.getD i aE).2.2.1) (by omega) (by omega);have l4:=fk (x:=(nt.2.getD i aE).2.2.2.1) (by omega) (by omega);have l5:=DF (nt.2.getD i aE).2.2.2.2;have l6:=(oX b5).1;simp only [aG (show (i:Int)<(nt.2.length:Int) by omega),ay];have L:∀ {m:Nat} {ρ:Type} {y:Option ρ},m≤300000→ab (m<bU) y=y:=fun h=>jq (by omega);rw [af (by omega),L (by simp only [aQ,bh]; omega),rQ hn (by omega) (by omega),ao];rw [L (by simp only [cg,aQ,bh]; omega),L (by simp only [cg,aQ,bh]; omega),rQ hn (by omega) (by omega),ao];rw [L (by simp only [cg,aQ,bh]; omega),L (by simp only [cg,aQ,bh]; omega),rQ hn (by omega) (by omega),ao];rw [L (by simp only [cg,aQ,bh]; omega),L (by simp only [cg,aQ,bh]; omega),rQ hn (by omega) (by omega),ao];rw [L (by simp only [cg,aQ,bh]; omega),L (by simp only [cg,aQ,bh]; omega),JT (by omega) hn,ao];rw [L (by simp only [cg,aQ,bh]; omega),L (by simp only [cg,aQ,bh]; omega),a_ (by omega)];simp only [u9,lZ]
 simp only [av (bR _)];rfl
theorem WZ {n:Nat} (h:dq nt) (hn:1048576<n):xg.f n nt=some (zw nt,()):=by
 unfold xg.f zw;rw [s6 h hn,ao];cases hk:cm nt
 ·simp only [iR,aB]; rfl
 have o:=DO hk;have oY:=o.dB;have PR:=o.eX;simp only [bf,ar,if_true];refine GD (fun i=>tA (nt.1.getD i bC)) nt.1.length 1200 [] (fun i hi=>PN _) (fun t i=>(t,i,())) (fun ih i t hi ht=>?_) (fun ih=>?_) (by omega)
 ·have hf:=PE (nt.1.getD i bC);simp only [bh] at ht;simp only [aG (show (i:Int)<(nt.1.length:Int) by omega),ay];rw [af (by omega),aeK (WX h hi) hn,ao,jq (by simp only [aQ,bh]; omega),jq (by simp only [cg,aQ,bh]; omega),jq (by simp only [cg,aQ,bh]; omega),a_ (by omega)];simp only [tA,lZ]
 simp only [av (bR _)];rw [List.nil_append];have hL:=PQ nt o;refine GD (fun i=>u9 (nt.2.getD i aE)) nt.2.length 4100 _ (fun i hi=>PO (zx o hi)) (fun t i=>(t,i,())) (fun ih i t hi ht=>?_) (fun ih=>?_) (by omega)
 ·have ht:t.length≤200000:=by omega
  obtain ⟨b1,b2,b3,b4,b5⟩:=zx o hi;have l1:=fk (x:=(nt.2.getD i aE).1) (by omega) (by omega);have l2:=fk (x:=(nt.2.getD i aE).2.1) (by omega) (by omega);have l3:=fk (x:=(nt.2.getD i aE).2.2.1) (by omega) (by omega);have l4:=fk (x:=(nt.2.getD i aE).2.2.2.1) (by omega) (by omega);have l5:=DF (nt.2.getD i aE).2.2.2.2;have l6:=(oX b5).1;simp only [aG (show (i:Int)<(nt.2.length:Int) by omega),ay];have L:∀ {m:Nat} {ρ:Type} {y:Option ρ},m≤300000→ab (m<bU) y=y:=fun h=>jq (by omega);rw [af (by omega),aes hn (by omega) (by omega) (by omega) (by omega),ao,L (by simp only [cg,aQ,bh]; omega),JU (by omega) hn,ao];rw [L (by simp only [cg,aQ,bh]; omega),L (by simp only [cg,aQ,bh]; omega),L (by simp only [cg,aQ,bh]; omega),a_ (by omega)];simp only [u9,lZ]
 simp only [av (bR _)];rfl
end Go.AmT
namespace Go.AmT
open Go.Proofs Go.Proofs.Tryz
def rW.f (n:Nat) (a0 a1:BB):Option (Bool×Unit):=Da a0 a1
def rW.ae (n:Nat):au:=⟨[.val .str,.val .str],[.val .bool],fun x=>rW.f n x.1 x.2.1⟩
theorem rW.aD:dh Tryz.prog 208:=eu func208 (by kernel_rfl) (by kernel_rfl)
theorem rW.sound (n:Nat):Sound Tryz.prog 208 (rW.ae n):=acj (fun s p w h=>Tryz.strings_HasSuffix s p w h)
def vb.f (n:Nat) (a0 a1:BB):Option (BB×Unit):=FF a0 a1
def vb.ae (n:Nat):au:=⟨[.val .str,.val .str],[.val .str],fun x=>vb.f n x.1 x.2.1⟩
theorem vb.aD:dh Tryz.prog 209:=eu func209 (by kernel_rfl) (by kernel_rfl)
theorem vb.sound (n:Nat):Sound Tryz.prog 209 (vb.ae n):=ack (fun s p w h=>Tryz.strings_TrimSuffix s p w h)
def qO.f (n:Nat) (a0:BB):Option (List (BB)×Bool×Unit):=br (decide (a0=([]:BB))) (some ([],true,())) ((rW.f n a0 ([10]:BB)).bind fun r1=>br (!r1.1) (some ([],false,())) ((vb.f n a0 ([10]:BB)).bind fun r2=>(gB.f n r2.1 ([10]:BB)).bind fun r3=>some (r3.1,true,())))
def qO.ae (n:Nat):au:=⟨[.val .str],[.sh (.sl .str),.val .bool],fun x=>qO.f n x.1⟩
theorem qO.ok (n:Nat):aP 153 (qO.ae n):=aU n [] [] (ai ⟨rW.sound n,rW.aD⟩ (ai ⟨vb.sound n,vb.aD⟩ (ai ⟨gB.sound n,gB.aD⟩ aK))) aL func153
end Go.AmT
namespace Go.AmT
variable {n:Nat}
theorem W_ (t:BB):GS (t++[10]) [10]=true:=by unfold GS;rw [WL];exact List.suffix_append t [10]
theorem W1 {t:BB} (hl:(t++[10]).length≤1048576):qO.f n (t++[10])=some (bt 10 t,true,()):=by
 have kT:t.length≤1048575:=by simp at hl; omega
 unfold qO.f;rw [av (by simp)];have e1:rW.f n (t++[10]) [10]=some (true,()):=by unfold rW.f Da;rw [if_pos (by omega),W_];rfl
 have e2:vb.f n (t++[10]) [10]=some (t,()):=by unfold vb.f FF Lib.trimSuffix;rw [if_pos (by omega),W_];simp;rfl
 rw [e1,ao];simp only [bf,ar];rw [e2,ao,qM (by show t.length≤_; omega),ao]
theorem aeQ {t:BB} (hl:t.length≤1048576):W (qO.f n t) (fun r=>r.1.length≤1048576∧∀ p∈r.1,p.length≤1048575):=by
 by_cases h0:t=[]
 ·unfold qO.f;rw [aG h0];exact ak.2 ⟨by simp,fun p h=>by simp at h⟩
 by_cases hs:GS t [10]=true
 ·obtain ⟨u,rfl⟩:∃ u,t=u++[10]:=by unfold GS at hs;rw [WL] at hs;obtain ⟨u,e⟩:=hs;exact ⟨u,e.symm⟩
  rw [W1 hl];refine ak.2 ⟨?_,fun p hp=>?_⟩
  ·have:=u6 10 u;simp at hl;show (bt 10 u).length≤_;omega
  have:=mq 10 u p hp;have:=List.length_pos_iff.2 (mR 10 u);simp at hl;omega
 unfold qO.f;rw [av h0];have e1:rW.f n t [10]=some (false,()):=by unfold rW.f Da;rw [if_pos (by omega),show GS t [10]=false by simpa using hs];rfl
 rw [e1,ao];simp only [iR,aB];exact ak.2 ⟨by simp,fun p h=>by simp at h⟩
theorem aeR {l:List (BB)} (h:∀ a∈l,(10:UInt8)∉a) (hl:((l.map (·++[10])).flatten).length≤1048576):qO.f n ((l.map (·++[10])).flatten)=some (l,true,()):=by
 by_cases aA:l=[]
 ·subst aA;unfold qO.f;rw [aG (by rfl)]
 have hs:=Ps l h;have:=List.dropLast_concat_getLast aA;have e:(l.map (·++[10])).flatten=((l.dropLast).map (·++[10])).flatten++l.getLast aA++[10]:=by
  conv=>lhs; rw [← this]
  simp
 rw [e] at hl hs ⊢;rw [Wg] at hs;rw [W1 hl,List.append_cancel_right hs]
end Go.AmT
namespace Go.AmT
open Go.Proofs Go.Proofs.Tryz
def rX.f (n:Nat) (a0 a1:BB):Option (BB×BB×Bool×Unit):=Db a0 a1
def rX.ae (n:Nat):au:=⟨[.val .str,.val .str],[.val .str,.val .str,.val .bool],fun x=>rX.f n x.1 x.2.1⟩
theorem rX.aD:dh Tryz.prog 154:=eu func154 (by kernel_rfl) (by kernel_rfl)
theorem rX.sound (n:Nat):Sound Tryz.prog 154 (rX.ae n):=acm (b:=0) (by kernel_rfl) (fun s sep m w hs hm=>Tryz.strings_Cut s sep m w hs hm)
def vc.f (n:Nat) (a0:BB):Option (bb×Bool×Unit):=(gB.f n a0 ([32]:BB)).bind fun r1=>br (!decide ((r1.1.length:Int)=5)) (some ((0,0,0,0,[]),false,())) (cut (ab ((0:Int)≤0∧0<(r1.1.length:Int)) ((e9.f n (r1.1.getD 0 [])).bind fun gv=>ab ((0:Int)≤1∧(1:Int)<(r1.1.length:Int)) ((e9.f n (r1.1.getD 1 [])).bind fun dT=>br gv.2.1 (ab ((0:Int)≤2∧(2:Int)<(r1.1.length:Int)) ((e9.f n (r1.1.getD 2 [])).bind fun fh=>br dT.2.1 (ab ((0:Int)≤3∧(3:Int)<(r1.1.length:Int)) ((e9.f n (r1.1.getD 3 [])).bind fun fU=>br fh.2.1 (some (.inr (fU.2.1,gv.1,dT.1,fh.1,fU.1,()))) (some (.inr (false,gv.1,dT.1,fh.1,fU.1,()))))) (ab ((0:Int)≤3∧(3:Int)<(r1.1.length:Int)) ((e9.f n (r1.1.getD 3 [])).bind fun iA=>some (.inr (false,gv.1,dT.1,fh.1,iA.1,())))))) (ab ((0:Int)≤2∧(2:Int)<(r1.1.length:Int)) ((e9.f n (r1.1.getD 2 [])).bind fun fV=>ab ((0:Int)≤3∧(3:Int)<(r1.1.length:Int)) ((e9.f n (r1.1.getD 3 [])).bind fun jf=>some (.inr (false,gv.1,dT.1,fV.1,jf.1,())))))))) fun y9=>ab ((0:Int)≤4∧(4:Int)<(r1.1.length:Int)) ((oZ.f n (r1.1.getD 4 [])).bind fun fD=>br y9.1 (some ((y9.2.1,y9.2.2.1,y9.2.2.2.1,y9.2.2.2.2.1,fD.1),fD.2.1,())) (some ((y9.2.1,y9.2.2.1,y9.2.2.2.1,y9.2.2.2.2.1,fD.1),false,()))))
def vc.ae (n:Nat):au:=⟨[.val .str],[.val du,.val .bool],fun x=>vc.f n x.1⟩
theorem vc.ok (n:Nat):aP 156 (vc.ae n):=aU n [(7,⟨[(5,.bn 1000 0),(6,.bool)],[(1000,.cells [] [.int .i64,.int .i64,.int .i64,.int .i64,.lP (.nil)])],[2,4],[]⟩),(500008,⟨[],[],[],[]⟩)] [] (ai ⟨gB.sound n,gB.aD⟩ (ai (e9.ok n) (ai (oZ.ok n) aK))) aL func156
def qP.f (n:Nat) (a0:BB):Option (aq×Bool×Unit):=(qO.f n a0).bind fun r1=>iter n (fun BE dI=>br (decide (dI.2.1<(r1.1.length:Int))) (ab (0≤dI.2.1∧dI.2.1<(r1.1.length:Int)) (let v31:=(r1.1.getD dI.2.1.toNat []); (rX.f n v31 ([32]:BB)).bind fun iW=>cut (br (decide (iW.1=([112,114,111,99,101,115,115]:BB))) (some (.inr (decide ((dI.2.2.2.1.length:Int)=0),()))) (some (.inr (false,())))) fun y33=>br y33.1 ((rV.f n iW.2.1).bind fun mT=>ab ((dI.2.2.1.length+([mT.1]:List Program).length)*40≤bo) (br dI.1 (BE (mT.2.1,ah (dI.2.1+1),dI.2.2.1++[mT.1],dI.2.2.2.1,())) (BE (false,ah (dI.2.1+1),dI.2.2.1++[mT.1],dI.2.2.2.1,())))) (br (decide (iW.1=([108,105,110,107]:BB))) ((vc.f n iW.2.1).bind fun mr=>ab ((dI.2.2.2.1.length+([mr.1]:List bb).length)*56≤bo) (br dI.1 (BE (mr.2.1,ah (dI.2.1+1),dI.2.2.1,dI.2.2.2.1++[mr.1],())) (BE (false,ah (dI.2.1+1),dI.2.2.1,dI.2.2.2.1++[mr.1],())))) (BE (false,ah (dI.2.1+1),dI.2.2.1,dI.2.2.2.1,()))))) (cut (br (!dI.1) (some (.inr (true,()))) ((ez.f n (dI.2.2.1,dI.2.2.2.1)).bind fun GU=>br (!GU.1) (some (.inr (true,()))) ((xg.f n (dI.2.2.1,dI.2.2.2.1)).bind fun tB=>some (.inr (!decide (tB.1=a0),()))))) fun y38=>br y38.1 (some (([],[]),false,())) (some ((dI.2.2.1,dI.2.2.2.1),true,())))) (r1.2.1,0,[],[],())
def qP.ae (n:Nat):au:=⟨[.val .str],[.sh cd,.val .bool],fun x=>qP.f n x.1⟩
theorem qP.ok (n:Nat):aP 90 (qP.ae n):=aU n [(5,⟨[(5,.bool),(6,.bn 1000 0),(24,.int .i64)],[(1000,.cells [] [.own 1001 b_,.own 1002 du]),(1001,.row true b_),(1002,.row true du)],[0,2,22,23],[]⟩),(12,⟨[(34,.bool)],[],[0,2,5,6,9,10,22,23,24],[]⟩),(22,⟨[(89,.bool)],[],[2,6],[]⟩)] [] (ai (qO.ok n) (ai ⟨rX.sound n,rX.aD⟩ (ai (rV.ok n) (ai (vc.ok n) (ai ⟨ez.sound n,ez.aD⟩ (ai (xg.ok n) aK)))))) aL func90
def ve.f (n:Nat) (a0:List (BB)):Option (bb×Bool×Unit):=br (!decide ((a0.length:Int)=6)) (some ((0,0,0,0,[]),false,())) (ab ((0:Int)≤1∧(1:Int)<(a0.length:Int)) ((bN.f n (a0.getD 1 [])).bind fun r1=>ab ((0:Int)≤2∧(2:Int)<(a0.length:Int)) ((bN.f n (a0.getD 2 [])).bind fun r2=>ab ((0:Int)≤3∧(3:Int)<(a0.length:Int)) ((bN.f n (a0.getD 3 [])).bind fun r3=>ab ((0:Int)≤4∧(4:Int)<(a0.length:Int)) ((bN.f n (a0.getD 4 [])).bind fun r4=>ab ((0:Int)≤5∧(5:Int)<(a0.length:Int)) ((rT.f n (a0.getD 5 [])).bind fun r5=>some ((r1.1,r2.1,r3.1,r4.1,r5.1),r5.2.1,())))))))
def ve.ae (n:Nat):au:=⟨[.val (.sl .str)],[.val du,.val .bool],fun x=>ve.f n x.1⟩
theorem ve.ok (n:Nat):aP 129 (ve.ae n):=aU n [] [] (ai (rT.ok n) aK) (eM ⟨bN.sound n,bN.aD⟩ aL) func129
def tC.f (n:Nat) (a0:BB):Option (aq×Bool×Unit):=(nd.f n a0 10).bind fun r1=>br (decide (43<(r1.1.length:Int))) (some (([],[]),false,())) (ab ((0:Int)≤0∧(0:Int)≤(ah ((r1.1.length:Int)-1))∧(ah ((r1.1.length:Int)-1))≤(r1.1.length:Int)) (iter n (fun Je gF=>br (decide (gF.1<(((ah ((r1.1.length:Int)-1)).toNat-0):Int))) (ab (0≤gF.1∧gF.1<(((ah ((r1.1.length:Int)-1)).toNat-0):Int)) ((nd.f n (r1.1.getD (0+gF.1.toNat) []) 32).bind fun iW=>ab ((0:Int)≤0∧0<(iW.1.length:Int)) (br (decide ((iW.1.getD 0 [])=([108,105,110,107]:BB))) ((ve.f n iW.1).bind fun kE=>br (!kE.2.1) (some (([],[]),false,())) (ab ((gF.2.2.1.length+([kE.1]:List bb).length)*56≤bo) (Je (ah (gF.1+1),gF.2.1,gF.2.2.1++[kE.1],())))) (br (decide (((r1.1.getD (0+gF.1.toNat) []).length:Int)<8)) (some (([],[]),false,())) (ab ((0:Int)≤8∧(8:Int)≤((r1.1.getD (0+gF.1.toNat) []).length:Int)∧((r1.1.getD (0+gF.1.toNat) []).length:Int)≤((r1.1.getD (0+gF.1.toNat) []).length:Int)) ((tz.f n (((r1.1.getD (0+gF.1.toNat) []).take ((r1.1.getD (0+gF.1.toNat) []).length:Int).toNat).drop 8)).bind fun mT=>ab ((gF.2.1.length+([mT.1]:List Program).length)*40≤bo) (Je (ah (gF.1+1),gF.2.1++[mT.1],gF.2.2.1,())))))))) (cut ((eH.f n (gF.2.1,gF.2.2.1)).bind fun nP=>br (!nP.1) (some (.inr (true,()))) ((xf.f n (gF.2.1,gF.2.2.1)).bind fun GU=>some (.inr (!decide (GU.1=a0),())))) fun xi=>br xi.1 (some (([],[]),false,())) (some ((gF.2.1,gF.2.2.1),true,())))) (0,[],[],())))
def tC.ae (n:Nat):au:=⟨[.val .str],[.sh cd,.val .bool],fun x=>tC.f n x.1⟩
theorem tC.ok (n:Nat):aP 66 (tC.ae n):=aU n [(8,⟨[(5,.bn 1000 0),(26,.int .i64)],[(1000,.cells [] [.own 1001 b_,.own 1002 du]),(1001,.row true b_),(1002,.row true du)],[0,2,24,25],[]⟩),(27,⟨[(75,.bool)],[],[2,5],[]⟩)] [] (ai (nd.ok n) (ai (ve.ok n) (ai (tz.ok n) (ai ⟨eH.sound n,eH.aD⟩ (ai (xf.ok n) aK))))) aL func66
end Go.AmT
