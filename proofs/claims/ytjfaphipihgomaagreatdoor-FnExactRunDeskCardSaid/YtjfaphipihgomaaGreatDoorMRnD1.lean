/- Networks, in plain Lean: both programs tell the same networks valid. -/
import Derived.Test.YtjfaphipihgomaaGreatDoorMRnD0
open Go Go.Am
noncomputable section
set_option linter.unusedVariables false
set_option linter.unusedSimpArgs false
set_option maxRecDepth 100000
open Bool renaming and_eq_false_iff → FX, and_eq_true → aw, false_eq_true → fF, not_true → bf, or_eq_false_iff → oB, or_eq_true → pw, true_and → kW
open Int renaming lt_irrefl → bR, toNat_natCast → ay
open List renaming filterMap_cons → NL, getElem_cons_succ → EO, getElem_mem → ct, mem_iff_getElem → sF, mem_map → kb, mem_range → oL, pairwise_filterMap → Up, pairwise_iff_getElem → Uq, range → bA, take_succ_cons → Ur
open Nat renaming le_of_lt_succ → yJ, lt_or_eq_of_le → ry
open Option renaming bind_some → aC, ite_none_right_eq_some → Jf
open Option.some renaming injEq → aF
open Prod.mk renaming injEq → bE
namespace Go.AmT
variable {n:Nat} {nt:aq}
def ma (p k:Int) (l:bb):Bool:=decide (l.2.2.1=p)&&decide (l.2.2.2.1=k)
def oM (p k:Int) (l:bb):Bool:=decide (l.1=p)&&decide (l.2.1=k)
def pK (nt:aq) (l:bb):Prop:=0≤l.1∧l.1<(nt.1.length:Int)∧0≤l.2.1∧l.2.1<(nt.1.getD l.1.toNat bC).2.1
def s4 (nt:aq) (l:bb):Prop:=0≤l.2.2.1∧l.2.2.1<(nt.1.length:Int)∧0≤l.2.2.2.1∧l.2.2.2.1<(nt.1.getD l.2.2.1.toNat bC).1
structure s5 (nt:aq) (l:bb):Prop where
 out:l.1 = -1∧l.2.1=0∨pK nt l
 qo:l.2.2.1 = -1∧l.2.2.2.1=0∨s4 nt l
 one:¬ (l.1 = -1∧l.2.2.1 = -1)
structure cK (nt:aq):Prop where
 eX:nt.1.length≤12
 dB:nt.2.length≤30
 prog:∀ (i:Nat) (hi:i<nt.1.length),cJ nt.1[i]=true
 ends:∀ (i:Nat) (hi:i<nt.2.length),s5 nt nt.2[i]
 ji:∀ (i:Nat) (hi:i<nt.2.length),bS nt.2[i].2.2.2.2=true
 ins:∀ (i:Nat) (hi:i<nt.1.length) (k:Nat),(k:Int)<nt.1[i].1→nt.2.countP (ma i k)=1
 outs:∀ (i:Nat) (hi:i<nt.1.length) (k:Nat),(k:Int)<nt.1[i].2.1→nt.2.countP (oM i k)=1
instance (nt:aq):Decidable (cK nt):=Classical.propDecidable _
instance (nt:aq) (l:bb):Decidable (s5 nt l):=Classical.propDecidable _
instance (nt:aq) (l:bb):Decidable (pK nt l):=by unfold pK; exact inferInstance
instance (nt:aq) (l:bb):Decidable (s4 nt l):=by unfold s4; exact inferInstance
def cm (nt:aq):Bool:=decide (cK nt)
theorem FY {p:Program} (h:cJ p=true):0≤p.1∧p.1≤3∧0≤p.2.1∧p.2.1≤3:=by unfold cJ at h;simp only [aw,decide_eq_true_eq] at h;omega
theorem NM (hl:nt.2.length≤1048576) (hn:1048576<n) (p k:Int):kD.f n nt p k=some (mQ (ma p k) nt.2,()):=by
 unfold kD.f;refine TE nt.2 (ma p k) (fun ih i hi at'=>?_) (fun ih at'=>by simp [br]) (by omega);have h1:(i:Int)<(nt.2.length:Int):=by omega
 simp only [h1,decide_true,aB,ay,aJ hi];rw [af (by simp),a_ (by omega)];unfold ma;by_cases h1:nt.2[i].2.2.1=p
 ·simp only [h1,decide_true,aB,aY,kW];rw [rq,rq]; simp
 simp [h1,br,aY]
theorem Us (hl:nt.2.length≤1048576) (hn:1048576<n) (p k:Int):l9.f n nt p k=some (mQ (oM p k) nt.2,()):=by
 unfold l9.f;refine TE nt.2 (oM p k) (fun ih i hi at'=>?_) (fun ih at'=>by simp [br]) (by omega);have h1:(i:Int)<(nt.2.length:Int):=by omega
 simp only [h1,decide_true,aB,ay,aJ hi];rw [af (by simp),a_ (by omega)];unfold oM;by_cases h1:nt.2[i].1=p
 ·simp only [h1,decide_true,aB,aY,kW];rw [rq,rq]; simp
 simp [h1,br,aY]
theorem Ut {α:Type} {f:α→Bool} {ls:List α} : mQ f ls<0↔ls.countP f≠1:=by
 unfold mQ;split
 ·rename_i h; rw [h]; simp
 split
 ·rename_i h; rw [h]; simp
 rename_i h; simp [h]
theorem acT (h1:nt.1.length≤12) (hp:∀ (i:Nat) (hi:i<nt.1.length),cJ nt.1[i]=true) (l:bb):oG.f n nt l=some (decide (s5 nt l),()):=by
 have hw:ah ((nt.1.length:Int)-1)=(nt.1.length:Int)-1:=bP (by omega) (by omega);have Dg:∀ i:Int,0≤i→i<(nt.1.length:Int)→0≤(nt.1.getD i.toNat bC).1∧(nt.1.getD i.toNat bC).1≤3∧0≤(nt.1.getD i.toNat bC).2.1∧(nt.1.getD i.toNat bC).2.1≤3:=by intro i h0 h1;rw [aJ (by omega)];exact FY (hp _ _)
 unfold oG.f;simp only [nG,aC,hw];refine wC ?_;refine qv ((decide (l.1 = -1)&&decide (l.2.2.1 = -1))||(!(decide (-1≤l.1)&&decide (l.1≤(nt.1.length:Int)-1))||!(decide (-1≤l.2.2.1)&&decide (l.2.2.1≤(nt.1.length:Int)-1))),()) ?_ ?_
 ·generalize decide (l.1 = -1)=a;generalize decide (l.2.2.1 = -1)=b;generalize (decide (-1≤l.1)&&decide (l.1≤(nt.1.length:Int)-1))=c;generalize (decide (-1≤l.2.2.1)&&decide (l.2.2.1≤(nt.1.length:Int)-1))=d;cases a<;>cases b<;>cases c<;>cases d<;>rfl
 rw [cw];refine ⟨fun hb=>?_,fun hb=>?_⟩
 ·simp only [ak,fF,false_iff];intro o;simp only [pw,aw,Bool.not_eq_true',FX,decide_eq_true_eq,decide_eq_false_iff_not] at hb;rcases o.out with ⟨o1,o2⟩ | ⟨o1,o2,o3,o4⟩<;>rcases o.qo with ⟨i1,i2⟩ | ⟨i1,i2,i3,i4⟩<;>first | exact o.one ⟨o1,i1⟩ | omega
 simp only [oB,Bool.not_eq_false',aw,FX,decide_eq_true_eq,decide_eq_false_iff_not] at hb;obtain ⟨b0,b2,b3⟩:=hb;have b1:¬ (l.1 = -1∧l.2.2.1 = -1):=by omega
 refine qv (if 0≤l.1 then (nt.1.getD l.1.toNat bC).2.1 else 1,()) ?_ ?_
 ·rw [rq];by_cases h:0≤l.1
  ·rw [if_pos (decide_eq_true h),if_pos h]; exact af ⟨h,by omega⟩
  rw [if_neg (by simpa using h),if_neg h]
 refine qv (if 0≤l.2.2.1 then (nt.1.getD l.2.2.1.toNat bC).1 else 1,()) ?_ ?_
 ·rw [rq];by_cases h:0≤l.2.2.1
  ·rw [if_pos (decide_eq_true h),if_pos h]; exact af ⟨h,by omega⟩
  rw [if_neg (by simpa using h),if_neg h]
 have e1:ah ((if 0≤l.1 then (nt.1.getD l.1.toNat bC).2.1 else 1)-1)=(if 0≤l.1 then (nt.1.getD l.1.toNat bC).2.1 else 1)-1:=by
  split
  ·have:=Dg l.1 (by omega) (by omega); exact bP (by omega) (by omega)
  rfl
 have e2:ah ((if 0≤l.2.2.1 then (nt.1.getD l.2.2.1.toNat bC).1 else 1)-1)=(if 0≤l.2.2.1 then (nt.1.getD l.2.2.1.toNat bC).1 else 1)-1:=by
  split
  ·have:=Dg l.2.2.1 (by omega) (by omega); exact bP (by omega) (by omega)
  rfl
 simp only [e1,e2];have key:s5 nt l↔((0≤l.2.1∧l.2.1≤(if 0≤l.1 then (nt.1.getD l.1.toNat bC).2.1 else 1)-1)∧(0≤l.2.2.2.1∧l.2.2.2.1≤(if 0≤l.2.2.1 then (nt.1.getD l.2.2.1.toNat bC).1 else 1)-1)):=by
  constructor
  ·intro o;have o1:=o.out;have o2:=o.qo;unfold pK at o1; unfold s4 at o2;split<;>split<;>omega
  rintro ⟨⟨k1,k2⟩,k3,k4⟩;refine ⟨?_,?_,b1⟩
  ·unfold pK;split at k2<;>omega
  unfold s4;split at k4<;>omega
 rw [cw];simp only [← Bool.decide_and,ak,decide_eq_true_eq,decide_eq_false_iff_not,key];exact ⟨fun h=>⟨fun h'=>⟨h,h'⟩,fun h'=>h'.2⟩,fun h=>⟨fun h'=>absurd h' (by simp),fun h'=>absurd h'.1 h⟩⟩
theorem rz (h:dq nt) (hn:1048576<n):eH.f n nt=some (cm nt,()):=by
 have hp:=h.eX;have hl:=h.dB;unfold eH.f cm;refine wC ?_;refine qv (decide (12<nt.1.length∨30<nt.2.length),()) ?_ ?_
 ·by_cases a:12<nt.1.length
  ·simp [br,show (12:Int)<(nt.1.length:Int) by omega,a]
  simp [br,show ¬ (12:Int)<(nt.1.length:Int) by omega,a,show (30:Int)<(nt.2.length:Int)↔30<nt.2.length by omega]
 rw [cM];refine ⟨fun a=>?_,fun a=>?_⟩
 ·simp only [ak,fF,false_iff];intro o; have:=o.eX; have:=o.dB; omega
 have a1:nt.1.length≤12:=by omega
 have a2:nt.2.length≤30:=by omega
 refine oF (bad:=some (false,())) nt.1.length (fun i=>cJ (nt.1.getD i bC)) (fun ih i hi=>?_) (fun ih=>av (bR _)) (by omega) (fun bF=>?_) (fun i hi hb=>?_)
 ·have h1:(i:Int)<(nt.1.length:Int):=by omega
  simp only [h1,decide_true,aB,ay,aJ hi];rw [af (by first | (simp; done) | omega),FV (h.prog _ (ct hi)) hn,aC,yz,a_ (by omega)]
 rotate_left
 ·simp only [ak,fF,false_iff];intro o; have:=o.prog i hi; rw [aJ hi] at hb; simp [hb] at this
 have wH:∀ (i:Nat) (hi:i<nt.1.length),cJ nt.1[i]=true:=fun i hi=>by have:=bF i hi; rwa [aJ hi] at this
 refine oF (bad:=some (false,())) nt.2.length (fun i=>decide (s5 nt (nt.2.getD i aE))&&bS (nt.2.getD i aE).2.2.2.2) (fun ih i hi=>?_) (fun ih=>av (bR _)) (by omega) (fun bF=>?_) (fun i hi hb=>?_)
 ·have h1:(i:Int)<(nt.2.length:Int):=by omega
  simp only [h1,decide_true,aB,ay,aJ hi];rw [af (by first | (simp; done) | omega),acT a1 wH,aC,wG (h.link _ (ct hi)).tokens hn,aC,a_ (by omega)];cases decide (s5 nt nt.2[i])<;>cases bS nt.2[i].2.2.2.2<;>rfl
 rotate_left
 ·simp only [ak,fF,false_iff];intro o; have o1:=o.ends i hi; have o2:=o.ji i hi; rw [aJ hi] at hb; simp [o1,o2] at hb
 have Uu:∀ (i:Nat) (hi:i<nt.2.length),s5 nt nt.2[i]∧bS nt.2[i].2.2.2.2=true:=fun i hi=>by have:=bF i hi; rw [aJ hi] at this; simpa using this
 refine fT (fun i (s:Unit)=>((i:Int),())) nt.1.length (fun i _=>∀ j (hj:j<nt.1.length),j<i→(∀ k:Nat,(k:Int)<nt.1[j].1→nt.2.countP (ma j k)=1)∧(∀ k:Nat,(k:Int)<nt.1[j].2.1→nt.2.countP (oM j k)=1))
  (s0:=()) rfl (by intros; omega) (by omega) (fun ih s hI=>?_) (fun ih i s hi hI hS=>?_)
 ·simp only [bR,decide_false,ar,ak,true_iff];exact ⟨a1,a2,wH,fun i hi=>(Uu i hi).1,fun i hi=>(Uu i hi).2,fun i hi k hk=>(hI i hi hi).1 k hk,fun i hi k hk=>(hI i hi hi).2 k hk⟩
 have h1:(i:Int)<(nt.1.length:Int):=by omega
 obtain ⟨p1,p2,p3,p4⟩:=FY (wH i hi);simp only [h1,decide_true,aB,ay,aJ hi];rw [af (by first | (simp; done) | omega)];refine oF (bad:=some (false,())) nt.1[i].1.toNat (fun k=>decide (nt.2.countP (ma i k)=1)) (fun ih k hk=>?_) (fun ih=>av (show ¬ (((nt.1[i].1.toNat:Nat):Int)<nt.1[i].1) by omega)) (by omega) (fun acU=>?_) (fun k hk hb=>?_)
 ·have h1:(k:Int)<nt.1[i].1:=by omega
  simp only [h1,decide_true,aB];rw [NM (by omega) hn,aC,a_ (by omega),rq];simp only [decide_eq_true_eq,Ut];by_cases hc:nt.2.countP (ma i k)=1<;>simp [hc]
 ·refine oF (bad:=some (false,())) nt.1[i].2.1.toNat (fun k=>decide (nt.2.countP (oM i k)=1)) (fun ih k hk=>?_) (fun ih=>av (show ¬ (((nt.1[i].2.1.toNat:Nat):Int)<nt.1[i].2.1) by omega)) (by omega) (fun Nh=>?_) (fun k hk hb=>?_)
  ·have h1:(k:Int)<nt.1[i].2.1:=by omega
   simp only [h1,decide_true,aB];rw [Us (by omega) hn,aC,a_ (by omega),rq];simp only [decide_eq_true_eq,Ut];by_cases hc:nt.2.countP (oM i k)=1<;>simp [hc]
  ·rw [a_ (by omega)];refine hS () (fun j hj gq=>?_);rcases ry (yJ gq) with e | e
   ·exact hI j hj e
   subst e;exact ⟨fun k hk=>by simpa using acU k (by omega),fun k hk=>by simpa using Nh k (by omega)⟩
  simp only [ak,fF,false_iff];intro o; have:=o.outs i hi k (by omega); simp [this] at hb
 simp only [ak,fF,false_iff];intro o; have:=o.ins i hi k (by omega); simp [this] at hb
def FZ (l k:bb):Bool:=(decide (0≤l.1)&&(decide (k.1=l.1)&&decide (k.2.1=l.2.1)))||(decide (0≤l.2.2.1)&&(decide (k.2.2.1=l.2.2.1)&&decide (k.2.2.2.1=l.2.2.2.1)))
def wI (l:bb):Option (Int×Int):=if 0≤l.2.2.1 then some (l.2.2.1,l.2.2.2.1) else none
def wJ (l:bb):Option (Int×Int):=if 0≤l.1 then some (l.1,l.2.1) else none
def wK:Nat→List Program→List (Int×Int)
 | _,[]=>[]
 | i,p::ps=>((bA p.1.toNat).map fun k:Nat=>((i:Int),(k:Int)))++wK (i+1) ps
def wL:Nat→List Program→List (Int×Int)
 | _,[]=>[]
 | i,p::ps=>((bA p.2.1.toNat).map fun k:Nat=>((i:Int),(k:Int)))++wL (i+1) ps
theorem F_:∀ (ps:List Program) (i:Nat) (q:Int×Int),q∈wK i ps↔∃ (j:Nat) (hj:j<ps.length) (k:Nat),k<ps[j].1.toNat∧q=(((i+j:Nat):Int),(k:Int))
 | [],i,q=>by simp [wK]
 | p::ps,i,q=>by
  simp only [wK,List.mem_append,kb,oL,F_ ps];constructor
  ·rintro (⟨k,hk,rfl⟩ | ⟨j,hj,k,hk,rfl⟩)
   ·exact ⟨0,by simp,k,by simpa using hk,by simp⟩
   exact ⟨j+1,by simp; omega,k,by simpa using hk,by rw [show i+1+j=i+(j+1) by omega]⟩
  rintro ⟨j,hj,k,hk,rfl⟩;cases j with
  | zero=>exact .inl ⟨k,by simpa using hk,by simp⟩
  | succ j=>exact .inr ⟨j,by simpa using hj,k,by simpa using hk,by rw [show i+1+j=i+(j+1) by omega]⟩
theorem F0:∀ (ps:List Program) (i:Nat) (q:Int×Int),q∈wL i ps↔∃ (j:Nat) (hj:j<ps.length) (k:Nat),k<ps[j].2.1.toNat∧q=(((i+j:Nat):Int),(k:Int))
 | [],i,q=>by simp [wL]
 | p::ps,i,q=>by
  simp only [wL,List.mem_append,kb,oL,F0 ps];constructor
  ·rintro (⟨k,hk,rfl⟩ | ⟨j,hj,k,hk,rfl⟩)
   ·exact ⟨0,by simp,k,by simpa using hk,by simp⟩
   exact ⟨j+1,by simp; omega,k,by simpa using hk,by rw [show i+1+j=i+(j+1) by omega]⟩
  rintro ⟨j,hj,k,hk,rfl⟩;cases j with
  | zero=>exact .inl ⟨k,by simpa using hk,by simp⟩
  | succ j=>exact .inr ⟨j,by simpa using hj,k,by simpa using hk,by rw [show i+1+j=i+(j+1) by omega]⟩
theorem Uv (i m:Nat):((bA m).map fun k:Nat=>((i:Int),(k:Int))).Nodup:=by unfold List.Nodup;rw [List.pairwise_map];refine List.Pairwise.imp ?_ (List.nodup_range (n:=m));intro a b h e;simp only [bE,true_and] at e;omega
theorem Uw:∀ (ps:List Program) (i:Nat),(wK i ps).Nodup
 | [],i=>List.nodup_nil
 | p::ps,i=>by refine List.nodup_append.2 ⟨Uv i _,Uw ps (i+1),fun a ha b hb e=>?_⟩;subst e;obtain ⟨k,_,rfl⟩:=kb.1 ha;obtain ⟨j,hj,k',_,e⟩:=(F_ ps (i+1) _).1 hb;simp only [bE] at e;omega
theorem Ux:∀ (ps:List Program) (i:Nat),(wL i ps).Nodup
 | [],i=>List.nodup_nil
 | p::ps,i=>by refine List.nodup_append.2 ⟨Uv i _,Ux ps (i+1),fun a ha b hb e=>?_⟩;subst e;obtain ⟨k,_,rfl⟩:=kb.1 ha;obtain ⟨j,hj,k',_,e⟩:=(F0 ps (i+1) _).1 hb;simp only [bE] at e;omega
def uE:List Program→Int
 | []=>0
 | p::ps=>p.1+p.2.1+uE ps
def uF:List bb→Int
 | []=>0
 | l::ls=>(if 0≤l.1 then 1 else 0)+(if 0≤l.2.2.1 then 1 else 0)+uF ls
theorem Uy:∀ (ps:List Program) (i:Nat),(∀ p∈ps,0≤p.1∧0≤p.2.1)→uE ps=((wK i ps).length:Int)+((wL i ps).length:Int)
 | [],i,_=>rfl
 | p::ps,i,h=>by have h1:=h p (by simp);have h2:=Uy ps (i+1) (fun q hq=>h q (by simp [hq]));simp only [uE,wK,wL,List.length_append,List.length_map,List.length_range,h2];omega
theorem Uz:∀ ls:List bb,uF ls=((ls.filterMap wJ).length:Int)+((ls.filterMap wI).length:Int)
 | []=>rfl
 | l::ls=>by have:=Uz ls;simp only [uF,NL,this];unfold wJ wI;by_cases h1:0≤l.1<;>by_cases h2:0≤l.2.2.1<;>simp [h1,h2]<;>omega
theorem NN (p k:Int) (hp:0≤p):∀ ls:List bb,(ls.filterMap wI).count (p,k)=ls.countP (ma p k)
 | []=>rfl
 | l::ls=>by
  have:=NN p k hp ls;rw [NL,List.countP_cons,← this];unfold wI ma;by_cases h1:0≤l.2.2.1
  ·simp only [h1,if_true,List.count_cons];by_cases h2:l.2.2.1=p<;>by_cases h3:l.2.2.2.1=k<;>simp [h2,h3]
  have:¬ (l.2.2.1=p):=by omega
  simp [h1,this]
theorem NO (p k:Int) (hp:0≤p):∀ ls:List bb,(ls.filterMap wJ).count (p,k)=ls.countP (oM p k)
 | []=>rfl
 | l::ls=>by
  have:=NO p k hp ls;rw [NL,List.countP_cons,← this];unfold wJ oM;by_cases h1:0≤l.1
  ·simp only [h1,if_true,List.count_cons];by_cases h2:l.1=p<;>by_cases h3:l.2.1=k<;>simp [h2,h3]
  have:¬ (l.1=p):=by omega
  simp [h1,this]
def we (ls:List bb):Prop:=∀ i j (hi:i<ls.length) (hj:j<i),FZ ls[i] ls[j]=false
theorem acV {ls:List bb} : we ls↔((ls.filterMap wJ).Nodup∧(ls.filterMap wI).Nodup):=by
 unfold List.Nodup;rw [Up,Up,Uq,Uq];unfold we FZ wJ wI;constructor
 ·intro h;refine ⟨fun i j hi hj uG b hb b' cD e=>?_,fun i j hi hj uG b hb b' cD e=>?_⟩
  ·have:=h j i hj uG;simp only [Option.mem_def,Jf,aF] at hb cD;obtain ⟨b1,rfl⟩:=hb;obtain ⟨b2,rfl⟩:=cD;simp only [bE] at e;simp [b2,e.1,e.2] at this
  have:=h j i hj uG;simp only [Option.mem_def,Jf,aF] at hb cD;obtain ⟨b1,rfl⟩:=hb;obtain ⟨b2,rfl⟩:=cD;simp only [bE] at e;simp [b2,e.1,e.2] at this
 rintro ⟨h1,h2⟩ i j hi hj;rw [← Bool.not_eq_true];intro hc;simp only [pw,aw,decide_eq_true_eq] at hc;rcases hc with ⟨c1,c2,c3⟩ | ⟨c1,c2,c3⟩
 ·exact h1 j i (by omega) hi hj (ls[j].1,ls[j].2.1) (by simp; omega) (ls[i].1,ls[i].2.1) (by simp; omega) (by rw [c2,c3])
 exact h2 j i (by omega) hi hj (ls[j].2.2.1,ls[j].2.2.2.1) (by simp; omega) (ls[i].2.2.1,ls[i].2.2.2.1) (by simp; omega) (by rw [c2,c3])
theorem UA (hp:∀ (i:Nat) (hi:i<nt.1.length),cJ nt.1[i]=true) (he:∀ (i:Nat) (hi:i<nt.2.length),s5 nt nt.2[i]) :
  ((∀ (i:Nat) (hi:i<nt.1.length) (k:Nat),(k:Int)<nt.1[i].1→nt.2.countP (ma i k)=1)∧(∀ (i:Nat) (hi:i<nt.1.length) (k:Nat),(k:Int)<nt.1[i].2.1→nt.2.countP (oM i k)=1))↔
  (we nt.2∧uF nt.2=uE nt.1):=by
 have fw:∀ p∈nt.1,0≤p.1∧0≤p.2.1:=fun p hm=>by obtain ⟨i,hi,rfl⟩:=sF.1 hm;have:=FY (hp i hi); omega
 have hI:∀ q∈nt.2.filterMap wI,q∈wK 0 nt.1:=fun q hq=>by
  obtain ⟨l,hl,e⟩:=List.mem_filterMap.1 hq;obtain ⟨i,hi,rfl⟩:=sF.1 hl;unfold wI at e;simp only [Jf,aF] at e;obtain ⟨e1,rfl⟩:=e;rcases (he i hi).qo with h | ⟨h1,h2,h3,h4⟩
  ·omega
  rw [aJ (by omega)] at h4;exact (F_ _ _ _).2 ⟨nt.2[i].2.2.1.toNat,by omega,nt.2[i].2.2.2.1.toNat,by omega,by simp only [bE]; omega⟩
 have hO:∀ q∈nt.2.filterMap wJ,q∈wL 0 nt.1:=fun q hq=>by
  obtain ⟨l,hl,e⟩:=List.mem_filterMap.1 hq;obtain ⟨i,hi,rfl⟩:=sF.1 hl;unfold wJ at e;simp only [Jf,aF] at e;obtain ⟨e1,rfl⟩:=e;rcases (he i hi).out with h | ⟨h1,h2,h3,h4⟩
  ·omega
  rw [aJ (by omega)] at h4;exact (F0 _ _ _).2 ⟨nt.2[i].1.toNat,by omega,nt.2[i].2.1.toNat,by omega,by simp only [bE]; omega⟩
 have fI:=TC (Uw nt.1 0) hI;have fO:=TC (Ux nt.1 0) hO;have aI:(∀ (i:Nat) (hi:i<nt.1.length) (k:Nat),(k:Int)<nt.1[i].1→nt.2.countP (ma i k)=1)↔(∀ q∈wK 0 nt.1,(nt.2.filterMap wI).count q=1):=by
  constructor
  ·intro h q hq;obtain ⟨j,hj,k,hk,rfl⟩:=(F_ _ _ _).1 hq;rw [NN _ _ (by omega)];simpa using h j hj k (by omega)
  intro h i hi k hk;rw [← NN _ _ (by omega)];exact h _ ((F_ _ _ _).2 ⟨i,hi,k,by omega,by simp⟩)
 have aO:(∀ (i:Nat) (hi:i<nt.1.length) (k:Nat),(k:Int)<nt.1[i].2.1→nt.2.countP (oM i k)=1)↔(∀ q∈wL 0 nt.1,(nt.2.filterMap wJ).count q=1):=by
  constructor
  ·intro h q hq;obtain ⟨j,hj,k,hk,rfl⟩:=(F0 _ _ _).1 hq;rw [NO _ _ (by omega)];simpa using h j hj k (by omega)
  intro h i hi k hk;rw [← NO _ _ (by omega)];exact h _ ((F0 _ _ _).2 ⟨i,hi,k,by omega,by simp⟩)
 rw [aI,aO,fI,fO,acV,Uz,Uy nt.1 0 fw];constructor
 ·rintro ⟨⟨h1,h2⟩,h3,h4⟩;refine ⟨⟨h3,h1⟩,?_⟩;have:=Fz h1 hI;have:=Fz h3 hO;omega
 rintro ⟨⟨h1,h2⟩,h3⟩;have:=Fz h2 hI;have:=Fz h1 hO;exact ⟨⟨h2,by omega⟩,h1,by omega⟩
theorem UB:∀ (ps:List Program) (i:Nat) (hi:i<ps.length),uE (ps.take (i+1))=uE (ps.take i)+(ps[i].1+ps[i].2.1)
 | [],i,hi=>absurd hi (by simp)
 | p::ps,0,hi=>by simp [uE]
 | p::ps,i+1,hi=>by have:=UB ps i (by simpa using hi);simp only [Ur,uE,EO] at this ⊢;omega
theorem UC:∀ (ls:List bb) (i:Nat) (hi:i<ls.length),uF (ls.take (i+1))=uF (ls.take i)+((if 0≤ls[i].1 then 1 else 0)+(if 0≤ls[i].2.2.1 then 1 else 0))
 | [],i,hi=>absurd hi (by simp)
 | p::ls,0,hi=>by simp [uF]
 | p::ls,i+1,hi=>by have:=UC ls i (by simpa using hi);simp only [Ur,uF,EO] at this ⊢;omega
theorem s6 (h:dq nt) (hn:1048576<n):ez.f n nt=some (cm nt,()):=by
 have hp:=h.eX;have hl:=h.dB;unfold ez.f cm;refine wC ?_;refine qv (decide (12<nt.1.length∨30<nt.2.length),()) ?_ ?_
 ·by_cases a:12<nt.1.length
  ·simp [br,show (12:Int)<(nt.1.length:Int) by omega,a]
  simp [br,show ¬ (12:Int)<(nt.1.length:Int) by omega,a,show (30:Int)<(nt.2.length:Int)↔30<nt.2.length by omega]
 rw [cM];refine ⟨fun a=>?_,fun a=>?_⟩
 ·simp only [ak,fF,false_iff];intro o; have:=o.eX; have:=o.dB; omega
 have a1:nt.1.length≤12:=by omega
 have a2:nt.2.length≤30:=by omega
 refine fT (fun i (s:Int)=>(s,(i:Int),())) nt.1.length (fun i s=>(∀ j (hj:j<nt.1.length),j<i→cJ nt.1[j]=true)∧s=uE (nt.1.take i)∧0≤s∧s≤6*(i:Int))
  rfl ⟨by intros; omega,by simp [uE],by omega,by omega⟩ (by omega) (fun ih s hI=>?_) (fun ih i s hi hI hS=>?_)
 rotate_left
 ·have h1:(i:Int)<(nt.1.length:Int):=by omega
  simp only [h1,decide_true,aB,ay,aJ hi];rw [af (by first | (simp; done) | omega),FW (h.prog _ (ct hi)) hn,aC,a_ (by omega)];obtain ⟨i1,i2,i3,i4⟩:=hI;cases bF:cJ nt.1[i] with
  | false=>
   simp only [Bool.not_false,aB,ak,fF,false_iff];intro o; have:=o.prog i hi; simp [bF] at this
  | true=>
   obtain ⟨p1,p2,p3,p4⟩:=FY bF;simp only [bf,ar];rw [bP (n:=nt.1[i].1+nt.1[i].2.1) (by omega) (by omega),bP (by omega) (by omega)];refine hS _ ⟨fun j hj gq=>?_,by rw [UB _ _ hi,i2],by omega,by push_cast; omega⟩;rcases ry (yJ gq) with e | e
   ·exact i1 j hj e
   subst e; exact bF
 obtain ⟨wH,hs,pq,R4⟩:=hI;have wH:∀ (i:Nat) (hi:i<nt.1.length),cJ nt.1[i]=true:=fun i hi=>wH i hi hi;rw [List.take_length] at hs;simp only [bR,decide_false,ar];refine fT (fun i (s:Int)=>(s,(i:Int),())) nt.2.length (fun i s=>(∀ j (hj:j<nt.2.length),j<i→s5 nt nt.2[j]∧bS nt.2[j].2.2.2.2=true∧∀ k (hk:k<j),FZ nt.2[j] nt.2[k]=false)∧s=uF (nt.2.take i)∧0≤s∧s≤2*(i:Int))
  rfl ⟨by intros; omega,by simp [uF],by omega,by omega⟩ (by omega) (fun ih s' hI=>?_) (fun ih i s' hi hI hS=>?_)
 ·obtain ⟨i1,i2,i3,i4⟩:=hI;rw [List.take_length] at i2;simp only [bR,decide_false,ar,ak,decide_eq_true_eq];have key:=UA wH (fun i hi=>(i1 i hi hi).1);constructor
  ·intro e;obtain ⟨k1,k2⟩:=key.2 ⟨fun i j hi hj=>(i1 i hi hi).2.2 j hj,by rw [← i2,e,hs]⟩;exact ⟨a1,a2,wH,fun i hi=>(i1 i hi hi).1,fun i hi=>(i1 i hi hi).2.1,k1,k2⟩
  intro o;have:=(key.1 ⟨o.ins,o.outs⟩).2;rw [i2,hs,this]
 obtain ⟨i1,i2,i3,i4⟩:=hI;have h1:(i:Int)<(nt.2.length:Int):=by omega
 simp only [h1,decide_true,aB,ay,aJ hi];rw [af (by first | (simp; done) | omega)];have hgp:∀ j:Int,0≤j→j<(nt.1.length:Int)→nt.1.getD j.toNat bC=nt.1.getD j.toNat bC:=fun _ _ _=>rfl;have bad:¬ s5 nt nt.2[i]→(false=true↔cK nt):=fun hb=>by simp only [fF,false_iff]; exact fun o=>hb (o.ends i hi)
 generalize iN:nt.2[i]=l at *;refine qv (decide (l.1 = -1∧l.2.1=0),decide (l.2.2.1 = -1∧l.2.2.2.1=0),()) ?_ ?_
 ·by_cases a:l.1 = -1<;>by_cases b:l.2.2.1 = -1<;>simp [a,b,br]
 refine qv (decide (pK nt l),()) ?_ ?_
 ·unfold pK;by_cases a:0≤l.1<;>by_cases b:l.1<(nt.1.length:Int)<;>by_cases c:0≤l.2.1<;>simp [a,b,c,br,ab]
 by_cases iJ:l.1 = -1∧l.2.1=0∨pK nt l;rotate_left
 ·simp only [not_or] at iJ;refine TD (false,()) ?_ (bad (fun o=>by rcases o.out with h | h; exact iJ.1 h; exact iJ.2 h));simp [iJ.1,iJ.2,br]
 refine qv (s'+(if 0≤l.1 then 1 else 0),()) ?_ ?_
 ·rcases iJ with ⟨o1,o2⟩ | o
  ·have:¬ pK nt l:=fun h=>by unfold pK at h; omega
   simp [this,o1,o2,br]
  have:0≤l.1:=o.1;simp only [o,decide_true,aB,this,if_true];rw [bP (by omega) (by omega)]
 refine qv (decide (s4 nt l),()) ?_ ?_
 ·unfold s4;by_cases a:0≤l.2.2.1<;>by_cases b:l.2.2.1<(nt.1.length:Int)<;>by_cases c:0≤l.2.2.2.1<;>simp [a,b,c,br,ab]
 by_cases cC:l.2.2.1 = -1∧l.2.2.2.1=0∨s4 nt l;rotate_left
 ·simp only [not_or] at cC;refine TD (false,()) ?_ (bad (fun o=>by rcases o.qo with h | h; exact cC.1 h; exact cC.2 h));simp [cC.1,cC.2,br]
 refine qv (s'+(if 0≤l.1 then 1 else 0)+(if 0≤l.2.2.1 then 1 else 0),()) ?_ ?_
 ·rcases cC with ⟨o1,o2⟩ | o
  ·have:¬ s4 nt l:=fun h=>by unfold s4 at h; omega
   simp [this,o1,o2,br]
  have:0≤l.2.2.1:=o.1;simp only [o,decide_true,aB,this,if_true];rw [bP (by split<;>omega) (by split<;>omega)]
 have dz:bS l.2.2.2.2=bS l.2.2.2.2:=rfl;refine qv (decide (l.1 = -1∧l.2.2.1 = -1)||!(bS l.2.2.2.2),()) ?_ ?_
 ·rw [uD (by rw [← iN]; exact (h.link _ (ct hi)).tokens) hn];have n1:(l.1 = -1∧l.2.1=0)↔l.1 = -1:=⟨fun h=>h.1,fun h=>by rcases iJ with o | o; exact o; have:=o.1; omega⟩
  have n2:(l.2.2.1 = -1∧l.2.2.2.1=0)↔l.2.2.1 = -1:=⟨fun h=>h.1,fun h=>by rcases cC with o | o; exact o; have:=o.1; omega⟩
  simp only [n1,n2,aC];by_cases a:l.1 = -1<;>by_cases b:l.2.2.1 = -1<;>simp [a,b,br]
 rw [cw];refine ⟨fun hb=>?_,fun hb=>?_⟩
 ·simp only [ak,fF,false_iff];intro o;simp only [pw,decide_eq_true_eq,Bool.not_eq_true'] at hb;rcases hb with hb | hb
  ·have:=(o.ends i hi).one; rw [iN] at this; exact this hb
  have:=o.ji i hi; rw [iN,hb] at this; simp at this
 simp only [oB,decide_eq_false_iff_not,Bool.not_eq_false'] at hb;obtain ⟨qk,hs5⟩:=hb;have NP:s5 nt l:=⟨iJ,cC,qk⟩
 rw [af (by first | (simp; done) | omega)];simp only [List.drop_zero];have ax:(nt.2.take i).length=i:=by simp; omega
 refine oF (bad:=some (false,())) (nt.2.take i).length (fun k=>!(FZ l ((nt.2.take i).getD k aE))) (fun ih k hk=>?_) (fun ih=>av (bR _)) (by omega) (fun eO=>?_) (fun k hk hb=>?_)
 ·have h1:(k:Int)<((nt.2.take i).length:Int):=by omega
  simp only [h1,decide_true,aB,ay,aJ hk];rw [af (by first | (simp; done) | omega),a_ (by omega)];unfold FZ;generalize (nt.2.take i)[k]=m;by_cases c1:0≤l.1<;>by_cases c2:m.1=l.1<;>by_cases c3:m.2.1=l.2.1<;>by_cases c4:0≤l.2.2.1<;>by_cases c5:m.2.2.1=l.2.2.1<;>by_cases c6:m.2.2.2.1=l.2.2.2.1<;>
   simp only [c1,c2,c3,c4,c5,c6,decide_true,decide_false,aB,ar,Bool.and_true,kW,Bool.and_false,Bool.false_and,Bool.or_true,Bool.or_false,Bool.true_or,Bool.false_or,bf,Bool.not_false,if_true,if_false,fF]
 ·rw [a_ (by omega)];refine hS _ ⟨fun j hj gq=>?_,by rw [UC _ _ hi,i2,iN]; omega,by split<;>split<;>omega,by split<;>split<;>push_cast<;>omega⟩;rcases ry (yJ gq) with e | e
  ·exact i1 j hj e
  subst e;refine ⟨by rw [iN]; exact NP,by rw [iN]; exact hs5,fun k hk=>?_⟩;have:=eO k (by omega);rw [aJ (by omega)] at this;simpa [iN] using this
 simp only [ak,fF,false_iff];intro o;have:=((UA wH o.ends).1 ⟨o.ins,o.outs⟩).1 i k hi (by omega);rw [aJ hk] at hb;rw [iN] at this;simp [this] at hb
end Go.AmT
namespace Go.AmT
open Go.Proofs Go.Proofs.Tryz
def yK.f (n:Nat) (a0:aq) (a1:List Int):Option (Bool×Unit):=cut ((eH.f n a0).bind fun r3=>br (!r3.1) (some (.inr (true,()))) (some (.inr (!decide ((a1.length:Int)=(a0.2.length:Int)),())))) fun y2=>br y2.1 (some (false,())) (iter n (fun nH bO=>br (decide (bO.1<(a1.length:Int))) (ab (0≤bO.1∧bO.1<(a1.length:Int)) (ab (0≤bO.1∧bO.1<(a0.2.length:Int)) (let v12:=(a0.2.getD bO.1.toNat aE); (bY.f n (a1.getD bO.1.toNat 0) (v12.2.2.2.2.length:Int) 400).bind fun fU=>br (!fU.1) (some (false,())) (nH (ah (bO.1+1),()))))) (some (true,()))) (0,()))
def yK.ae (n:Nat):au:=⟨[.val cd,.val IS],[.val .bool],fun x=>yK.f n x.1 x.2.1⟩
theorem yK.ok (n:Nat):aP 118 (yK.ae n):=aU n [(1,⟨[(17,.bool)],[],[1,2],[]⟩),(6,⟨[(20,.int .i64)],[],[2,18,19],[]⟩)] [] (ai ⟨eH.sound n,eH.aD⟩ (ai ⟨bY.sound n,bY.aD⟩ aK)) aL func118
def uH.f (n:Nat) (a0:aq) (a1:List Int):Option (Bool×Unit):=cut ((ez.f n a0).bind fun r3=>br (!r3.1) (some (.inr (true,()))) (some (.inr (!decide ((a1.length:Int)=(a0.2.length:Int)),())))) fun y2=>br y2.1 (some (false,())) (iter n (fun rA x9=>br (decide (x9.1<(a1.length:Int))) (ab (0≤x9.1∧x9.1<(a1.length:Int)) (ab (0≤x9.1∧x9.1<(a0.2.length:Int)) (let v11:=(a0.2.getD x9.1.toNat aE); br (decide ((a1.getD x9.1.toNat 0)<(v11.2.2.2.2.length:Int))) (some (false,())) (br (decide (400<(a1.getD x9.1.toNat 0))) (some (false,())) (rA (ah (x9.1+1),())))))) (some (true,()))) (0,()))
def uH.ae (n:Nat):au:=⟨[.val cd,.val IS],[.val .bool],fun x=>uH.f n x.1 x.2.1⟩
theorem uH.ok (n:Nat):aP 84 (uH.ae n):=aU n [(1,⟨[(17,.bool)],[],[1,2],[]⟩),(6,⟨[(20,.int .i64)],[],[2,18,19],[]⟩)] [] (ai ⟨ez.sound n,ez.aD⟩ aK) aL func84
end Go.AmT
namespace Go.AmT
def fi (ls:List bb) (caps:List Int):Bool:=decide (caps.length=ls.length)&&(bA caps.length).all fun i=>decide (((ls.getD i aE).2.2.2.2.length:Int)≤caps.getD i 0)&&decide (caps.getD i 0≤400)
theorem acW {α:Type} (v m k:Int) {x y:Option α} : br (decide (v<m)) x (br (decide (k<v)) x y)=if (decide (m≤v)&&decide (v≤k))=true then y else x:=by
 by_cases a:m≤v<;>by_cases b:v≤k
 ·simp [br,a,b,show ¬ v<m by omega,show ¬ k<v by omega]
 ·simp [br,a,b,show ¬ v<m by omega,show k<v by omega]
 ·simp [br,a,b,show v<m by omega]
 simp [br,a,b,show v<m by omega]
theorem acX {n:Nat} {nt:aq} {caps:List Int} (h:dq nt) (hc:caps.length≤1048576) (hn:1048576<n):yK.f n nt caps=some (cm nt&&fi nt.2 caps,()):=by
 have hl:=h.dB;unfold yK.f;rw [rz h hn,aC];cases bF:cm nt with
 | false=>simp [br,cut]
 | true=>
  by_cases hlen:caps.length=nt.2.length
  ·have hle:(caps.length:Int)=(nt.2.length:Int):=by omega
   simp only [bf,ar,hle,decide_true,aY,kW,fi,hlen];refine dZ.1 (oF (bad:=some (false,())) nt.2.length (fun i=>decide (((nt.2.getD i aE).2.2.2.2.length:Int)≤caps.getD i 0)&&decide (caps.getD i 0≤400)) (fun ih i hi=>?_) (fun ih=>av (bR _)) (by omega) (fun bF=>?_) (fun i hi hb=>?_))
   ·have h1:(i:Int)<(nt.2.length:Int):=by omega
    simp only [h1,decide_true,aB,ay,nG,aC];rw [af (by simp),af (by simp),a_ (by omega),yz]
   ·rw [ak];have:((bA nt.2.length).all fun i=>decide (((nt.2.getD i aE).2.2.2.2.length:Int)≤caps.getD i 0)&&decide (caps.getD i 0≤400))=true:=List.all_eq_true.2 (fun i hi=>bF i (oL.1 hi));rw [this]
   rw [ak];have:((bA nt.2.length).all fun i=>decide (((nt.2.getD i aE).2.2.2.2.length:Int)≤caps.getD i 0)&&decide (caps.getD i 0≤400))=false:=by rw [List.all_eq_false]; exact ⟨i,oL.2 hi,by rw [hb]; simp⟩
   rw [this]
  have hle:¬ ((caps.length:Int)=(nt.2.length:Int)):=by omega
  simp [hle,fi,hlen,br,cut]
theorem UD {n:Nat} {nt:aq} {caps:List Int} (h:dq nt) (hc:caps.length≤1048576) (hn:1048576<n):uH.f n nt caps=some (cm nt&&fi nt.2 caps,()):=by
 have hl:=h.dB;unfold uH.f;rw [s6 h hn,aC];cases bF:cm nt with
 | false=>simp [br,cut]
 | true=>
  by_cases hlen:caps.length=nt.2.length
  ·have hle:(caps.length:Int)=(nt.2.length:Int):=by omega
   simp only [bf,ar,hle,decide_true,aY,kW,fi,hlen];refine dZ.1 (oF (bad:=some (false,())) nt.2.length (fun i=>decide (((nt.2.getD i aE).2.2.2.2.length:Int)≤caps.getD i 0)&&decide (caps.getD i 0≤400)) (fun ih i hi=>?_) (fun ih=>av (bR _)) (by omega) (fun bF=>?_) (fun i hi hb=>?_))
   ·have h1:(i:Int)<(nt.2.length:Int):=by omega
    simp only [h1,decide_true,aB,ay];rw [af (by simp),af (by simp),a_ (by omega)];exact acW _ _ _
   ·rw [ak];have:((bA nt.2.length).all fun i=>decide (((nt.2.getD i aE).2.2.2.2.length:Int)≤caps.getD i 0)&&decide (caps.getD i 0≤400))=true:=List.all_eq_true.2 (fun i hi=>bF i (oL.1 hi));rw [this]
   rw [ak];have:((bA nt.2.length).all fun i=>decide (((nt.2.getD i aE).2.2.2.2.length:Int)≤caps.getD i 0)&&decide (caps.getD i 0≤400))=false:=by rw [List.all_eq_false]; exact ⟨i,oL.2 hi,by rw [hb]; simp⟩
   rw [this]
  have hle:¬ ((caps.length:Int)=(nt.2.length:Int)):=by omega
  simp [hle,fi,hlen,br,cut]
end Go.AmT
