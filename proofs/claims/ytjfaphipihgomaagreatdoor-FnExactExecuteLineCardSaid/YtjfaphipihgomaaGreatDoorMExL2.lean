/- Networks, in plain Lean: both programs tell the same networks valid. -/
import Derived.Test.YtjfaphipihgomaaGreatDoorPNet
open Go Go.Am
noncomputable section
set_option linter.unusedVariables false
set_option linter.unusedSimpArgs false
set_option maxRecDepth 100000
open Bool renaming and_eq_false_iff → GM, and_eq_true → aB, false_eq_true → fM, not_true → bo, or_eq_false_iff → oW, or_eq_true → rM, true_and → lF
open Int renaming lt_irrefl → bH, toNat_natCast → az
open List renaming filterMap_cons → OC, getElem_cons_succ → FI, getElem_mem → bV, mem_iff_getElem → tD, mem_map → kE, mem_range → rN, pairwise_filterMap → Vo, pairwise_iff_getElem → Vp, range → bD, take_succ_cons → Vq
open Nat renaming le_of_lt_succ → A7, lt_or_eq_of_le → s9
open Option renaming bind_some → aA, ite_none_right_eq_some → LF
open Option.some renaming injEq → aN
open Prod.mk renaming injEq → bS
namespace Go.AmT
variable {n:Nat} {nt:ak}
def mJ (p k:Int) (l:aK):Bool:=decide (l.2.2.1=p)&&decide (l.2.2.2.1=k)
def rO (p k:Int) (l:aK):Bool:=decide (l.1=p)&&decide (l.2.1=k)
def qn (nt:ak) (l:aK):Prop:=0≤l.1∧l.1<(nt.1.length:Int)∧0≤l.2.1∧l.2.1<(nt.1.getD l.1.toNat bf).2.1
def tU (nt:ak) (l:aK):Prop:=0≤l.2.2.1∧l.2.2.1<(nt.1.length:Int)∧0≤l.2.2.2.1∧l.2.2.2.1<(nt.1.getD l.2.2.1.toNat bf).1
structure tV (nt:ak) (l:aK):Prop where
 out:l.1 = -1∧l.2.1=0∨qn nt l
 q_:l.2.2.1 = -1∧l.2.2.2.1=0∨tU nt l
 one:¬ (l.1 = -1∧l.2.2.1 = -1)
structure cQ (nt:ak):Prop where
 dZ:nt.1.length≤12
 dp:nt.2.length≤30
 prog:∀ (i:Nat) (hi:i<nt.1.length),cP nt.1[i]=true
 ends:∀ (i:Nat) (hi:i<nt.2.length),tV nt nt.2[i]
 j7:∀ (i:Nat) (hi:i<nt.2.length),bX nt.2[i].2.2.2.2=true
 ins:∀ (i:Nat) (hi:i<nt.1.length) (k:Nat),(k:Int)<nt.1[i].1→nt.2.countP (mJ i k)=1
 outs:∀ (i:Nat) (hi:i<nt.1.length) (k:Nat),(k:Int)<nt.1[i].2.1→nt.2.countP (rO i k)=1
instance (nt:ak):Decidable (cQ nt):=Classical.propDecidable _
instance (nt:ak) (l:aK):Decidable (tV nt l):=Classical.propDecidable _
instance (nt:ak) (l:aK):Decidable (qn nt l):=by unfold qn; exact inferInstance
instance (nt:ak) (l:aK):Decidable (tU nt l):=by unfold tU; exact inferInstance
def cr (nt:ak):Bool:=decide (cQ nt)
theorem GN {p:Program} (h:cP p=true):0≤p.1∧p.1≤3∧0≤p.2.1∧p.2.1≤3:=by
 unfold cP at h
 grind
theorem OD (hl:nt.2.length≤1048576) (hn:1048576<n) (p k:Int):kM.f n nt p k=some (nU (mJ p k) nt.2,()):=by
 unfold kM.f;refine UE nt.2 (mJ p k) (fun ih i hi at'=>?_) (fun ih at'=>by simp [br]) (by omega);have h1:(i:Int)<(nt.2.length:Int):=by omega
 simp only [h1,decide_true,ax,az,aU hi];rw [af (by simp),ba (by omega)];unfold mJ;by_cases h1:nt.2[i].2.2.1=p
 ·simp only [h1,decide_true,ax,bg,lF];rw [r_,r_]; simp
 simp [h1,br,bg]
theorem Vr (hl:nt.2.length≤1048576) (hn:1048576<n) (p k:Int):mn.f n nt p k=some (nU (rO p k) nt.2,()):=by
 unfold mn.f;refine UE nt.2 (rO p k) (fun ih i hi at'=>?_) (fun ih at'=>by simp [br]) (by omega);have h1:(i:Int)<(nt.2.length:Int):=by omega
 simp only [h1,decide_true,ax,az,aU hi];rw [af (by simp),ba (by omega)];unfold rO;by_cases h1:nt.2[i].1=p
 ·simp only [h1,decide_true,ax,bg,lF];rw [r_,r_]; simp
 simp [h1,br,bg]
theorem Vs {α:Type} {f:α→Bool} {ls:List α} : nU f ls<0↔ls.countP f≠1:=by unfold nU;omega
theorem ad_ (h1:nt.1.length≤12) (hp:∀ (i:Nat) (hi:i<nt.1.length),cP nt.1[i]=true) (l:aK):pf.f n nt l=some (decide (tV nt l),()):=by
 have hw:ag ((nt.1.length:Int)-1)=(nt.1.length:Int)-1:=bM (by omega) (by omega);have D8:∀ i:Int,0≤i→i<(nt.1.length:Int)→0≤(nt.1.getD i.toNat bf).1∧(nt.1.getD i.toNat bf).1≤3∧0≤(nt.1.getD i.toNat bf).2.1∧(nt.1.getD i.toNat bf).2.1≤3:=by intro i h0 h1;rw [aU (by omega)];exact GN (hp _ _)
 unfold pf.f;simp only [n_,aA,hw];refine w8 ?_;refine re ((decide (l.1 = -1)&&decide (l.2.2.1 = -1))||(!(decide (-1≤l.1)&&decide (l.1≤(nt.1.length:Int)-1))||!(decide (-1≤l.2.2.1)&&decide (l.2.2.1≤(nt.1.length:Int)-1))),()) ?_ ?_
 ·generalize decide (l.1 = -1)=a;generalize decide (l.2.2.1 = -1)=b;generalize (decide (-1≤l.1)&&decide (l.1≤(nt.1.length:Int)-1))=c;generalize (decide (-1≤l.2.2.1)&&decide (l.2.2.1≤(nt.1.length:Int)-1))=d;cases a<;>cases b<;>cases c<;>cases d<;>rfl
 rw [cC];refine ⟨fun hb=>?_,fun hb=>?_⟩
 ·simp only [ao,fM,false_iff];intro o;simp only [rM,aB,Bool.not_eq_true',GM,decide_eq_true_eq,decide_eq_false_iff_not] at hb;rcases o.out with ⟨o1,o2⟩ | ⟨o1,o2,o3,o4⟩<;>rcases o.q_ with ⟨i1,i2⟩ | ⟨i1,i2,i3,i4⟩<;>first | exact o.one ⟨o1,i1⟩ | omega
 simp only [oW,Bool.not_eq_false',aB,GM,decide_eq_true_eq,decide_eq_false_iff_not] at hb;obtain ⟨b0,b2,b3⟩:=hb;have b1:¬ (l.1 = -1∧l.2.2.1 = -1):=by omega
 refine re (if 0≤l.1 then (nt.1.getD l.1.toNat bf).2.1 else 1,()) ?_ ?_
 ·rw [r_];by_cases h:0≤l.1
  ·rw [if_pos (decide_eq_true h),if_pos h]; exact af ⟨h,by omega⟩
  rw [if_neg (by simpa using h),if_neg h]
 refine re (if 0≤l.2.2.1 then (nt.1.getD l.2.2.1.toNat bf).1 else 1,()) ?_ ?_
 ·rw [r_];by_cases h:0≤l.2.2.1
  ·rw [if_pos (decide_eq_true h),if_pos h]; exact af ⟨h,by omega⟩
  rw [if_neg (by simpa using h),if_neg h]
 have e1:ag ((if 0≤l.1 then (nt.1.getD l.1.toNat bf).2.1 else 1)-1)=(if 0≤l.1 then (nt.1.getD l.1.toNat bf).2.1 else 1)-1:=by
  split
  ·have:=D8 l.1 (by omega) (by omega); exact bM (by omega) (by omega)
  rfl
 have e2:ag ((if 0≤l.2.2.1 then (nt.1.getD l.2.2.1.toNat bf).1 else 1)-1)=(if 0≤l.2.2.1 then (nt.1.getD l.2.2.1.toNat bf).1 else 1)-1:=by
  split
  ·have:=D8 l.2.2.1 (by omega) (by omega); exact bM (by omega) (by omega)
  rfl
 simp only [e1,e2];have key:tV nt l↔((0≤l.2.1∧l.2.1≤(if 0≤l.1 then (nt.1.getD l.1.toNat bf).2.1 else 1)-1)∧(0≤l.2.2.2.1∧l.2.2.2.1≤(if 0≤l.2.2.1 then (nt.1.getD l.2.2.1.toNat bf).1 else 1)-1)):=by
  constructor
  ·intro o;have o1:=o.out;have o2:=o.q_;unfold qn at o1; unfold tU at o2;split<;>split<;>omega
  rintro ⟨⟨k1,k2⟩,k3,k4⟩;refine ⟨?_,?_,b1⟩
  ·unfold qn;split at k2<;>omega
  unfold tU;split at k4<;>omega
 rw [cC];simp only [← Bool.decide_and,ao,decide_eq_true_eq,decide_eq_false_iff_not,key];exact ⟨fun h=>⟨fun h'=>⟨h,h'⟩,fun h'=>h'.2⟩,fun h=>⟨fun h'=>absurd h' (by simp),fun h'=>absurd h'.1 h⟩⟩
theorem sb {n:Nat} {nt:ak} (h:cL nt) (hn:1048576<n):eO.f n nt=some (cr nt,()):=by
 have hp:=h.dZ
 have hl:=h.dp
 unfold eO.f cr
 refine w8 ?_
 refine re (decide (12<nt.1.length∨30<nt.2.length),()) ?_ ?_
 ·by_cases a:12<nt.1.length
  ·simp [br,show (12:Int)<(nt.1.length:Int) by omega,a]
  ·simp [br,show ¬ (12:Int)<(nt.1.length:Int) by omega,a,show (30:Int)<(nt.2.length:Int)↔30<nt.2.length by omega]
 rw [cZ]
 refine ⟨fun a=>?_,fun a=>?_⟩
 ·simp only [ao,fM,false_iff]
  intro o; have:=o.dZ; have:=o.dp; omega
 have a1:nt.1.length≤12:=by omega
 have a2:nt.2.length≤30:=by omega
 refine o5 (bad:=some (false,())) nt.1.length (fun i=>cP (nt.1.getD i bf)) (fun ih i hi=>?_) (fun ih=>au (bH _)) (by omega) (fun bK=>?_) (fun i hi hb=>?_)
 ·have h1:(i:Int)<(nt.1.length:Int):=by omega
  simp only [h1,decide_true,ax,az,aU hi]
  rw [af (by first | (simp; done) | omega),GK (h.prog _ (bV hi)) hn,aA,zq,ba (by omega)]
 rotate_left
 ·simp only [ao,fM,false_iff]
  intro o; have:=o.prog i hi; rw [aU hi] at hb; simp [hb] at this
 have xh:∀ (i:Nat) (hi:i<nt.1.length),cP nt.1[i]=true:=fun i hi=>by have:=bK i hi; rwa [aU hi] at this
 refine o5 (bad:=some (false,())) nt.2.length (fun i=>decide (tV nt (nt.2.getD i ay))&&bX (nt.2.getD i ay).2.2.2.2) (fun ih i hi=>?_) (fun ih=>au (bH _)) (by omega) (fun bK=>?_) (fun i hi hb=>?_)
 ·have h1:(i:Int)<(nt.2.length:Int):=by omega
  simp only [h1,decide_true,ax,az,aU hi]
  rw [af (by first | (simp; done) | omega),ad_ a1 xh,aA,xg (h.link _ (bV hi)).tokens hn,aA,ba (by omega)]
  cases decide (tV nt nt.2[i])<;>cases bX nt.2[i].2.2.2.2<;>rfl
 rotate_left
 ·simp only [ao,fM,false_iff]
  intro o; have o1:=o.ends i hi; have o2:=o.j7 i hi; rw [aU hi] at hb; simp [o1,o2] at hb
 have Vt:∀ (i:Nat) (hi:i<nt.2.length),tV nt nt.2[i]∧bX nt.2[i].2.2.2.2=true:=fun i hi=>by have:=bK i hi; rw [aU hi] at this; simpa using this
 refine gu (fun i (s:Unit)=>((i:Int),())) nt.1.length (fun i _=>∀ j (hj:j<nt.1.length),j<i→(∀ k:Nat,(k:Int)<nt.1[j].1→nt.2.countP (mJ j k)=1)∧(∀ k:Nat,(k:Int)<nt.1[j].2.1→nt.2.countP (rO j k)=1))
  (s0:=()) rfl (by intros; omega) (by omega) (fun ih s hI=>?_) (fun ih i s hi hI hS=>?_)
 ·simp only [bH,decide_false,aw,ao,true_iff]
  exact ⟨a1,a2,xh,fun i hi=>(Vt i hi).1,fun i hi=>(Vt i hi).2,fun i hi k hk=>(hI i hi hi).1 k hk,fun i hi k hk=>(hI i hi hi).2 k hk⟩
 ·have h1:(i:Int)<(nt.1.length:Int):=by omega
  obtain ⟨p1,p2,p3,p4⟩:=GN (xh i hi)
  simp only [h1,decide_true,ax,az,aU hi]
  rw [af (by first | (simp; done) | omega)]
  refine o5 (bad:=some (false,())) nt.1[i].1.toNat (fun k=>decide (nt.2.countP (mJ i k)=1)) (fun ih k hk=>?_) (fun ih=>au (show ¬ (((nt.1[i].1.toNat:Nat):Int)<nt.1[i].1) by omega)) (by omega) (fun aia=>?_) (fun k hk hb=>?_)
  ·have h1:(k:Int)<nt.1[i].1:=by omega
   simp only [h1,decide_true,ax]
   rw [OD (by omega) hn,aA,ba (by omega),r_]
   simp only [decide_eq_true_eq,Vs]
   by_cases hc:nt.2.countP (mJ i k)=1<;>simp [hc]
  ·refine o5 (bad:=some (false,())) nt.1[i].2.1.toNat (fun k=>decide (nt.2.countP (rO i k)=1)) (fun ih k hk=>?_) (fun ih=>au (show ¬ (((nt.1[i].2.1.toNat:Nat):Int)<nt.1[i].2.1) by omega)) (by omega) (fun RH=>?_) (fun k hk hb=>?_)
   ·have h1:(k:Int)<nt.1[i].2.1:=by omega
    simp only [h1,decide_true,ax]
    rw [Vr (by omega) hn,aA,ba (by omega),r_]
    simp only [decide_eq_true_eq,Vs]
    by_cases hc:nt.2.countP (rO i k)=1<;>simp [hc]
   ·rw [ba (by omega)]
    refine hS () (fun j hj iQ=>?_)
    rcases s9 (A7 iQ) with e | e
    ·exact hI j hj e
    ·subst e
     exact ⟨fun k hk=>by simpa using aia k (by omega),fun k hk=>by simpa using RH k (by omega)⟩
   ·simp only [ao,fM,false_iff]
    intro o; have:=o.outs i hi k (by omega); simp [this] at hb
  ·simp only [ao,fM,false_iff]
   intro o; have:=o.ins i hi k (by omega); simp [this] at hb
def GO (l k:aK):Bool:=(decide (0≤l.1)&&(decide (k.1=l.1)&&decide (k.2.1=l.2.1)))||(decide (0≤l.2.2.1)&&(decide (k.2.2.1=l.2.2.1)&&decide (k.2.2.2.1=l.2.2.2.1)))
def xi (l:aK):Option (Int×Int):=if 0≤l.2.2.1 then some (l.2.2.1,l.2.2.2.1) else none
def xj (l:aK):Option (Int×Int):=if 0≤l.1 then some (l.1,l.2.1) else none
def xk:Nat→List Program→List (Int×Int)
 | _,[]=>[]
 | i,p::ps=>((bD p.1.toNat).map fun k:Nat=>((i:Int),(k:Int)))++xk (i+1) ps
def xm:Nat→List Program→List (Int×Int)
 | _,[]=>[]
 | i,p::ps=>((bD p.2.1.toNat).map fun k:Nat=>((i:Int),(k:Int)))++xm (i+1) ps
theorem GP:∀ (ps:List Program) (i:Nat) (q:Int×Int),q∈xk i ps↔∃ (j:Nat) (hj:j<ps.length) (k:Nat),k<ps[j].1.toNat∧q=(((i+j:Nat):Int),(k:Int))
 | [],i,q=>by simp [xk]
 | p::ps,i,q=>by
  simp only [xk,List.mem_append,kE,rN,GP ps];constructor
  ·rintro (⟨k,hk,rfl⟩ | ⟨j,hj,k,hk,rfl⟩)
   ·exact ⟨0,by simp,k,by grind,by simp⟩
   exact ⟨j+1,by grind,k,by grind,by grind⟩
  rintro ⟨j,hj,k,hk,rfl⟩;cases j with
  | zero=>grind
  | succ j=>grind
theorem GQ:∀ (ps:List Program) (i:Nat) (q:Int×Int),q∈xm i ps↔∃ (j:Nat) (hj:j<ps.length) (k:Nat),k<ps[j].2.1.toNat∧q=(((i+j:Nat):Int),(k:Int))
 | [],i,q=>by simp [xm]
 | p::ps,i,q=>by
  simp only [xm,List.mem_append,kE,rN,GQ ps];constructor
  ·rintro (⟨k,hk,rfl⟩ | ⟨j,hj,k,hk,rfl⟩)
   ·exact ⟨0,by simp,k,by grind,by simp⟩
   exact ⟨j+1,by grind,k,by grind,by grind⟩
  rintro ⟨j,hj,k,hk,rfl⟩;cases j with
  | zero=>grind
  | succ j=>grind
theorem Vu (i m:Nat):((bD m).map fun k:Nat=>((i:Int),(k:Int))).Nodup:=by
 unfold List.Nodup;rw [List.pairwise_map];refine List.Pairwise.imp ?_ (List.nodup_range (n:=m))
 grind
theorem Vv:∀ (ps:List Program) (i:Nat),(xk i ps).Nodup
 | [],i=>List.nodup_nil
 | p::ps,i=>by
  refine List.nodup_append.2 ⟨Vu i _,Vv ps (i+1),fun a ha b hb e=>?_⟩;subst e;obtain ⟨k,_,rfl⟩:=kE.1 ha;obtain ⟨j,hj,k',_,e⟩:=(GP ps (i+1) _).1 hb
  grind
theorem Vw:∀ (ps:List Program) (i:Nat),(xm i ps).Nodup
 | [],i=>List.nodup_nil
 | p::ps,i=>by
  refine List.nodup_append.2 ⟨Vu i _,Vw ps (i+1),fun a ha b hb e=>?_⟩;subst e;obtain ⟨k,_,rfl⟩:=kE.1 ha;obtain ⟨j,hj,k',_,e⟩:=(GQ ps (i+1) _).1 hb
  grind
def vp:List Program→Int
 | []=>0
 | p::ps=>p.1+p.2.1+vp ps
def vq:List aK→Int
 | []=>0
 | l::ls=>(if 0≤l.1 then 1 else 0)+(if 0≤l.2.2.1 then 1 else 0)+vq ls
theorem Vx:∀ (ps:List Program) (i:Nat),(∀ p∈ps,0≤p.1∧0≤p.2.1)→vp ps=((xk i ps).length:Int)+((xm i ps).length:Int)
 | [],i,_=>rfl
 | p::ps,i,h=>by have h1:=h p (by simp);have h2:=Vx ps (i+1) (fun q hq=>h q (by grind));simp only [vp,xk,xm,List.length_append,List.length_map,List.length_range,h2];omega
theorem Vy:∀ ls:List aK,vq ls=((ls.filterMap xj).length:Int)+((ls.filterMap xi).length:Int)
 | []=>rfl
 | l::ls=>by
  have:=Vy ls;simp only [vq,OC,this];unfold xj xi
  grind
theorem OE (p k:Int) (hp:0≤p):∀ ls:List aK,(ls.filterMap xi).count (p,k)=ls.countP (mJ p k)
 | []=>rfl
 | l::ls=>by
  have:=OE p k hp ls;rw [OC,List.countP_cons,← this];unfold xi mJ
  grind
theorem OF (p k:Int) (hp:0≤p):∀ ls:List aK,(ls.filterMap xj).count (p,k)=ls.countP (rO p k)
 | []=>rfl
 | l::ls=>by
  have:=OF p k hp ls;rw [OC,List.countP_cons,← this];unfold xj rO
  grind
def wS (ls:List aK):Prop:=∀ i j (hi:i<ls.length) (hj:j<i),GO ls[i] ls[j]=false
theorem ad1 {ls:List aK} : wS ls↔((ls.filterMap xj).Nodup∧(ls.filterMap xi).Nodup):=by
 unfold List.Nodup;rw [Vo,Vo,Vp,Vp];unfold wS GO xj xi;constructor
 ·grind
 simp_all
theorem Vz (hp:∀ (i:Nat) (hi:i<nt.1.length),cP nt.1[i]=true) (he:∀ (i:Nat) (hi:i<nt.2.length),tV nt nt.2[i]) :
  ((∀ (i:Nat) (hi:i<nt.1.length) (k:Nat),(k:Int)<nt.1[i].1→nt.2.countP (mJ i k)=1)∧(∀ (i:Nat) (hi:i<nt.1.length) (k:Nat),(k:Int)<nt.1[i].2.1→nt.2.countP (rO i k)=1))↔
  (wS nt.2∧vq nt.2=vp nt.1):=by
 have fG:∀ p∈nt.1,0≤p.1∧0≤p.2.1:=fun p hm=>by obtain ⟨i,hi,rfl⟩:=tD.1 hm;have:=GN (hp i hi); omega
 have hI:∀ q∈nt.2.filterMap xi,q∈xk 0 nt.1:=fun q hq=>by
  obtain ⟨l,hl,e⟩:=List.mem_filterMap.1 hq;obtain ⟨i,hi,rfl⟩:=tD.1 hl;unfold xi at e;simp only [LF,aN] at e;obtain ⟨e1,rfl⟩:=e;rcases (he i hi).q_ with h | ⟨h1,h2,h3,h4⟩
  ·omega
  rw [aU (by omega)] at h4;exact (GP _ _ _).2 ⟨nt.2[i].2.2.1.toNat,by omega,nt.2[i].2.2.2.1.toNat,by omega,by grind⟩
 have hO:∀ q∈nt.2.filterMap xj,q∈xm 0 nt.1:=fun q hq=>by
  obtain ⟨l,hl,e⟩:=List.mem_filterMap.1 hq;obtain ⟨i,hi,rfl⟩:=tD.1 hl;unfold xj at e;simp only [LF,aN] at e;obtain ⟨e1,rfl⟩:=e;rcases (he i hi).out with h | ⟨h1,h2,h3,h4⟩
  ·omega
  rw [aU (by omega)] at h4;exact (GQ _ _ _).2 ⟨nt.2[i].1.toNat,by omega,nt.2[i].2.1.toNat,by omega,by grind⟩
 have fI:=UC (Vv nt.1 0) hI;have fO:=UC (Vw nt.1 0) hO;have aI:(∀ (i:Nat) (hi:i<nt.1.length) (k:Nat),(k:Int)<nt.1[i].1→nt.2.countP (mJ i k)=1)↔(∀ q∈xk 0 nt.1,(nt.2.filterMap xi).count q=1):=by
  constructor
  ·intro h q hq;obtain ⟨j,hj,k,hk,rfl⟩:=(GP _ _ _).1 hq;rw [OE _ _ (by omega)]
   grind
  intro h i hi k hk;rw [← OE _ _ (by omega)];exact h _ ((GP _ _ _).2 ⟨i,hi,k,by omega,by simp⟩)
 have aO:(∀ (i:Nat) (hi:i<nt.1.length) (k:Nat),(k:Int)<nt.1[i].2.1→nt.2.countP (rO i k)=1)↔(∀ q∈xm 0 nt.1,(nt.2.filterMap xj).count q=1):=by
  constructor
  ·intro h q hq;obtain ⟨j,hj,k,hk,rfl⟩:=(GQ _ _ _).1 hq;rw [OF _ _ (by omega)]
   grind
  intro h i hi k hk;rw [← OF _ _ (by omega)];exact h _ ((GQ _ _ _).2 ⟨i,hi,k,by omega,by simp⟩)
 rw [aI,aO,fI,fO,ad1,Vy,Vx nt.1 0 fG];constructor
 ·rintro ⟨⟨h1,h2⟩,h3,h4⟩;refine ⟨⟨h3,h1⟩,?_⟩;have:=Gp h1 hI;have:=Gp h3 hO;omega
 rintro ⟨⟨h1,h2⟩,h3⟩;have:=Gp h2 hI;have:=Gp h1 hO
 grind
theorem VA:∀ (ps:List Program) (i:Nat) (hi:i<ps.length),vp (ps.take (i+1))=vp (ps.take i)+(ps[i].1+ps[i].2.1)
 | [],i,hi=>absurd hi (by simp)
 | p::ps,0,hi=>by simp [vp]
 | p::ps,i+1,hi=>by have:=VA ps i (by grind);simp only [Vq,vp,FI] at this ⊢;omega
theorem VB:∀ (ls:List aK) (i:Nat) (hi:i<ls.length),vq (ls.take (i+1))=vq (ls.take i)+((if 0≤ls[i].1 then 1 else 0)+(if 0≤ls[i].2.2.1 then 1 else 0))
 | [],i,hi=>absurd hi (by simp)
 | p::ls,0,hi=>by simp [vq]
 | p::ls,i+1,hi=>by have:=VB ls i (by grind);simp only [Vq,vq,FI] at this ⊢;omega
theorem tW {n:Nat} {nt:ak} (h:cL nt) (hn:1048576<n):dS.f n nt=some (cr nt,()):=by
 have hp:=h.dZ
 have hl:=h.dp
 unfold dS.f cr
 refine w8 ?_
 refine re (decide (12<nt.1.length∨30<nt.2.length),()) ?_ ?_
 ·by_cases a:12<nt.1.length
  ·simp [br,show (12:Int)<(nt.1.length:Int) by omega,a]
  ·simp [br,show ¬ (12:Int)<(nt.1.length:Int) by omega,a,show (30:Int)<(nt.2.length:Int)↔30<nt.2.length by omega]
 rw [cZ]
 refine ⟨fun a=>?_,fun a=>?_⟩
 ·simp only [ao,fM,false_iff]
  intro o; have:=o.dZ; have:=o.dp; omega
 have a1:nt.1.length≤12:=by omega
 have a2:nt.2.length≤30:=by omega
 refine gu (fun i (s:Int)=>(s,(i:Int),())) nt.1.length (fun i s=>(∀ j (hj:j<nt.1.length),j<i→cP nt.1[j]=true)∧s=vp (nt.1.take i)∧0≤s∧s≤6*(i:Int))
  rfl ⟨by intros; omega,by simp [vp],by omega,by omega⟩ (by omega) (fun ih s hI=>?_) (fun ih i s hi hI hS=>?_)
 rotate_left
 ·have h1:(i:Int)<(nt.1.length:Int):=by omega
  simp only [h1,decide_true,ax,az,aU hi]
  rw [af (by first | (simp; done) | omega),GL (h.prog _ (bV hi)) hn,aA,ba (by omega)]
  obtain ⟨i1,i2,i3,i4⟩:=hI
  cases bK:cP nt.1[i] with
  | false=>
   simp only [Bool.not_false,ax,ao,fM,false_iff]
   intro o; have:=o.prog i hi; simp [bK] at this
  | true=>
   obtain ⟨p1,p2,p3,p4⟩:=GN bK
   simp only [bo,aw]
   rw [bM (n:=nt.1[i].1+nt.1[i].2.1) (by omega) (by omega),bM (by omega) (by omega)]
   refine hS _ ⟨fun j hj iQ=>?_,by rw [VA _ _ hi,i2],by omega,by push_cast; omega⟩
   rcases s9 (A7 iQ) with e | e
   ·exact i1 j hj e
   ·subst e; exact bK
 obtain ⟨xh,hs,p7,I7⟩:=hI
 have xh:∀ (i:Nat) (hi:i<nt.1.length),cP nt.1[i]=true:=fun i hi=>xh i hi hi
 rw [List.take_length] at hs
 simp only [bH,decide_false,aw]
 refine gu (fun i (s:Int)=>(s,(i:Int),())) nt.2.length (fun i s=>(∀ j (hj:j<nt.2.length),j<i→tV nt nt.2[j]∧bX nt.2[j].2.2.2.2=true∧∀ k (hk:k<j),GO nt.2[j] nt.2[k]=false)∧s=vq (nt.2.take i)∧0≤s∧s≤2*(i:Int))
  rfl ⟨by intros; omega,by simp [vq],by omega,by omega⟩ (by omega) (fun ih s' hI=>?_) (fun ih i s' hi hI hS=>?_)
 ·obtain ⟨i1,i2,i3,i4⟩:=hI
  rw [List.take_length] at i2
  simp only [bH,decide_false,aw,ao,decide_eq_true_eq]
  have key:=Vz xh (fun i hi=>(i1 i hi hi).1)
  constructor
  ·intro e
   obtain ⟨k1,k2⟩:=key.2 ⟨fun i j hi hj=>(i1 i hi hi).2.2 j hj,by rw [← i2,e,hs]⟩
   exact ⟨a1,a2,xh,fun i hi=>(i1 i hi hi).1,fun i hi=>(i1 i hi hi).2.1,k1,k2⟩
  ·intro o
   have:=(key.1 ⟨o.ins,o.outs⟩).2
   rw [i2,hs,this]
 ·obtain ⟨i1,i2,i3,i4⟩:=hI
  have h1:(i:Int)<(nt.2.length:Int):=by omega
  simp only [h1,decide_true,ax,az,aU hi]
  rw [af (by first | (simp; done) | omega)]
  have hgp:∀ j:Int,0≤j→j<(nt.1.length:Int)→nt.1.getD j.toNat bf=nt.1.getD j.toNat bf:=fun _ _ _=>rfl
  have bad:¬ tV nt nt.2[i]→(false=true↔cQ nt):=fun hb=>by simp only [fM,false_iff]; exact fun o=>hb (o.ends i hi)
  generalize jY:nt.2[i]=l at *
  refine re (decide (l.1 = -1∧l.2.1=0),decide (l.2.2.1 = -1∧l.2.2.2.1=0),()) ?_ ?_
  ·by_cases a:l.1 = -1<;>by_cases b:l.2.2.1 = -1<;>simp [a,b,br]
  refine re (decide (qn nt l),()) ?_ ?_
  ·unfold qn
   by_cases a:0≤l.1<;>by_cases b:l.1<(nt.1.length:Int)<;>by_cases c:0≤l.2.1<;>simp [a,b,c,br,ab]
  by_cases jV:l.1 = -1∧l.2.1=0∨qn nt l
  rotate_left
  ·simp only [not_or] at jV
   refine UD (false,()) ?_ (bad (fun o=>by rcases o.out with h | h; exact jV.1 h; exact jV.2 h))
   simp [jV.1,jV.2,br]
  refine re (s'+(if 0≤l.1 then 1 else 0),()) ?_ ?_
  ·rcases jV with ⟨o1,o2⟩ | o
   ·have:¬ qn nt l:=fun h=>by unfold qn at h; omega
    simp [this,o1,o2,br]
   ·have:0≤l.1:=o.1
    simp only [o,decide_true,ax,this,if_true]
    rw [bM (by omega) (by omega)]
  refine re (decide (tU nt l),()) ?_ ?_
  ·unfold tU
   by_cases a:0≤l.2.2.1<;>by_cases b:l.2.2.1<(nt.1.length:Int)<;>by_cases c:0≤l.2.2.2.1<;>simp [a,b,c,br,ab]
  by_cases cU:l.2.2.1 = -1∧l.2.2.2.1=0∨tU nt l
  rotate_left
  ·simp only [not_or] at cU
   refine UD (false,()) ?_ (bad (fun o=>by rcases o.q_ with h | h; exact cU.1 h; exact cU.2 h))
   simp [cU.1,cU.2,br]
  refine re (s'+(if 0≤l.1 then 1 else 0)+(if 0≤l.2.2.1 then 1 else 0),()) ?_ ?_
  ·rcases cU with ⟨o1,o2⟩ | o
   ·have:¬ tU nt l:=fun h=>by unfold tU at h; omega
    simp [this,o1,o2,br]
   ·have:0≤l.2.2.1:=o.1
    simp only [o,decide_true,ax,this,if_true]
    rw [bM (by split<;>omega) (by split<;>omega)]
  have dK:bX l.2.2.2.2=bX l.2.2.2.2:=rfl
  refine re (decide (l.1 = -1∧l.2.2.1 = -1)||!(bX l.2.2.2.2),()) ?_ ?_
  ·rw [vo (by rw [← jY]; exact (h.link _ (bV hi)).tokens) hn]
   have n1:(l.1 = -1∧l.2.1=0)↔l.1 = -1:=⟨fun h=>h.1,fun h=>by rcases jV with o | o; exact o; have:=o.1; omega⟩
   have n2:(l.2.2.1 = -1∧l.2.2.2.1=0)↔l.2.2.1 = -1:=⟨fun h=>h.1,fun h=>by rcases cU with o | o; exact o; have:=o.1; omega⟩
   simp only [n1,n2,aA]
   by_cases a:l.1 = -1<;>by_cases b:l.2.2.1 = -1<;>simp [a,b,br]
  rw [cC]
  refine ⟨fun hb=>?_,fun hb=>?_⟩
  ·simp only [ao,fM,false_iff]
   intro o
   simp only [rM,decide_eq_true_eq,Bool.not_eq_true'] at hb
   rcases hb with hb | hb
   ·have:=(o.ends i hi).one; rw [jY] at this; exact this hb
   ·have:=o.j7 i hi; rw [jY,hb] at this; simp at this
  simp only [oW,decide_eq_false_iff_not,Bool.not_eq_false'] at hb
  obtain ⟨qY,hs5⟩:=hb
  have RI:tV nt l:=⟨jV,cU,qY⟩
  rw [af (by first | (simp; done) | omega)]
  simp only [List.drop_zero]
  have aF:(nt.2.take i).length=i:=by simp; omega
  refine o5 (bad:=some (false,())) (nt.2.take i).length (fun k=>!(GO l ((nt.2.take i).getD k ay))) (fun ih k hk=>?_) (fun ih=>au (bH _)) (by omega) (fun fx=>?_) (fun k hk hb=>?_)
  ·have h1:(k:Int)<((nt.2.take i).length:Int):=by omega
   simp only [h1,decide_true,ax,az,aU hk]
   rw [af (by first | (simp; done) | omega),ba (by omega)]
   unfold GO
   generalize (nt.2.take i)[k]=m
   by_cases c1:0≤l.1<;>by_cases c2:m.1=l.1<;>by_cases c3:m.2.1=l.2.1<;>by_cases c4:0≤l.2.2.1<;>by_cases c5:m.2.2.1=l.2.2.1<;>by_cases c6:m.2.2.2.1=l.2.2.2.1<;>
    simp only [c1,c2,c3,c4,c5,c6,decide_true,decide_false,ax,aw,Bool.and_true,lF,Bool.and_false,Bool.false_and,Bool.or_true,Bool.or_false,Bool.true_or,Bool.false_or,bo,Bool.not_false,if_true,if_false,fM]
  ·rw [ba (by omega)]
   refine hS _ ⟨fun j hj iQ=>?_,by rw [VB _ _ hi,i2,jY]; omega,by split<;>split<;>omega,by split<;>split<;>push_cast<;>omega⟩
   rcases s9 (A7 iQ) with e | e
   ·exact i1 j hj e
   ·subst e
    refine ⟨by rw [jY]; exact RI,by rw [jY]; exact hs5,fun k hk=>?_⟩
    have:=fx k (by omega)
    rw [aU (by omega)] at this
    simpa [jY] using this
  ·simp only [ao,fM,false_iff]
   intro o
   have:=((Vz xh o.ends).1 ⟨o.ins,o.outs⟩).1 i k hi (by omega)
   rw [aU hk] at hb
   rw [jY] at this
   simp [this] at hb
end Go.AmT
namespace Go.AmT
open Go.Proofs Go.Proofs.Tryz
def zy.f (n:Nat) (a0:ak) (a1:List Int):Option (Bool×Unit):=cut ((eO.f n a0).bind fun r3=>br (!r3.1) (some (.inr (true,()))) (some (.inr (!decide ((a1.length:Int)=(a0.2.length:Int)),())))) fun y2=>br y2.1 (some (false,())) (iter n (fun oa bT=>br (decide (bT.1<(a1.length:Int))) (ab (0≤bT.1∧bT.1<(a1.length:Int)) (ab (0≤bT.1∧bT.1<(a0.2.length:Int)) (let v12:=(a0.2.getD bT.1.toNat ay); (ch.f n (a1.getD bT.1.toNat 0) (v12.2.2.2.2.length:Int) 400).bind fun fD=>br (!fD.1) (some (false,())) (oa (ag (bT.1+1),()))))) (some (true,()))) (0,()))
def zy.ae (n:Nat):ar:=⟨[.val bZ,.val IS],[.val .bool],fun x=>zy.f n x.1 x.2.1⟩
theorem zy.ok (n:Nat):aH 118 (zy.ae n):=aJ n [(1,⟨[(17,.bool)],[],[1,2],[]⟩),(6,⟨[(20,.int .i64)],[],[2,18,19],[]⟩)] [] (ai ⟨eO.sound n,eO.av⟩ (ai ⟨ch.sound n,ch.av⟩ aC)) aD func118
def vt.f (n:Nat) (a0:ak) (a1:List Int):Option (Bool×Unit):=cut ((dS.f n a0).bind fun r3=>br (!r3.1) (some (.inr (true,()))) (some (.inr (!decide ((a1.length:Int)=(a0.2.length:Int)),())))) fun y2=>br y2.1 (some (false,())) (iter n (fun oc x9=>br (decide (x9.1<(a1.length:Int))) (ab (0≤x9.1∧x9.1<(a1.length:Int)) (ab (0≤x9.1∧x9.1<(a0.2.length:Int)) (let v11:=(a0.2.getD x9.1.toNat ay); br (decide ((a1.getD x9.1.toNat 0)<(v11.2.2.2.2.length:Int))) (some (false,())) (br (decide (400<(a1.getD x9.1.toNat 0))) (some (false,())) (oc (ag (x9.1+1),())))))) (some (true,()))) (0,()))
def vt.ae (n:Nat):ar:=⟨[.val bZ,.val IS],[.val .bool],fun x=>vt.f n x.1 x.2.1⟩
theorem vt.ok (n:Nat):aH 84 (vt.ae n):=aJ n [(1,⟨[(17,.bool)],[],[1,2],[]⟩),(6,⟨[(20,.int .i64)],[],[2,18,19],[]⟩)] [] (ai ⟨dS.sound n,dS.av⟩ aC) aD func84
end Go.AmT
namespace Go.AmT
def eQ (ls:List aK) (caps:List Int):Bool:=decide (caps.length=ls.length)&&(bD caps.length).all fun i=>decide (((ls.getD i ay).2.2.2.2.length:Int)≤caps.getD i 0)&&decide (caps.getD i 0≤400)
theorem ad2 {α:Type} (v m k:Int) {x y:Option α} : br (decide (v<m)) x (br (decide (k<v)) x y)=if (decide (m≤v)&&decide (v≤k))=true then y else x:=by
 by_cases a:m≤v<;>by_cases b:v≤k
 ·simp [br,a,b,show ¬ v<m by omega,show ¬ k<v by omega]
 ·simp [br,a,b,show ¬ v<m by omega,show k<v by omega]
 ·simp [br,a,b,show v<m by omega]
 simp [br,a,b,show v<m by omega]
theorem ad3 {n:Nat} {nt:ak} {caps:List Int} (h:cL nt) (hc:caps.length≤1048576) (hn:1048576<n):zy.f n nt caps=some (cr nt&&eQ nt.2 caps,()):=by
 have hl:=h.dp;unfold zy.f;rw [sb h hn,aA];cases bK:cr nt with
 | false=>simp [br,cut]
 | true=>
  by_cases hlen:caps.length=nt.2.length
  ·have hle:(caps.length:Int)=(nt.2.length:Int):=by omega
   simp only [bo,aw,hle,decide_true,bg,lF,eQ,hlen];refine eM.1 (o5 (bad:=some (false,())) nt.2.length (fun i=>decide (((nt.2.getD i ay).2.2.2.2.length:Int)≤caps.getD i 0)&&decide (caps.getD i 0≤400)) (fun ih i hi=>?_) (fun ih=>au (bH _)) (by omega) (fun bK=>?_) (fun i hi hb=>?_))
   ·have h1:(i:Int)<(nt.2.length:Int):=by omega
    simp only [h1,decide_true,ax,az,n_,aA];rw [af (by simp),af (by simp),ba (by omega),zq]
   ·rw [ao]
    grind
   rw [ao]
   grind
  have hle:¬ ((caps.length:Int)=(nt.2.length:Int)):=by omega
  simp [hle,eQ,hlen,br,cut]
theorem OG {n:Nat} {nt:ak} {caps:List Int} (h:cL nt) (hc:caps.length≤1048576) (hn:1048576<n):vt.f n nt caps=some (cr nt&&eQ nt.2 caps,()):=by
 have hl:=h.dp;unfold vt.f;rw [tW h hn,aA];cases bK:cr nt with
 | false=>simp [br,cut]
 | true=>
  by_cases hlen:caps.length=nt.2.length
  ·have hle:(caps.length:Int)=(nt.2.length:Int):=by omega
   simp only [bo,aw,hle,decide_true,bg,lF,eQ,hlen];refine eM.1 (o5 (bad:=some (false,())) nt.2.length (fun i=>decide (((nt.2.getD i ay).2.2.2.2.length:Int)≤caps.getD i 0)&&decide (caps.getD i 0≤400)) (fun ih i hi=>?_) (fun ih=>au (bH _)) (by omega) (fun bK=>?_) (fun i hi hb=>?_))
   ·have h1:(i:Int)<(nt.2.length:Int):=by omega
    simp only [h1,decide_true,ax,az];rw [af (by simp),af (by simp),ba (by omega)];exact ad2 _ _ _
   ·rw [ao]
    grind
   rw [ao]
   grind
  have hle:¬ ((caps.length:Int)=(nt.2.length:Int)):=by omega
  simp [hle,eQ,hlen,br,cut]
end Go.AmT
