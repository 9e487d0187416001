/- Networks, in plain Lean: both programs tell the same networks valid. -/
import Derived.Test.YtfoamipegmbcgaaGreatDoorMKpF0
import Derived.Test.YtfoamipegmbcgaaGreatDoorAmE
namespace Go.AmT
noncomputable section
open Go Go.Am
set_option linter.unusedVariables false
set_option linter.unusedSimpArgs false
def kI (p k:Int) (l:aG):Bool:=decide (l.2.2.1=p)&&decide (l.2.2.2.1=k)
def lD (p k:Int) (l:aG):Bool:=decide (l.1=p)&&decide (l.2.1=k)
def n_ (nt:ai) (l:aG):Prop:=0≤l.1∧l.1<(nt.1.length:Int)∧0≤l.2.1∧l.2.1<(nt.1.getD l.1.toNat bp).2.1
def pB (nt:ai) (l:aG):Prop:=0≤l.2.2.1∧l.2.2.1<(nt.1.length:Int)∧0≤l.2.2.2.1∧l.2.2.2.1<(nt.1.getD l.2.2.1.toNat bp).1
structure pC (nt:ai) (l:aG):Prop where
 out:l.1 = -1∧l.2.1=0∨n_ nt l
 ng:l.2.2.1 = -1∧l.2.2.2.1=0∨pB nt l
 one:¬ (l.1 = -1∧l.2.2.1 = -1)
structure cM (nt:ai):Prop where
 ew:nt.1.length≤12
 dt:nt.2.length≤30
 prog:∀ (i:Nat) (hi:i<nt.1.length),cr nt.1[i]=true
 ends:∀ (i:Nat) (hi:i<nt.2.length),pC nt nt.2[i]
 gQ:∀ (i:Nat) (hi:i<nt.2.length),bG nt.2[i].2.2.2.2=true
 ins:∀ (i:Nat) (hi:i<nt.1.length) (k:Nat),(k:Int)<nt.1[i].1→nt.2.countP (kI i k)=1
 outs:∀ (i:Nat) (hi:i<nt.1.length) (k:Nat),(k:Int)<nt.1[i].2.1→nt.2.countP (lD i k)=1
instance (nt:ai):Decidable (cM nt):=Classical.propDecidable _
instance (nt:ai) (l:aG):Decidable (pC nt l):=Classical.propDecidable _
instance (nt:ai) (l:aG):Decidable (n_ nt l):=by unfold n_; exact inferInstance
instance (nt:ai) (l:aG):Decidable (pB nt l):=by unfold pB; exact inferInstance
def cy (nt:ai):Bool:=decide (cM nt)
theorem BH {p:Program} (h:cr p=true):0≤p.1∧p.1≤3∧0≤p.2.1∧p.2.1≤3:=by
 unfold cr at h
 simp only [Bool.and_eq_true,decide_eq_true_eq] at h
 omega
theorem My {n:Nat} {nt:ai} (hl:nt.2.length≤1048576) (hn:1048576<n) (p k:Int):jO.f n nt p k=some (lx (kI p k) nt.2,()):=by
 unfold jO.f
 refine LR nt.2 (kI p k) (fun ih i hi at'=>?_) (fun ih at'=>by simp [br]) (by omega)
 have h1:(i:Int)<(nt.2.length:Int):=by omega
 simp only [h1,decide_true,aL,Int.toNat_natCast,aH hi]
 rw [ah (by simp),bm (by omega)]
 unfold kI
 by_cases h1:nt.2[i].2.2.1=p
 ·simp only [h1,decide_true,aL,bF,Bool.true_and]
  rw [nY,nY]; simp
 ·simp [h1,br,bF]
theorem Mz {n:Nat} {nt:ai} (hl:nt.2.length≤1048576) (hn:1048576<n) (p k:Int):jP.f n nt p k=some (lx (lD p k) nt.2,()):=by
 unfold jP.f
 refine LR nt.2 (lD p k) (fun ih i hi at'=>?_) (fun ih at'=>by simp [br]) (by omega)
 have h1:(i:Int)<(nt.2.length:Int):=by omega
 simp only [h1,decide_true,aL,Int.toNat_natCast,aH hi]
 rw [ah (by simp),bm (by omega)]
 unfold lD
 by_cases h1:nt.2[i].1=p
 ·simp only [h1,decide_true,aL,bF,Bool.true_and]
  rw [nY,nY]; simp
 ·simp [h1,br,bF]
theorem MA {α:Type} {f:α→Bool} {ls:List α} : lx f ls<0↔ls.countP f≠1:=by
 unfold lx
 split
 ·rename_i h; rw [h]; simp
 ·split
  ·rename_i h; rw [h]; simp
  ·rename_i h; simp [h]
theorem Vg {n:Nat} {nt:ai} (h1:nt.1.length≤12) (hp:∀ (i:Nat) (hi:i<nt.1.length),cr nt.1[i]=true) (l:aG):lz.f n nt l=some (decide (pC nt l),()):=by
 have hw:ag ((nt.1.length:Int)-1)=(nt.1.length:Int)-1:=bo (by omega) (by omega)
 have ze:∀ i:Int,0≤i→i<(nt.1.length:Int)→0≤(nt.1.getD i.toNat bp).1∧(nt.1.getD i.toNat bp).1≤3∧0≤(nt.1.getD i.toNat bp).2.1∧(nt.1.getD i.toNat bp).2.1≤3:=by
  intro i h0 h1
  rw [aH (by omega)]
  exact BH (hp _ _)
 unfold lz.f
 simp only [sF,Option.bind_some,hw]
 refine uz ?_
 refine ni ((decide (l.1 = -1)&&decide (l.2.2.1 = -1))||(!(decide (-1≤l.1)&&decide (l.1≤(nt.1.length:Int)-1))||!(decide (-1≤l.2.2.1)&&decide (l.2.2.1≤(nt.1.length:Int)-1))),()) ?_ ?_
 ·generalize decide (l.1 = -1)=a
  generalize decide (l.2.2.1 = -1)=b
  generalize (decide (-1≤l.1)&&decide (l.1≤(nt.1.length:Int)-1))=c
  generalize (decide (-1≤l.2.2.1)&&decide (l.2.2.1≤(nt.1.length:Int)-1))=d
  cases a<;>cases b<;>cases c<;>cases d<;>rfl
 ·rw [bH]
  refine ⟨fun hb=>?_,fun hb=>?_⟩
  ·simp only [aj,Bool.false_eq_true,false_iff]
   intro o
   simp only [Bool.or_eq_true,Bool.and_eq_true,Bool.not_eq_true',Bool.and_eq_false_iff,decide_eq_true_eq,decide_eq_false_iff_not] at hb
   rcases o.out with ⟨o1,o2⟩ | ⟨o1,o2,o3,o4⟩<;>rcases o.ng with ⟨i1,i2⟩ | ⟨i1,i2,i3,i4⟩<;>first | exact o.one ⟨o1,i1⟩ | omega
  ·simp only [Bool.or_eq_false_iff,Bool.not_eq_false',Bool.and_eq_true,Bool.and_eq_false_iff,decide_eq_true_eq,decide_eq_false_iff_not] at hb
   obtain ⟨b0,b2,b3⟩:=hb
   have b1:¬ (l.1 = -1∧l.2.2.1 = -1):=by omega
   refine ni (if 0≤l.1 then (nt.1.getD l.1.toNat bp).2.1 else 1,()) ?_ ?_
   ·rw [nY]
    by_cases h:0≤l.1
    ·rw [if_pos (decide_eq_true h),if_pos h]; exact ah ⟨h,by omega⟩
    ·rw [if_neg (by simpa using h),if_neg h]
   refine ni (if 0≤l.2.2.1 then (nt.1.getD l.2.2.1.toNat bp).1 else 1,()) ?_ ?_
   ·rw [nY]
    by_cases h:0≤l.2.2.1
    ·rw [if_pos (decide_eq_true h),if_pos h]; exact ah ⟨h,by omega⟩
    ·rw [if_neg (by simpa using h),if_neg h]
   have e1:ag ((if 0≤l.1 then (nt.1.getD l.1.toNat bp).2.1 else 1)-1)=(if 0≤l.1 then (nt.1.getD l.1.toNat bp).2.1 else 1)-1:=by
    split
    ·have:=ze l.1 (by omega) (by omega); exact bo (by omega) (by omega)
    ·rfl
   have e2:ag ((if 0≤l.2.2.1 then (nt.1.getD l.2.2.1.toNat bp).1 else 1)-1)=(if 0≤l.2.2.1 then (nt.1.getD l.2.2.1.toNat bp).1 else 1)-1:=by
    split
    ·have:=ze l.2.2.1 (by omega) (by omega); exact bo (by omega) (by omega)
    ·rfl
   simp only [e1,e2]
   have key:pC nt l↔((0≤l.2.1∧l.2.1≤(if 0≤l.1 then (nt.1.getD l.1.toNat bp).2.1 else 1)-1)∧(0≤l.2.2.2.1∧l.2.2.2.1≤(if 0≤l.2.2.1 then (nt.1.getD l.2.2.1.toNat bp).1 else 1)-1)):=by
    constructor
    ·intro o
     have o1:=o.out
     have o2:=o.ng
     unfold n_ at o1; unfold pB at o2
     split<;>split<;>omega
    ·rintro ⟨⟨k1,k2⟩,k3,k4⟩
     refine ⟨?_,?_,b1⟩
     ·unfold n_
      split at k2<;>omega
     ·unfold pB
      split at k4<;>omega
   rw [bH]
   simp only [← Bool.decide_and,aj,decide_eq_true_eq,decide_eq_false_iff_not,key]
   exact ⟨fun h=>⟨fun h'=>⟨h,h'⟩,fun h'=>h'.2⟩,fun h=>⟨fun h'=>absurd h' (by simp),fun h'=>absurd h'.1 h⟩⟩
theorem zf {n:Nat} {nt:ai} (h:cL nt) (hn:1048576<n):fo.f n nt=some (cy nt,()):=by
 have hp:=h.ew
 have hl:=h.dt
 unfold fo.f cy
 refine uz ?_
 refine ni (decide (12<nt.1.length∨30<nt.2.length),()) ?_ ?_
 ·by_cases a:12<nt.1.length
  ·simp [br,show (12:Int)<(nt.1.length:Int) by omega,a]
  ·simp [br,show ¬ (12:Int)<(nt.1.length:Int) by omega,a,show (30:Int)<(nt.2.length:Int)↔30<nt.2.length by omega]
 rw [bI]
 refine ⟨fun a=>?_,fun a=>?_⟩
 ·simp only [aj,Bool.false_eq_true,false_iff]
  intro o; have:=o.ew; have:=o.dt; omega
 have a1:nt.1.length≤12:=by omega
 have a2:nt.2.length≤30:=by omega
 refine mi (bad:=some (false,())) nt.1.length (fun i=>cr (nt.1.getD i bp)) (fun ih i hi=>?_) (fun ih=>aK (Int.lt_irrefl _)) (by omega) (fun bb=>?_) (fun i hi hb=>?_)
 ·have h1:(i:Int)<(nt.1.length:Int):=by omega
  simp only [h1,decide_true,aL,Int.toNat_natCast,aH hi]
  rw [ah (by first | (simp; done) | omega),HD (h.prog _ (List.getElem_mem hi)) hn,Option.bind_some,wY,bm (by omega)]
 rotate_left
 ·simp only [aj,Bool.false_eq_true,false_iff]
  intro o; have:=o.prog i hi; rw [aH hi] at hb; simp [hb] at this
 have sG:∀ (i:Nat) (hi:i<nt.1.length),cr nt.1[i]=true:=fun i hi=>by have:=bb i hi; rwa [aH hi] at this
 refine mi (bad:=some (false,())) nt.2.length (fun i=>decide (pC nt (nt.2.getD i aM))&&bG (nt.2.getD i aM).2.2.2.2) (fun ih i hi=>?_) (fun ih=>aK (Int.lt_irrefl _)) (by omega) (fun bb=>?_) (fun i hi hb=>?_)
 ·have h1:(i:Int)<(nt.2.length:Int):=by omega
  simp only [h1,decide_true,aL,Int.toNat_natCast,aH hi]
  rw [ah (by first | (simp; done) | omega),Vg a1 sG,Option.bind_some,BG (h.link _ (List.getElem_mem hi)).tokens hn,Option.bind_some,bm (by omega)]
  cases decide (pC nt nt.2[i])<;>cases bG nt.2[i].2.2.2.2<;>rfl
 rotate_left
 ·simp only [aj,Bool.false_eq_true,false_iff]
  intro o; have o1:=o.ends i hi; have o2:=o.gQ i hi; rw [aH hi] at hb; simp [o1,o2] at hb
 have MB:∀ (i:Nat) (hi:i<nt.2.length),pC nt nt.2[i]∧bG nt.2[i].2.2.2.2=true:=fun i hi=>by have:=bb i hi; rw [aH hi] at this; simpa using this
 refine fA (fun i (s:Unit)=>((i:Int),())) nt.1.length (fun i _=>∀ j (hj:j<nt.1.length),j<i→(∀ k:Nat,(k:Int)<nt.1[j].1→nt.2.countP (kI j k)=1)∧(∀ k:Nat,(k:Int)<nt.1[j].2.1→nt.2.countP (lD j k)=1))
  (s0:=()) rfl (by intros; omega) (by omega) (fun ih s hI=>?_) (fun ih i s hi hI hS=>?_)
 ·simp only [Int.lt_irrefl,decide_false,aF,aj,true_iff]
  exact ⟨a1,a2,sG,fun i hi=>(MB i hi).1,fun i hi=>(MB i hi).2,fun i hi k hk=>(hI i hi hi).1 k hk,fun i hi k hk=>(hI i hi hi).2 k hk⟩
 ·have h1:(i:Int)<(nt.1.length:Int):=by omega
  obtain ⟨p1,p2,p3,p4⟩:=BH (sG i hi)
  simp only [h1,decide_true,aL,Int.toNat_natCast,aH hi]
  rw [ah (by first | (simp; done) | omega)]
  refine mi (bad:=some (false,())) nt.1[i].1.toNat (fun k=>decide (nt.2.countP (kI i k)=1)) (fun ih k hk=>?_) (fun ih=>aK (show ¬ (((nt.1[i].1.toNat:Nat):Int)<nt.1[i].1) by omega)) (by omega) (fun Vh=>?_) (fun k hk hb=>?_)
  ·have h1:(k:Int)<nt.1[i].1:=by omega
   simp only [h1,decide_true,aL]
   rw [My (by omega) hn,Option.bind_some,bm (by omega),nY]
   simp only [decide_eq_true_eq,MA]
   by_cases hc:nt.2.countP (kI i k)=1<;>simp [hc]
  ·refine mi (bad:=some (false,())) nt.1[i].2.1.toNat (fun k=>decide (nt.2.countP (lD i k)=1)) (fun ih k hk=>?_) (fun ih=>aK (show ¬ (((nt.1[i].2.1.toNat:Nat):Int)<nt.1[i].2.1) by omega)) (by omega) (fun G8=>?_) (fun k hk hb=>?_)
   ·have h1:(k:Int)<nt.1[i].2.1:=by omega
    simp only [h1,decide_true,aL]
    rw [Mz (by omega) hn,Option.bind_some,bm (by omega),nY]
    simp only [decide_eq_true_eq,MA]
    by_cases hc:nt.2.countP (lD i k)=1<;>simp [hc]
   ·rw [bm (by omega)]
    refine hS () (fun j hj eO=>?_)
    rcases Nat.lt_or_eq_of_le (Nat.le_of_lt_succ eO) with e | e
    ·exact hI j hj e
    ·subst e
     exact ⟨fun k hk=>by simpa using Vh k (by omega),fun k hk=>by simpa using G8 k (by omega)⟩
   ·simp only [aj,Bool.false_eq_true,false_iff]
    intro o; have:=o.outs i hi k (by omega); simp [this] at hb
  ·simp only [aj,Bool.false_eq_true,false_iff]
   intro o; have:=o.ins i hi k (by omega); simp [this] at hb
def BI (l k:aG):Bool:=(decide (0≤l.1)&&(decide (k.1=l.1)&&decide (k.2.1=l.2.1)))||(decide (0≤l.2.2.1)&&(decide (k.2.2.1=l.2.2.1)&&decide (k.2.2.2.1=l.2.2.2.1)))
def sH (l:aG):Option (Int×Int):=if 0≤l.2.2.1 then some (l.2.2.1,l.2.2.2.1) else none
def sI (l:aG):Option (Int×Int):=if 0≤l.1 then some (l.1,l.2.1) else none
def sJ:Nat→List Program→List (Int×Int)
 | _,[]=>[]
 | i,p::ps=>((List.range p.1.toNat).map fun k:Nat=>((i:Int),(k:Int)))++sJ (i+1) ps
def sK:Nat→List Program→List (Int×Int)
 | _,[]=>[]
 | i,p::ps=>((List.range p.2.1.toNat).map fun k:Nat=>((i:Int),(k:Int)))++sK (i+1) ps
theorem BJ:∀ (ps:List Program) (i:Nat) (q:Int×Int),q∈sJ i ps↔∃ (j:Nat) (hj:j<ps.length) (k:Nat),k<ps[j].1.toNat∧q=(((i+j:Nat):Int),(k:Int))
 | [],i,q=>by simp [sJ]
 | p::ps,i,q=>by
  simp only [sJ,List.mem_append,List.mem_map,List.mem_range,BJ ps]
  constructor
  ·rintro (⟨k,hk,rfl⟩ | ⟨j,hj,k,hk,rfl⟩)
   ·exact ⟨0,by simp,k,by simpa using hk,by simp⟩
   ·exact ⟨j+1,by simp; omega,k,by simpa using hk,by rw [show i+1+j=i+(j+1) by omega]⟩
  ·rintro ⟨j,hj,k,hk,rfl⟩
   cases j with
   | zero=>exact .inl ⟨k,by simpa using hk,by simp⟩
   | succ j=>exact .inr ⟨j,by simpa using hj,k,by simpa using hk,by rw [show i+1+j=i+(j+1) by omega]⟩
theorem BK:∀ (ps:List Program) (i:Nat) (q:Int×Int),q∈sK i ps↔∃ (j:Nat) (hj:j<ps.length) (k:Nat),k<ps[j].2.1.toNat∧q=(((i+j:Nat):Int),(k:Int))
 | [],i,q=>by simp [sK]
 | p::ps,i,q=>by
  simp only [sK,List.mem_append,List.mem_map,List.mem_range,BK ps]
  constructor
  ·rintro (⟨k,hk,rfl⟩ | ⟨j,hj,k,hk,rfl⟩)
   ·exact ⟨0,by simp,k,by simpa using hk,by simp⟩
   ·exact ⟨j+1,by simp; omega,k,by simpa using hk,by rw [show i+1+j=i+(j+1) by omega]⟩
  ·rintro ⟨j,hj,k,hk,rfl⟩
   cases j with
   | zero=>exact .inl ⟨k,by simpa using hk,by simp⟩
   | succ j=>exact .inr ⟨j,by simpa using hj,k,by simpa using hk,by rw [show i+1+j=i+(j+1) by omega]⟩
theorem MC (i m:Nat):((List.range m).map fun k:Nat=>((i:Int),(k:Int))).Nodup:=by
 unfold List.Nodup
 rw [List.pairwise_map]
 refine List.Pairwise.imp ?_ (List.nodup_range (n:=m))
 intro a b h e
 simp only [Prod.mk.injEq,true_and] at e
 omega
theorem MD:∀ (ps:List Program) (i:Nat),(sJ i ps).Nodup
 | [],i=>List.nodup_nil
 | p::ps,i=>by
  refine List.nodup_append.2 ⟨MC i _,MD ps (i+1),fun a ha b hb e=>?_⟩
  subst e
  obtain ⟨k,_,rfl⟩:=List.mem_map.1 ha
  obtain ⟨j,hj,k',_,e⟩:=(BJ ps (i+1) _).1 hb
  simp only [Prod.mk.injEq] at e
  omega
theorem ME:∀ (ps:List Program) (i:Nat),(sK i ps).Nodup
 | [],i=>List.nodup_nil
 | p::ps,i=>by
  refine List.nodup_append.2 ⟨MC i _,ME ps (i+1),fun a ha b hb e=>?_⟩
  subst e
  obtain ⟨k,_,rfl⟩:=List.mem_map.1 ha
  obtain ⟨j,hj,k',_,e⟩:=(BK ps (i+1) _).1 hb
  simp only [Prod.mk.injEq] at e
  omega
def qE:List Program→Int
 | []=>0
 | p::ps=>p.1+p.2.1+qE ps
def qF:List aG→Int
 | []=>0
 | l::ls=>(if 0≤l.1 then 1 else 0)+(if 0≤l.2.2.1 then 1 else 0)+qF ls
theorem MF:∀ (ps:List Program) (i:Nat),(∀ p∈ps,0≤p.1∧0≤p.2.1)→qE ps=((sJ i ps).length:Int)+((sK i ps).length:Int)
 | [],i,_=>rfl
 | p::ps,i,h=>by
  have h1:=h p (by simp)
  have h2:=MF ps (i+1) (fun q hq=>h q (by simp [hq]))
  simp only [qE,sJ,sK,List.length_append,List.length_map,List.length_range,h2]
  omega
theorem MG:∀ ls:List aG,qF ls=((ls.filterMap sI).length:Int)+((ls.filterMap sH).length:Int)
 | []=>rfl
 | l::ls=>by
  have:=MG ls
  simp only [qF,List.filterMap_cons,this]
  unfold sI sH
  by_cases h1:0≤l.1<;>by_cases h2:0≤l.2.2.1<;>simp [h1,h2]<;>omega
theorem HE (p k:Int) (hp:0≤p):∀ ls:List aG,(ls.filterMap sH).count (p,k)=ls.countP (kI p k)
 | []=>rfl
 | l::ls=>by
  have:=HE p k hp ls
  rw [List.filterMap_cons,List.countP_cons,← this]
  unfold sH kI
  by_cases h1:0≤l.2.2.1
  ·simp only [h1,if_true,List.count_cons]
   by_cases h2:l.2.2.1=p<;>by_cases h3:l.2.2.2.1=k<;>simp [h2,h3]
  ·have:¬ (l.2.2.1=p):=by omega
   simp [h1,this]
theorem HF (p k:Int) (hp:0≤p):∀ ls:List aG,(ls.filterMap sI).count (p,k)=ls.countP (lD p k)
 | []=>rfl
 | l::ls=>by
  have:=HF p k hp ls
  rw [List.filterMap_cons,List.countP_cons,← this]
  unfold sI lD
  by_cases h1:0≤l.1
  ·simp only [h1,if_true,List.count_cons]
   by_cases h2:l.1=p<;>by_cases h3:l.2.1=k<;>simp [h2,h3]
  ·have:¬ (l.1=p):=by omega
   simp [h1,this]
def sc (ls:List aG):Prop:=∀ i j (hi:i<ls.length) (hj:j<i),BI ls[i] ls[j]=false
theorem Vi {ls:List aG} : sc ls↔((ls.filterMap sI).Nodup∧(ls.filterMap sH).Nodup):=by
 unfold List.Nodup
 rw [List.pairwise_filterMap,List.pairwise_filterMap,List.pairwise_iff_getElem,List.pairwise_iff_getElem]
 unfold sc BI sI sH
 constructor
 ·intro h
  refine ⟨fun i j hi hj qG b hb b' cw e=>?_,fun i j hi hj qG b hb b' cw e=>?_⟩
  ·have:=h j i hj qG
   simp only [Option.mem_def,Option.ite_none_right_eq_some,Option.some.injEq] at hb cw
   obtain ⟨b1,rfl⟩:=hb
   obtain ⟨b2,rfl⟩:=cw
   simp only [Prod.mk.injEq] at e
   simp [b2,e.1,e.2] at this
  ·have:=h j i hj qG
   simp only [Option.mem_def,Option.ite_none_right_eq_some,Option.some.injEq] at hb cw
   obtain ⟨b1,rfl⟩:=hb
   obtain ⟨b2,rfl⟩:=cw
   simp only [Prod.mk.injEq] at e
   simp [b2,e.1,e.2] at this
 ·rintro ⟨h1,h2⟩ i j hi hj
  rw [← Bool.not_eq_true]
  intro hc
  simp only [Bool.or_eq_true,Bool.and_eq_true,decide_eq_true_eq] at hc
  rcases hc with ⟨c1,c2,c3⟩ | ⟨c1,c2,c3⟩
  ·exact h1 j i (by omega) hi hj (ls[j].1,ls[j].2.1) (by simp; omega) (ls[i].1,ls[i].2.1) (by simp; omega) (by rw [c2,c3])
  ·exact h2 j i (by omega) hi hj (ls[j].2.2.1,ls[j].2.2.2.1) (by simp; omega) (ls[i].2.2.1,ls[i].2.2.2.1) (by simp; omega) (by rw [c2,c3])
theorem MH {nt:ai} (hp:∀ (i:Nat) (hi:i<nt.1.length),cr nt.1[i]=true) (he:∀ (i:Nat) (hi:i<nt.2.length),pC nt nt.2[i]) :
  ((∀ (i:Nat) (hi:i<nt.1.length) (k:Nat),(k:Int)<nt.1[i].1→nt.2.countP (kI i k)=1)∧(∀ (i:Nat) (hi:i<nt.1.length) (k:Nat),(k:Int)<nt.1[i].2.1→nt.2.countP (lD i k)=1))↔
  (sc nt.2∧qF nt.2=qE nt.1):=by
 have fM:∀ p∈nt.1,0≤p.1∧0≤p.2.1:=fun p hm=>by
  obtain ⟨i,hi,rfl⟩:=List.mem_iff_getElem.1 hm
  have:=BH (hp i hi); omega
 have hI:∀ q∈nt.2.filterMap sH,q∈sJ 0 nt.1:=fun q hq=>by
  obtain ⟨l,hl,e⟩:=List.mem_filterMap.1 hq
  obtain ⟨i,hi,rfl⟩:=List.mem_iff_getElem.1 hl
  unfold sH at e
  simp only [Option.ite_none_right_eq_some,Option.some.injEq] at e
  obtain ⟨e1,rfl⟩:=e
  rcases (he i hi).ng with h | ⟨h1,h2,h3,h4⟩
  ·omega
  ·rw [aH (by omega)] at h4
   exact (BJ _ _ _).2 ⟨nt.2[i].2.2.1.toNat,by omega,nt.2[i].2.2.2.1.toNat,by omega,by simp only [Prod.mk.injEq]; omega⟩
 have hO:∀ q∈nt.2.filterMap sI,q∈sK 0 nt.1:=fun q hq=>by
  obtain ⟨l,hl,e⟩:=List.mem_filterMap.1 hq
  obtain ⟨i,hi,rfl⟩:=List.mem_iff_getElem.1 hl
  unfold sI at e
  simp only [Option.ite_none_right_eq_some,Option.some.injEq] at e
  obtain ⟨e1,rfl⟩:=e
  rcases (he i hi).out with h | ⟨h1,h2,h3,h4⟩
  ·omega
  ·rw [aH (by omega)] at h4
   exact (BK _ _ _).2 ⟨nt.2[i].1.toNat,by omega,nt.2[i].2.1.toNat,by omega,by simp only [Prod.mk.injEq]; omega⟩
 have fI:=LP (MD nt.1 0) hI
 have fO:=LP (ME nt.1 0) hO
 have aI:(∀ (i:Nat) (hi:i<nt.1.length) (k:Nat),(k:Int)<nt.1[i].1→nt.2.countP (kI i k)=1)↔(∀ q∈sJ 0 nt.1,(nt.2.filterMap sH).count q=1):=by
  constructor
  ·intro h q hq
   obtain ⟨j,hj,k,hk,rfl⟩:=(BJ _ _ _).1 hq
   rw [HE _ _ (by omega)]
   simpa using h j hj k (by omega)
  ·intro h i hi k hk
   rw [← HE _ _ (by omega)]
   exact h _ ((BJ _ _ _).2 ⟨i,hi,k,by omega,by simp⟩)
 have aO:(∀ (i:Nat) (hi:i<nt.1.length) (k:Nat),(k:Int)<nt.1[i].2.1→nt.2.countP (lD i k)=1)↔(∀ q∈sK 0 nt.1,(nt.2.filterMap sI).count q=1):=by
  constructor
  ·intro h q hq
   obtain ⟨j,hj,k,hk,rfl⟩:=(BK _ _ _).1 hq
   rw [HF _ _ (by omega)]
   simpa using h j hj k (by omega)
  ·intro h i hi k hk
   rw [← HF _ _ (by omega)]
   exact h _ ((BK _ _ _).2 ⟨i,hi,k,by omega,by simp⟩)
 rw [aI,aO,fI,fO,Vi,MG,MF nt.1 0 fM]
 constructor
 ·rintro ⟨⟨h1,h2⟩,h3,h4⟩
  refine ⟨⟨h3,h1⟩,?_⟩
  have:=Bn h1 hI
  have:=Bn h3 hO
  omega
 ·rintro ⟨⟨h1,h2⟩,h3⟩
  have:=Bn h2 hI
  have:=Bn h1 hO
  exact ⟨⟨h2,by omega⟩,h1,by omega⟩
theorem MI:∀ (ps:List Program) (i:Nat) (hi:i<ps.length),qE (ps.take (i+1))=qE (ps.take i)+(ps[i].1+ps[i].2.1)
 | [],i,hi=>absurd hi (by simp)
 | p::ps,0,hi=>by simp [qE]
 | p::ps,i+1,hi=>by
  have:=MI ps i (by simpa using hi)
  simp only [List.take_succ_cons,qE,List.getElem_cons_succ] at this ⊢
  omega
theorem MK:∀ (ls:List aG) (i:Nat) (hi:i<ls.length),qF (ls.take (i+1))=qF (ls.take i)+((if 0≤ls[i].1 then 1 else 0)+(if 0≤ls[i].2.2.1 then 1 else 0))
 | [],i,hi=>absurd hi (by simp)
 | p::ls,0,hi=>by simp [qF]
 | p::ls,i+1,hi=>by
  have:=MK ls i (by simpa using hi)
  simp only [List.take_succ_cons,qF,List.getElem_cons_succ] at this ⊢
  omega
theorem qH {n:Nat} {nt:ai} (h:cL nt) (hn:1048576<n):dq.f n nt=some (cy nt,()):=by
 have hp:=h.ew
 have hl:=h.dt
 unfold dq.f cy
 refine uz ?_
 refine ni (decide (12<nt.1.length∨30<nt.2.length),()) ?_ ?_
 ·by_cases a:12<nt.1.length
  ·simp [br,show (12:Int)<(nt.1.length:Int) by omega,a]
  ·simp [br,show ¬ (12:Int)<(nt.1.length:Int) by omega,a,show (30:Int)<(nt.2.length:Int)↔30<nt.2.length by omega]
 rw [bI]
 refine ⟨fun a=>?_,fun a=>?_⟩
 ·simp only [aj,Bool.false_eq_true,false_iff]
  intro o; have:=o.ew; have:=o.dt; omega
 have a1:nt.1.length≤12:=by omega
 have a2:nt.2.length≤30:=by omega
 refine fA (fun i (s:Int)=>(s,((i:Int),()))) nt.1.length (fun i s=>(∀ j (hj:j<nt.1.length),j<i→cr nt.1[j]=true)∧s=qE (nt.1.take i)∧0≤s∧s≤6*(i:Int))
  rfl ⟨by intros; omega,by simp [qE],by omega,by omega⟩ (by omega) (fun ih s hI=>?_) (fun ih i s hi hI hS=>?_)
 rotate_left
 ·have h1:(i:Int)<(nt.1.length:Int):=by omega
  simp only [h1,decide_true,aL,Int.toNat_natCast,aH hi]
  rw [ah (by first | (simp; done) | omega),BF (h.prog _ (List.getElem_mem hi)) hn,Option.bind_some,bm (by omega)]
  obtain ⟨i1,i2,i3,i4⟩:=hI
  cases bb:cr nt.1[i] with
  | false=>
   simp only [Bool.not_false,aL,aj,Bool.false_eq_true,false_iff]
   intro o; have:=o.prog i hi; simp [bb] at this
  | true=>
   obtain ⟨p1,p2,p3,p4⟩:=BH bb
   simp only [Bool.not_true,aF]
   rw [bo (n:=nt.1[i].1+nt.1[i].2.1) (by omega) (by omega),bo (by omega) (by omega)]
   refine hS _ ⟨fun j hj eO=>?_,by rw [MI _ _ hi,i2],by omega,by push_cast; omega⟩
   rcases Nat.lt_or_eq_of_le (Nat.le_of_lt_succ eO) with e | e
   ·exact i1 j hj e
   ·subst e; exact bb
 obtain ⟨sG,hs,ma,Kl⟩:=hI
 have sG:∀ (i:Nat) (hi:i<nt.1.length),cr nt.1[i]=true:=fun i hi=>sG i hi hi
 rw [List.take_length] at hs
 simp only [Int.lt_irrefl,decide_false,aF]
 refine fA (fun i (s:Int)=>(s,((i:Int),()))) nt.2.length (fun i s=>(∀ j (hj:j<nt.2.length),j<i→pC nt nt.2[j]∧bG nt.2[j].2.2.2.2=true∧∀ k (hk:k<j),BI nt.2[j] nt.2[k]=false)∧s=qF (nt.2.take i)∧0≤s∧s≤2*(i:Int))
  rfl ⟨by intros; omega,by simp [qF],by omega,by omega⟩ (by omega) (fun ih s' hI=>?_) (fun ih i s' hi hI hS=>?_)
 ·obtain ⟨i1,i2,i3,i4⟩:=hI
  rw [List.take_length] at i2
  simp only [Int.lt_irrefl,decide_false,aF,aj,decide_eq_true_eq]
  have key:=MH sG (fun i hi=>(i1 i hi hi).1)
  constructor
  ·intro e
   obtain ⟨k1,k2⟩:=key.2 ⟨fun i j hi hj=>(i1 i hi hi).2.2 j hj,by rw [← i2,e,hs]⟩
   exact ⟨a1,a2,sG,fun i hi=>(i1 i hi hi).1,fun i hi=>(i1 i hi hi).2.1,k1,k2⟩
  ·intro o
   have:=(key.1 ⟨o.ins,o.outs⟩).2
   rw [i2,hs,this]
 ·obtain ⟨i1,i2,i3,i4⟩:=hI
  have h1:(i:Int)<(nt.2.length:Int):=by omega
  simp only [h1,decide_true,aL,Int.toNat_natCast,aH hi]
  rw [ah (by first | (simp; done) | omega)]
  have hgp:∀ j:Int,0≤j→j<(nt.1.length:Int)→nt.1.getD j.toNat bp=nt.1.getD j.toNat bp:=fun _ _ _=>rfl
  have bad:¬ pC nt nt.2[i]→(false=true↔cM nt):=fun hb=>by simp only [Bool.false_eq_true,false_iff]; exact fun o=>hb (o.ends i hi)
  generalize gM:nt.2[i]=l at *
  refine ni (decide (l.1 = -1∧l.2.1=0),(decide (l.2.2.1 = -1∧l.2.2.2.1=0),())) ?_ ?_
  ·by_cases a:l.1 = -1<;>by_cases b:l.2.2.1 = -1<;>simp [a,b,br]
  refine ni (decide (n_ nt l),()) ?_ ?_
  ·unfold n_
   by_cases a:0≤l.1<;>by_cases b:l.1<(nt.1.length:Int)<;>by_cases c:0≤l.2.1<;>simp [a,b,c,br,ab]
  by_cases fU:l.1 = -1∧l.2.1=0∨n_ nt l
  rotate_left
  ·simp only [not_or] at fU
   refine LQ (false,()) ?_ (bad (fun o=>by rcases o.out with h | h; exact fU.1 h; exact fU.2 h))
   simp [fU.1,fU.2,br]
  refine ni (s'+(if 0≤l.1 then 1 else 0),()) ?_ ?_
  ·rcases fU with ⟨o1,o2⟩ | o
   ·have:¬ n_ nt l:=fun h=>by unfold n_ at h; omega
    simp [this,o1,o2,br]
   ·have:0≤l.1:=o.1
    simp only [o,decide_true,aL,this,if_true]
    rw [bo (by omega) (by omega)]
  refine ni (decide (pB nt l),()) ?_ ?_
  ·unfold pB
   by_cases a:0≤l.2.2.1<;>by_cases b:l.2.2.1<(nt.1.length:Int)<;>by_cases c:0≤l.2.2.2.1<;>simp [a,b,c,br,ab]
  by_cases bV:l.2.2.1 = -1∧l.2.2.2.1=0∨pB nt l
  rotate_left
  ·simp only [not_or] at bV
   refine LQ (false,()) ?_ (bad (fun o=>by rcases o.ng with h | h; exact bV.1 h; exact bV.2 h))
   simp [bV.1,bV.2,br]
  refine ni (s'+(if 0≤l.1 then 1 else 0)+(if 0≤l.2.2.1 then 1 else 0),()) ?_ ?_
  ·rcases bV with ⟨o1,o2⟩ | o
   ·have:¬ pB nt l:=fun h=>by unfold pB at h; omega
    simp [this,o1,o2,br]
   ·have:0≤l.2.2.1:=o.1
    simp only [o,decide_true,aL,this,if_true]
    rw [bo (by split<;>omega) (by split<;>omega)]
  have cI:bG l.2.2.2.2=bG l.2.2.2.2:=rfl
  refine ni (decide (l.1 = -1∧l.2.2.1 = -1)||!(bG l.2.2.2.2),()) ?_ ?_
  ·rw [uH (by rw [← gM]; exact (h.link _ (List.getElem_mem hi)).tokens) hn]
   have n1:(l.1 = -1∧l.2.1=0)↔l.1 = -1:=⟨fun h=>h.1,fun h=>by rcases fU with o | o; exact o; have:=o.1; omega⟩
   have n2:(l.2.2.1 = -1∧l.2.2.2.1=0)↔l.2.2.1 = -1:=⟨fun h=>h.1,fun h=>by rcases bV with o | o; exact o; have:=o.1; omega⟩
   simp only [n1,n2,Option.bind_some]
   by_cases a:l.1 = -1<;>by_cases b:l.2.2.1 = -1<;>simp [a,b,br]
  rw [bH]
  refine ⟨fun hb=>?_,fun hb=>?_⟩
  ·simp only [aj,Bool.false_eq_true,false_iff]
   intro o
   simp only [Bool.or_eq_true,decide_eq_true_eq,Bool.not_eq_true'] at hb
   rcases hb with hb | hb
   ·have:=(o.ends i hi).one; rw [gM] at this; exact this hb
   ·have:=o.gQ i hi; rw [gM,hb] at this; simp at this
  simp only [Bool.or_eq_false_iff,decide_eq_false_iff_not,Bool.not_eq_false'] at hb
  obtain ⟨AK,Vj⟩:=hb
  have HG:pC nt l:=⟨fU,bV,AK⟩
  rw [ah (by first | (simp; done) | omega)]
  simp only [List.drop_zero]
  have ao:(nt.2.take i).length=i:=by simp; omega
  refine mi (bad:=some (false,())) (nt.2.take i).length (fun k=>!(BI l ((nt.2.take i).getD k aM))) (fun ih k hk=>?_) (fun ih=>aK (Int.lt_irrefl _)) (by omega) (fun eg=>?_) (fun k hk hb=>?_)
  ·have h1:(k:Int)<((nt.2.take i).length:Int):=by omega
   simp only [h1,decide_true,aL,Int.toNat_natCast,aH hk]
   rw [ah (by first | (simp; done) | omega),bm (by omega)]
   unfold BI
   generalize (nt.2.take i)[k]=m
   by_cases c1:0≤l.1<;>by_cases c2:m.1=l.1<;>by_cases c3:m.2.1=l.2.1<;>by_cases c4:0≤l.2.2.1<;>by_cases c5:m.2.2.1=l.2.2.1<;>by_cases c6:m.2.2.2.1=l.2.2.2.1<;>
    simp only [c1,c2,c3,c4,c5,c6,decide_true,decide_false,aL,aF,Bool.and_true,Bool.true_and,Bool.and_false,Bool.false_and,Bool.or_true,Bool.or_false,Bool.true_or,Bool.false_or,Bool.not_true,Bool.not_false,if_true,if_false,Bool.false_eq_true]
  ·rw [bm (by omega)]
   refine hS _ ⟨fun j hj eO=>?_,by rw [MK _ _ hi,i2,gM]; omega,by split<;>split<;>omega,by split<;>split<;>push_cast<;>omega⟩
   rcases Nat.lt_or_eq_of_le (Nat.le_of_lt_succ eO) with e | e
   ·exact i1 j hj e
   ·subst e
    refine ⟨by rw [gM]; exact HG,by rw [gM]; exact Vj,fun k hk=>?_⟩
    have:=eg k (by omega)
    rw [aH (by omega)] at this
    simpa [gM] using this
  ·simp only [aj,Bool.false_eq_true,false_iff]
   intro o
   have:=((MH sG o.ends).1 ⟨o.ins,o.outs⟩).1 i k hi (by omega)
   rw [aH hk] at hb
   rw [gM] at this
   simp [this] at hb
end
end Go.AmT
namespace Go.AmT
noncomputable section
open Go Go.Am Go.Proofs
set_option linter.unusedVariables false
set_option maxRecDepth 100000
def uI.f (n:Nat) (a0:ai) (a1:List Int):Option (Bool×Unit):=cut (α:=(Bool×Unit)) ((fo.f n a0).bind fun r3=>br (!r3.1) (some (.inr (true,()))) (some (.inr ((!decide ((a1.length:Int)=(a0.2.length:Int))),())))) fun y2=>br y2.1 (some (false,())) (iter (α:=(Int×Unit)) n (fun uJ cU=>br (decide (cU.1<(a1.length:Int))) (ab (0≤cU.1∧cU.1<(a1.length:Int)) (ab (0≤cU.1∧cU.1<(a0.2.length:Int)) (let v12:=(a0.2.getD cU.1.toNat aM); (cg.f n (a1.getD cU.1.toNat 0) (v12.2.2.2.2.length:Int) 400).bind fun dT=>br (!dT.1) (some (false,())) (uJ ((ag (cU.1+1)),()))))) (some (true,()))) (0,()))
def uI.ae (n:Nat):ar:=⟨[.val cD,.val IS],[.val .bool],fun x=>uI.f n x.1 x.2.1⟩
theorem uI.ok (n:Nat):aN 107 (uI.ae n):=aQ n [(1,⟨[(17,.bool)],[],[1,2],[]⟩),(6,⟨[(20,.int .i64)],[],[2,18,19],[]⟩)] [] (ak ⟨fo.sound n,fo.az⟩ (ak ⟨cg.sound n,cg.az⟩ aC)) aD Tryz.func107
def qI.f (n:Nat) (a0:ai) (a1:List Int):Option (Bool×Unit):=cut (α:=(Bool×Unit)) ((dq.f n a0).bind fun r3=>br (!r3.1) (some (.inr (true,()))) (some (.inr ((!decide ((a1.length:Int)=(a0.2.length:Int))),())))) fun y2=>br y2.1 (some (false,())) (iter (α:=(Int×Unit)) n (fun qJ x9=>br (decide (x9.1<(a1.length:Int))) (ab (0≤x9.1∧x9.1<(a1.length:Int)) (ab (0≤x9.1∧x9.1<(a0.2.length:Int)) (let v11:=(a0.2.getD x9.1.toNat aM); br (decide ((a1.getD x9.1.toNat 0)<(v11.2.2.2.2.length:Int))) (some (false,())) (br (decide (400<(a1.getD x9.1.toNat 0))) (some (false,())) (qJ ((ag (x9.1+1)),())))))) (some (true,()))) (0,()))
def qI.ae (n:Nat):ar:=⟨[.val cD,.val IS],[.val .bool],fun x=>qI.f n x.1 x.2.1⟩
theorem qI.ok (n:Nat):aN 61 (qI.ae n):=aQ n [(1,⟨[(17,.bool)],[],[1,2],[]⟩),(6,⟨[(20,.int .i64)],[],[2,18,19],[]⟩)] [] (ak ⟨dq.sound n,dq.az⟩ aC) aD Tryz.func61
end
end Go.AmT
namespace Go.AmT
open Go Go.Am
set_option linter.unusedVariables false
set_option linter.unusedSimpArgs false
def dY (ls:List aG) (caps:List Int):Bool:=decide (caps.length=ls.length)&&(List.range caps.length).all fun i=>decide (((ls.getD i aM).2.2.2.2.length:Int)≤caps.getD i 0)&&decide (caps.getD i 0≤400)
theorem Vk {α:Type} (v m k:Int) {x y:Option α} : br (decide (v<m)) x (br (decide (k<v)) x y)=if (decide (m≤v)&&decide (v≤k))=true then y else x:=by
 by_cases a:m≤v<;>by_cases b:v≤k
 ·simp [br,a,b,show ¬ v<m by omega,show ¬ k<v by omega]
 ·simp [br,a,b,show ¬ v<m by omega,show k<v by omega]
 ·simp [br,a,b,show v<m by omega]
 ·simp [br,a,b,show v<m by omega]
theorem Vl {n:Nat} {nt:ai} {caps:List Int} (h:cL nt) (hc:caps.length≤1048576) (hn:1048576<n):uI.f n nt caps=some (cy nt&&dY nt.2 caps,()):=by
 have hl:=h.dt
 unfold uI.f
 rw [zf h hn,Option.bind_some]
 cases bb:cy nt with
 | false=>simp [br,cut]
 | true=>
  by_cases hlen:caps.length=nt.2.length
  ·have hle:(caps.length:Int)=(nt.2.length:Int):=by omega
   simp only [Bool.not_true,aF,hle,decide_true,bF,Bool.true_and,dY,hlen]
   refine iz.1 (mi (bad:=some (false,())) nt.2.length (fun i=>decide (((nt.2.getD i aM).2.2.2.2.length:Int)≤caps.getD i 0)&&decide (caps.getD i 0≤400)) (fun ih i hi=>?_) (fun ih=>aK (Int.lt_irrefl _)) (by omega) (fun bb=>?_) (fun i hi hb=>?_))
   ·have h1:(i:Int)<(nt.2.length:Int):=by omega
    simp only [h1,decide_true,aL,Int.toNat_natCast,sF,Option.bind_some]
    rw [ah (by simp),ah (by simp),bm (by omega),wY]
   ·rw [aj]
    have:((List.range nt.2.length).all fun i=>decide (((nt.2.getD i aM).2.2.2.2.length:Int)≤caps.getD i 0)&&decide (caps.getD i 0≤400))=true:=List.all_eq_true.2 (fun i hi=>bb i (List.mem_range.1 hi))
    rw [this]
   ·rw [aj]
    have:((List.range nt.2.length).all fun i=>decide (((nt.2.getD i aM).2.2.2.2.length:Int)≤caps.getD i 0)&&decide (caps.getD i 0≤400))=false:=by
     rw [List.all_eq_false]; exact ⟨i,List.mem_range.2 hi,by rw [hb]; simp⟩
    rw [this]
  ·have hle:¬ ((caps.length:Int)=(nt.2.length:Int)):=by omega
   simp [hle,dY,hlen,br,cut]
theorem ML {n:Nat} {nt:ai} {caps:List Int} (h:cL nt) (hc:caps.length≤1048576) (hn:1048576<n):qI.f n nt caps=some (cy nt&&dY nt.2 caps,()):=by
 have hl:=h.dt
 unfold qI.f
 rw [qH h hn,Option.bind_some]
 cases bb:cy nt with
 | false=>simp [br,cut]
 | true=>
  by_cases hlen:caps.length=nt.2.length
  ·have hle:(caps.length:Int)=(nt.2.length:Int):=by omega
   simp only [Bool.not_true,aF,hle,decide_true,bF,Bool.true_and,dY,hlen]
   refine iz.1 (mi (bad:=some (false,())) nt.2.length (fun i=>decide (((nt.2.getD i aM).2.2.2.2.length:Int)≤caps.getD i 0)&&decide (caps.getD i 0≤400)) (fun ih i hi=>?_) (fun ih=>aK (Int.lt_irrefl _)) (by omega) (fun bb=>?_) (fun i hi hb=>?_))
   ·have h1:(i:Int)<(nt.2.length:Int):=by omega
    simp only [h1,decide_true,aL,Int.toNat_natCast]
    rw [ah (by simp),ah (by simp),bm (by omega)]
    exact Vk _ _ _
   ·rw [aj]
    have:((List.range nt.2.length).all fun i=>decide (((nt.2.getD i aM).2.2.2.2.length:Int)≤caps.getD i 0)&&decide (caps.getD i 0≤400))=true:=List.all_eq_true.2 (fun i hi=>bb i (List.mem_range.1 hi))
    rw [this]
   ·rw [aj]
    have:((List.range nt.2.length).all fun i=>decide (((nt.2.getD i aM).2.2.2.2.length:Int)≤caps.getD i 0)&&decide (caps.getD i 0≤400))=false:=by
     rw [List.all_eq_false]; exact ⟨i,List.mem_range.2 hi,by rw [hb]; simp⟩
    rw [this]
  ·have hle:¬ ((caps.length:Int)=(nt.2.length:Int)):=by omega
   simp [hle,dY,hlen,br,cut]
end Go.AmT
