/- Networks, in plain Lean: both programs tell the same networks valid. -/
import Derived.Test.YtfoamipegmbcgaaGreatDoorMDkF0
import Derived.Test.YtfoamipegmbcgaaGreatDoorAmE
namespace Go.AmT
open Go Go.Am
set_option linter.unusedVariables false
set_option linter.unusedSimpArgs false
def isTo (p k:Int) (l:Link):Bool:=decide (l.2.2.1=p)&&decide (l.2.2.2.1=k)
def isFrom (p k:Int) (l:Link):Bool:=decide (l.1=p)&&decide (l.2.1=k)
def OutOk (nt:Network) (l:Link):Prop:=0≤l.1∧l.1<(nt.1.length:Int)∧0≤l.2.1∧l.2.1<(nt.1.getD l.1.toNat zProgram).2.1
def InOk (nt:Network) (l:Link):Prop:=0≤l.2.2.1∧l.2.2.1<(nt.1.length:Int)∧0≤l.2.2.2.1∧l.2.2.2.1<(nt.1.getD l.2.2.1.toNat zProgram).1
structure EndOk (nt:Network) (l:Link):Prop where
 out:l.1 = -1∧l.2.1=0∨OutOk nt l
 inn:l.2.2.1 = -1∧l.2.2.2.1=0∨InOk nt l
 one:¬ (l.1 = -1∧l.2.2.1 = -1)
structure OkN (nt:Network):Prop where
 progs:nt.1.length≤12
 links:nt.2.length≤30
 prog:∀ (i:Nat) (hi:i<nt.1.length),okP nt.1[i]=true
 ends:∀ (i:Nat) (hi:i<nt.2.length),EndOk nt nt.2[i]
 toks:∀ (i:Nat) (hi:i<nt.2.length),okS nt.2[i].2.2.2.2=true
 ins:∀ (i:Nat) (hi:i<nt.1.length) (k:Nat),(k:Int)<nt.1[i].1→nt.2.countP (isTo i k)=1
 outs:∀ (i:Nat) (hi:i<nt.1.length) (k:Nat),(k:Int)<nt.1[i].2.1→nt.2.countP (isFrom i k)=1
noncomputable instance (nt:Network):Decidable (OkN nt):=Classical.propDecidable _
noncomputable instance (nt:Network) (l:Link):Decidable (EndOk nt l):=Classical.propDecidable _
instance (nt:Network) (l:Link):Decidable (OutOk nt l):=by unfold OutOk; exact inferInstance
instance (nt:Network) (l:Link):Decidable (InOk nt l):=by unfold InOk; exact inferInstance
noncomputable def okN (nt:Network):Bool:=decide (OkN nt)
theorem okP_ports {p:Program} (h:okP p=true):0≤p.1∧p.1≤3∧0≤p.2.1∧p.2.1≤3:=by
 unfold okP at h
 simp only [Bool.and_eq_true,decide_eq_true_eq] at h
 omega
theorem sL3To_spec {n:Nat} {nt:Network} (hl:nt.2.length≤1048576) (hn:1048576<n) (p k:Int):sL3To.f n nt p k=some (onlyIx (isTo p k) nt.2,()):=by
 unfold sL3To.f
 refine only_loop nt.2 (isTo p k) (fun ih i hi at'=>?_) (fun ih at'=>by simp [br]) (by omega)
 have h1:(i:Int)<(nt.2.length:Int):=by omega
 simp only [h1,decide_true,br_true,Int.toNat_natCast,getD_lt hi]
 rw [chk_true (by simp),w64_succ (by omega)]
 unfold isTo
 by_cases h1:nt.2[i].2.2.1=p
 ·simp only [h1,decide_true,br_true,cut_inr,Bool.true_and]
  rw [br_if,br_if]; simp
 ·simp [h1,br,cut_inr]
theorem sL3From_spec {n:Nat} {nt:Network} (hl:nt.2.length≤1048576) (hn:1048576<n) (p k:Int):sL3From.f n nt p k=some (onlyIx (isFrom p k) nt.2,()):=by
 unfold sL3From.f
 refine only_loop nt.2 (isFrom p k) (fun ih i hi at'=>?_) (fun ih at'=>by simp [br]) (by omega)
 have h1:(i:Int)<(nt.2.length:Int):=by omega
 simp only [h1,decide_true,br_true,Int.toNat_natCast,getD_lt hi]
 rw [chk_true (by simp),w64_succ (by omega)]
 unfold isFrom
 by_cases h1:nt.2[i].1=p
 ·simp only [h1,decide_true,br_true,cut_inr,Bool.true_and]
  rw [br_if,br_if]; simp
 ·simp [h1,br,cut_inr]
theorem onlyIx_neg {α:Type} {f:α→Bool} {ls:List α} : onlyIx f ls<0↔ls.countP f≠1:=by
 unfold onlyIx
 split
 ·rename_i h; rw [h]; simp
 ·split
  ·rename_i h; rw [h]; simp
  ·rename_i h; simp [h]
theorem sL3Ends_spec {n:Nat} {nt:Network} (h1:nt.1.length≤12) (hp:∀ (i:Nat) (hi:i<nt.1.length),okP nt.1[i]=true) (l:Link):sL3Ends.f n nt l=some (decide (EndOk nt l),()):=by
 have hw:w64 ((nt.1.length:Int)-1)=(nt.1.length:Int)-1:=w64_id (by omega) (by omega)
 have hpt:∀ i:Int,0≤i→i<(nt.1.length:Int)→0≤(nt.1.getD i.toNat zProgram).1∧(nt.1.getD i.toNat zProgram).1≤3∧0≤(nt.1.getD i.toNat zProgram).2.1∧(nt.1.getD i.toNat zProgram).2.1≤3:=by
  intro i h0 h1
  rw [getD_lt (by omega)]
  exact okP_ports (hp _ _)
 unfold sL3Ends.f
 simp only [sL1In_spec,Option.bind_some,hw]
 refine W_dec ?_
 refine W_cut_of ((decide (l.1 = -1)&&decide (l.2.2.1 = -1))||(!(decide (-1≤l.1)&&decide (l.1≤(nt.1.length:Int)-1))||!(decide (-1≤l.2.2.1)&&decide (l.2.2.1≤(nt.1.length:Int)-1))),()) ?_ ?_
 ·generalize decide (l.1 = -1)=a
  generalize decide (l.2.2.1 = -1)=b
  generalize (decide (-1≤l.1)&&decide (l.1≤(nt.1.length:Int)-1))=c
  generalize (decide (-1≤l.2.2.1)&&decide (l.2.2.1≤(nt.1.length:Int)-1))=d
  cases a<;>cases b<;>cases c<;>cases d<;>rfl
 ·rw [W_br]
  refine ⟨fun hb=>?_,fun hb=>?_⟩
  ·simp only [W_some,Bool.false_eq_true,false_iff]
   intro o
   simp only [Bool.or_eq_true,Bool.and_eq_true,Bool.not_eq_true',Bool.and_eq_false_iff,decide_eq_true_eq,decide_eq_false_iff_not] at hb
   rcases o.out with ⟨o1,o2⟩ | ⟨o1,o2,o3,o4⟩<;>rcases o.inn with ⟨i1,i2⟩ | ⟨i1,i2,i3,i4⟩<;>first | exact o.one ⟨o1,i1⟩ | omega
  ·simp only [Bool.or_eq_false_iff,Bool.not_eq_false',Bool.and_eq_true,Bool.and_eq_false_iff,decide_eq_true_eq,decide_eq_false_iff_not] at hb
   obtain ⟨b0,b2,b3⟩:=hb
   have b1:¬ (l.1 = -1∧l.2.2.1 = -1):=by omega
   refine W_cut_of (if 0≤l.1 then (nt.1.getD l.1.toNat zProgram).2.1 else 1,()) ?_ ?_
   ·rw [br_if]
    by_cases h:0≤l.1
    ·rw [if_pos (decide_eq_true h),if_pos h]; exact chk_true ⟨h,by omega⟩
    ·rw [if_neg (by simpa using h),if_neg h]
   refine W_cut_of (if 0≤l.2.2.1 then (nt.1.getD l.2.2.1.toNat zProgram).1 else 1,()) ?_ ?_
   ·rw [br_if]
    by_cases h:0≤l.2.2.1
    ·rw [if_pos (decide_eq_true h),if_pos h]; exact chk_true ⟨h,by omega⟩
    ·rw [if_neg (by simpa using h),if_neg h]
   have e1:w64 ((if 0≤l.1 then (nt.1.getD l.1.toNat zProgram).2.1 else 1)-1)=(if 0≤l.1 then (nt.1.getD l.1.toNat zProgram).2.1 else 1)-1:=by
    split
    ·have:=hpt l.1 (by omega) (by omega); exact w64_id (by omega) (by omega)
    ·rfl
   have e2:w64 ((if 0≤l.2.2.1 then (nt.1.getD l.2.2.1.toNat zProgram).1 else 1)-1)=(if 0≤l.2.2.1 then (nt.1.getD l.2.2.1.toNat zProgram).1 else 1)-1:=by
    split
    ·have:=hpt l.2.2.1 (by omega) (by omega); exact w64_id (by omega) (by omega)
    ·rfl
   simp only [e1,e2]
   have key:EndOk nt l↔((0≤l.2.1∧l.2.1≤(if 0≤l.1 then (nt.1.getD l.1.toNat zProgram).2.1 else 1)-1)∧(0≤l.2.2.2.1∧l.2.2.2.1≤(if 0≤l.2.2.1 then (nt.1.getD l.2.2.1.toNat zProgram).1 else 1)-1)):=by
    constructor
    ·intro o
     have o1:=o.out
     have o2:=o.inn
     unfold OutOk at o1; unfold InOk at o2
     split<;>split<;>omega
    ·rintro ⟨⟨k1,k2⟩,k3,k4⟩
     refine ⟨?_,?_,b1⟩
     ·unfold OutOk
      split at k2<;>omega
     ·unfold InOk
      split at k4<;>omega
   rw [W_br]
   simp only [← Bool.decide_and,W_some,decide_eq_true_eq,decide_eq_false_iff_not,key]
   exact ⟨fun h=>⟨fun h'=>⟨h,h'⟩,fun h'=>h'.2⟩,fun h=>⟨fun h'=>absurd h' (by simp),fun h'=>absurd h'.1 h⟩⟩
theorem sIsNetwork_spec {n:Nat} {nt:Network} (h:SmallN nt) (hn:1048576<n):sIsNetwork.f n nt=some (okN nt,()):=by
 have hp:=h.progs
 have hl:=h.links
 unfold sIsNetwork.f okN
 refine W_dec ?_
 refine W_cut_of (decide (12<nt.1.length∨30<nt.2.length),()) ?_ ?_
 ·by_cases a:12<nt.1.length
  ·simp [br,show (12:Int)<(nt.1.length:Int) by omega,a]
  ·simp [br,show ¬ (12:Int)<(nt.1.length:Int) by omega,a,show (30:Int)<(nt.2.length:Int)↔30<nt.2.length by omega]
 rw [W_brd]
 refine ⟨fun a=>?_,fun a=>?_⟩
 ·simp only [W_some,Bool.false_eq_true,false_iff]
  intro o; have:=o.progs; have:=o.links; omega
 have a1:nt.1.length≤12:=by omega
 have a2:nt.2.length≤30:=by omega
 refine W_chkloop (bad:=some (false,())) nt.1.length (fun i=>okP (nt.1.getD i zProgram)) (fun ih i hi=>?_) (fun ih=>br_no (Int.lt_irrefl _)) (by omega) (fun hok=>?_) (fun i hi hb=>?_)
 ·have h1:(i:Int)<(nt.1.length:Int):=by omega
  simp only [h1,decide_true,br_true,Int.toNat_natCast,getD_lt hi]
  rw [chk_true (by first | (simp; done) | omega),sIsProgram_spec (h.prog _ (List.getElem_mem hi)) hn,Option.bind_some,br_nif,w64_succ (by omega)]
 rotate_left
 ·simp only [W_some,Bool.false_eq_true,false_iff]
  intro o; have:=o.prog i hi; rw [getD_lt hi] at hb; simp [hb] at this
 have hprog:∀ (i:Nat) (hi:i<nt.1.length),okP nt.1[i]=true:=fun i hi=>by have:=hok i hi; rwa [getD_lt hi] at this
 refine W_chkloop (bad:=some (false,())) nt.2.length (fun i=>decide (EndOk nt (nt.2.getD i zLink))&&okS (nt.2.getD i zLink).2.2.2.2) (fun ih i hi=>?_) (fun ih=>br_no (Int.lt_irrefl _)) (by omega) (fun hok=>?_) (fun i hi hb=>?_)
 ·have h1:(i:Int)<(nt.2.length:Int):=by omega
  simp only [h1,decide_true,br_true,Int.toNat_natCast,getD_lt hi]
  rw [chk_true (by first | (simp; done) | omega),sL3Ends_spec a1 hprog,Option.bind_some,sIsStream_spec (h.link _ (List.getElem_mem hi)).tokens hn,Option.bind_some,w64_succ (by omega)]
  cases decide (EndOk nt nt.2[i])<;>cases okS nt.2[i].2.2.2.2<;>rfl
 rotate_left
 ·simp only [W_some,Bool.false_eq_true,false_iff]
  intro o; have o1:=o.ends i hi; have o2:=o.toks i hi; rw [getD_lt hi] at hb; simp [o1,o2] at hb
 have hlink:∀ (i:Nat) (hi:i<nt.2.length),EndOk nt nt.2[i]∧okS nt.2[i].2.2.2.2=true:=fun i hi=>by have:=hok i hi; rw [getD_lt hi] at this; simpa using this
 refine W_up (fun i (s:Unit)=>((i:Int),())) nt.1.length (fun i _=>∀ j (hj:j<nt.1.length),j<i→(∀ k:Nat,(k:Int)<nt.1[j].1→nt.2.countP (isTo j k)=1)∧(∀ k:Nat,(k:Int)<nt.1[j].2.1→nt.2.countP (isFrom j k)=1))
  (s0:=()) rfl (by intros; omega) (by omega) (fun ih s hI=>?_) (fun ih i s hi hI hS=>?_)
 ·simp only [Int.lt_irrefl,decide_false,br_false,W_some,true_iff]
  exact ⟨a1,a2,hprog,fun i hi=>(hlink i hi).1,fun i hi=>(hlink i hi).2,fun i hi k hk=>(hI i hi hi).1 k hk,fun i hi k hk=>(hI i hi hi).2 k hk⟩
 ·have h1:(i:Int)<(nt.1.length:Int):=by omega
  obtain ⟨p1,p2,p3,p4⟩:=okP_ports (hprog i hi)
  simp only [h1,decide_true,br_true,Int.toNat_natCast,getD_lt hi]
  rw [chk_true (by first | (simp; done) | omega)]
  refine W_chkloop (bad:=some (false,())) nt.1[i].1.toNat (fun k=>decide (nt.2.countP (isTo i k)=1)) (fun ih k hk=>?_) (fun ih=>br_no (show ¬ (((nt.1[i].1.toNat:Nat):Int)<nt.1[i].1) by omega)) (by omega) (fun hins=>?_) (fun k hk hb=>?_)
  ·have h1:(k:Int)<nt.1[i].1:=by omega
   simp only [h1,decide_true,br_true]
   rw [sL3To_spec (by omega) hn,Option.bind_some,w64_succ (by omega),br_if]
   simp only [decide_eq_true_eq,onlyIx_neg]
   by_cases hc:nt.2.countP (isTo i k)=1<;>simp [hc]
  ·refine W_chkloop (bad:=some (false,())) nt.1[i].2.1.toNat (fun k=>decide (nt.2.countP (isFrom i k)=1)) (fun ih k hk=>?_) (fun ih=>br_no (show ¬ (((nt.1[i].2.1.toNat:Nat):Int)<nt.1[i].2.1) by omega)) (by omega) (fun houts=>?_) (fun k hk hb=>?_)
   ·have h1:(k:Int)<nt.1[i].2.1:=by omega
    simp only [h1,decide_true,br_true]
    rw [sL3From_spec (by omega) hn,Option.bind_some,w64_succ (by omega),br_if]
    simp only [decide_eq_true_eq,onlyIx_neg]
    by_cases hc:nt.2.countP (isFrom i k)=1<;>simp [hc]
   ·rw [w64_succ (by omega)]
    refine hS () (fun j hj hji=>?_)
    rcases Nat.lt_or_eq_of_le (Nat.le_of_lt_succ hji) with e | e
    ·exact hI j hj e
    ·subst e
     exact ⟨fun k hk=>by simpa using hins k (by omega),fun k hk=>by simpa using houts k (by omega)⟩
   ·simp only [W_some,Bool.false_eq_true,false_iff]
    intro o; have:=o.outs i hi k (by omega); simp [this] at hb
  ·simp only [W_some,Bool.false_eq_true,false_iff]
   intro o; have:=o.ins i hi k (by omega); simp [this] at hb
def clash (l k:Link):Bool:=(decide (0≤l.1)&&(decide (k.1=l.1)&&decide (k.2.1=l.2.1)))||(decide (0≤l.2.2.1)&&(decide (k.2.2.1=l.2.2.1)&&decide (k.2.2.2.1=l.2.2.2.1)))
def toE (l:Link):Option (Int×Int):=if 0≤l.2.2.1 then some (l.2.2.1,l.2.2.2.1) else none
def fromE (l:Link):Option (Int×Int):=if 0≤l.1 then some (l.1,l.2.1) else none
def portsI:Nat→List Program→List (Int×Int)
 | _,[]=>[]
 | i,p::ps=>((List.range p.1.toNat).map fun k:Nat=>((i:Int),(k:Int)))++portsI (i+1) ps
def portsO:Nat→List Program→List (Int×Int)
 | _,[]=>[]
 | i,p::ps=>((List.range p.2.1.toNat).map fun k:Nat=>((i:Int),(k:Int)))++portsO (i+1) ps
theorem mem_portsI:∀ (ps:List Program) (i:Nat) (q:Int×Int),q∈portsI i ps↔∃ (j:Nat) (hj:j<ps.length) (k:Nat),k<ps[j].1.toNat∧q=(((i+j:Nat):Int),(k:Int))
 | [],i,q=>by simp [portsI]
 | p::ps,i,q=>by
  simp only [portsI,List.mem_append,List.mem_map,List.mem_range,mem_portsI ps]
  constructor
  ·rintro (⟨k,hk,rfl⟩ | ⟨j,hj,k,hk,rfl⟩)
   ·exact ⟨0,by simp,k,by simpa using hk,by simp⟩
   ·exact ⟨j+1,by simp; omega,k,by simpa using hk,by rw [show i+1+j=i+(j+1) by omega]⟩
  ·rintro ⟨j,hj,k,hk,rfl⟩
   cases j with
   | zero=>exact .inl ⟨k,by simpa using hk,by simp⟩
   | succ j=>exact .inr ⟨j,by simpa using hj,k,by simpa using hk,by rw [show i+1+j=i+(j+1) by omega]⟩
theorem mem_portsO:∀ (ps:List Program) (i:Nat) (q:Int×Int),q∈portsO i ps↔∃ (j:Nat) (hj:j<ps.length) (k:Nat),k<ps[j].2.1.toNat∧q=(((i+j:Nat):Int),(k:Int))
 | [],i,q=>by simp [portsO]
 | p::ps,i,q=>by
  simp only [portsO,List.mem_append,List.mem_map,List.mem_range,mem_portsO ps]
  constructor
  ·rintro (⟨k,hk,rfl⟩ | ⟨j,hj,k,hk,rfl⟩)
   ·exact ⟨0,by simp,k,by simpa using hk,by simp⟩
   ·exact ⟨j+1,by simp; omega,k,by simpa using hk,by rw [show i+1+j=i+(j+1) by omega]⟩
  ·rintro ⟨j,hj,k,hk,rfl⟩
   cases j with
   | zero=>exact .inl ⟨k,by simpa using hk,by simp⟩
   | succ j=>exact .inr ⟨j,by simpa using hj,k,by simpa using hk,by rw [show i+1+j=i+(j+1) by omega]⟩
theorem row_nodup (i m:Nat):((List.range m).map fun k:Nat=>((i:Int),(k:Int))).Nodup:=by
 unfold List.Nodup
 rw [List.pairwise_map]
 refine List.Pairwise.imp ?_ (List.nodup_range (n:=m))
 intro a b h e
 simp only [Prod.mk.injEq,true_and] at e
 omega
theorem nodup_portsI:∀ (ps:List Program) (i:Nat),(portsI i ps).Nodup
 | [],i=>List.nodup_nil
 | p::ps,i=>by
  refine List.nodup_append.2 ⟨row_nodup i _,nodup_portsI ps (i+1),fun a ha b hb e=>?_⟩
  subst e
  obtain ⟨k,_,rfl⟩:=List.mem_map.1 ha
  obtain ⟨j,hj,k',_,e⟩:=(mem_portsI ps (i+1) _).1 hb
  simp only [Prod.mk.injEq] at e
  omega
theorem nodup_portsO:∀ (ps:List Program) (i:Nat),(portsO i ps).Nodup
 | [],i=>List.nodup_nil
 | p::ps,i=>by
  refine List.nodup_append.2 ⟨row_nodup i _,nodup_portsO ps (i+1),fun a ha b hb e=>?_⟩
  subst e
  obtain ⟨k,_,rfl⟩:=List.mem_map.1 ha
  obtain ⟨j,hj,k',_,e⟩:=(mem_portsO ps (i+1) _).1 hb
  simp only [Prod.mk.injEq] at e
  omega
def portSum:List Program→Int
 | []=>0
 | p::ps=>p.1+p.2.1+portSum ps
def endSum:List Link→Int
 | []=>0
 | l::ls=>(if 0≤l.1 then 1 else 0)+(if 0≤l.2.2.1 then 1 else 0)+endSum ls
theorem portSum_len:∀ (ps:List Program) (i:Nat),(∀ p∈ps,0≤p.1∧0≤p.2.1)→portSum ps=((portsI i ps).length:Int)+((portsO i ps).length:Int)
 | [],i,_=>rfl
 | p::ps,i,h=>by
  have h1:=h p (by simp)
  have h2:=portSum_len ps (i+1) (fun q hq=>h q (by simp [hq]))
  simp only [portSum,portsI,portsO,List.length_append,List.length_map,List.length_range,h2]
  omega
theorem endSum_len:∀ ls:List Link,endSum ls=((ls.filterMap fromE).length:Int)+((ls.filterMap toE).length:Int)
 | []=>rfl
 | l::ls=>by
  have:=endSum_len ls
  simp only [endSum,List.filterMap_cons,this]
  unfold fromE toE
  by_cases h1:0≤l.1<;>by_cases h2:0≤l.2.2.1<;>simp [h1,h2]<;>omega
theorem count_toE (p k:Int) (hp:0≤p):∀ ls:List Link,(ls.filterMap toE).count (p,k)=ls.countP (isTo p k)
 | []=>rfl
 | l::ls=>by
  have:=count_toE p k hp ls
  rw [List.filterMap_cons,List.countP_cons,← this]
  unfold toE isTo
  by_cases h1:0≤l.2.2.1
  ·simp only [h1,if_true,List.count_cons]
   by_cases h2:l.2.2.1=p<;>by_cases h3:l.2.2.2.1=k<;>simp [h2,h3]
  ·have:¬ (l.2.2.1=p):=by omega
   simp [h1,this]
theorem count_fromE (p k:Int) (hp:0≤p):∀ ls:List Link,(ls.filterMap fromE).count (p,k)=ls.countP (isFrom p k)
 | []=>rfl
 | l::ls=>by
  have:=count_fromE p k hp ls
  rw [List.filterMap_cons,List.countP_cons,← this]
  unfold fromE isFrom
  by_cases h1:0≤l.1
  ·simp only [h1,if_true,List.count_cons]
   by_cases h2:l.1=p<;>by_cases h3:l.2.1=k<;>simp [h2,h3]
  ·have:¬ (l.1=p):=by omega
   simp [h1,this]
def Apart (ls:List Link):Prop:=∀ i j (hi:i<ls.length) (hj:j<i),clash ls[i] ls[j]=false
theorem apart_iff {ls:List Link} : Apart ls↔((ls.filterMap fromE).Nodup∧(ls.filterMap toE).Nodup):=by
 unfold List.Nodup
 rw [List.pairwise_filterMap,List.pairwise_filterMap,List.pairwise_iff_getElem,List.pairwise_iff_getElem]
 unfold Apart clash fromE toE
 constructor
 ·intro h
  refine ⟨fun i j hi hj hij b hb b' hb' e=>?_,fun i j hi hj hij b hb b' hb' e=>?_⟩
  ·have:=h j i hj hij
   simp only [Option.mem_def,Option.ite_none_right_eq_some,Option.some.injEq] at hb hb'
   obtain ⟨b1,rfl⟩:=hb
   obtain ⟨b2,rfl⟩:=hb'
   simp only [Prod.mk.injEq] at e
   simp [b2,e.1,e.2] at this
  ·have:=h j i hj hij
   simp only [Option.mem_def,Option.ite_none_right_eq_some,Option.some.injEq] at hb hb'
   obtain ⟨b1,rfl⟩:=hb
   obtain ⟨b2,rfl⟩:=hb'
   simp only [Prod.mk.injEq] at e
   simp [b2,e.1,e.2] at this
 ·rintro ⟨h1,h2⟩ i j hi hj
  rw [← Bool.not_eq_true]
  intro hc
  simp only [Bool.or_eq_true,Bool.and_eq_true,decide_eq_true_eq] at hc
  rcases hc with ⟨c1,c2,c3⟩ | ⟨c1,c2,c3⟩
  ·exact h1 j i (by omega) hi hj (ls[j].1,ls[j].2.1) (by simp; omega) (ls[i].1,ls[i].2.1) (by simp; omega) (by rw [c2,c3])
  ·exact h2 j i (by omega) hi hj (ls[j].2.2.1,ls[j].2.2.2.1) (by simp; omega) (ls[i].2.2.1,ls[i].2.2.2.1) (by simp; omega) (by rw [c2,c3])
theorem okN_iff {nt:Network} (hp:∀ (i:Nat) (hi:i<nt.1.length),okP nt.1[i]=true) (he:∀ (i:Nat) (hi:i<nt.2.length),EndOk nt nt.2[i]) :
  ((∀ (i:Nat) (hi:i<nt.1.length) (k:Nat),(k:Int)<nt.1[i].1→nt.2.countP (isTo i k)=1)∧(∀ (i:Nat) (hi:i<nt.1.length) (k:Nat),(k:Int)<nt.1[i].2.1→nt.2.countP (isFrom i k)=1))↔
  (Apart nt.2∧endSum nt.2=portSum nt.1):=by
 have hpos:∀ p∈nt.1,0≤p.1∧0≤p.2.1:=fun p hm=>by
  obtain ⟨i,hi,rfl⟩:=List.mem_iff_getElem.1 hm
  have:=okP_ports (hp i hi); omega
 have hI:∀ q∈nt.2.filterMap toE,q∈portsI 0 nt.1:=fun q hq=>by
  obtain ⟨l,hl,e⟩:=List.mem_filterMap.1 hq
  obtain ⟨i,hi,rfl⟩:=List.mem_iff_getElem.1 hl
  unfold toE at e
  simp only [Option.ite_none_right_eq_some,Option.some.injEq] at e
  obtain ⟨e1,rfl⟩:=e
  rcases (he i hi).inn with h | ⟨h1,h2,h3,h4⟩
  ·omega
  ·rw [getD_lt (by omega)] at h4
   exact (mem_portsI _ _ _).2 ⟨nt.2[i].2.2.1.toNat,by omega,nt.2[i].2.2.2.1.toNat,by omega,by simp only [Prod.mk.injEq]; omega⟩
 have hO:∀ q∈nt.2.filterMap fromE,q∈portsO 0 nt.1:=fun q hq=>by
  obtain ⟨l,hl,e⟩:=List.mem_filterMap.1 hq
  obtain ⟨i,hi,rfl⟩:=List.mem_iff_getElem.1 hl
  unfold fromE at e
  simp only [Option.ite_none_right_eq_some,Option.some.injEq] at e
  obtain ⟨e1,rfl⟩:=e
  rcases (he i hi).out with h | ⟨h1,h2,h3,h4⟩
  ·omega
  ·rw [getD_lt (by omega)] at h4
   exact (mem_portsO _ _ _).2 ⟨nt.2[i].1.toNat,by omega,nt.2[i].2.1.toNat,by omega,by simp only [Prod.mk.injEq]; omega⟩
 have fI:=fills (nodup_portsI nt.1 0) hI
 have fO:=fills (nodup_portsO nt.1 0) hO
 have aI:(∀ (i:Nat) (hi:i<nt.1.length) (k:Nat),(k:Int)<nt.1[i].1→nt.2.countP (isTo i k)=1)↔(∀ q∈portsI 0 nt.1,(nt.2.filterMap toE).count q=1):=by
  constructor
  ·intro h q hq
   obtain ⟨j,hj,k,hk,rfl⟩:=(mem_portsI _ _ _).1 hq
   rw [count_toE _ _ (by omega)]
   simpa using h j hj k (by omega)
  ·intro h i hi k hk
   rw [← count_toE _ _ (by omega)]
   exact h _ ((mem_portsI _ _ _).2 ⟨i,hi,k,by omega,by simp⟩)
 have aO:(∀ (i:Nat) (hi:i<nt.1.length) (k:Nat),(k:Int)<nt.1[i].2.1→nt.2.countP (isFrom i k)=1)↔(∀ q∈portsO 0 nt.1,(nt.2.filterMap fromE).count q=1):=by
  constructor
  ·intro h q hq
   obtain ⟨j,hj,k,hk,rfl⟩:=(mem_portsO _ _ _).1 hq
   rw [count_fromE _ _ (by omega)]
   simpa using h j hj k (by omega)
  ·intro h i hi k hk
   rw [← count_fromE _ _ (by omega)]
   exact h _ ((mem_portsO _ _ _).2 ⟨i,hi,k,by omega,by simp⟩)
 rw [aI,aO,fI,fO,apart_iff,endSum_len,portSum_len nt.1 0 hpos]
 constructor
 ·rintro ⟨⟨h1,h2⟩,h3,h4⟩
  refine ⟨⟨h3,h1⟩,?_⟩
  have:=len_le_of_sub h1 hI
  have:=len_le_of_sub h3 hO
  omega
 ·rintro ⟨⟨h1,h2⟩,h3⟩
  have:=len_le_of_sub h2 hI
  have:=len_le_of_sub h1 hO
  exact ⟨⟨h2,by omega⟩,h1,by omega⟩
theorem portSum_take:∀ (ps:List Program) (i:Nat) (hi:i<ps.length),portSum (ps.take (i+1))=portSum (ps.take i)+(ps[i].1+ps[i].2.1)
 | [],i,hi=>absurd hi (by simp)
 | p::ps,0,hi=>by simp [portSum]
 | p::ps,i+1,hi=>by
  have:=portSum_take ps i (by simpa using hi)
  simp only [List.take_succ_cons,portSum,List.getElem_cons_succ] at this ⊢
  omega
theorem endSum_take:∀ (ls:List Link) (i:Nat) (hi:i<ls.length),endSum (ls.take (i+1))=endSum (ls.take i)+((if 0≤ls[i].1 then 1 else 0)+(if 0≤ls[i].2.2.1 then 1 else 0))
 | [],i,hi=>absurd hi (by simp)
 | p::ls,0,hi=>by simp [endSum]
 | p::ls,i+1,hi=>by
  have:=endSum_take ls i (by simpa using hi)
  simp only [List.take_succ_cons,endSum,List.getElem_cons_succ] at this ⊢
  omega
theorem iIsNetwork_spec {n:Nat} {nt:Network} (h:SmallN nt) (hn:1048576<n):iIsNetwork.f n nt=some (okN nt,()):=by
 have hp:=h.progs
 have hl:=h.links
 unfold iIsNetwork.f okN
 refine W_dec ?_
 refine W_cut_of (decide (12<nt.1.length∨30<nt.2.length),()) ?_ ?_
 ·by_cases a:12<nt.1.length
  ·simp [br,show (12:Int)<(nt.1.length:Int) by omega,a]
  ·simp [br,show ¬ (12:Int)<(nt.1.length:Int) by omega,a,show (30:Int)<(nt.2.length:Int)↔30<nt.2.length by omega]
 rw [W_brd]
 refine ⟨fun a=>?_,fun a=>?_⟩
 ·simp only [W_some,Bool.false_eq_true,false_iff]
  intro o; have:=o.progs; have:=o.links; omega
 have a1:nt.1.length≤12:=by omega
 have a2:nt.2.length≤30:=by omega
 refine W_up (fun i (s:Int)=>(s,((i:Int),()))) nt.1.length (fun i s=>(∀ j (hj:j<nt.1.length),j<i→okP nt.1[j]=true)∧s=portSum (nt.1.take i)∧0≤s∧s≤6*(i:Int))
  rfl ⟨by intros; omega,by simp [portSum],by omega,by omega⟩ (by omega) (fun ih s hI=>?_) (fun ih i s hi hI hS=>?_)
 rotate_left
 ·have h1:(i:Int)<(nt.1.length:Int):=by omega
  simp only [h1,decide_true,br_true,Int.toNat_natCast,getD_lt hi]
  rw [chk_true (by first | (simp; done) | omega),iIsProgram_spec (h.prog _ (List.getElem_mem hi)) hn,Option.bind_some,w64_succ (by omega)]
  obtain ⟨i1,i2,i3,i4⟩:=hI
  cases hok:okP nt.1[i] with
  | false=>
   simp only [Bool.not_false,br_true,W_some,Bool.false_eq_true,false_iff]
   intro o; have:=o.prog i hi; simp [hok] at this
  | true=>
   obtain ⟨p1,p2,p3,p4⟩:=okP_ports hok
   simp only [Bool.not_true,br_false]
   rw [w64_id (n:=nt.1[i].1+nt.1[i].2.1) (by omega) (by omega),w64_id (by omega) (by omega)]
   refine hS _ ⟨fun j hj hji=>?_,by rw [portSum_take _ _ hi,i2],by omega,by push_cast; omega⟩
   rcases Nat.lt_or_eq_of_le (Nat.le_of_lt_succ hji) with e | e
   ·exact i1 j hj e
   ·subst e; exact hok
 obtain ⟨hprog,hs,hs0,hs1⟩:=hI
 have hprog:∀ (i:Nat) (hi:i<nt.1.length),okP nt.1[i]=true:=fun i hi=>hprog i hi hi
 rw [List.take_length] at hs
 simp only [Int.lt_irrefl,decide_false,br_false]
 refine W_up (fun i (s:Int)=>(s,((i:Int),()))) nt.2.length (fun i s=>(∀ j (hj:j<nt.2.length),j<i→EndOk nt nt.2[j]∧okS nt.2[j].2.2.2.2=true∧∀ k (hk:k<j),clash nt.2[j] nt.2[k]=false)∧s=endSum (nt.2.take i)∧0≤s∧s≤2*(i:Int))
  rfl ⟨by intros; omega,by simp [endSum],by omega,by omega⟩ (by omega) (fun ih s' hI=>?_) (fun ih i s' hi hI hS=>?_)
 ·obtain ⟨i1,i2,i3,i4⟩:=hI
  rw [List.take_length] at i2
  simp only [Int.lt_irrefl,decide_false,br_false,W_some,decide_eq_true_eq]
  have key:=okN_iff hprog (fun i hi=>(i1 i hi hi).1)
  constructor
  ·intro e
   obtain ⟨k1,k2⟩:=key.2 ⟨fun i j hi hj=>(i1 i hi hi).2.2 j hj,by rw [← i2,e,hs]⟩
   exact ⟨a1,a2,hprog,fun i hi=>(i1 i hi hi).1,fun i hi=>(i1 i hi hi).2.1,k1,k2⟩
  ·intro o
   have:=(key.1 ⟨o.ins,o.outs⟩).2
   rw [i2,hs,this]
 ·obtain ⟨i1,i2,i3,i4⟩:=hI
  have h1:(i:Int)<(nt.2.length:Int):=by omega
  simp only [h1,decide_true,br_true,Int.toNat_natCast,getD_lt hi]
  rw [chk_true (by first | (simp; done) | omega)]
  have hgp:∀ j:Int,0≤j→j<(nt.1.length:Int)→nt.1.getD j.toNat zProgram=nt.1.getD j.toNat zProgram:=fun _ _ _=>rfl
  have bad:¬ EndOk nt nt.2[i]→(false=true↔OkN nt):=fun hb=>by simp only [Bool.false_eq_true,false_iff]; exact fun o=>hb (o.ends i hi)
  generalize hlk:nt.2[i]=l at *
  refine W_cut_of (decide (l.1 = -1∧l.2.1=0),(decide (l.2.2.1 = -1∧l.2.2.2.1=0),())) ?_ ?_
  ·by_cases a:l.1 = -1<;>by_cases b:l.2.2.1 = -1<;>simp [a,b,br]
  refine W_cut_of (decide (OutOk nt l),()) ?_ ?_
  ·unfold OutOk
   by_cases a:0≤l.1<;>by_cases b:l.1<(nt.1.length:Int)<;>by_cases c:0≤l.2.1<;>simp [a,b,c,br,chk]
  by_cases hout:l.1 = -1∧l.2.1=0∨OutOk nt l
  rotate_left
  ·simp only [not_or] at hout
   refine W_cut_ret (false,()) ?_ (bad (fun o=>by rcases o.out with h | h; exact hout.1 h; exact hout.2 h))
   simp [hout.1,hout.2,br]
  refine W_cut_of (s'+(if 0≤l.1 then 1 else 0),()) ?_ ?_
  ·rcases hout with ⟨o1,o2⟩ | o
   ·have:¬ OutOk nt l:=fun h=>by unfold OutOk at h; omega
    simp [this,o1,o2,br]
   ·have:0≤l.1:=o.1
    simp only [o,decide_true,br_true,this,if_true]
    rw [w64_id (by omega) (by omega)]
  refine W_cut_of (decide (InOk nt l),()) ?_ ?_
  ·unfold InOk
   by_cases a:0≤l.2.2.1<;>by_cases b:l.2.2.1<(nt.1.length:Int)<;>by_cases c:0≤l.2.2.2.1<;>simp [a,b,c,br,chk]
  by_cases hin:l.2.2.1 = -1∧l.2.2.2.1=0∨InOk nt l
  rotate_left
  ·simp only [not_or] at hin
   refine W_cut_ret (false,()) ?_ (bad (fun o=>by rcases o.inn with h | h; exact hin.1 h; exact hin.2 h))
   simp [hin.1,hin.2,br]
  refine W_cut_of (s'+(if 0≤l.1 then 1 else 0)+(if 0≤l.2.2.1 then 1 else 0),()) ?_ ?_
  ·rcases hin with ⟨o1,o2⟩ | o
   ·have:¬ InOk nt l:=fun h=>by unfold InOk at h; omega
    simp [this,o1,o2,br]
   ·have:0≤l.2.2.1:=o.1
    simp only [o,decide_true,br_true,this,if_true]
    rw [w64_id (by split<;>omega) (by split<;>omega)]
  have hst:okS l.2.2.2.2=okS l.2.2.2.2:=rfl
  refine W_cut_of (decide (l.1 = -1∧l.2.2.1 = -1)||!(okS l.2.2.2.2),()) ?_ ?_
  ·rw [iIsStream_spec (by rw [← hlk]; exact (h.link _ (List.getElem_mem hi)).tokens) hn]
   have n1:(l.1 = -1∧l.2.1=0)↔l.1 = -1:=⟨fun h=>h.1,fun h=>by rcases hout with o | o; exact o; have:=o.1; omega⟩
   have n2:(l.2.2.1 = -1∧l.2.2.2.1=0)↔l.2.2.1 = -1:=⟨fun h=>h.1,fun h=>by rcases hin with o | o; exact o; have:=o.1; omega⟩
   simp only [n1,n2,Option.bind_some]
   by_cases a:l.1 = -1<;>by_cases b:l.2.2.1 = -1<;>simp [a,b,br]
  rw [W_br]
  refine ⟨fun hb=>?_,fun hb=>?_⟩
  ·simp only [W_some,Bool.false_eq_true,false_iff]
   intro o
   simp only [Bool.or_eq_true,decide_eq_true_eq,Bool.not_eq_true'] at hb
   rcases hb with hb | hb
   ·have:=(o.ends i hi).one; rw [hlk] at this; exact this hb
   ·have:=o.toks i hi; rw [hlk,hb] at this; simp at this
  simp only [Bool.or_eq_false_iff,decide_eq_false_iff_not,Bool.not_eq_false'] at hb
  obtain ⟨hone,hs5⟩:=hb
  have hend:EndOk nt l:=⟨hout,hin,hone⟩
  rw [chk_true (by first | (simp; done) | omega)]
  simp only [List.drop_zero]
  have hlt:(nt.2.take i).length=i:=by simp; omega
  refine W_chkloop (bad:=some (false,())) (nt.2.take i).length (fun k=>!(clash l ((nt.2.take i).getD k zLink))) (fun ih k hk=>?_) (fun ih=>br_no (Int.lt_irrefl _)) (by omega) (fun hcl=>?_) (fun k hk hb=>?_)
  ·have h1:(k:Int)<((nt.2.take i).length:Int):=by omega
   simp only [h1,decide_true,br_true,Int.toNat_natCast,getD_lt hk]
   rw [chk_true (by first | (simp; done) | omega),w64_succ (by omega)]
   unfold clash
   generalize (nt.2.take i)[k]=m
   by_cases c1:0≤l.1<;>by_cases c2:m.1=l.1<;>by_cases c3:m.2.1=l.2.1<;>by_cases c4:0≤l.2.2.1<;>by_cases c5:m.2.2.1=l.2.2.1<;>by_cases c6:m.2.2.2.1=l.2.2.2.1<;>
    simp only [c1,c2,c3,c4,c5,c6,decide_true,decide_false,br_true,br_false,Bool.and_true,Bool.true_and,Bool.and_false,Bool.false_and,Bool.or_true,Bool.or_false,Bool.true_or,Bool.false_or,Bool.not_true,Bool.not_false,if_true,if_false,Bool.false_eq_true]
  ·rw [w64_succ (by omega)]
   refine hS _ ⟨fun j hj hji=>?_,by rw [endSum_take _ _ hi,i2,hlk]; omega,by split<;>split<;>omega,by split<;>split<;>push_cast<;>omega⟩
   rcases Nat.lt_or_eq_of_le (Nat.le_of_lt_succ hji) with e | e
   ·exact i1 j hj e
   ·subst e
    refine ⟨by rw [hlk]; exact hend,by rw [hlk]; exact hs5,fun k hk=>?_⟩
    have:=hcl k (by omega)
    rw [getD_lt (by omega)] at this
    simpa [hlk] using this
  ·simp only [W_some,Bool.false_eq_true,false_iff]
   intro o
   have:=((okN_iff hprog o.ends).1 ⟨o.ins,o.outs⟩).1 i k hi (by omega)
   rw [getD_lt hk] at hb
   rw [hlk] at this
   simp [this] at hb
end Go.AmT
namespace Go.AmT
open Go Go.Am Go.Proofs
set_option linter.unusedVariables false
set_option maxRecDepth 100000
def tys1:List (Nat×TInfo):=[(3,⟨false,1,8,[.int .i64 0],.int .i64,0,some I,[],false⟩),
 (24,⟨false,1,24,[.nil],.slice,71,some (.sl tLink),[],false⟩),
 (26,⟨true,2,48,[.nil,.nil],.struct,0,some tNetwork,[(0,23),(1,24)],false⟩),
 (32,⟨false,1,24,[.nil],.slice,3,some IS,[],false⟩),
 (71,⟨true,5,56,[.int .i64 0,.int .i64 0,.int .i64 0,.int .i64 0,.nil],.struct,0,some tLink,[(0,3),(1,3),(2,3),(3,3),(4,32)],false⟩)]
theorem tys1_ok:(tys1.all fun p=>tokB Tryz.prog p.1 p.2)=true:=by kernel_rfl
def iAre.las:List (Nat×LA):=[(1,⟨[(17,.bool)],[],[1,2],[]⟩),(6,⟨[(20,.int .i64)],[],[2,18,19],[]⟩)]
noncomputable def iAre.f (n:Nat) (a0:Network) (a1:List Int):Option (Bool×Unit):=cut (α:=(Bool×Unit)) ((iIsNetwork.f n a0).bind fun r3=>br (!r3.1) (some (.inr (true,()))) (some (.inr ((!decide ((a1.length:Int)=(a0.2.length:Int))),())))) fun y2=>br y2.1 (some (false,())) (iter (α:=(Int×Unit)) n (fun ih10 x9=>br (decide (x9.1<(a1.length:Int))) (chk (0≤x9.1∧x9.1<(a1.length:Int)) (chk (0≤x9.1∧x9.1<(a0.2.length:Int)) (let v11:=(a0.2.getD x9.1.toNat zLink); br (decide ((a1.getD x9.1.toNat 0)<(v11.2.2.2.2.length:Int))) (some (false,())) (br (decide (400<(a1.getD x9.1.toNat 0))) (some (false,())) (ih10 ((w64 (x9.1+1)),())))))) (some (true,()))) (0,()))
noncomputable def iAre.mng (n:Nat):Mng:=⟨[.val tNetwork,.val IS],[.val .bool],fun x=>iAre.f n x.1 x.2.1⟩
noncomputable def iAre.cfg (n:Nat):Cfg:=⟨tys1,[(46,iIsNetwork.mng n)],[],[]⟩
theorem iAre.gof:GoF Tryz.prog 61:=⟨_,Tryz.func61,by kernel_rfl,by kernel_rfl⟩
theorem iAre.sound (n:Nat):Sound Tryz.prog 61 (iAre.mng n):=sndF (c:=iAre.cfg n) (n:=n) (an:=annOf Tryz.f61 iAre.las) ⟨⟨iIsNetwork.sound n,iIsNetwork.gof⟩,trivial⟩ trivial (tysOK tys1_ok) Tryz.func61 (fun x=>by kernel_rfl)
end Go.AmT
namespace Go.AmT
open Go Go.Am
set_option linter.unusedVariables false
set_option linter.unusedSimpArgs false
def okC (ls:List Link) (caps:List Int):Bool:=decide (caps.length=ls.length)&&(List.range caps.length).all fun i=>decide (((ls.getD i zLink).2.2.2.2.length:Int)≤caps.getD i 0)&&decide (caps.getD i 0≤400)
theorem lt_lt {α:Type} (v m k:Int) {x y:Option α} : br (decide (v<m)) x (br (decide (k<v)) x y)=if (decide (m≤v)&&decide (v≤k))=true then y else x:=by
 by_cases a:m≤v<;>by_cases b:v≤k
 ·simp [br,a,b,show ¬ v<m by omega,show ¬ k<v by omega]
 ·simp [br,a,b,show ¬ v<m by omega,show k<v by omega]
 ·simp [br,a,b,show v<m by omega]
 ·simp [br,a,b,show v<m by omega]
theorem iAre_spec {n:Nat} {nt:Network} {caps:List Int} (h:SmallN nt) (hc:caps.length≤1048576) (hn:1048576<n):iAre.f n nt caps=some (okN nt&&okC nt.2 caps,()):=by
 have hl:=h.links
 unfold iAre.f
 rw [iIsNetwork_spec h hn,Option.bind_some]
 cases hok:okN nt with
 | false=>simp [br,cut]
 | true=>
  by_cases hlen:caps.length=nt.2.length
  ·have hle:(caps.length:Int)=(nt.2.length:Int):=by omega
   simp only [Bool.not_true,br_false,hle,decide_true,cut_inr,Bool.true_and,okC,hlen]
   refine W_eq.1 (W_chkloop (bad:=some (false,())) nt.2.length (fun i=>decide (((nt.2.getD i zLink).2.2.2.2.length:Int)≤caps.getD i 0)&&decide (caps.getD i 0≤400)) (fun ih i hi=>?_) (fun ih=>br_no (Int.lt_irrefl _)) (by omega) (fun hok=>?_) (fun i hi hb=>?_))
   ·have h1:(i:Int)<(nt.2.length:Int):=by omega
    simp only [h1,decide_true,br_true,Int.toNat_natCast]
    rw [chk_true (by simp),chk_true (by simp),w64_succ (by omega)]
    exact lt_lt _ _ _
   ·rw [W_some]
    have:((List.range nt.2.length).all fun i=>decide (((nt.2.getD i zLink).2.2.2.2.length:Int)≤caps.getD i 0)&&decide (caps.getD i 0≤400))=true:=List.all_eq_true.2 (fun i hi=>hok i (List.mem_range.1 hi))
    rw [this]
   ·rw [W_some]
    have:((List.range nt.2.length).all fun i=>decide (((nt.2.getD i zLink).2.2.2.2.length:Int)≤caps.getD i 0)&&decide (caps.getD i 0≤400))=false:=by
     rw [List.all_eq_false]; exact ⟨i,List.mem_range.2 hi,by rw [hb]; simp⟩
    rw [this]
  ·have hle:¬ ((caps.length:Int)=(nt.2.length:Int)):=by omega
   simp [hle,okC,hlen,br,cut]
end Go.AmT
namespace Go.AmT
open Go Go.Am Go.Proofs
set_option linter.unusedVariables false
set_option maxRecDepth 100000
abbrev tActor:Ty:=(.pair I IS)
abbrev tState:Ty:=(.pair (.sl tActor) (.pair (.sl IS) (.pair (.sl IS) I)))
abbrev Actor:Type:=Int×List Int
def zActor:Actor:=(0,[])
abbrev State:Type:=List Actor×(List (List Int)×(List (List Int)×Int))
def tys2:List (Nat×TInfo):=[(3,⟨false,1,8,[.int .i64 0],.int .i64,0,some I,[],false⟩),
 (23,⟨false,1,24,[.nil],.slice,68,some (.sl tProgram),[],false⟩),
 (24,⟨false,1,24,[.nil],.slice,71,some (.sl tLink),[],false⟩),
 (26,⟨true,2,48,[.nil,.nil],.struct,0,some tNetwork,[(0,23),(1,24)],false⟩),
 (28,⟨false,1,24,[.nil],.slice,75,some (.sl tActor),[],false⟩),
 (29,⟨false,1,24,[.nil],.slice,32,some (.sl IS),[],false⟩),
 (31,⟨true,4,80,[.nil,.nil,.nil,.int .i64 0],.struct,0,some tState,[(0,28),(1,29),(2,29),(3,3)],false⟩),
 (32,⟨false,1,24,[.nil],.slice,3,some IS,[],false⟩),
 (66,⟨false,1,24,[.nil],.slice,122,some (.sl tInstr),[],false⟩),
 (68,⟨true,3,40,[.int .i64 0,.int .i64 0,.nil],.struct,0,some tProgram,[(0,3),(1,3),(2,66)],false⟩),
 (71,⟨true,5,56,[.int .i64 0,.int .i64 0,.int .i64 0,.int .i64 0,.nil],.struct,0,some tLink,[(0,3),(1,3),(2,3),(3,3),(4,32)],false⟩),
 (75,⟨true,2,32,[.int .i64 0,.nil],.struct,0,some tActor,[(0,3),(1,32)],false⟩)]
theorem tys2_ok:(tys2.all fun p=>tokB Tryz.prog p.1 p.2)=true:=by kernel_rfl
def sL2Actor.las:List (Nat×LA):=[]
noncomputable def sL2Actor.f (n:Nat) (a0:Program) (a1:Actor):Option (Bool×Unit):=(sL1In.f n a1.1 0 (a0.2.2.length:Int)).bind fun r1=>br r1.1 (br (decide ((a1.2.length:Int)=4)) ((sIsStream.f n a1.2).bind fun r2=>some (r2.1,())) (some (false,()))) (some (false,()))
noncomputable def sL2Actor.mng (n:Nat):Mng:=⟨[.val tProgram,.val tActor],[.val .bool],fun x=>sL2Actor.f n x.1 x.2.1⟩
noncomputable def sL2Actor.cfg (n:Nat):Cfg:=⟨tys2,[(133,sL1In.mng n),(78,sIsStream.mng n)],[],[]⟩
theorem sL2Actor.gof:GoF Tryz.prog 139:=⟨_,Tryz.func139,by kernel_rfl,by kernel_rfl⟩
theorem sL2Actor.sound (n:Nat):Sound Tryz.prog 139 (sL2Actor.mng n):=sndF (c:=sL2Actor.cfg n) (n:=n) (an:=annOf Tryz.f139 sL2Actor.las) ⟨⟨sL1In.sound n,sL1In.gof⟩,⟨⟨sIsStream.sound n,sIsStream.gof⟩,trivial⟩⟩ trivial (tysOK tys2_ok) Tryz.func139 (fun x=>by kernel_rfl)
def sL1Begins.las:List (Nat×LA):=[(6,⟨[(14,.int .i64)],[],[1,12,13],[]⟩)]
noncomputable def sL1Begins.f (n:Nat) (a0:List Int) (a1:List Int):Option (Bool×Unit):=br (decide ((a1.length:Int)<(a0.length:Int))) (some (false,())) (iter (α:=(Int×Unit)) n (fun ih6 x5=>br (decide (x5.1<(a0.length:Int))) (chk (0≤x5.1∧x5.1<(a0.length:Int)) (chk (0≤x5.1∧x5.1<(a1.length:Int)) (br (!decide ((a1.getD x5.1.toNat 0)=(a0.getD x5.1.toNat 0))) (some (false,())) (ih6 ((w64 (x5.1+1)),()))))) (some (true,()))) (0,()))
noncomputable def sL1Begins.mng (n:Nat):Mng:=⟨[.val IS,.val IS],[.val .bool],fun x=>sL1Begins.f n x.1 x.2.1⟩
noncomputable def sL1Begins.cfg (n:Nat):Cfg:=⟨tys2,[],[],[]⟩
theorem sL1Begins.gof:GoF Tryz.prog 94:=⟨_,Tryz.func94,by kernel_rfl,by kernel_rfl⟩
theorem sL1Begins.sound (n:Nat):Sound Tryz.prog 94 (sL1Begins.mng n):=sndF (c:=sL1Begins.cfg n) (n:=n) (an:=annOf Tryz.f94 sL1Begins.las) trivial trivial (tysOK tys2_ok) Tryz.func94 (fun x=>by kernel_rfl)
def sL5Ends.las:List (Nat×LA):=[]
noncomputable def sL5Ends.f (n:Nat) (a0:List Int) (a1:List Int):Option (Bool×Unit):=br (decide ((a0.length:Int)≤(a1.length:Int))) (chk (0≤(w64 ((a1.length:Int)-(a0.length:Int)))∧(w64 ((a1.length:Int)-(a0.length:Int)))≤(a1.length:Int)∧(a1.length:Int)≤(a1.length:Int)) ((sL1Begins.f n a0 ((a1.take (a1.length:Int).toNat).drop (w64 ((a1.length:Int)-(a0.length:Int))).toNat)).bind fun r1=>some (r1.1,()))) (some (false,()))
noncomputable def sL5Ends.mng (n:Nat):Mng:=⟨[.val IS,.val IS],[.val .bool],fun x=>sL5Ends.f n x.1 x.2.1⟩
noncomputable def sL5Ends.cfg (n:Nat):Cfg:=⟨tys2,[(94,sL1Begins.mng n)],[],[]⟩
theorem sL5Ends.gof:GoF Tryz.prog 140:=⟨_,Tryz.func140,by kernel_rfl,by kernel_rfl⟩
theorem sL5Ends.sound (n:Nat):Sound Tryz.prog 140 (sL5Ends.mng n):=sndF (c:=sL5Ends.cfg n) (n:=n) (an:=annOf Tryz.f140 sL5Ends.las) ⟨⟨sL1Begins.sound n,sL1Begins.gof⟩,trivial⟩ trivial (tysOK tys2_ok) Tryz.func140 (fun x=>by kernel_rfl)
def sIsState.las:List (Nat×LA):=[(1,⟨[(46,.bool)],[],[2,3],[]⟩),(6,⟨[(50,.int .i64)],[],[2,3,48,49],[]⟩),(17,⟨[(67,.int .i64)],[],[3,65,66],[]⟩),(24,⟨[(102,.bool)],[],[3,8,9,10,65,66,67],[]⟩)]
noncomputable def sIsState.f (n:Nat) (a0:Network) (a1:State):Option (Bool×Unit):=cut (α:=(Bool×Unit)) ((sIsNetwork.f n a0).bind fun r4=>br (!r4.1) (some (.inr (true,()))) (br (!decide ((a1.1.length:Int)=(a0.1.length:Int))) (some (.inr (true,()))) (br (!decide ((a1.2.1.length:Int)=(a0.2.length:Int))) (some (.inr (true,()))) (br (!decide ((a1.2.2.1.length:Int)=(a0.2.length:Int))) (some (.inr (true,()))) ((sL1In.f n a1.2.2.2 0 20000).bind fun r5=>some (.inr ((!r5.1),()))))))) fun y3=>br y3.1 (some (false,())) (iter (α:=(Int×Unit)) n (fun ih24 x23=>br (decide (x23.1<(a1.1.length:Int))) (chk (0≤x23.1∧x23.1<(a1.1.length:Int)) (let v25:=(a1.1.getD x23.1.toNat zActor); chk (0≤x23.1∧x23.1<(a0.1.length:Int)) (let v26:=(a0.1.getD x23.1.toNat zProgram); (sL2Actor.f n v26 v25).bind fun r27=>br (!r27.1) (some (false,())) (ih24 ((w64 (x23.1+1)),()))))) (iter (α:=(Int×Unit)) n (fun ih46 x45=>br (decide (x45.1<(a0.2.length:Int))) (chk (0≤x45.1∧x45.1<(a0.2.length:Int)) (let v47:=(a0.2.getD x45.1.toNat zLink); chk (0≤x45.1∧x45.1<(a1.2.1.length:Int)) (let v48:=(a1.2.1.getD x45.1.toNat []); chk (0≤x45.1∧x45.1<(a1.2.2.1.length:Int)) (let v49:=(a1.2.2.1.getD x45.1.toNat []); cut (α:=(Bool×Unit)) ((sIsStream.f n v48).bind fun r55=>br (!r55.1) (some (.inr (true,()))) ((sIsStream.f n v49).bind fun r56=>br (!r56.1) (some (.inr (true,()))) ((sL1Begins.f n v47.2.2.2.2 v49).bind fun r57=>br (!r57.1) (some (.inr (true,()))) ((sL5Ends.f n v48 v49).bind fun r58=>some (.inr ((!r58.1),())))))) fun y54=>br y54.1 (some (false,())) (br (decide (v47.1=(-1))) (br (!decide ((v49.length:Int)=(v47.2.2.2.2.length:Int))) (some (false,())) (br (decide (v47.2.2.1=(-1))) (br (!decide ((v49.length:Int)=(v48.length:Int))) (some (false,())) (ih46 ((w64 (x45.1+1)),()))) (ih46 ((w64 (x45.1+1)),())))) (br (decide (v47.2.2.1=(-1))) (br (!decide ((v49.length:Int)=(v48.length:Int))) (some (false,())) (ih46 ((w64 (x45.1+1)),()))) (ih46 ((w64 (x45.1+1)),())))))))) (some (true,()))) (0,()))) (0,()))
noncomputable def sIsState.mng (n:Nat):Mng:=⟨[.val tNetwork,.val tState],[.val .bool],fun x=>sIsState.f n x.1 x.2.1⟩
noncomputable def sIsState.cfg (n:Nat):Cfg:=⟨tys2,[(31,sIsNetwork.mng n),(133,sL1In.mng n),(139,sL2Actor.mng n),(78,sIsStream.mng n),(94,sL1Begins.mng n),(140,sL5Ends.mng n)],[],[]⟩
theorem sIsState.gof:GoF Tryz.prog 82:=⟨_,Tryz.func82,by kernel_rfl,by kernel_rfl⟩
theorem sIsState.sound (n:Nat):Sound Tryz.prog 82 (sIsState.mng n):=sndF (c:=sIsState.cfg n) (n:=n) (an:=annOf Tryz.f82 sIsState.las) ⟨⟨sIsNetwork.sound n,sIsNetwork.gof⟩,⟨⟨sL1In.sound n,sL1In.gof⟩,⟨⟨sL2Actor.sound n,sL2Actor.gof⟩,⟨⟨sIsStream.sound n,sIsStream.gof⟩,⟨⟨sL1Begins.sound n,sL1Begins.gof⟩,⟨⟨sL5Ends.sound n,sL5Ends.gof⟩,trivial⟩⟩⟩⟩⟩⟩ trivial (tysOK tys2_ok) Tryz.func82 (fun x=>by kernel_rfl)
def isActor.las:List (Nat×LA):=[]
noncomputable def isActor.f (n:Nat) (a0:Program) (a1:Actor):Option (Bool×Unit):=br (decide (0≤a1.1)) (br (decide (a1.1≤(a0.2.2.length:Int))) (br (decide ((a1.2.length:Int)=4)) ((iIsStream.f n a1.2).bind fun r1=>some (r1.1,())) (some (false,()))) (some (false,()))) (some (false,()))
noncomputable def isActor.mng (n:Nat):Mng:=⟨[.val tProgram,.val tActor],[.val .bool],fun x=>isActor.f n x.1 x.2.1⟩
noncomputable def isActor.cfg (n:Nat):Cfg:=⟨tys2,[(49,iIsStream.mng n)],[],[]⟩
theorem isActor.gof:GoF Tryz.prog 84:=⟨_,Tryz.func84,by kernel_rfl,by kernel_rfl⟩
theorem isActor.sound (n:Nat):Sound Tryz.prog 84 (isActor.mng n):=sndF (c:=isActor.cfg n) (n:=n) (an:=annOf Tryz.f84 isActor.las) ⟨⟨iIsStream.sound n,iIsStream.gof⟩,trivial⟩ trivial (tysOK tys2_ok) Tryz.func84 (fun x=>by kernel_rfl)
def equalI.las:List (Nat×LA):=[(6,⟨[(13,.int .i64)],[],[0,1,12],[]⟩)]
noncomputable def equalI.f (n:Nat) (a0:List Int) (a1:List Int):Option (Bool×Unit):=br (!decide ((a0.length:Int)=(a1.length:Int))) (some (false,())) (iter (α:=(Int×Unit)) n (fun ih6 x5=>br (decide (x5.1<(a0.length:Int))) (chk (0≤x5.1∧x5.1<(a0.length:Int)) (chk (0≤x5.1∧x5.1<(a1.length:Int)) (br (!decide ((a0.getD x5.1.toNat 0)=(a1.getD x5.1.toNat 0))) (some (false,())) (ih6 ((w64 (x5.1+1)),()))))) (some (true,()))) (0,()))
noncomputable def equalI.mng (n:Nat):Mng:=⟨[.val IS,.val IS],[.val .bool],fun x=>equalI.f n x.1 x.2.1⟩
noncomputable def equalI.cfg (n:Nat):Cfg:=⟨tys2,[],[],[]⟩
theorem equalI.gof:GoF Tryz.prog 86:=⟨_,Tryz.func86,by kernel_rfl,by kernel_rfl⟩
theorem equalI.sound (n:Nat):Sound Tryz.prog 86 (equalI.mng n):=sndF (c:=equalI.cfg n) (n:=n) (an:=annOf Tryz.f86 equalI.las) trivial trivial (tysOK tys2_ok) Tryz.func86 (fun x=>by kernel_rfl)
def iIsPrefix.las:List (Nat×LA):=[]
noncomputable def iIsPrefix.f (n:Nat) (a0:List Int) (a1:List Int):Option (Bool×Unit):=(iIsStream.f n a0).bind fun r1=>br r1.1 ((iIsStream.f n a1).bind fun r2=>br r2.1 (br (decide ((a0.length:Int)≤(a1.length:Int))) (chk ((0:Int)≤0∧(0:Int)≤(a0.length:Int)∧(a0.length:Int)≤(a1.length:Int)) ((equalI.f n a0 ((a1.take (a0.length:Int).toNat).drop 0)).bind fun r3=>some (r3.1,()))) (some (false,()))) (some (false,()))) (some (false,()))
noncomputable def iIsPrefix.mng (n:Nat):Mng:=⟨[.val IS,.val IS],[.val .bool],fun x=>iIsPrefix.f n x.1 x.2.1⟩
noncomputable def iIsPrefix.cfg (n:Nat):Cfg:=⟨tys2,[(49,iIsStream.mng n),(86,equalI.mng n)],[],[]⟩
theorem iIsPrefix.gof:GoF Tryz.prog 85:=⟨_,Tryz.func85,by kernel_rfl,by kernel_rfl⟩
theorem iIsPrefix.sound (n:Nat):Sound Tryz.prog 85 (iIsPrefix.mng n):=sndF (c:=iIsPrefix.cfg n) (n:=n) (an:=annOf Tryz.f85 iIsPrefix.las) ⟨⟨iIsStream.sound n,iIsStream.gof⟩,⟨⟨equalI.sound n,equalI.gof⟩,trivial⟩⟩ trivial (tysOK tys2_ok) Tryz.func85 (fun x=>by kernel_rfl)
def iIsState.las:List (Nat×LA):=[(1,⟨[(50,.bool)],[],[2,3],[]⟩),(6,⟨[(54,.int .i64)],[],[2,3,52,53],[]⟩),(17,⟨[(71,.int .i64)],[],[3,69,70],[]⟩),(23,⟨[(114,.bool)],[],[3,8,9,10,69,70,71],[]⟩)]
noncomputable def iIsState.f (n:Nat) (a0:Network) (a1:State):Option (Bool×Unit):=cut (α:=(Bool×Unit)) ((iIsNetwork.f n a0).bind fun r3=>br (!r3.1) (some (.inr (true,()))) (br (!decide ((a1.1.length:Int)=(a0.1.length:Int))) (some (.inr (true,()))) (br (!decide ((a1.2.1.length:Int)=(a0.2.length:Int))) (some (.inr (true,()))) (br (!decide ((a1.2.2.1.length:Int)=(a0.2.length:Int))) (some (.inr (true,()))) (br (decide (a1.2.2.2<0)) (some (.inr (true,()))) (some (.inr ((decide (20000<a1.2.2.2)),())))))))) fun y2=>br y2.1 (some (false,())) (iter (α:=(Int×Unit)) n (fun ih22 x21=>br (decide (x21.1<(a0.1.length:Int))) (chk (0≤x21.1∧x21.1<(a0.1.length:Int)) (let v23:=(a0.1.getD x21.1.toNat zProgram); chk (0≤x21.1∧x21.1<(a1.1.length:Int)) (let v24:=(a1.1.getD x21.1.toNat zActor); (isActor.f n v23 v24).bind fun r25=>br (!r25.1) (some (false,())) (ih22 ((w64 (x21.1+1)),()))))) (iter (α:=(Int×Unit)) n (fun ih42 x41=>br (decide (x41.1<(a0.2.length:Int))) (chk (0≤x41.1∧x41.1<(a0.2.length:Int)) (let v43:=(a0.2.getD x41.1.toNat zLink); chk (0≤x41.1∧x41.1<(a1.2.1.length:Int)) (let v44:=(a1.2.1.getD x41.1.toNat []); chk (0≤x41.1∧x41.1<(a1.2.2.1.length:Int)) (let v45:=(a1.2.2.1.getD x41.1.toNat []); cut (α:=(Bool×Unit)) ((iIsStream.f n v44).bind fun r50=>br (!r50.1) (some (.inr (true,()))) ((iIsPrefix.f n v43.2.2.2.2 v45).bind fun r51=>br (!r51.1) (some (.inr (true,()))) (br (decide ((v45.length:Int)<(v44.length:Int))) (some (.inr (true,()))) (chk (0≤(w64 ((v45.length:Int)-(v44.length:Int)))∧(w64 ((v45.length:Int)-(v44.length:Int)))≤(v45.length:Int)∧(v45.length:Int)≤(v45.length:Int)) ((equalI.f n v44 ((v45.take (v45.length:Int).toNat).drop (w64 ((v45.length:Int)-(v44.length:Int))).toNat)).bind fun r52=>some (.inr ((!r52.1),()))))))) fun y49=>br y49.1 (some (false,())) (br (decide (v43.1=(-1))) (br (!decide ((v45.length:Int)=(v43.2.2.2.2.length:Int))) (some (false,())) (br (decide (v43.2.2.1=(-1))) (br (!decide ((v44.length:Int)=(v45.length:Int))) (some (false,())) (ih42 ((w64 (x41.1+1)),()))) (ih42 ((w64 (x41.1+1)),())))) (br (decide (v43.2.2.1=(-1))) (br (!decide ((v44.length:Int)=(v45.length:Int))) (some (false,())) (ih42 ((w64 (x41.1+1)),()))) (ih42 ((w64 (x41.1+1)),())))))))) (some (true,()))) (0,()))) (0,()))
noncomputable def iIsState.mng (n:Nat):Mng:=⟨[.val tNetwork,.val tState],[.val .bool],fun x=>iIsState.f n x.1 x.2.1⟩
noncomputable def iIsState.cfg (n:Nat):Cfg:=⟨tys2,[(46,iIsNetwork.mng n),(84,isActor.mng n),(49,iIsStream.mng n),(85,iIsPrefix.mng n),(86,equalI.mng n)],[],[]⟩
theorem iIsState.gof:GoF Tryz.prog 38:=⟨_,Tryz.func38,by kernel_rfl,by kernel_rfl⟩
theorem iIsState.sound (n:Nat):Sound Tryz.prog 38 (iIsState.mng n):=sndF (c:=iIsState.cfg n) (n:=n) (an:=annOf Tryz.f38 iIsState.las) ⟨⟨iIsNetwork.sound n,iIsNetwork.gof⟩,⟨⟨isActor.sound n,isActor.gof⟩,⟨⟨iIsStream.sound n,iIsStream.gof⟩,⟨⟨iIsPrefix.sound n,iIsPrefix.gof⟩,⟨⟨equalI.sound n,equalI.gof⟩,trivial⟩⟩⟩⟩⟩ trivial (tysOK tys2_ok) Tryz.func38 (fun x=>by kernel_rfl)
end Go.AmT
