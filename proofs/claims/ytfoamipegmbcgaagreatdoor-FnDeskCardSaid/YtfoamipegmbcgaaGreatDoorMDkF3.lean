/- Networks at work, in plain Lean: the tables of links, what a process wants, and whether it can. -/
import Derived.Test.YtfoamipegmbcgaaGreatDoorMDkF2
namespace Go.AmT
open Go Go.Am
set_option linter.unusedVariables false
set_option linter.unusedSimpArgs false
def wantP (p:Program) (a:Actor):Int×Int:=
 if a.1=(p.2.2.length:Int) then (0,0) else if (p.2.2.getD a.1.toNat zInstr).1=11 then (0,0) else if (p.2.2.getD a.1.toNat zInstr).1=1 then (2,(p.2.2.getD a.1.toNat zInstr).2.2.1)
 else if (p.2.2.getD a.1.toNat zInstr).1=2 then (3,(p.2.2.getD a.1.toNat zInstr).2.2.1) else (1,0)
theorem okA_pc {p:Program} {a:Actor} (h:okA p a=true):0≤a.1∧a.1≤(p.2.2.length:Int):=by
 unfold okA at h
 simp only [Bool.and_eq_true,decide_eq_true_eq] at h
 exact ⟨h.1,h.2.1⟩
theorem brd {α:Type} {c:Prop} [Decidable c] {x y:Option α} : br (decide c) x y=if c then x else y:=by by_cases h:c<;>simp [h,br]
theorem want_spec {n:Nat} {p:Program} {a:Actor} (h:okA p a=true):want.f n p a=some ((wantP p a).1,((wantP p a).2,())):=by
 have hp:=okA_pc h
 unfold want.f wantP
 simp only [brd]
 split
 ·rfl
 ·rw [chk_true (by omega)]
  split
  ·rfl
  ·split
   ·rfl
   ·split<;>rfl
theorem sL2Want_spec {n:Nat} {p:Program} {a:Actor} (h:okA p a=true):sL2Want.f n p a=some ((wantP p a).1,((wantP p a).2,())):=want_spec (n:=n) h
theorem wantP_cases (p:Program) (a:Actor):(wantP p a).1=0∨(wantP p a).1=1∨(wantP p a).1=2∨(wantP p a).1=3:=by
 unfold wantP
 repeat' (first | (simp; done) | split)
theorem wantP_port {p:Program} {a:Actor} (hp:okP p=true) (h:okA p a=true):0≤(wantP p a).2∧((wantP p a).1=2→(wantP p a).2<p.1)∧((wantP p a).1=3→(wantP p a).2<p.2.1):=by
 have hpc:=okA_pc h
 unfold okP at hp
 simp only [Bool.and_eq_true,List.all_eq_true] at hp
 have hI:=hp.2
 unfold wantP
 split
 ·simp
 ·rename_i hne
  have hlt:a.1.toNat<p.2.2.length:=by omega
  have hx:=hI _ (List.getElem_mem hlt)
  rw [getD_lt hlt]
  split
  ·simp
  ·split
   ·rename_i h1
    unfold okI at hx
    rw [if_pos h1] at hx
    simp only [Bool.and_eq_true,decide_eq_true_eq] at hx
    exact ⟨hx.2.1.1,fun _=>hx.2.1.2,fun h=>by simp at h⟩
   ·rename_i h1
    split
    ·rename_i h2
     unfold okI at hx
     rw [if_neg h1,if_pos h2] at hx
     simp only [Bool.and_eq_true,decide_eq_true_eq] at hx
     exact ⟨hx.2.1.1,fun h=>by simp at h,fun _=>hx.2.1.2⟩
    ·simp
theorem count_uniq {α:Type} {f:α→Bool} : ∀ {ls:List α} {i j:Nat} (hi:i<ls.length) (hj:j<ls.length),ls.countP f≤1→f ls[i]=true→f ls[j]=true→i=j
 | [],i,j,hi,_,_,_,_=>by simp at hi
 | x::ls,i,j,hi,hj,hc,h1,h2=>by
  have z:∀ (k:Nat) (hk:k<ls.length),f x=true→f ls[k]=true→False:=by
   intro k hk hx hl
   rw [List.countP_cons_of_pos hx] at hc
   have:ls.countP f=0:=by omega
   rw [List.countP_eq_zero] at this
   exact this _ (List.getElem_mem hk) hl
  cases i with
  | zero=>
   cases j with
   | zero=>rfl
   | succ j=>exact (z j (by simpa using hj) (by simpa using h1) (by simpa using h2)).elim
  | succ i=>
   cases j with
   | zero=>exact (z i (by simpa using hi) (by simpa using h2) (by simpa using h1)).elim
   | succ j=>
    have hc':ls.countP f≤1:=Nat.le_trans (List.countP_le_countP_cons) hc
    rw [count_uniq (ls:=ls) (i:=i) (j:=j) (by simpa using hi) (by simpa using hj) hc' (by simpa using h1) (by simpa using h2)]
 where
 List.countP_le_countP_cons {α:Type} {f:α→Bool} {x:α} {ls:List α} : ls.countP f≤(x::ls).countP f:=by
  rw [List.countP_cons]; omega
theorem onlyIx_at {α:Type} {f:α→Bool} {ls:List α} {j:Nat} (hj:j<ls.length) (hc:ls.countP f=1) (hf:f ls[j]=true):onlyIx f ls=(j:Int):=by
 unfold onlyIx
 rw [if_neg (by omega),if_pos hc]
 have h1:ls.findIdx f<ls.length:=List.findIdx_lt_length_of_exists ⟨_,List.getElem_mem hj,hf⟩
 have h2:f ls[ls.findIdx f]=true:=List.findIdx_getElem (w:=h1)
 rw [count_uniq h1 hj (by omega) h2 hf]
theorem onlyIx_ex {α:Type} {f:α→Bool} {ls:List α} (hc:ls.countP f=1):∃ j,∃ hj:j<ls.length,f ls[j]=true∧onlyIx f ls=(j:Int):=by
 have h0:0<ls.countP f:=by omega
 obtain ⟨x,hx,hf⟩:=List.countP_pos_iff.1 h0
 obtain ⟨j,hj,rfl⟩:=List.mem_iff_getElem.1 hx
 exact ⟨j,hj,hf,onlyIx_at hj hc hf⟩
structure Tab (nt:Network) (pl ql:Link→Int) (wd:Program→Int) (t:List (List Int)) (i:Nat):Prop where
 len:t.length=nt.1.length
 row:∀ (k:Nat) (hk:k<nt.1.length),(t.getD k []).length=(wd nt.1[k]).toNat
 at':∀ (k b j:Nat) (hk:k<nt.1.length) (hj:j<nt.2.length),j<i→(b:Int)<wd nt.1[k]→pl nt.2[j]=(k:Int)→ql nt.2[j]=(b:Int)→(t.getD k []).getD b 0=(j:Int)
def Uniq (nt:Network) (pl ql:Link→Int) (wd:Program→Int):Prop:=∀ (k b:Nat) (hk:k<nt.1.length),(b:Int)<wd nt.1[k]→nt.2.countP (fun l=>decide (pl l=(k:Int))&&decide (ql l=(b:Int)))=1
theorem Tab.skip {nt:Network} {pl ql:Link→Int} {wd:Program→Int} {t:List (List Int)} {i:Nat} (T:Tab nt pl ql wd t i) (hi:i<nt.2.length) (hn:¬ 0≤pl nt.2[i]):Tab nt pl ql wd t (i+1):=by
 refine ⟨T.len,T.row,fun k b j hk hj hlt hb h1 h2=>?_⟩
 rcases Nat.lt_or_ge j i with h | h
 ·exact T.at' k b j hk hj h hb h1 h2
 ·obtain rfl:j=i:=by omega
  omega
theorem getD_set_ne {α:Type} {l:List α} {i j:Nat} (h:i≠j) (x z:α):(l.set i x).getD j z=l.getD j z:=by simp [List.getElem?_set_ne h]
theorem Tab.put {nt:Network} {pl ql:Link→Int} {wd:Program→Int} {t:List (List Int)} {i p q:Nat} (T:Tab nt pl ql wd t i) (U:Uniq nt pl ql wd) (hi:i<nt.2.length) (hp:p<nt.1.length) (hq:(q:Int)<wd nt.1[p]) (e1:pl nt.2[i]=(p:Int)) (e2:ql nt.2[i]=(q:Int)) :
  Tab nt pl ql wd (t.set p ((t.getD p []).set q (i:Int))) (i+1):=by
 have hpt:p<t.length:=by rw [T.len]; exact hp
 refine ⟨by simp [T.len],fun k hk=>?_,fun k b j hk hj hlt hb h1 h2=>?_⟩
 ·by_cases h:p=k
  ·subst h
   rw [getD_set_same hpt,List.length_set]; exact T.row p hk
  ·rw [getD_set_ne h]; exact T.row k hk
 ·rcases Nat.lt_or_ge j i with h | h
  ·by_cases hpk:p=k
   ·subst hpk
    rw [getD_set_same hpt]
    by_cases hqb:q=b
    ·subst hqb
     have:=count_uniq (f:=fun l=>decide (pl l=(p:Int))&&decide (ql l=(q:Int))) hi hj (by rw [U p q hp hq]; omega) (by simp [e1,e2]) (by simp [h1,h2])
     omega
    ·rw [getD_set_ne hqb]; exact T.at' p b j hk hj h hb h1 h2
   ·rw [getD_set_ne hpk]; exact T.at' k b j hk hj h hb h1 h2
  ·obtain rfl:j=i:=by omega
   obtain rfl:p=k:=by omega
   obtain rfl:q=b:=by omega
   rw [getD_set_same hpt,getD_set_same (by rw [T.row p hp]; omega)]
theorem Tab.get {nt:Network} {pl ql:Link→Int} {wd:Program→Int} {t:List (List Int)} (T:Tab nt pl ql wd t nt.2.length) (U:Uniq nt pl ql wd) {k b:Nat} (hk:k<nt.1.length) (hb:(b:Int)<wd nt.1[k]) :
  (t.getD k []).getD b 0=onlyIx (fun l=>decide (pl l=(k:Int))&&decide (ql l=(b:Int))) nt.2:=by
 obtain ⟨j,hj,hf,e⟩:=onlyIx_ex (U k b hk hb)
 simp only [Bool.and_eq_true,decide_eq_true_eq] at hf
 rw [e]; exact T.at' k b j hk hj hj hb hf.1 hf.2
def toP (l:Link):Int:=l.2.2.1
def toQ (l:Link):Int:=l.2.2.2.1
def frP (l:Link):Int:=l.1
def frQ (l:Link):Int:=l.2.1
theorem uniq_to {nt:Network} (o:OkN nt):Uniq nt toP toQ (fun p=>p.1):=fun k b hk hb=>o.ins k hk b hb
theorem uniq_from {nt:Network} (o:OkN nt):Uniq nt frP frQ (fun p=>p.2.1):=fun k b hk hb=>o.outs k hk b hb
structure IsRun (nt:Network) (s:State) (r:Run):Prop where
 net:r.1=nt
 st:r.2.1=s
 to:Tab nt toP toQ (fun p=>p.1) r.2.2.1 nt.2.length
 fr:Tab nt frP frQ (fun p=>p.2.1) r.2.2.2.1 nt.2.length
theorem cloneI_run {n:Nat} {a:List Int} (h:a.length≤1048576):cloneI.f n a=some (a,()):=by
 unfold cloneI.f
 rw [small_chk (by simp; omega)]; rfl
theorem copyStreams_spec {n:Nat} {a:List (List Int)} (hl:a.length≤1048576) (h:∀ q∈a,q.length≤1048576) (hn:1048576<n):copyStreams.f n a=some (a,()):=by
 unfold copyStreams.f
 refine Eq.trans (push_loop a id (fun i s=>(i,(s,()))) (R:=fun ps=>some (ps,())) (fun ih i hi s hs=>?_) (fun ih ps=>br_no (Int.lt_irrefl _)) (by omega)) (by simp)
 have c0:0≤(i:Int):=by omega
 have c1:(i:Int)<(a.length:Int):=by omega
 have e1:a.getD i []=a[i]:=getD_lt hi _
 simp only [c1,c0,and_self,chk_T,decide_true,br_true,Int.toNat_natCast,e1,cloneI_run (h _ (List.getElem_mem hi)),Option.bind_some]
 rw [small_chk (by simp; omega),w64_succ (by omega)]; rfl
theorem copyState_spec {n:Nat} {s:State} (h:SmallSt s) (hn:1048576<n):copyState.f n s=some (s,()):=by
 have ha:=h.actors
 unfold copyState.f
 rw [copyStreams_spec h.queues h.queue hn,copyStreams_spec h.sents h.sent hn]
 simp only [Option.bind_some]
 refine Eq.trans (push_loop s.1 id (fun i ps=>(i,(s.2.2.2,(ps,(s.2.1,(s.2.2.1,())))))) (R:=fun ps=>some ((ps,(s.2.1,(s.2.2.1,s.2.2.2))),())) (fun ih i hi ps hs=>?_) (fun ih ps=>br_no (Int.lt_irrefl _)) (by omega)) (by simp)
 have c0:0≤(i:Int):=by omega
 have c1:(i:Int)<(s.1.length:Int):=by omega
 have e1:s.1.getD i zActor=s.1[i]:=getD_lt hi _
 simp only [c1,c0,and_self,chk_T,decide_true,br_true,Int.toNat_natCast,e1,cloneI_run (h.actor _ (List.getElem_mem hi)),Option.bind_some]
 rw [small_chk (by simp; omega),w64_succ (by omega)]; rfl
theorem newRun_spec {n:Nat} {nt:Network} {s:State} {caps:Option (List Int)} (o:OkN nt) (h:SmallSt s) (hn:1048576<n) :
  W (newRun.f n nt.1 nt.2 s.1 s.2.1 s.2.2.1 s.2.2.2 caps) (fun r=>∃ to fr,r=(nt.1,nt.2,s.2.2.2,caps,s.1,s.2.1,s.2.2.1,to,fr,())∧
   Tab nt toP toQ (fun p=>p.1) to nt.2.length∧Tab nt frP frQ (fun p=>p.2.1) fr nt.2.length):=by
 have hp:=o.progs
 have hl:=o.links
 have hm:=maxB_eq
 unfold newRun.f
 rw [copyState_spec h hn]
 simp only [Option.bind_some]
 refine W_up (fun i (x:List (List Int)×List (List Int))=>((i:Int),(nt.1,nt.2,s.2.2.2,caps,s.1,s.2.1,s.2.2.1,x.1,x.2,()))) nt.1.length
  (fun i x=>x=((nt.1.take i).map (fun p=>List.replicate p.1.toNat (0:Int)),(nt.1.take i).map (fun p=>List.replicate p.2.1.toNat (0:Int)))) (s0:=([],[])) rfl (by simp) (by omega) (fun ih x hI=>?_) (fun ih i x hi hI hS=>?_)
 rotate_left
 ·have c0:0≤(i:Int):=by omega
  have c1:(i:Int)<(nt.1.length:Int):=by omega
  have e1:nt.1.getD i zProgram=nt.1[i]:=getD_lt hi _
  have hq:=okP_ports (o.prog i hi)
  have hx1:x.1.length=i:=by rw [hI]; simp; omega
  have hx2:x.2.length=i:=by rw [hI]; simp; omega
  simp only [c1,c0,and_self,chk_T,decide_true,br_true,Int.toNat_natCast,e1,true_and]
  rw [chk_true (by omega),small_chk (by simp; omega),chk_true (by omega),small_chk (by simp; omega),w64_succ (by omega)]
  refine hS (_,_) ?_
  rw [hI,List.take_succ_eq_append_getElem hi,List.map_append,List.map_append]; rfl
 ·simp only [br_no (Int.lt_irrefl _)]
  rw [List.take_length] at hI
  have T0:∀ (pl ql:Link→Int) (wd:Program→Int),Tab nt pl ql wd (nt.1.map (fun p=>List.replicate (wd p).toNat (0:Int))) 0:=fun pl ql wd=>
   ⟨by simp,fun k hk=>by simp [hk],fun k b j hk hj hlt=>by omega⟩
  refine W_up (fun i (x:List (List Int)×List (List Int))=>((i:Int),(nt.1,nt.2,s.2.2.2,caps,s.1,s.2.1,s.2.2.1,x.1,x.2,()))) nt.2.length
   (fun i x=>Tab nt toP toQ (fun p=>p.1) x.1 i∧Tab nt frP frQ (fun p=>p.2.1) x.2 i) (s0:=x) rfl (by rw [hI]; exact ⟨T0 _ _ _,T0 _ _ _⟩) (by omega) (fun ih y hI=>?_) (fun ih i y hi hI hS=>?_)
  ·simp only [br_no (Int.lt_irrefl _)]
   rw [W_some]
   exact ⟨_,_,rfl,hI.1,hI.2⟩
  ·have c0:0≤(i:Int):=by omega
   have c1:(i:Int)<(nt.2.length:Int):=by omega
   have e1:nt.2.getD i zLink=nt.2[i]:=getD_lt hi _
   have E:=o.ends i hi
   simp only [c1,c0,and_self,chk_T,decide_true,br_true,Int.toNat_natCast,e1]
   rw [w64_succ (by omega)]
   have hfr:∀ t1,Tab nt toP toQ (fun p=>p.1) t1 (i+1)→W (br (decide (0≤nt.2[i].1)) (chk (0≤nt.2[i].1∧nt.2[i].1<(y.2.length:Int)) (chk (0≤nt.2[i].2.1∧nt.2[i].2.1<((y.2.getD nt.2[i].1.toNat []).length:Int))
     (ih (((i+1:Nat):Int),(nt.1,nt.2,s.2.2.2,caps,s.1,s.2.1,s.2.2.1,t1,y.2.set nt.2[i].1.toNat ((y.2.getD nt.2[i].1.toNat []).set nt.2[i].2.1.toNat (i:Int)),())))))
     (ih (((i+1:Nat):Int),(nt.1,nt.2,s.2.2.2,caps,s.1,s.2.1,s.2.2.1,t1,y.2,())))) (fun r=>∃ to fr,r=(nt.1,nt.2,s.2.2.2,caps,s.1,s.2.1,s.2.2.1,to,fr,())∧
   Tab nt toP toQ (fun p=>p.1) to nt.2.length∧Tab nt frP frQ (fun p=>p.2.1) fr nt.2.length):=by
    intro t1 ht1
    rw [W_brd]
    refine ⟨fun h0=>?_,fun h0=>hS (t1,y.2) ⟨ht1,hI.2.skip hi h0⟩⟩
    rcases E.out with h | ⟨a1,a2,a3,a4⟩
    ·omega
    ·obtain ⟨p,hp'⟩:∃ p:Nat,nt.2[i].1=(p:Int):=⟨nt.2[i].1.toNat,by omega⟩
     obtain ⟨q,hq'⟩:∃ q:Nat,nt.2[i].2.1=(q:Int):=⟨nt.2[i].2.1.toNat,by omega⟩
     rw [hp',hq'] at a4 ⊢
     have hpl:p<nt.1.length:=by omega
     simp only [Int.toNat_natCast,getD_lt hpl] at a4 ⊢
     have hrow:=hI.2.row p hpl
     rw [chk_true (by rw [hI.2.len]; omega),chk_true (by rw [hrow]; omega)]
     exact hS (t1,_) ⟨ht1,hI.2.put (uniq_from o) hi hpl a4 hp' hq'⟩
   by_cases h0:0≤nt.2[i].2.2.1
   ·rcases E.inn with h | ⟨a1,a2,a3,a4⟩
    ·omega
    ·obtain ⟨p,hp'⟩:∃ p:Nat,nt.2[i].2.2.1=(p:Int):=⟨nt.2[i].2.2.1.toNat,by omega⟩
     obtain ⟨q,hq'⟩:∃ q:Nat,nt.2[i].2.2.2.1=(q:Int):=⟨nt.2[i].2.2.2.1.toNat,by omega⟩
     have hpl:p<nt.1.length:=by omega
     have hT:=hfr (y.1.set p ((y.1.getD p []).set q (i:Int)))
     have hrow:=hI.1.row p hpl
     rw [hp',hq'] at a4 ⊢
     simp only [Int.toNat_natCast,getD_lt hpl] at a4 ⊢
     rw [br_yes (by omega),chk_true (by rw [hI.1.len]; omega),chk_true (by rw [hrow]; omega)]
     simp only [cut_inr]
     exact hT (hI.1.put (uniq_to o) hi hpl a4 hp' hq')
   ·rw [br_no h0]
    simp only [cut_inr]
    exact hfr y.1 (hI.1.skip hi h0)
def prog (nt:Network) (k:Nat):Program:=nt.1.getD k zProgram
def actor (s:State) (k:Nat):Actor:=s.1.getD k zActor
def wantOf (nt:Network) (s:State) (k:Nat):Int×Int:=wantP (prog nt k) (actor s k)
def linkOf (nt:Network) (s:State) (k:Nat):Int:=
 if (wantOf nt s k).1=2 then onlyIx (isTo (k:Int) (wantOf nt s k).2) nt.2 else if (wantOf nt s k).1=3 then onlyIx (isFrom (k:Int) (wantOf nt s k).2) nt.2 else -1
def canP (nt:Network) (s:State) (k:Nat):Bool:=
 if (wantOf nt s k).1=0∨20000≤s.2.2.2 then false
 else if (wantOf nt s k).1=2 then decide (0<((s.2.1.getD (linkOf nt s k).toNat []).length:Int))
 else if (wantOf nt s k).1=3 then decide (((s.2.2.1.getD (linkOf nt s k).toNat []).length:Int)<400) else true
theorem port_nat {nt:Network} {s:State} (o:OkSt nt s) {k:Nat} (hk:k<nt.1.length):∃ b:Nat,(wantOf nt s k).2=(b:Int)∧((wantOf nt s k).1=2→(b:Int)<nt.1[k].1)∧((wantOf nt s k).1=3→(b:Int)<nt.1[k].2.1):=by
 have ha:=o.act k hk
 have hp:=o.net.prog k hk
 rw [getD_lt hk] at ha
 have h:=wantP_port hp ha
 have e:wantOf nt s k=wantP nt.1[k] (s.1.getD k zActor):=by unfold wantOf prog actor; rw [getD_lt hk]
 rw [e]
 refine ⟨(wantP nt.1[k] (s.1.getD k zActor)).2.toNat,by omega,fun h2=>?_,fun h3=>?_⟩
 ·have:=h.2.1 h2; omega
 ·have:=h.2.2 h3; omega
theorem linkOf_to {nt:Network} {s:State} (o:OkSt nt s) {k:Nat} (hk:k<nt.1.length) (h:(wantOf nt s k).1=2):∃ j,∃ hj:j<nt.2.length,linkOf nt s k=(j:Int)∧nt.2[j].2.2.1=(k:Int)∧nt.2[j].2.2.2.1=(wantOf nt s k).2:=by
 obtain ⟨b,e,h2,-⟩:=port_nat o hk
 obtain ⟨j,hj,hf,e2⟩:=onlyIx_ex (o.net.ins k hk b (h2 h))
 refine ⟨j,hj,?_,?_⟩
 ·unfold linkOf; rw [if_pos h,e]; exact e2
 ·unfold isTo at hf
  simp only [Bool.and_eq_true,decide_eq_true_eq] at hf
  rw [e]; exact hf
theorem linkOf_from {nt:Network} {s:State} (o:OkSt nt s) {k:Nat} (hk:k<nt.1.length) (h:(wantOf nt s k).1=3):∃ j,∃ hj:j<nt.2.length,linkOf nt s k=(j:Int)∧nt.2[j].1=(k:Int)∧nt.2[j].2.1=(wantOf nt s k).2:=by
 obtain ⟨b,e,-,h2⟩:=port_nat o hk
 obtain ⟨j,hj,hf,e2⟩:=onlyIx_ex (o.net.outs k hk b (h2 h))
 refine ⟨j,hj,?_,?_⟩
 ·unfold linkOf; rw [if_neg (by omega),if_pos h,e]; exact e2
 ·unfold isFrom at hf
  simp only [Bool.and_eq_true,decide_eq_true_eq] at hf
  rw [e]; exact hf
theorem wants_spec {n:Nat} {nt:Network} {s:State} {r:Run} (R:IsRun nt s r) (o:OkSt nt s) {k:Nat} (hk:k<nt.1.length):wants.f n r (k:Int)=some ((wantOf nt s k).1,(linkOf nt s k,())):=by
 obtain ⟨r1,r2,to,fr,cp⟩:=r
 obtain ⟨e1,e2,T,F⟩:=R
 have e1:r1=nt:=e1
 have e2:r2=s:=e2
 subst e1 e2
 have T:Tab r1 toP toQ (fun p=>p.1) to r1.2.length:=T
 have F:Tab r1 frP frQ (fun p=>p.2.1) fr r1.2.length:=F
 obtain ⟨b,eb,h2,h3⟩:=port_nat o hk
 have ha:=o.act k hk
 have hks:k<r2.1.length:=by rw [o.na]; exact hk
 have hw:want.f n (r1.1.getD k zProgram) (r2.1.getD k zActor)=some ((wantOf r1 r2 k).1,((wantOf r1 r2 k).2,())):=want_spec ha
 unfold wants.f
 simp only [Int.toNat_natCast]
 rw [chk_true (by omega),chk_true (by omega),hw]
 simp only [Option.bind_some,brd]
 unfold linkOf
 rw [eb]
 by_cases c2:(wantOf r1 r2 k).1=2
 ·have hb:=h2 c2
  have hrow:=T.row k hk
  have g:=T.get (uniq_to o.net) hk hb
  rw [if_pos c2,if_pos c2,chk_true (by rw [T.len]; omega),chk_true (by rw [hrow]; omega),c2]
  simp only [Int.toNat_natCast]
  rw [g]; rfl
 ·rw [if_neg c2,if_neg c2]
  by_cases c3:(wantOf r1 r2 k).1=3
  ·have hb:=h3 c3
   have hrow:=F.row k hk
   have g:=F.get (uniq_from o.net) hk hb
   rw [if_pos c3,if_pos c3,chk_true (by rw [F.len]; omega),chk_true (by rw [hrow]; omega),c3]
   simp only [Int.toNat_natCast]
   rw [g]; rfl
  ·rw [if_neg c3,if_neg c3]
theorem can_spec {n:Nat} {nt:Network} {s:State} {r:Run} (R:IsRun nt s r) (o:OkSt nt s) {k:Nat} (hk:k<nt.1.length):can.f n r (k:Int)=some (canP nt s k,()):=by
 unfold can.f
 rw [wants_spec R o hk,R.st]
 simp only [Option.bind_some,brd]
 unfold canP
 have hq:=o.nq
 have hs:=o.ns
 by_cases c0:(wantOf nt s k).1=0
 ·simp [c0,br,cut]
 ·by_cases c1:20000≤s.2.2.2
  ·simp [c0,c1,br,cut]
  ·simp only [c0,c1,if_false,decide_false,cut_inr,br_false,false_or]
   by_cases c2:(wantOf nt s k).1=2
   ·obtain ⟨j,hj,e,-⟩:=linkOf_to o hk c2
    rw [if_pos c2,if_pos c2,e,chk_true (by omega)]
   ·rw [if_neg c2,if_neg c2]
    by_cases c3:(wantOf nt s k).1=3
    ·obtain ⟨j,hj,e,-⟩:=linkOf_from o hk c3
     rw [if_pos c3,if_pos c3,e,chk_true (by omega)]
    ·rw [if_neg c3,if_neg c3]
def anyCan (nt:Network) (s:State):Bool:=(List.range nt.1.length).any (canP nt s)
def newA:Actor:=(0,[0,0,0,0])
def start (nt:Network):State:=(nt.1.map fun _=>newA,nt.2.map (fun l=>l.2.2.2.2),nt.2.map (fun l=>l.2.2.2.2),0)
theorem start_ok {nt:Network} (o:OkN nt):OkSt nt (start nt):=by
 refine ⟨o,by simp [start],by simp [start],by simp [start],by simp [start],fun i hi=>?_,fun i hi=>?_⟩
 ·show okA _ ((nt.1.map fun _=>newA).getD i zActor)=true
  have:(nt.1.map fun _=>newA).getD i zActor=newA:=by simp [hi]
  rw [this]
  unfold okA newA
  simp [okS,tok]
 ·have e:(nt.2.map (fun l=>l.2.2.2.2)).getD i []=nt.2[i].2.2.2.2:=by simp [hi]
  show LinkSt _ ((nt.2.map (fun l=>l.2.2.2.2)).getD i []) ((nt.2.map (fun l=>l.2.2.2.2)).getD i [])
  rw [e,getD_lt hi]
  exact ⟨o.toks i hi,o.toks i hi,List.prefix_rfl,List.suffix_rfl,fun _=>rfl,fun _=>rfl⟩
end Go.AmT
namespace Go.AmT
open Go Go.Am Go.Proofs
set_option linter.unusedVariables false
set_option maxRecDepth 100000
end Go.AmT
namespace Go.AmT
open Go Go.Am
set_option linter.unusedVariables false
set_option linter.unusedSimpArgs false
end Go.AmT
namespace Go.AmT
open Go Go.Am Go.Proofs
set_option linter.unusedVariables false
set_option maxRecDepth 100000
def tys6:List (Nat×TInfo):=[(3,⟨false,1,8,[.int .i64 0],.int .i64,0,some I,[],false⟩),
 (23,⟨false,1,24,[.nil],.slice,68,some (.sl tProgram),[],false⟩),
 (26,⟨true,2,48,[.nil,.nil],.struct,0,some tNetwork,[(0,23),(1,24)],false⟩),
 (28,⟨false,1,24,[.nil],.slice,75,some (.sl tActor),[],false⟩),
 (29,⟨false,1,24,[.nil],.slice,32,some (.sl IS),[],false⟩),
 (31,⟨true,4,80,[.nil,.nil,.nil,.int .i64 0],.struct,0,some tState,[(0,28),(1,29),(2,29),(3,3)],false⟩),
 (32,⟨false,1,24,[.nil],.slice,3,some IS,[],false⟩),
 (66,⟨false,1,24,[.nil],.slice,122,some (.sl tInstr),[],false⟩),
 (68,⟨true,3,40,[.int .i64 0,.int .i64 0,.nil],.struct,0,some tProgram,[(0,3),(1,3),(2,66)],false⟩),
 (75,⟨true,2,32,[.int .i64 0,.nil],.struct,0,some tActor,[(0,3),(1,32)],false⟩),
 (82,⟨true,9,200,[.nil,.nil,.nil,.nil,.nil,.int .i64 0,.nil,.nil,.nil],.struct,0,some tRun,[(0,26),(2,31),(6,29),(7,29),(8,32)],false⟩),
 (122,⟨true,4,32,[.int .i64 0,.int .i64 0,.int .i64 0,.int .i64 0],.struct,0,some tInstr,[(0,3),(1,3),(2,3),(3,3)],false⟩)]
theorem tys6_ok:(tys6.all fun p=>tokB Tryz.prog p.1 p.2)=true:=by kernel_rfl
def sL1Copy.las:List (Nat×LA):=[]
noncomputable def sL1Copy.f (n:Nat) (a0:List Int):Option ((List Int)×Unit):=chk ((([]:List Int).length+a0.length)*8≤maxB) (some ((([]:List Int)++a0),()))
noncomputable def sL1Copy.mng (n:Nat):Mng:=⟨[.val IS],[.val IS],fun x=>sL1Copy.f n x.1⟩
noncomputable def sL1Copy.cfg (n:Nat):Cfg:=⟨tys6,[],[],[]⟩
theorem sL1Copy.gof:GoF Tryz.prog 83:=⟨_,Tryz.func83,by kernel_rfl,by kernel_rfl⟩
theorem sL1Copy.sound (n:Nat):Sound Tryz.prog 83 (sL1Copy.mng n):=sndF (c:=sL1Copy.cfg n) (n:=n) (an:=annOf Tryz.f83 sL1Copy.las) trivial trivial (tysOK tys6_ok) Tryz.func83 (fun x=>by kernel_rfl)
def sWrapToken.las:List (Nat×LA):=[(3,⟨[(3,.int .i64)],[],[],[]⟩)]
noncomputable def sWrapToken.f (n:Nat) (a0:Int):Option (Int×Unit):=cut (α:=(Int×Unit)) (br (decide (999999<(a0.tmod 1999999))) (some (.inr ((w64 ((a0.tmod 1999999)-1999999)),()))) (some (.inr ((a0.tmod 1999999),())))) fun y1=>br (decide (y1.1<(-999999))) (some ((w64 (y1.1+1999999)),())) (some (y1.1,()))
noncomputable def sWrapToken.mng (n:Nat):Mng:=⟨[.val I],[.val I],fun x=>sWrapToken.f n x.1⟩
noncomputable def sWrapToken.cfg (n:Nat):Cfg:=⟨tys6,[],[],[]⟩
theorem sWrapToken.gof:GoF Tryz.prog 213:=⟨_,Tryz.func213,by kernel_rfl,by kernel_rfl⟩
theorem sWrapToken.sound (n:Nat):Sound Tryz.prog 213 (sWrapToken.mng n):=sndF (c:=sWrapToken.cfg n) (n:=n) (an:=annOf Tryz.f213 sWrapToken.las) trivial trivial (tysOK tys6_ok) Tryz.func213 (fun x=>by kernel_rfl)
def sL2Rest.las:List (Nat×LA):=[]
noncomputable def sL2Rest.f (n:Nat) (a0:Int) (a1:Int):Option (Int×Unit):=br (decide ((max a1 (w64 (0-a1)))=0)) (some (0,())) (if (max a1 (w64 (0-a1)))=0 then none else br (decide ((a0.tmod (max a1 (w64 (0-a1))))<0)) (some ((w64 ((a0.tmod (max a1 (w64 (0-a1))))+(max a1 (w64 (0-a1))))),())) (some ((a0.tmod (max a1 (w64 (0-a1)))),())))
noncomputable def sL2Rest.mng (n:Nat):Mng:=⟨[.val I,.val I],[.val I],fun x=>sL2Rest.f n x.1 x.2.1⟩
noncomputable def sL2Rest.cfg (n:Nat):Cfg:=⟨tys6,[],[],[]⟩
theorem sL2Rest.gof:GoF Tryz.prog 214:=⟨_,Tryz.func214,by kernel_rfl,by kernel_rfl⟩
theorem sL2Rest.sound (n:Nat):Sound Tryz.prog 214 (sL2Rest.mng n):=sndF (c:=sL2Rest.cfg n) (n:=n) (an:=annOf Tryz.f214 sL2Rest.las) trivial trivial (tysOK tys6_ok) Tryz.func214 (fun x=>by kernel_rfl)
def sL2Value.las:List (Nat×LA):=[]
noncomputable def sL2Value.f (n:Nat) (a0:Instr) (a1:List Int) (a2:Int):Option (Int×Unit):=br (decide (a0.1=1)) (some (a2,())) (br (decide (a0.1=3)) (some (a0.2.2.1,())) (br (decide (a0.1=4)) (chk (0≤a0.2.2.1∧a0.2.2.1<(a1.length:Int)) (let v49:=(a1.getD a0.2.2.1.toNat 0); chk (0≤a0.2.2.2∧a0.2.2.2<(a1.length:Int)) (let v50:=(a1.getD a0.2.2.2.toNat 0); (sWrapToken.f n (w64 (v49+v50))).bind fun r51=>some (r51.1,())))) (br (decide (a0.1=5)) (chk (0≤a0.2.2.1∧a0.2.2.1<(a1.length:Int)) (let v61:=(a1.getD a0.2.2.1.toNat 0); chk (0≤a0.2.2.2∧a0.2.2.2<(a1.length:Int)) (let v62:=(a1.getD a0.2.2.2.toNat 0); (sWrapToken.f n (w64 (v61-v62))).bind fun r63=>some (r63.1,())))) (br (decide (a0.1=6)) (chk (0≤a0.2.2.1∧a0.2.2.1<(a1.length:Int)) (let v70:=(a1.getD a0.2.2.1.toNat 0); chk (0≤a0.2.2.2∧a0.2.2.2<(a1.length:Int)) (let v71:=(a1.getD a0.2.2.2.toNat 0); (sWrapToken.f n (w64 (v70*v71))).bind fun r72=>some (r72.1,())))) (br (decide (a0.1=7)) (chk (0≤a0.2.2.1∧a0.2.2.1<(a1.length:Int)) (let v76:=(a1.getD a0.2.2.1.toNat 0); chk (0≤a0.2.2.2∧a0.2.2.2<(a1.length:Int)) (let v77:=(a1.getD a0.2.2.2.toNat 0); (sL2Rest.f n v76 v77).bind fun r78=>some (r78.1,())))) (chk (0≤a0.2.1∧a0.2.1<(a1.length:Int)) (some ((a1.getD a0.2.1.toNat 0),()))))))))
noncomputable def sL2Value.mng (n:Nat):Mng:=⟨[.val tInstr,.val IS,.val I],[.val I],fun x=>sL2Value.f n x.1 x.2.1 x.2.2.1⟩
noncomputable def sL2Value.cfg (n:Nat):Cfg:=⟨tys6,[(213,sWrapToken.mng n),(214,sL2Rest.mng n)],[],[]⟩
theorem sL2Value.gof:GoF Tryz.prog 184:=⟨_,Tryz.func184,by kernel_rfl,by kernel_rfl⟩
theorem sL2Value.sound (n:Nat):Sound Tryz.prog 184 (sL2Value.mng n):=sndF (c:=sL2Value.cfg n) (n:=n) (an:=annOf Tryz.f184 sL2Value.las) ⟨⟨sWrapToken.sound n,sWrapToken.gof⟩,⟨⟨sL2Rest.sound n,sL2Rest.gof⟩,trivial⟩⟩ trivial (tysOK tys6_ok) Tryz.func184 (fun x=>by kernel_rfl)
def sL2Step.las:List (Nat×LA):=[(5,⟨[(10,.int .i64)],[],[2,4,6,8,9],[]⟩),(7,⟨[(63,.bool)],[],[2,4,6,8,9,10],[]⟩),(8,⟨[(9,.vptr 1000 0)],[(1000,.cells [] [.int .i64,.own 1001 I]),(1001,.row true I)],[2,4,6,8,10],[]⟩)]
noncomputable def sL2Step.f (n:Nat) (a0:Program) (a1:Actor) (a2:Int):Option (Actor×(Int×Unit)):=chk (0≤a1.1∧a1.1<(a0.2.2.length:Int)) (let v1:=(a0.2.2.getD a1.1.toNat zInstr); (sL1Copy.f n a1.2).bind fun r2=>cut (α:=(Int×Unit)) (br (decide (v1.1=2)) (chk (0≤v1.2.1∧v1.2.1<(a1.2.length:Int)) (let v5:=(a1.2.getD v1.2.1.toNat 0); some (.inr (v5,())))) (some (.inr (0,())))) fun y4=>cut (α:=(Bool×Unit)) (br (decide (v1.1=8)) (some (.inr (true,()))) (br (decide (v1.1=9)) (chk (0≤v1.2.1∧v1.2.1<(a1.2.length:Int)) (let v10:=(a1.2.getD v1.2.1.toNat 0); br (decide (v10=0)) (some (.inr (true,()))) (br (decide (v1.1=10)) (chk (0≤v1.2.1∧v1.2.1<(a1.2.length:Int)) (let v11:=(a1.2.getD v1.2.1.toNat 0); some (.inr ((decide (v11<0)),())))) (some (.inr (false,())))))) (br (decide (v1.1=10)) (chk (0≤v1.2.1∧v1.2.1<(a1.2.length:Int)) (let v12:=(a1.2.getD v1.2.1.toNat 0); some (.inr ((decide (v12<0)),())))) (some (.inr (false,())))))) fun y9=>cut (α:=(Int×(List Int)×Unit)) (br y9.1 (some (.inr (v1.2.2.1,(r2.1,())))) (some (.inr ((w64 (a1.1+1)),(r2.1,()))))) fun y13=>(sL2Value.f n v1 a1.2 a2).bind fun r14=>chk (0≤v1.2.1∧v1.2.1<(y13.2.1.length:Int)) (let v15:=(y13.2.1.set v1.2.1.toNat r14.1); some ((y13.1,v15),(y4.1,()))))
noncomputable def sL2Step.mng (n:Nat):Mng:=⟨[.val tProgram,.val tActor,.val I],[.val tActor,.val I],fun x=>sL2Step.f n x.1 x.2.1 x.2.2.1⟩
noncomputable def sL2Step.cfg (n:Nat):Cfg:=⟨tys6,[(83,sL1Copy.mng n),(184,sL2Value.mng n)],[],[]⟩
theorem sL2Step.gof:GoF Tryz.prog 147:=⟨_,Tryz.func147,by kernel_rfl,by kernel_rfl⟩
theorem sL2Step.sound (n:Nat):Sound Tryz.prog 147 (sL2Step.mng n):=sndF (c:=sL2Step.cfg n) (n:=n) (an:=annOf Tryz.f147 sL2Step.las) ⟨⟨sL1Copy.sound n,sL1Copy.gof⟩,⟨⟨sL2Value.sound n,sL2Value.gof⟩,trivial⟩⟩ trivial (tysOK tys6_ok) Tryz.func147 (fun x=>by kernel_rfl)
def iWrap.las:List (Nat×LA):=[]
noncomputable def iWrap.f (n:Nat) (a0:Int):Option (Int×Unit):=br (decide (999999<(a0.tmod 1999999))) (some ((w64 ((a0.tmod 1999999)-1999999)),())) (br (decide ((a0.tmod 1999999)<(-999999))) (some ((w64 ((a0.tmod 1999999)+1999999)),())) (some ((a0.tmod 1999999),())))
noncomputable def iWrap.mng (n:Nat):Mng:=⟨[.val I],[.val I],fun x=>iWrap.f n x.1⟩
noncomputable def iWrap.cfg (n:Nat):Cfg:=⟨tys6,[],[],[]⟩
theorem iWrap.gof:GoF Tryz.prog 180:=⟨_,Tryz.func180,by kernel_rfl,by kernel_rfl⟩
theorem iWrap.sound (n:Nat):Sound Tryz.prog 180 (iWrap.mng n):=sndF (c:=iWrap.cfg n) (n:=n) (an:=annOf Tryz.f180 iWrap.las) trivial trivial (tysOK tys6_ok) Tryz.func180 (fun x=>by kernel_rfl)
def iRest.las:List (Nat×LA):=[]
noncomputable def iRest.f (n:Nat) (a0:Int) (a1:Int):Option (Int×Unit):=br (decide (a1=0)) (some (0,())) (if (max a1 (w64 (0-a1)))=0 then none else br (decide ((a0.tmod (max a1 (w64 (0-a1))))<0)) (some ((w64 ((a0.tmod (max a1 (w64 (0-a1))))+(max a1 (w64 (0-a1))))),())) (some ((a0.tmod (max a1 (w64 (0-a1)))),())))
noncomputable def iRest.mng (n:Nat):Mng:=⟨[.val I,.val I],[.val I],fun x=>iRest.f n x.1 x.2.1⟩
noncomputable def iRest.cfg (n:Nat):Cfg:=⟨tys6,[],[],[]⟩
theorem iRest.gof:GoF Tryz.prog 181:=⟨_,Tryz.func181,by kernel_rfl,by kernel_rfl⟩
theorem iRest.sound (n:Nat):Sound Tryz.prog 181 (iRest.mng n):=sndF (c:=iRest.cfg n) (n:=n) (an:=annOf Tryz.f181 iRest.las) trivial trivial (tysOK tys6_ok) Tryz.func181 (fun x=>by kernel_rfl)
def stepR.las:List (Nat×LA):=[]
def stepR.la:LA:=⟨[(0,.agg [.int .i64,.int .i64,.sh tInstr]),(1,.rptr 0 tActor 0),(2,.int .i64)],[(0,.row true tActor)],[],[]⟩
def stepR.lb:LA:=⟨[(0,.int .i64)],[(0,.row true tActor)],[],[]⟩
noncomputable def stepR.f (n:Nat) (a0:Int) (a1:Int) (a2:List Instr) (a3:Nat) (a4:Int) (a5:List Actor):Option (Int×(List Actor)×Unit):=chk (0≤(a5.getD a3 zActor).1∧(a5.getD a3 zActor).1<(a2.length:Int)) (let v1:=(a2.getD (a5.getD a3 zActor).1.toNat zInstr); let v2:=(a5.set a3 ((w64 ((a5.getD a3 zActor).1+1)),(a5.getD a3 zActor).2)); br (decide (v1.1=1)) (chk (0≤v1.2.1∧v1.2.1<((v2.getD a3 zActor).2.length:Int)) (let v3:=(v2.set a3 ((v2.getD a3 zActor).1,((v2.getD a3 zActor).2.set v1.2.1.toNat a4))); some (0,(v3,())))) (br (decide (v1.1=2)) (chk (0≤v1.2.1∧v1.2.1<((v2.getD a3 zActor).2.length:Int)) (some (((v2.getD a3 zActor).2.getD v1.2.1.toNat 0),(v2,())))) (br (decide (v1.1=3)) (chk (0≤v1.2.1∧v1.2.1<((v2.getD a3 zActor).2.length:Int)) (let v4:=(v2.set a3 ((v2.getD a3 zActor).1,((v2.getD a3 zActor).2.set v1.2.1.toNat v1.2.2.1))); some (0,(v4,())))) (br (decide (v1.1=4)) (chk (0≤v1.2.2.1∧v1.2.2.1<((v2.getD a3 zActor).2.length:Int)) (chk (0≤v1.2.2.2∧v1.2.2.2<((v2.getD a3 zActor).2.length:Int)) ((iWrap.f n (w64 (((v2.getD a3 zActor).2.getD v1.2.2.1.toNat 0)+((v2.getD a3 zActor).2.getD v1.2.2.2.toNat 0)))).bind fun r5=>chk (0≤v1.2.1∧v1.2.1<((v2.getD a3 zActor).2.length:Int)) (let v6:=(v2.set a3 ((v2.getD a3 zActor).1,((v2.getD a3 zActor).2.set v1.2.1.toNat r5.1))); some (0,(v6,())))))) (br (decide (v1.1=5)) (chk (0≤v1.2.2.1∧v1.2.2.1<((v2.getD a3 zActor).2.length:Int)) (chk (0≤v1.2.2.2∧v1.2.2.2<((v2.getD a3 zActor).2.length:Int)) ((iWrap.f n (w64 (((v2.getD a3 zActor).2.getD v1.2.2.1.toNat 0)-((v2.getD a3 zActor).2.getD v1.2.2.2.toNat 0)))).bind fun r7=>chk (0≤v1.2.1∧v1.2.1<((v2.getD a3 zActor).2.length:Int)) (let v8:=(v2.set a3 ((v2.getD a3 zActor).1,((v2.getD a3 zActor).2.set v1.2.1.toNat r7.1))); some (0,(v8,())))))) (br (decide (v1.1=6)) (chk (0≤v1.2.2.1∧v1.2.2.1<((v2.getD a3 zActor).2.length:Int)) (chk (0≤v1.2.2.2∧v1.2.2.2<((v2.getD a3 zActor).2.length:Int)) ((iWrap.f n (w64 (((v2.getD a3 zActor).2.getD v1.2.2.1.toNat 0)*((v2.getD a3 zActor).2.getD v1.2.2.2.toNat 0)))).bind fun r9=>chk (0≤v1.2.1∧v1.2.1<((v2.getD a3 zActor).2.length:Int)) (let v10:=(v2.set a3 ((v2.getD a3 zActor).1,((v2.getD a3 zActor).2.set v1.2.1.toNat r9.1))); some (0,(v10,())))))) (br (decide (v1.1=7)) (chk (0≤v1.2.2.1∧v1.2.2.1<((v2.getD a3 zActor).2.length:Int)) (chk (0≤v1.2.2.2∧v1.2.2.2<((v2.getD a3 zActor).2.length:Int)) ((iRest.f n ((v2.getD a3 zActor).2.getD v1.2.2.1.toNat 0) ((v2.getD a3 zActor).2.getD v1.2.2.2.toNat 0)).bind fun r11=>chk (0≤v1.2.1∧v1.2.1<((v2.getD a3 zActor).2.length:Int)) (let v12:=(v2.set a3 ((v2.getD a3 zActor).1,((v2.getD a3 zActor).2.set v1.2.1.toNat r11.1))); some (0,(v12,())))))) (br (decide (v1.1=8)) (let v13:=(v2.set a3 (v1.2.2.1,(v2.getD a3 zActor).2)); some (0,(v13,()))) (br (decide (v1.1=9)) (chk (0≤v1.2.1∧v1.2.1<((v2.getD a3 zActor).2.length:Int)) (br (decide (((v2.getD a3 zActor).2.getD v1.2.1.toNat 0)=0)) (let v14:=(v2.set a3 (v1.2.2.1,(v2.getD a3 zActor).2)); some (0,(v14,()))) (some (0,(v2,()))))) (br (decide (v1.1=10)) (chk (0≤v1.2.1∧v1.2.1<((v2.getD a3 zActor).2.length:Int)) (br (decide (((v2.getD a3 zActor).2.getD v1.2.1.toNat 0)<0)) (let v15:=(v2.set a3 (v1.2.2.1,(v2.getD a3 zActor).2)); some (0,(v15,()))) (some (0,(v2,()))))) (some (0,(v2,())))))))))))))
noncomputable def stepR.mng (n:Nat):LMng:=⟨stepR.la,stepR.lb,fun x=>stepR.f n x.1 x.2.1 x.2.2.1 x.2.2.2.1 x.2.2.2.2.1 x.2.2.2.2.2.1⟩
noncomputable def stepR.cfg (n:Nat):Cfg:=⟨tys6,[(180,iWrap.mng n),(181,iRest.mng n)],[],[]⟩
theorem stepR.gof:GoF Tryz.prog 142:=⟨_,Tryz.func142,by kernel_rfl,by kernel_rfl⟩
theorem stepR.sound (n:Nat):LSound Tryz.prog 142 (stepR.mng n):=sndL (c:=stepR.cfg n) (n:=n) (an:=annOf Tryz.f142 stepR.las) ⟨⟨iWrap.sound n,iWrap.gof⟩,⟨⟨iRest.sound n,iRest.gof⟩,trivial⟩⟩ trivial (tysOK tys6_ok) Tryz.func142 (fun x=>by kernel_rfl)
def runStep.las:List (Nat×LA):=[(3,⟨[(0,.vptr 0 0),(6,.int .i64)],[(0,.cells [true,true,false,false,false,false,false,false,true] [.sh tProgram,.sh tLink,.own 1 tActor,.own 2 IS,.own 3 IS,.int .i64,.own 4 IS,.own 5 IS,.osh I]),(1,.row true tActor),(2,.row true IS),(3,.row true IS),(4,.row true IS),(5,.row true IS)],[1,4,5],[]⟩),(8,⟨[(0,.vptr 0 0)],[(0,.cells [true,true,false,false,false,false,false,false,true] [.sh tProgram,.sh tLink,.own 1 tActor,.own 2 IS,.own 3 IS,.int .i64,.own 4 IS,.own 5 IS,.osh I]),(1,.row true tActor),(2,.row true IS),(3,.row true IS),(4,.row true IS),(5,.row true IS)],[],[]⟩)]
def runStep.la:LA:=⟨[(0,.vptr 0 0),(1,.int .i64)],[(0,.cells [true,true,false,false,false,false,false,false,true] [.sh tProgram,.sh tLink,.own 1 tActor,.own 2 IS,.own 3 IS,.int .i64,.own 4 IS,.own 5 IS,.osh I]),(1,.row true tActor),(2,.row true IS),(3,.row true IS),(4,.row true IS),(5,.row true IS)],[],[]⟩
def runStep.lb:LA:=⟨[],[(0,.cells [true,true,false,false,false,false,false,false,true] [.sh tProgram,.sh tLink,.own 1 tActor,.own 2 IS,.own 3 IS,.int .i64,.own 4 IS,.own 5 IS,.osh I]),(1,.row true tActor),(2,.row true IS),(3,.row true IS),(4,.row true IS),(5,.row true IS)],[],[]⟩
noncomputable def runStep.f (n:Nat) (a0:Int) (a1:List Program) (a2:List Link) (a3:Int) (a4:Option (List Int)) (a5:List Actor) (a6:List (List Int)) (a7:List (List Int)) (a8:List (List Int)) (a9:List (List Int)):Option ((List Program)×(List Link)×(Int×(Option (List Int))×(List Actor)×(List (List Int))×(List (List Int))×(List (List Int))×(List (List Int))×Unit)):=(wants.f n ((a1,a2),((a5,(a6,(a7,a3))),(a8,(a9,a4)))) a0).bind fun r1=>cut (α:=(Int×(List Program)×(List Link)×(Int×(Option (List Int))×(List Actor)×(List (List Int))×(List (List Int))×(List (List Int))×(List (List Int))×Unit))) (br (decide (r1.1=2)) (chk (0≤r1.2.1∧r1.2.1<(a6.length:Int)) (chk ((0:Int)≤0∧(0:Int)<((a6.getD r1.2.1.toNat []).length:Int)) (chk (0≤r1.2.1∧r1.2.1<(a6.length:Int)) (chk ((0:Int)≤1∧(1:Int)≤((a6.getD r1.2.1.toNat []).length:Int)∧((a6.getD r1.2.1.toNat []).length:Int)≤((a6.getD r1.2.1.toNat []).length:Int)) (chk (0≤r1.2.1∧r1.2.1<(a6.length:Int)) (chk (r1.2.1.toNat=r1.2.1.toNat) (let v4:=(a6.set r1.2.1.toNat (((a6.getD r1.2.1.toNat []).drop 1).take (((a6.getD r1.2.1.toNat []).length:Int).toNat-1))); some (.inr (((a6.getD r1.2.1.toNat []).getD 0 0),(a1,(a2,(a3,(a4,(a5,(v4,(a7,(a8,(a9,())))))))))))))))))) (some (.inr (0,(a1,(a2,(a3,(a4,(a5,(a6,(a7,(a8,(a9,()))))))))))))) fun y3=>chk (0≤a0∧a0<(y3.2.1.length:Int)) (let v5:=(y3.2.1.getD a0.toNat zProgram); chk (0≤a0∧a0<(y3.2.2.2.2.2.1.length:Int)) ((stepR.f n v5.1 v5.2.1 v5.2.2 a0.toNat y3.1 y3.2.2.2.2.2.1).bind fun r6=>cut (α:=((List Program)×(List Link)×(Int×(Option (List Int))×(List Actor)×(List (List Int))×(List (List Int))×(List (List Int))×(List (List Int))×Unit))) (br (decide (r1.1=3)) (chk (0≤r1.2.1∧r1.2.1<(y3.2.2.2.2.2.2.1.length:Int)) (chk (((y3.2.2.2.2.2.2.1.getD r1.2.1.toNat []).length+([r6.1]:List Int).length)*8≤maxB) (chk (0≤r1.2.1∧r1.2.1<(y3.2.2.2.2.2.2.1.length:Int)) (chk (r1.2.1.toNat=r1.2.1.toNat) (let v10:=(y3.2.2.2.2.2.2.1.set r1.2.1.toNat ((y3.2.2.2.2.2.2.1.getD r1.2.1.toNat [])++[r6.1])); chk (0≤r1.2.1∧r1.2.1<(y3.2.2.2.2.2.2.2.1.length:Int)) (chk (((y3.2.2.2.2.2.2.2.1.getD r1.2.1.toNat []).length+([r6.1]:List Int).length)*8≤maxB) (chk (0≤r1.2.1∧r1.2.1<(y3.2.2.2.2.2.2.2.1.length:Int)) (chk (r1.2.1.toNat=r1.2.1.toNat) (let v11:=(y3.2.2.2.2.2.2.2.1.set r1.2.1.toNat ((y3.2.2.2.2.2.2.2.1.getD r1.2.1.toNat [])++[r6.1])); some (.inr (y3.2.1,(y3.2.2.1,(y3.2.2.2.1,(y3.2.2.2.2.1,(r6.2.1,(v10,(v11,(y3.2.2.2.2.2.2.2.2.1,(y3.2.2.2.2.2.2.2.2.2.1,()))))))))))))))))))) (some (.inr (y3.2.1,(y3.2.2.1,(y3.2.2.2.1,(y3.2.2.2.2.1,(r6.2.1,(y3.2.2.2.2.2.2.1,(y3.2.2.2.2.2.2.2.1,(y3.2.2.2.2.2.2.2.2.1,(y3.2.2.2.2.2.2.2.2.2.1,())))))))))))) fun y9=>some (y9.1,(y9.2.1,((w64 (y9.2.2.1+1)),(y9.2.2.2.1,(y9.2.2.2.2.1,(y9.2.2.2.2.2.1,(y9.2.2.2.2.2.2.1,(y9.2.2.2.2.2.2.2.1,(y9.2.2.2.2.2.2.2.2.1,())))))))))))
noncomputable def runStep.mng (n:Nat):LMng:=⟨runStep.la,runStep.lb,fun x=>runStep.f n x.1 x.2.1 x.2.2.1 x.2.2.2.1 x.2.2.2.2.1 x.2.2.2.2.2.1 x.2.2.2.2.2.2.1 x.2.2.2.2.2.2.2.1 x.2.2.2.2.2.2.2.2.1 x.2.2.2.2.2.2.2.2.2.1⟩
noncomputable def runStep.cfg (n:Nat):Cfg:=⟨tys6,[(141,wants.mng n)],[(142,stepR.mng n)],[]⟩
theorem runStep.gof:GoF Tryz.prog 88:=⟨_,Tryz.func88,by kernel_rfl,by kernel_rfl⟩
theorem runStep.sound (n:Nat):LSound Tryz.prog 88 (runStep.mng n):=sndL (c:=runStep.cfg n) (n:=n) (an:=annOf Tryz.f88 runStep.las) ⟨⟨wants.sound n,wants.gof⟩,trivial⟩ ⟨⟨stepR.sound n,stepR.gof⟩,trivial⟩ (tysOK tys6_ok) Tryz.func88 (fun x=>by kernel_rfl)
end Go.AmT
