/- Networks at work, in plain Lean: the tables of links, what a process wants, and whether it can. -/
import Derived.Test.YtjfaphipihgomaaGreatDoorMExL5
open Go Go.Am
noncomputable section
set_option linter.unusedVariables false
set_option linter.unusedSimpArgs false
set_option maxRecDepth 100000
open Bool renaming and_eq_true → aB
open Int renaming lt_irrefl → bH, toNat_natCast → az
open List renaming getElem_mem → bV, replicate → ga, set_getElem_self → Lp, set_set → zM
open Option renaming bind_some → aA
namespace Go.AmT
variable {p:Program} {a:aY} {n:Nat} {nt:ak} {t:List (List Int)} {s:State}
def ct (p:Program) (a:aY):Int×Int:=
 if a.1=(p.2.2.length:Int) then (0,0) else if (p.2.2.getD a.1.toNat fK).1=11 then (0,0) else if (p.2.2.getD a.1.toNat fK).1=1 then (2,(p.2.2.getD a.1.toNat fK).2.2.1)
 else if (p.2.2.getD a.1.toNat fK).1=2 then (3,(p.2.2.getD a.1.toNat fK).2.2.1) else (1,0)
theorem rm (h:gj p a=true):0≤a.1∧a.1≤(p.2.2.length:Int):=by
 unfold gj at h
 grind
theorem iN {α:Type} {c:Prop} [Decidable c] {x y:Option α} : br (decide c) x y=if c then x else y:=by by_cases h:c<;>simp [h,br]
theorem OU (h:gj p a=true):want.f n p a=some ((ct p a).1,(ct p a).2,()):=by
 have hp:=rm h;unfold want.f ct;simp only [iN];split
 ·rfl
 rw [af (by omega)]
 grind
theorem Ca (h:gj p a=true):ig.f n p a=some ((ct p a).1,(ct p a).2,()):=OU (n:=n) h
theorem OV (p:Program) (a:aY):(ct p a).1=0∨(ct p a).1=1∨(ct p a).1=2∨(ct p a).1=3:=by
 unfold ct
 grind
theorem OW (hp:cP p=true) (h:gj p a=true):0≤(ct p a).2∧((ct p a).1=2→(ct p a).2<p.1)∧((ct p a).1=3→(ct p a).2<p.2.1):=by
 have mb:=rm h;unfold cP at hp;simp only [aB,List.all_eq_true] at hp;have hI:=hp.2;unfold ct;split
 ·simp
 rename_i aG;have aF:a.1.toNat<p.2.2.length:=by omega
 have hx:=hI _ (bV aF);rw [aU aF];split
 ·simp
 split
 ·rename_i h1;unfold fH at hx
  grind
 rename_i h1;split
 ·rename_i h2;unfold fH at hx
  grind
 simp
theorem OX {α:Type} {f:α→Bool} : ∀ {ls:List α} {i j:Nat} (hi:i<ls.length) (hj:j<ls.length),ls.countP f≤1→f ls[i]=true→f ls[j]=true→i=j
 | [],i,j,hi,_,_,_,_=>by grind
 | x::ls,i,j,hi,hj,hc,h1,h2=>by
  have z:∀ (k:Nat) (hk:k<ls.length),f x=true→f ls[k]=true→False:=by
   intro k hk hx hl;rw [List.countP_cons_of_pos hx] at hc;have:ls.countP f=0:=by omega
   rw [List.countP_eq_zero] at this;exact this _ (bV hk) hl
  cases i with
  | zero=>
   grind
  | succ i=>
   cases j with
   | zero=>grind
   | succ j=>
    have tM:ls.countP f≤1:=Nat.le_trans (List.aeC) hc;rw [OX (ls:=ls) (i:=i) (j:=j) (by grind) (by grind) tM (by grind) (by grind)]
 where
 List.aeC {α:Type} {f:α→Bool} {x:α} {ls:List α} : ls.countP f≤(x::ls).countP f:=by grind
theorem VP {α:Type} {f:α→Bool} {ls:List α} {j:Nat} (hj:j<ls.length) (hc:ls.countP f=1) (hf:f ls[j]=true):nU f ls=(j:Int):=by unfold nU;rw [if_neg (by omega),if_pos hc];have h1:ls.findIdx f<ls.length:=List.findIdx_lt_length_of_exists ⟨_,bV hj,hf⟩;have h2:f ls[ls.findIdx f]=true:=List.findIdx_getElem (w:=h1);rw [OX h1 hj (by omega) h2 hf]
theorem GZ {α:Type} {f:α→Bool} {ls:List α} (hc:ls.countP f=1):∃ j,∃ hj:j<ls.length,f ls[j]=true∧nU f ls=(j:Int):=by
 have h0:0<ls.countP f:=by omega
 obtain ⟨x,hx,hf⟩:=List.countP_pos_iff.1 h0;obtain ⟨j,hj,rfl⟩:=List.mem_iff_getElem.1 hx;exact ⟨j,hj,hf,VP hj hc hf⟩
structure jQ (nt:ak) (pl ql:aK→Int) (wd:Program→Int) (t:List (List Int)) (i:Nat):Prop where
 len:t.length=nt.1.length
 row:∀ (k:Nat) (hk:k<nt.1.length),(t.getD k []).length=(wd nt.1[k]).toNat
 at':∀ (k b j:Nat) (hk:k<nt.1.length) (hj:j<nt.2.length),j<i→(b:Int)<wd nt.1[k]→pl nt.2[j]=(k:Int)→ql nt.2[j]=(b:Int)→(t.getD k []).getD b 0=(j:Int)
def Kf (nt:ak) (pl ql:aK→Int) (wd:Program→Int):Prop:=∀ (k b:Nat) (hk:k<nt.1.length),(b:Int)<wd nt.1[k]→nt.2.countP (fun l=>decide (pl l=(k:Int))&&decide (ql l=(b:Int)))=1
theorem jQ.skip {pl ql:aK→Int} {wd:Program→Int} {i:Nat} (T:jQ nt pl ql wd t i) (hi:i<nt.2.length) (hn:¬ 0≤pl nt.2[i]):jQ nt pl ql wd t (i+1):=by
 refine ⟨T.len,T.row,fun k b j hk hj aF hb h1 h2=>?_⟩;rcases Nat.lt_or_ge j i with h | h
 ·exact T.at' k b j hk hj h hb h1 h2
 grind
theorem getD_set_ne {α:Type} {l:List α} {i j:Nat} (h:i≠j) (x z:α):(l.set i x).getD j z=l.getD j z:=by grind
theorem jQ.put {pl ql:aK→Int} {wd:Program→Int} {i p q:Nat} (T:jQ nt pl ql wd t i) (U:Kf nt pl ql wd) (hi:i<nt.2.length) (hp:p<nt.1.length) (hq:(q:Int)<wd nt.1[p]) (e1:pl nt.2[i]=(p:Int)) (e2:ql nt.2[i]=(q:Int)) :
  jQ nt pl ql wd (t.set p ((t.getD p []).set q (i:Int))) (i+1):=by
 have D8:p<t.length:=by rw [T.len]; exact hp
 refine ⟨by simp [T.len],fun k hk=>?_,fun k b j hk hj aF hb h1 h2=>?_⟩
 ·by_cases h:p=k
  ·subst h;rw [jD D8,List.length_set]; exact T.row p hk
  rw [getD_set_ne h]; exact T.row k hk
 rcases Nat.lt_or_ge j i with h | h
 ·by_cases VQ:p=k
  ·subst VQ;rw [jD D8];by_cases VR:q=b
   ·subst VR;have:=OX (f:=fun l=>decide (pl l=(p:Int))&&decide (ql l=(q:Int))) hi hj (by rw [U p q hp hq]; omega) (by grind) (by grind);omega
   rw [getD_set_ne VR]; exact T.at' p b j hk hj h hb h1 h2
  rw [getD_set_ne VQ]; exact T.at' k b j hk hj h hb h1 h2
 obtain rfl:j=i:=by omega
 obtain rfl:p=k:=by omega
 obtain rfl:q=b:=by omega
 rw [jD D8,jD (by rw [T.row p hp]; omega)]
theorem jQ.get {pl ql:aK→Int} {wd:Program→Int} (T:jQ nt pl ql wd t nt.2.length) (U:Kf nt pl ql wd) {k b:Nat} (hk:k<nt.1.length) (hb:(b:Int)<wd nt.1[k]) :
  (t.getD k []).getD b 0=nU (fun l=>decide (pl l=(k:Int))&&decide (ql l=(b:Int))) nt.2:=by
 obtain ⟨j,hj,hf,e⟩:=GZ (U k b hk hb);simp only [aB,decide_eq_true_eq] at hf;rw [e]; exact T.at' k b j hk hj hj hb hf.1 hf.2
def xE (l:aK):Int:=l.2.2.1
def toQ (l:aK):Int:=l.2.2.2.1
def zO (l:aK):Int:=l.1
def zP (l:aK):Int:=l.2.1
theorem VS (o:cQ nt):Kf nt xE toQ (fun p=>p.1):=fun k b hk hb=>o.ins k hk b hb
theorem VT (o:cQ nt):Kf nt zO zP (fun p=>p.2.1):=fun k b hk hb=>o.outs k hk b hb
structure kQ (nt:ak) (s:State) (r:oe):Prop where
 cb:r.1=nt
 st:r.2.1=s
 to:jQ nt xE toQ (fun p=>p.1) r.2.2.1 nt.2.length
 fr:jQ nt zO zP (fun p=>p.2.1) r.2.2.2.1 nt.2.length
theorem xF {a:List Int} (h:a.length≤1048576):cX.f n a=some (a,()):=by unfold cX.f;rw [dD (by grind)]; rfl
theorem VU {a:List (List Int)} (hl:a.length≤1048576) (h:∀ q∈a,q.length≤1048576) (hn:1048576<n):xD.f n a=some (a,()):=by
 unfold xD.f;refine Eq.trans (zN a id (fun i s=>(i,s,())) (R:=fun ps=>some (ps,())) (fun ih i hi s hs=>?_) (fun ih ps=>au (bH _)) (by omega)) (by simp);have c0:0≤(i:Int):=by omega
 have c1:(i:Int)<(a.length:Int):=by omega
 have e1:a.getD i []=a[i]:=aU hi _;simp only [c1,c0,and_self,iC,decide_true,ax,az,e1,xF (h _ (bV hi)),aA];rw [dD (by grind),ba (by omega)]; rfl
theorem VV (h:gP s) (hn:1048576<n):vA.f n s=some (s,()):=by
 have ha:=h.B5;unfold vA.f;rw [VU h.B6 h.queue hn,VU h.B7 h.po hn];simp only [aA];refine Eq.trans (zN s.1 id (fun i ps=>(i,s.2.2.2,ps,s.2.1,s.2.2.1,())) (R:=fun ps=>some ((ps,s.2.1,s.2.2.1,s.2.2.2),())) (fun ih i hi ps hs=>?_) (fun ih ps=>au (bH _)) (by omega)) (by simp);have c0:0≤(i:Int):=by omega
 have c1:(i:Int)<(s.1.length:Int):=by omega
 have e1:s.1.getD i bz=s.1[i]:=aU hi _;simp only [c1,c0,and_self,iC,decide_true,ax,az,e1,xF (h.mr _ (bV hi)),aA];rw [dD (by grind),ba (by omega)]; rfl
theorem Ed {caps:Option (List Int)} (o:cQ nt) (h:gP s) (hn:1048576<n) :
  W (ku.f n nt.1 nt.2 s.1 s.2.1 s.2.2.1 s.2.2.2 caps) (fun r=>∃ to fr,r=(nt.1,nt.2,s.2.2.2,caps,s.1,s.2.1,s.2.2.1,to,fr,())∧
   jQ nt xE toQ (fun p=>p.1) to nt.2.length∧jQ nt zO zP (fun p=>p.2.1) fr nt.2.length):=by
 have hp:=o.dZ;have hl:=o.dp;have hm:=iR;unfold ku.f;rw [VV h hn];simp only [aA];refine gu (fun i (x:List (List Int)×List (List Int))=>((i:Int),nt.1,nt.2,s.2.2.2,caps,s.1,s.2.1,s.2.2.1,x.1,x.2,())) nt.1.length
  (fun i x=>x=((nt.1.take i).map (fun p=>ga p.1.toNat (0:Int)),(nt.1.take i).map (fun p=>ga p.2.1.toNat (0:Int)))) (s0:=([],[])) rfl (by simp) (by omega) (fun ih x hI=>?_) (fun ih i x hi hI hS=>?_)
 rotate_left
 ·have c0:0≤(i:Int):=by omega
  have c1:(i:Int)<(nt.1.length:Int):=by omega
  have e1:nt.1.getD i bf=nt.1[i]:=aU hi _;have hq:=GN (o.prog i hi);have za:x.1.length=i:=by rw [hI]; simp; omega
  have F0:x.2.length=i:=by rw [hI]; simp; omega
  simp only [c1,c0,and_self,iC,decide_true,ax,az,e1,true_and];rw [af (by omega),dD (by grind),af (by omega),dD (by grind),ba (by omega)];refine hS (_,_) ?_;rw [hI,List.take_succ_eq_append_getElem hi,List.map_append,List.map_append]; rfl
 simp only [au (bH _)];rw [List.take_length] at hI;have T0:∀ (pl ql:aK→Int) (wd:Program→Int),jQ nt pl ql wd (nt.1.map (fun p=>ga (wd p).toNat (0:Int))) 0:=fun pl ql wd=>
  ⟨by simp,fun k hk=>by grind,fun k b j hk hj aF=>by omega⟩
 refine gu (fun i (x:List (List Int)×List (List Int))=>((i:Int),nt.1,nt.2,s.2.2.2,caps,s.1,s.2.1,s.2.2.1,x.1,x.2,())) nt.2.length
  (fun i x=>jQ nt xE toQ (fun p=>p.1) x.1 i∧jQ nt zO zP (fun p=>p.2.1) x.2 i) (s0:=x) rfl (by grind) (by omega) (fun ih y hI=>?_) (fun ih i y hi hI hS=>?_)
 ·simp only [au (bH _)];rw [ao]
  grind
 have c0:0≤(i:Int):=by omega
 have c1:(i:Int)<(nt.2.length:Int):=by omega
 have e1:nt.2.getD i ay=nt.2[i]:=aU hi _;have E:=o.ends i hi;simp only [c1,c0,and_self,iC,decide_true,ax,az,e1];rw [ba (by omega)];have JL:∀ t1,jQ nt xE toQ (fun p=>p.1) t1 (i+1)→W (br (decide (0≤nt.2[i].1)) (ab (0≤nt.2[i].1∧nt.2[i].1<(y.2.length:Int)) (ab (0≤nt.2[i].2.1∧nt.2[i].2.1<((y.2.getD nt.2[i].1.toNat []).length:Int))
   (ih (((i+1:Nat):Int),nt.1,nt.2,s.2.2.2,caps,s.1,s.2.1,s.2.2.1,t1,y.2.set nt.2[i].1.toNat ((y.2.getD nt.2[i].1.toNat []).set nt.2[i].2.1.toNat (i:Int)),()))))
   (ih (((i+1:Nat):Int),nt.1,nt.2,s.2.2.2,caps,s.1,s.2.1,s.2.2.1,t1,y.2,()))) (fun r=>∃ to fr,r=(nt.1,nt.2,s.2.2.2,caps,s.1,s.2.1,s.2.2.1,to,fr,())∧
 jQ nt xE toQ (fun p=>p.1) to nt.2.length∧jQ nt zO zP (fun p=>p.2.1) fr nt.2.length):=by
  intro t1 VW;rw [cZ];refine ⟨fun h0=>?_,fun h0=>hS (t1,y.2) ⟨VW,hI.2.skip hi h0⟩⟩;rcases E.out with h | ⟨a1,a2,a3,a4⟩
  ·omega
  obtain ⟨p,ma⟩:∃ p:Nat,nt.2[i].1=(p:Int):=⟨nt.2[i].1.toNat,by omega⟩
  obtain ⟨q,rR⟩:∃ q:Nat,nt.2[i].2.1=(q:Int):=⟨nt.2[i].2.1.toNat,by omega⟩
  rw [ma,rR] at a4 ⊢;have gg:p<nt.1.length:=by omega
  simp only [az,aU gg] at a4 ⊢;have oF:=hI.2.row p gg;rw [af (by grind),af (by omega)];exact hS (t1,_) ⟨VW,hI.2.put (VT o) hi gg a4 ma rR⟩
 by_cases h0:0≤nt.2[i].2.2.1
 ·rcases E.q_ with h | ⟨a1,a2,a3,a4⟩
  ·omega
  obtain ⟨p,ma⟩:∃ p:Nat,nt.2[i].2.2.1=(p:Int):=⟨nt.2[i].2.2.1.toNat,by omega⟩
  obtain ⟨q,rR⟩:∃ q:Nat,nt.2[i].2.2.2.1=(q:Int):=⟨nt.2[i].2.2.2.1.toNat,by omega⟩
  have gg:p<nt.1.length:=by omega
  have hT:=JL (y.1.set p ((y.1.getD p []).set q (i:Int)));have oF:=hI.1.row p gg;rw [ma,rR] at a4 ⊢;simp only [az,aU gg] at a4 ⊢;rw [aM (by omega),af (by grind),af (by omega)];simp only [bg];exact hT (hI.1.put (VS o) hi gg a4 ma rR)
 rw [au h0];simp only [bg];exact JL y.1 (hI.1.skip hi h0)
def prog (nt:ak) (k:Nat):Program:=nt.1.getD k bf
def mr (s:State) (k:Nat):aY:=s.1.getD k bz
def bE (nt:ak) (s:State) (k:Nat):Int×Int:=ct (prog nt k) (mr s k)
def bL (nt:ak) (s:State) (k:Nat):Int:=
 if (bE nt s k).1=2 then nU (mJ (k:Int) (bE nt s k).2) nt.2 else if (bE nt s k).1=3 then nU (rO (k:Int) (bE nt s k).2) nt.2 else -1
def dw (nt:ak) (s:State) (k:Nat):Bool:=
 if (bE nt s k).1=0∨20000≤s.2.2.2 then false
 else if (bE nt s k).1=2 then decide (0<((s.2.1.getD (bL nt s k).toNat []).length:Int))
 else if (bE nt s k).1=3 then decide (((s.2.2.1.getD (bL nt s k).toNat []).length:Int)<400) else true
theorem OY (o:bU nt s) {k:Nat} (hk:k<nt.1.length):∃ b:Nat,(bE nt s k).2=(b:Int)∧((bE nt s k).1=2→(b:Int)<nt.1[k].1)∧((bE nt s k).1=3→(b:Int)<nt.1[k].2.1):=by
 have ha:=o.act k hk;have hp:=o.cb.prog k hk;rw [aU hk] at ha;have h:=OW hp ha;have e:bE nt s k=ct nt.1[k] (s.1.getD k bz):=by unfold bE prog mr; rw [aU hk]
 rw [e];refine ⟨(ct nt.1[k] (s.1.getD k bz)).2.toNat,by omega,fun h2=>?_,fun h3=>?_⟩
 ·omega
 omega
theorem qw (o:bU nt s) {k:Nat} (hk:k<nt.1.length) (h:(bE nt s k).1=2):∃ j,∃ hj:j<nt.2.length,bL nt s k=(j:Int)∧nt.2[j].2.2.1=(k:Int)∧nt.2[j].2.2.2.1=(bE nt s k).2:=by
 obtain ⟨b,e,h2,-⟩:=OY o hk;obtain ⟨j,hj,hf,e2⟩:=GZ (o.cb.ins k hk b (h2 h));refine ⟨j,hj,?_,?_⟩
 ·unfold bL; rw [if_pos h,e]; exact e2
 unfold mJ at hf;simp only [aB,decide_eq_true_eq] at hf;rw [e]; exact hf
theorem vB (o:bU nt s) {k:Nat} (hk:k<nt.1.length) (h:(bE nt s k).1=3):∃ j,∃ hj:j<nt.2.length,bL nt s k=(j:Int)∧nt.2[j].1=(k:Int)∧nt.2[j].2.1=(bE nt s k).2:=by
 obtain ⟨b,e,-,h2⟩:=OY o hk;obtain ⟨j,hj,hf,e2⟩:=GZ (o.cb.outs k hk b (h2 h));refine ⟨j,hj,?_,?_⟩
 ·unfold bL; rw [if_neg (by omega),if_pos h,e]; exact e2
 unfold rO at hf;simp only [aB,decide_eq_true_eq] at hf;rw [e]; exact hf
theorem Ee {r:oe} (R:kQ nt s r) (o:bU nt s) {k:Nat} (hk:k<nt.1.length):iY.f n r (k:Int)=some ((bE nt s k).1,bL nt s k,()):=by
 obtain ⟨r1,r2,to,fr,cp⟩:=r;obtain ⟨e1,e2,T,F⟩:=R;have e1:r1=nt:=e1;have e2:r2=s:=e2;subst e1 e2;have T:jQ r1 xE toQ (fun p=>p.1) to r1.2.length:=T;have F:jQ r1 zO zP (fun p=>p.2.1) fr r1.2.length:=F;obtain ⟨b,eb,h2,h3⟩:=OY o hk;have ha:=o.act k hk;have uP:k<r2.1.length:=by rw [o.na]; exact hk
 have hw:want.f n (r1.1.getD k bf) (r2.1.getD k bz)=some ((bE r1 r2 k).1,(bE r1 r2 k).2,()):=OU ha;unfold iY.f;simp only [az];rw [af (by omega),af (by omega),hw];simp only [aA,iN];unfold bL;rw [eb];by_cases c2:(bE r1 r2 k).1=2
 ·have hb:=h2 c2;have oF:=T.row k hk;have g:=T.get (VS o.cb) hk hb;rw [if_pos c2,if_pos c2,af (by grind),af (by omega),c2];simp only [az];rw [g]; rfl
 rw [if_neg c2,if_neg c2];by_cases c3:(bE r1 r2 k).1=3
 ·have hb:=h3 c3;have oF:=F.row k hk;have g:=F.get (VT o.cb) hk hb;rw [if_pos c3,if_pos c3,af (by grind),af (by omega),c3];simp only [az];rw [g]; rfl
 grind
theorem G_ (o:bU nt s) {k:Nat} (hk:k<nt.1.length) (hn:1048576<n):ll.f n nt s (k:Int)=some (bL nt s k,()):=by
 have ha:=o.act k hk;have hl:=o.cb.dp;have uP:k<s.1.length:=by rw [o.na]; exact hk
 have hw:ig.f n (nt.1.getD k bf) (s.1.getD k bz)=some ((bE nt s k).1,(bE nt s k).2,()):=Ca ha;unfold ll.f;simp only [az];rw [af (by omega),af (by omega),hw];simp only [aA,iN];rw [OD (by omega) hn,Vr (by omega) hn];unfold bL
 grind
theorem aeD (nt:ak) (s:State) (k:Nat):(bE nt s k).1=0∨(bE nt s k).1=1∨(bE nt s k).1=2∨(bE nt s k).1=3:=OV _ _
theorem Ef {r:oe} (R:kQ nt s r) (o:bU nt s) {k:Nat} (hk:k<nt.1.length):can.f n r (k:Int)=some (dw nt s k,()):=by
 unfold can.f;rw [Ee R o hk,R.st];simp only [aA,iN];unfold dw;have hq:=o.nq;have hs:=o.ns;by_cases c0:(bE nt s k).1=0
 ·simp [c0,br,cut]
 by_cases c1:20000≤s.2.2.2
 ·simp [c0,c1,br,cut]
 simp only [c0,c1,if_false,decide_false,bg,aw,false_or];by_cases c2:(bE nt s k).1=2
 ·obtain ⟨j,hj,e,-⟩:=qw o hk c2;rw [if_pos c2,if_pos c2,e,af (by omega)]
 rw [if_neg c2,if_neg c2];by_cases c3:(bE nt s k).1=3
 ·obtain ⟨j,hj,e,-⟩:=vB o hk c3;rw [if_pos c3,if_pos c3,e,af (by omega)]
 grind
theorem Cb (o:bU nt s) {k:Nat} (hk:k<nt.1.length) (hn:1048576<n):kx.f n nt s (k:Int)=some (dw nt s k,()):=by
 have ha:=o.act k hk;have uP:k<s.1.length:=by rw [o.na]; exact hk
 have hw:ig.f n (nt.1.getD k bf) (s.1.getD k bz)=some ((bE nt s k).1,(bE nt s k).2,()):=Ca ha;have hq:=o.nq;have hs:=o.ns;have wZ:=o.steps;unfold kx.f;simp only [az];rw [af (by omega),af (by omega),hw,G_ o hk hn];simp only [aA,iN];unfold dw;by_cases c0:(bE nt s k).1=0
 ·simp [c0,br,cut]
 by_cases c1:s.2.2.2=20000
 ·simp [c0,c1,br,cut]
 have OZ:¬ 20000≤s.2.2.2:=by omega
 simp only [c0,c1,OZ,if_false,decide_false,bg,aw,false_or];by_cases c2:(bE nt s k).1=2
 ·obtain ⟨j,hj,e,-⟩:=qw o hk c2;rw [if_pos c2,if_pos c2,e,af (by omega)]
 rw [if_neg c2,if_neg c2];by_cases c3:(bE nt s k).1=3
 ·obtain ⟨j,hj,e,-⟩:=vB o hk c3;rw [if_neg (by omega),if_pos c3,e,af (by omega)]
 have c4:(bE nt s k).1=1:=by have:=aeD nt s k; omega
 grind
def kF (nt:ak) (s:State):Bool:=(List.range nt.1.length).any (dw nt s)
def sg:aY:=(0,[0,0,0,0])
def start (nt:ak):State:=(nt.1.map fun _=>sg,nt.2.map (fun l=>l.2.2.2.2),nt.2.map (fun l=>l.2.2.2.2),0)
theorem VX (o:cQ nt):bU nt (start nt):=by
 refine ⟨o,by simp [start],by simp [start],by simp [start],by simp [start],fun i hi=>?_,fun i hi=>?_⟩
 ·show gj _ ((nt.1.map fun _=>sg).getD i bz)=true;have:(nt.1.map fun _=>sg).getD i bz=sg:=by simp [hi]
  rw [this];unfold gj sg;simp [bX,tok]
 have e:(nt.2.map (fun l=>l.2.2.2.2)).getD i []=nt.2[i].2.2.2.2:=by simp [hi]
 show vw _ ((nt.2.map (fun l=>l.2.2.2.2)).getD i []) ((nt.2.map (fun l=>l.2.2.2.2)).getD i []);rw [e,aU hi];exact ⟨o.j7 i hi,o.j7 i hi,List.prefix_rfl,List.suffix_rfl,fun _=>rfl,fun _=>rfl⟩
end Go.AmT
namespace Go.AmT
open Go.Proofs Go.Proofs.Tryz
def si.la:LA:=⟨[(0,.nJ 0 a_ 1 I),(1,.int .i64)],[(0,.row true a_)],[],[]⟩
def si.lb:LA:=⟨[(0,.int .i64)],[(0,.row true a_)],[],[]⟩
def si.f (n:Nat) (a0:Nat) (a1:Int) (a2:List aY):Option (Int×List aY×Unit):=iter n (fun fC x6=>br (decide (x6.2.2.1<((x6.2.2.2.1.getD x6.1 bz).2.length:Int))) (ab (0≤x6.2.2.1∧x6.2.2.1<((x6.2.2.2.1.getD x6.1 bz).2.length:Int)) (let v8:=(x6.2.2.2.1.set x6.1 ((x6.2.2.2.1.getD x6.1 bz).1,(x6.2.2.2.1.getD x6.1 bz).2.set x6.2.2.1.toNat x6.2.1)); fC (x6.1,ag (x6.2.1+1),ag (x6.2.2.1+1),v8,()))) (some (x6.2.1,x6.2.2.2.1,()))) (a0,a1,0,a2,())
def si.ae (n:Nat):cM:=⟨si.la,si.lb,fun x=>si.f n x.1 x.2.1 x.2.2.1⟩
theorem si.ok (n:Nat):ks 44 (si.ae n):=lj n [(3,⟨[(0,.nJ 0 a_ 1 I),(1,.int .i64),(5,.int .i64)],[(0,.row true a_)],[],[]⟩)] [] aC aD func44
def zQ.f (n:Nat) (a0:List aY) (a1:Int):Option (Int×List aY×Unit):=iter n (fun fC x6=>br (decide (x6.2.1<(x6.2.2.1.length:Int))) (ab (0≤x6.2.1∧x6.2.1<(x6.2.2.1.length:Int)) (let v8:=(x6.2.2.1.set x6.2.1.toNat (x6.1,(x6.2.2.1.getD x6.2.1.toNat bz).2)); ab (0≤x6.2.1∧x6.2.1<(v8.length:Int)) ((si.f n x6.2.1.toNat (ag (x6.1+1)) v8).bind fun r9=>fC (r9.1,ag (x6.2.1+1),r9.2.1,())))) (some (x6.1,x6.2.2.1,()))) (a1,0,a0,())
def zQ.ae (n:Nat):ar:=⟨[.io (.sl a_),.val I],[.val I],fun x=>zQ.f n x.1 x.2.1⟩
theorem zQ.ok (n:Nat):aH 104 (zQ.ae n):=aJ n [(3,⟨[(0,.own 0 a_),(1,.int .i64),(5,.int .i64)],[(0,.row true a_)],[],[]⟩)] [] aC (dI (si.ok n) aD) func104
def sj.la:LA:=⟨[(0,.nJ 0 IS 0 I),(1,.int .i64)],[(0,.row true IS)],[],[]⟩
def sj.lb:LA:=⟨[(0,.int .i64)],[(0,.row true IS)],[],[]⟩
def sj.f (n:Nat) (a0:Nat) (a1:Int) (a2:List (List Int)):Option (Int×List (List Int)×Unit):=iter n (fun fC x6=>br (decide (x6.2.2.1<((x6.2.2.2.1.getD x6.1 []).length:Int))) (ab (0≤x6.2.2.1∧x6.2.2.1<((x6.2.2.2.1.getD x6.1 []).length:Int)) (let v8:=(x6.2.2.2.1.set x6.1 ((x6.2.2.2.1.getD x6.1 []).set x6.2.2.1.toNat x6.2.1)); fC (x6.1,ag (x6.2.1+1),ag (x6.2.2.1+1),v8,()))) (some (x6.2.1,x6.2.2.2.1,()))) (a0,a1,0,a2,())
def sj.ae (n:Nat):cM:=⟨sj.la,sj.lb,fun x=>sj.f n x.1 x.2.1 x.2.2.1⟩
theorem sj.ok (n:Nat):ks 44 (sj.ae n):=lj n [(3,⟨[(0,.nJ 0 IS 0 I),(1,.int .i64),(5,.int .i64)],[(0,.row true IS)],[],[]⟩)] [] aC aD func44
def tY.f (n:Nat) (a0:List (List Int)) (a1:Int):Option (Int×List (List Int)×Unit):=iter n (fun fa x5=>br (decide (x5.2.1<(x5.2.2.1.length:Int))) (ab (0≤x5.2.1∧x5.2.1<(x5.2.2.1.length:Int)) ((sj.f n x5.2.1.toNat x5.1 x5.2.2.1).bind fun r7=>fa (r7.1,ag (x5.2.1+1),r7.2.1,()))) (some (x5.1,x5.2.2.1,()))) (a1,0,a0,())
def tY.ae (n:Nat):ar:=⟨[.io (.sl IS),.val I],[.val I],fun x=>tY.f n x.1 x.2.1⟩
theorem tY.ok (n:Nat):aH 105 (tY.ae n):=aJ n [(3,⟨[(0,.own 0 IS),(1,.int .i64),(5,.int .i64)],[(0,.row true IS)],[],[]⟩)] [] aC (dI (sj.ok n) aD) func105
def zR.f (n:Nat) (a0:State) (a1:Int):Option (Int×List aY×List (List Int)×List (List Int)×Unit):=(zQ.f n a0.1 a1).bind fun r1=>(tY.f n a0.2.1 r1.1).bind fun r2=>(tY.f n a0.2.2.1 r2.1).bind fun r3=>some (r3.1,r1.2.1,r2.2.1,r3.2.1,())
def zR.ae (n:Nat):ar:=⟨[.io dk,.val I],[.val I],fun x=>zR.f n x.1 x.2.1⟩
theorem zR.ok (n:Nat):aH 43 (zR.ae n):=aJ n [] [] (ai (zQ.ok n) (ai (tY.ok n) aC)) aD func43
def xG.f (n:Nat) (a0:List aY) (a1:Int):Option (Int×Unit):=iter n (fun ml x7=>br (decide (x7.2.1<(a0.length:Int))) (ab (0≤x7.2.1∧x7.2.1<(a0.length:Int)) (let v9:=(a0.getD x7.2.1.toNat bz); br (!decide (v9.1=x7.1)) (some (-1,())) (ab (0≤x7.2.1∧x7.2.1<(a0.length:Int)) (let v10:=(a0.getD x7.2.1.toNat bz); (qu.f n v10.2 (ag (x7.1+1))).bind fun cW=>br (decide (cW.1<0)) (some (-1,())) (ml (cW.1,ag (x7.2.1+1),())))))) (some (x7.1,()))) (a1,0,())
def xG.ae (n:Nat):ar:=⟨[.val (.sl a_),.val I],[.val I],fun x=>xG.f n x.1 x.2.1⟩
theorem xG.ok (n:Nat):aH 108 (xG.ae n):=aJ n [(3,⟨[(1,.int .i64),(5,.int .i64)],[],[0],[]⟩)] [] (ai (qu.ok n) aC) aD func108
def tZ.f (n:Nat) (a0:List (List Int)) (a1:Int):Option (Int×Unit):=iter n (fun fa x5=>br (decide (x5.2.1<(a0.length:Int))) (ab (0≤x5.2.1∧x5.2.1<(a0.length:Int)) (let v7:=(a0.getD x5.2.1.toNat []); (qu.f n v7 x5.1).bind fun r8=>br (decide (r8.1<0)) (some (-1,())) (fa (r8.1,ag (x5.2.1+1),())))) (some (x5.1,()))) (a1,0,())
def tZ.ae (n:Nat):ar:=⟨[.val (.sl IS),.val I],[.val I],fun x=>tZ.f n x.1 x.2.1⟩
theorem tZ.ok (n:Nat):aH 109 (tZ.ae n):=aJ n [(3,⟨[(1,.int .i64),(5,.int .i64)],[],[0],[]⟩)] [] (ai (qu.ok n) aC) aD func109
def xH.f (n:Nat) (a0:State) (a1:Int):Option (Int×Unit):=(xG.f n a0.1 a1).bind fun r1=>br (decide (r1.1<0)) (some (-1,())) ((tZ.f n a0.2.1 r1.1).bind fun r2=>br (decide (r2.1<0)) (some (-1,())) ((tZ.f n a0.2.2.1 r2.1).bind fun r3=>br (decide (r3.1<0)) (some (-1,())) (some (r3.1,()))))
def xH.ae (n:Nat):ar:=⟨[.val dk,.val I],[.val I],fun x=>xH.f n x.1 x.2.1⟩
theorem xH.ok (n:Nat):aH 46 (xH.ae n):=aJ n [] [] (ai (xG.ok n) (ai (tZ.ok n) aC)) aD func46
end Go.AmT
namespace Go.AmT
variable {k:Int} {l:List (List Int)} {n:Nat} {s:State}
def d_ (a:aY) (k:Int):aY×Int:=((k,(aX fE a.2 (k+1)).1),(aX fE a.2 (k+1)).2)
def mQ (q:List Int) (k:Int):List Int×Int:=aX fE q k
def ln (s:State) (k:Int):State×Int:=
 (((aX d_ s.1 k).1,(aX mQ s.2.1 (aX d_ s.1 k).2).1,(aX mQ s.2.2.1 (aX mQ s.2.1 (aX d_ s.1 k).2).2).1,s.2.2.2),(aX mQ s.2.2.1 (aX mQ s.2.1 (aX d_ s.1 k).2).2).2)
theorem O_ {l:List aY} (hl:l.length≤1048576) (hp:∀ p∈l,p.2.length≤1048576) (i:Nat):k≤cd d_ l k i∧cd d_ l k i≤k+1099512676352:=by have:=Eb (f:=d_) (l:=l) (k:=k) (B:=1048577) (by omega) (fun x hx k=>by have:=sf (k:=k+1) (hp x hx) x.2.length;rw [rj] at this;simp only [d_]; omega) i;omega
theorem Kg (hl:l.length≤1048576) (hp:∀ p∈l,p.length≤1048576) (i:Nat):k≤cd mQ l k i∧cd mQ l k i≤k+1099511627776:=by have:=Eb (f:=mQ) (l:=l) (k:=k) (B:=1048576) (by omega) (fun x hx k=>by have:=sf (k:=k) (hp x hx) x.length;rw [rj] at this;simp only [mQ]; omega) i;omega
theorem aeE {ls:List aY} {j:Nat} (hj:j<ls.length) (hl:ls[j].2.length≤1048576) (h0:0≤k) (h1:k≤1125899906842624) (hn:1048576<n) :
  si.f n j k ls=some ((aX fE ls[j].2 k).2,ls.set j (ls[j].1,(aX fE ls[j].2 k).1),()):=by
 unfold si.f;refine Eq.trans (congrArg (iter n _) (show _=(fun (k:Int) (i:Nat) m=>(j,k,(i:Int),ls.set j (ls[j].1,m),())) k 0 ls[j].2 from by show _=(j,k,0,ls.set j ls[j],()); rw [Lp hj])) ?_;refine xC fE (fun k i m=>(j,k,(i:Int),ls.set j (ls[j].1,m),())) (fun ih i hi m hm hg=>?_) (fun ih m hm e=>?_) (by omega)
 ·have hk:=sf (k:=k) hl i;have c0:0≤(i:Int):=by omega
  have c1:(i:Int)<(m.length:Int):=by omega
  simp only [jD hj,c1,c0,and_self,iC,decide_true,ax,az,zM];rw [ba (by omega),iL (k:=cd fE _ k i) (by omega) (by omega)];rfl
 simp only [jD hj,au (show ¬ (ls[j].2.length:Int)<(m.length:Int) by omega)];rw [← e]
theorem aeF {ls:List (List Int)} {j:Nat} (hj:j<ls.length) (hl:ls[j].length≤1048576) (h0:0≤k) (h1:k≤1125899906842624) (hn:1048576<n) :
  sj.f n j k ls=some ((aX fE ls[j] k).2,ls.set j (aX fE ls[j] k).1,()):=by
 unfold sj.f;refine Eq.trans (congrArg (iter n _) (show _=(fun (k:Int) (i:Nat) m=>(j,k,(i:Int),ls.set j m,())) k 0 ls[j] from by simp_all)) ?_;refine xC fE (fun k i m=>(j,k,(i:Int),ls.set j m,())) (fun ih i hi m hm hg=>?_) (fun ih m hm e=>?_) (by omega)
 ·have hk:=sf (k:=k) hl i;have c0:0≤(i:Int):=by omega
  have c1:(i:Int)<(m.length:Int):=by omega
  simp only [jD hj,c1,c0,and_self,iC,decide_true,ax,az,zM];rw [ba (by omega),iL (k:=cd fE _ k i) (by omega) (by omega)];rfl
 simp only [jD hj,au (show ¬ (ls[j].length:Int)<(m.length:Int) by omega)]
 grind
theorem aeG {l:List aY} (hl:l.length≤1048576) (hp:∀ p∈l,p.2.length≤1048576) (h0:0≤k) (h1:k≤562949953421312) (hn:1048576<n):zQ.f n l k=some ((aX d_ l k).2,(aX d_ l k).1,()):=by
 unfold zQ.f;refine xC d_ (fun k i m=>(k,(i:Int),m,())) (fun ih i hi m hm hg=>?_) (fun ih m hm e=>?_) (by omega)
 ·have hk:=O_ (k:=k) hl hp i;have rk:i<m.length:=by omega
  have c0:0≤(i:Int):=by omega
  have c1:(i:Int)<(m.length:Int):=by omega
  simp only [c1,c0,and_self,iC,decide_true,ax,az,zM,jD rk,List.length_set,hg];rw [ba (by omega)];rw [iL (k:=cd d_ l k i) (by omega) (by omega)];rw [aeE (by grind) (by grind) (by omega) (by omega) hn];simp [d_,Int.add_assoc]
 simp only [au (show ¬ (l.length:Int)<(m.length:Int) by omega)]
 grind
theorem aeH {l:List aY} (hl:l.length≤1048576) (hp:∀ p∈l,p.2.length≤1048576) (h0:0≤k) (h1:k≤562949953421312) (hn:1048576<n):xG.f n (aX d_ l k).1 k=some ((aX d_ l k).2,()):=by
 unfold xG.f;refine Ec (l:=l) (k:=k) d_ (fun k i=>(k,(i:Int),())) (fun ih i hi hg=>?_) (fun ih=>?_) (by omega)
 ·have hk:=O_ (k:=k) hl hp i;have lM:=sf (k:=cd d_ l k i+1) (hp _ (bV hi)) l[i].2.length;rw [rj] at lM;have c0:0≤(i:Int):=by omega
  have c1:(i:Int)<((aX d_ l k).1.length:Int):=by rw [lR]; omega
  simp only [c1,c0,and_self,iC,decide_true,ax,az,hg];rw [ba (by omega)];rw [iL (k:=cd d_ l k i) (by omega) (by omega)];have c3:¬ (aX fE l[i].2 (cd d_ l k i+1)).2<0:=by omega
  have hh:=GX (n:=n) (k:=cd d_ l k i+1) (hp _ (bV hi)) (by omega) (by omega) hn;simp [d_,br,hh,c3]
 simp only [au (show ¬ (l.length:Int)<((aX d_ l k).1.length:Int) by rw [lR]; omega)]
theorem VY (hl:l.length≤1048576) (hp:∀ p∈l,p.length≤1048576) (h0:0≤k) (h1:k≤562949953421312) (hn:1048576<n):tY.f n l k=some ((aX mQ l k).2,(aX mQ l k).1,()):=by
 unfold tY.f;refine xC mQ (fun k i m=>(k,(i:Int),m,())) (fun ih i hi m hm hg=>?_) (fun ih m hm e=>?_) (by omega)
 ·have hk:=Kg (k:=k) hl hp i;have rk:i<m.length:=by omega
  have c0:0≤(i:Int):=by omega
  have c1:(i:Int)<(m.length:Int):=by omega
  have Zr:m[i]=l[i]:=by have:=hg []; rw [aU rk] at this; exact this
  simp only [c1,c0,and_self,iC,decide_true,ax,az];rw [ba (by omega)];rw [aeF rk (by grind) (by omega) (by omega) hn,Zr];simp [mQ]
 simp only [au (show ¬ (l.length:Int)<(m.length:Int) by omega)]
 grind
theorem VZ (hl:l.length≤1048576) (hp:∀ p∈l,p.length≤1048576) (h0:0≤k) (h1:k≤562949953421312) (hn:1048576<n):tZ.f n (aX mQ l k).1 k=some ((aX mQ l k).2,()):=by
 unfold tZ.f;refine Ec (l:=l) (k:=k) mQ (fun k i=>(k,(i:Int),())) (fun ih i hi hg=>?_) (fun ih=>?_) (by omega)
 ·have hk:=Kg (k:=k) hl hp i;have lM:=sf (k:=cd mQ l k i) (hp _ (bV hi)) l[i].length;rw [rj] at lM;have c0:0≤(i:Int):=by omega
  have c1:(i:Int)<((aX mQ l k).1.length:Int):=by rw [lR]; omega
  simp only [c1,c0,and_self,iC,decide_true,ax,az,hg];rw [ba (by omega)];have c3:¬ (aX fE l[i] (cd mQ l k i)).2<0:=by omega
  have hh:=GX (n:=n) (k:=cd mQ l k i) (hp _ (bV hi)) (by omega) (by omega) hn;simp [mQ,br,hh,c3]
 simp only [au (show ¬ (l.length:Int)<((aX mQ l k).1.length:Int) by rw [lR]; omega)]
theorem O0 (h:gP s):k≤(aX d_ s.1 k).2∧(aX d_ s.1 k).2≤k+1099512676352∧(aX d_ s.1 k).2≤(aX mQ s.2.1 (aX d_ s.1 k).2).2∧(aX mQ s.2.1 (aX d_ s.1 k).2).2≤k+3298534883328∧k≤(ln s k).2∧(ln s k).2≤k+4398046511104:=by have a:=O_ (k:=k) h.B5 h.mr s.1.length;have b:=Kg (k:=(aX d_ s.1 k).2) h.B6 h.queue s.2.1.length;have c:=Kg (k:=(aX mQ s.2.1 (aX d_ s.1 k).2).2) h.B7 h.po s.2.2.1.length;rw [rj] at a b c;unfold ln;omega
theorem aeI (h:gP s) (h0:0≤k) (h1:k≤281474976710656) (hn:1048576<n):zR.f n s k=some ((ln s k).2,(ln s k).1.1,(ln s k).1.2.1,(ln s k).1.2.2.1,()):=by have a:=O0 (k:=k) h;have b1:=aeG (n:=n) (k:=k) h.B5 h.mr h0 (by omega) hn;have b2:=VY (n:=n) (k:=(aX d_ s.1 k).2) h.B6 h.queue (by omega) (by omega) hn;have b3:=VY (n:=n) (k:=(aX mQ s.2.1 (aX d_ s.1 k).2).2) h.B7 h.po (by omega) (by omega) hn;unfold zR.f;rw [b1,aA];show ((tY.f n s.2.1 (aX d_ s.1 k).2).bind _)=_;rw [b2,aA];show ((tY.f n s.2.2.1 (aX mQ s.2.1 (aX d_ s.1 k).2).2).bind _)=_;rw [b3];rfl
theorem aeJ (h:gP s) (h0:0≤k) (h1:k≤281474976710656) (hn:1048576<n):xH.f n (ln s k).1 k=some ((ln s k).2,()):=by
 have a:=O0 (k:=k) h;have b1:=aeH (n:=n) (k:=k) h.B5 h.mr h0 (by omega) hn;have b2:=VZ (n:=n) (k:=(aX d_ s.1 k).2) h.B6 h.queue (by omega) (by omega) hn;have b3:=VZ (n:=n) (k:=(aX mQ s.2.1 (aX d_ s.1 k).2).2) h.B7 h.po (by omega) (by omega) hn;unfold xH.f;show ((xG.f n (aX d_ s.1 k).1 k).bind _)=_;rw [b1,aA,au (by omega)];show ((tZ.f n (aX mQ s.2.1 (aX d_ s.1 k).2).1 (aX d_ s.1 k).2).bind _)=_;rw [b2,aA,au (by omega)];show ((tZ.f n (aX mQ s.2.2.1 (aX mQ s.2.1 (aX d_ s.1 k).2).2).1 (aX mQ s.2.1 (aX d_ s.1 k).2).2).bind _)=_;have a':0≤(aX mQ s.2.2.1 (aX mQ s.2.1 (aX d_ s.1 k).2).2).2:=by have:=a.2.2.2.2.1; unfold ln at this; simp only at this; omega
 rw [b3,aA,au (by omega)];rfl
end Go.AmT
