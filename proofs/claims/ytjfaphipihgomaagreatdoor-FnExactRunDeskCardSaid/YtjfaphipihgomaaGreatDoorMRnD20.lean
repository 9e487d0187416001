/- The integers among the words of a line, by both programs, in plain Lean. -/
import Derived.Test.YtjfaphipihgomaaGreatDoorMRnD19
open Go Go.Am
noncomputable section
set_option linter.unusedVariables false
set_option linter.unusedSimpArgs false
open Bool renaming not_true → bf
open Go.Lib renaming decDigits → fP, itoa → aj
open Int renaming toNat_natCast → ay
open List renaming drop_succ_cons → XV, length_cons → aQ, length_map → mn, length_nil → bh, length_pos_iff → jA, length_singleton → iQ, map_append → qT, map_cons → mL, mem_of_mem_drop → Qn, take_length → jj, take_succ_eq_append_getElem → iC
open Option renaming bind_some → aC
namespace Go.AmT
variable {x k:Int} {s w l:BB} {n:Nat} {d:bV}
noncomputable def ee (s:BB):Option Int:=if aj (GJ s)=s∧-999999999≤GJ s∧GJ s≤999999999 then some (GJ s) else none
theorem XW (h0 : -999999999≤x) (h1:x≤999999999):ee (aj x)=some x:=by unfold ee;rw [Pv,if_pos ⟨rfl,h0,h1⟩]
theorem XX {s:BB} (h:ee s=some x):aj x=s∧-999999999≤x∧x≤999999999:=by
 unfold ee at h;split at h
 ·rename_i h1;cases h;exact h1
 cases h
theorem Qo {s:BB} (h:∀ x,-999999999≤x→x≤999999999→s≠aj x):ee s=none:=by unfold ee;rw [if_neg (fun ⟨a,b,c⟩=>h _ b c a.symm)]
theorem XY (u:Nat):(fP u).length≤9↔u≤999999999:=by
 constructor
 ·intro h;have h1:=J1 (fP u) (Pu u);have h2:10 ^ (fP u).length≤10 ^ 9:=Nat.pow_le_pow_right (by omega) h;rw [Pt] at h1;omega
 intro h;exact w8 8 u (by omega)
theorem afT (x:Int):W (xw.f n (aj x) [45]) (fun r=>r.1=fP x.natAbs):=by
 have e:∀ s:BB,W (xw.f n s [45]) (fun r=>r.1=if s.take 1=[45] then s.drop 1 else s):=fun s=>by
  unfold xw.f BO.f;rw [Qj,ao];dsimp only;by_cases h:s.take 1=[45]
  ·have hl:1≤s.length:=by have:=congrArg List.length h;rw [List.length_take] at this;simp at this; omega
   rw [decide_eq_true (show s.take ([45]:BB).length=[45] from h),aB,af (by simp; omega),if_pos h];exact ak.2 (by simp [List.take_of_length_le])
  rw [decide_eq_false (show ¬ s.take ([45]:BB).length=[45] from h),if_neg h];exact ak.2 rfl
 refine bz (e _) (fun r hr=>?_);rw [hr];unfold aj;by_cases hx:x<0
 ·rw [if_pos hx,if_pos (by rfl)]; rfl
 rw [if_neg hx,show x.natAbs=x.toNat by omega,if_neg (fun h=>?_)];have hd:=Pu x.toNat;cases hD:fP x.toNat with
 | nil=>exact xd _ hD
 | cons c l=>
  rw [hD] at hd h;have hc:=(hd c (by simp)).1;simp at h;rw [h] at hc;exact absurd hc (by decide)
theorem G5 {L:List (BB)} (hL:L.length≤1048576) (hp:∀ p∈L,p.length≤1048576) (hn:1048576<n):W (pZ.f n L) (fun r=>(r.2.1=true→L.map ee=r.1.map some)∧(r.2.1=false→∃ p∈L,ee p=none)):=by
 unfold pZ.f;refine fT (fun (i:Nat) (o:List Int)=>((i:Int),o,())) L.length (fun i o=>o.length=i∧(L.take i).map ee=o.map some) (s0:=[]) rfl ⟨rfl,by simp⟩ (by omega) (fun ih o hI=>?_) (fun ih i o hi hI hS=>?_)
 ·have h2:=hI.2;rw [jj] at h2;simp only [av (Int.lt_irrefl _)];exact ak.2 ⟨fun _=>h2,fun h=>(by cases h)⟩
 simp only [aG (show (i:Int)<(L.length:Int) by omega),ay];have hm:L.getD i []∈L:=by rw [aJ hi]; exact List.getElem_mem _
 have hq:=hp _ hm;have hl:=hI.1;rw [af (by omega),c8];refine bz (Wx hq) (fun r hr=>?_);rw [fx];refine bz (P:=fun s=>∃ b:Bool,s=Sum.inr (b,())∧(b=false→ee (L.getD i [])=some r.1)∧(b=true→ee (L.getD i [])=none)) ?_ (fun s ⟨b,e,hb,cD⟩=>?_)
 ·rw [uB];refine ⟨fun h=>ak.2 ⟨true,rfl,fun h=>(by cases h),fun _=>Qo (fun x h0 h1=>hr.no h h0 h1)⟩,fun h=>?_⟩;have e:=hr.yes h;rw [c8,← e];refine bz (afT _) (fun r2 h2=>ak.2 ⟨_,rfl,fun h3=>?_,fun h3=>?_⟩)
  ·have h3:=of_decide_eq_false h3;rw [h2] at h3;have:=(XY r.1.natAbs).1 (by omega);exact XW (by omega) (by omega)
  have h3:=of_decide_eq_true h3;rw [h2] at h3;refine Qo (fun x h0 h1 e=>?_);rw [GK e] at h3;have:=(XY x.natAbs).2 (by omega);omega
 subst e;dsimp only;rw [cw];refine ⟨fun h=>ak.2 ⟨fun h=>(by cases h),fun _=>⟨_,hm,cD h⟩⟩,fun h=>?_⟩;rw [db (by simp only [iQ]; omega),a_ (by omega)];refine hS _ ⟨by simp [hl],?_⟩;rw [iC hi,qT,hI.2,qT];have:=hb h;rw [aJ hi] at this;simp [this]
theorem XZ {b:BB} (hb:b.length≤1048576) (hn:1048576<n) (h:ee b=some x):pZ.f n [b]=some ([x],true,()):=by
 refine dZ.1 (bz (G5 (by simp) (by simpa using hb) hn) (fun r ⟨h1,h2⟩=>?_));obtain ⟨l,c,⟨⟩⟩:=r;cases c
 ·obtain ⟨p,hp,e⟩:=h2 rfl;rw [List.mem_singleton.1 hp,h] at e; cases e
 have:=h1 rfl;simp only [mL,List.map_nil,h] at this
 match l,this with
 | [y],e=>simp at e; rw [e]
 | [],e=>simp at e
 | _::_::_,e=>simp at e
theorem afU {b c:BB} {y:Int} (hb:b.length≤1048576) (hc:c.length≤1048576) (hn:1048576<n) (h:ee b=some x) (h':ee c=some y):pZ.f n [b,c]=some ([x,y],true,()):=by
 refine dZ.1 (bz (G5 (by simp) (by simp; exact ⟨hb,hc⟩) hn) (fun r ⟨h1,h2⟩=>?_));obtain ⟨l,d,⟨⟩⟩:=r;cases d
 ·obtain ⟨p,hp,e⟩:=h2 rfl;simp only [List.mem_cons,List.not_mem_nil,or_false] at hp;rcases hp with rfl | rfl
  ·rw [h] at e; cases e
  rw [h'] at e; cases e
 have:=h1 rfl;simp only [mL,List.map_nil,h,h'] at this
 match l,this with
 | [u,v],e=>simp at e; rw [e.1,e.2]
 | [],e=>simp at e
 | [_],e=>simp at e
 | _::_::_::_,e=>simp at e
theorem X_ {L:List (BB)} (hL:L.length≤1048576) (hp:∀ p∈L,p.length≤1048576) (hn:1048576<n) (h:∃ p∈L,ee p=none):∃ l,pZ.f n L=some (l,false,()):=by
 obtain ⟨⟨l,c,⟨⟩⟩,e,h1,h2⟩:=G5 hL hp hn;cases c
 ·exact ⟨l,e⟩
 obtain ⟨p,hm,e⟩:=h;have h1:=h1 rfl;have:none∈L.map ee:=List.mem_map.2 ⟨p,hm,e⟩;rw [h1] at this;simp at this
abbrev bJ:BB:=[110,111]
abbrev qU:BB:=[111,107]
abbrev se:BB:=[115,112,108,105,99,101]
abbrev Qp:BB:=[115,116,101,112]
abbrev Qq:BB:=[112,97,114,107,115]
abbrev Kp:BB:=[113,117,101,117,101]
abbrev Kq:BB:=[114,111,111,109]
abbrev tI:BB:=[100,101,109,97,110,100]
abbrev ko:BB:=[108,111,97,100]
abbrev ni:BB:=[102,101,101,100]
def BQ (nt:aq):bV:=(nt,start nt,u_ nt 0)
def nT (d:bV) (w:BB) (k:Int):BB:=
 if 0≤k∧k<(d.1.2.length:Int) then
  if w=Kn then (match xm d.1 with | some (g,_)=>fmtS (g.getD k.toNat []) | none=>bJ)
  else if w=Ko then fmtS (d.2.1.2.2.1.getD k.toNat [])
  else if w=Kp then fmtS (d.2.1.2.1.getD k.toNat [])
  else if w=Kq then aj (d.2.2.getD k.toNat 0) else bJ
 else bJ
abbrev DW (w:BB):Prop:=w=Kn∨w=Ko∨w=Kp∨w=Kq
def mA (d:bV) (w:BB) (k:Int):bV×BB:=
 if w=Qp then (if lN d.1 d.2.1 k=true then ((d.1,cX d.1 d.2.1 k.toNat,d.2.2),aj (cX d.1 d.2.1 k.toNat).2.2.2) else (d,bJ))
 else if w=Ql then ((d.1,(oT d.1 d.2.1 k).1,d.2.2),if (oT d.1 d.2.1 k).2=true then [113,117,105,101,116] else [98,117,115,121])
 else if w=Qm then ((d.1,(mi d.1 d.2.1 d.2.2 k).1,d.2.2),qw (mi d.1 d.2.1 d.2.2 k).2)
 else if w=Qq then ((d.1,(lj d.1 d.2.1 d.2.2 k).1,(lj d.1 d.2.1 d.2.2 k).2.1),qw (lj d.1 d.2.1 d.2.2 k).2.2)
 else if w=Qk then (if 0≤k∧k≤400 then ((d.1,d.2.1,u_ d.1 k),qU) else (d,bJ))
 else (d,bJ)
def sf (d:bV) (w:BB) (k:Int):bV×BB:=
 if w=se then (if (mz d.1 k).2.1=true then (BQ (mz d.1 k).1,qU) else (d,bJ))
 else if DW w then (d,nT d w k) else mA d w k
def nj (n:Nat) (d:bV) (k c:Int):bV×BB:=
 if 0≤k∧k<(d.1.2.length:Int) then ((d.1,(qK n d.1 d.2.1 k c 20000).1,d.2.2),if (qK n d.1 d.2.1 k c 20000).2=true then [109,101,116] else [102,97,105,108,101,100]) else (d,bJ)
structure One (d:bV) (R:bV×BB) (r:bV×BB×Bool×Unit):Prop where
 yes:r.2.2.1=true→R=(r.1,r.2.1)∧eI r.1
 no:r.2.2.1=false→R=(d,bJ)
theorem One.bad {d':bV} {R:bV×BB} {t:BB} (h:R=(d,bJ)):One d R (d',t,false,()):=⟨fun h=>(by cases h),fun _=>h⟩
theorem One.jW {d':bV} {R:bV×BB} {t:BB} (h:R=(d',t)) (o:eI d'):One d R (d',t,true,()):=⟨fun _=>⟨h,o⟩,fun h=>(by cases h)⟩
theorem Qr {nt:aq} {b:Bool} (o:b=true→cK nt) (hn:1048576<n) {f:bV×(BB×Bool×Unit)→Option (bV×BB×Bool×Unit)} (hf:∀ r,f r=some (r.1,r.2.1,r.2.2.1,())):W ((sa.f n nt b).bind f) (One d (if b=true then (BQ nt,qU) else (d,bJ))):=by
 unfold sa.f;rw [c8,uB];refine ⟨fun h=>ak.2 ?_,fun h=>?_⟩
 ·rw [hf,h]; exact ak.2 (.bad rfl)
 have o:=o h;have hS:=Ka o;rw [Vs hS o hn,ao];dsimp only;rw [VO hS hn,ao,ak,hf,h];exact ak.2 (.jW (t:=[111,107]) rfl (afR o hS (by omega) (by omega)))
theorem X0 {nt:aq} (h:(mz nt k).2.1=true):cK (mz nt k).1:=by
 unfold mz at h ⊢;split at h
 ·rename_i h1;rw [if_pos h1];split at h
  ·rename_i h2;rw [if_pos h2]; exact DO h2
  cases h
 cases h
theorem X1 (nt:aq) (s:State) (caps:List Int):uW nt s caps=1∨uW nt s caps=2∨uW nt s caps=3:=by
 unfold uW;split
 ·split
  ·exact .inr (.inr rfl)
  exact .inr (.inl rfl)
 exact .inl rfl
theorem X2 {w:Int} (h:w=1∨w=2∨w=3):sb.f n w=some (qw w,()):=by unfold sb.f FP;rw [if_pos (by omega)]; rfl
theorem afV (h:eI d) (k:Int):eI (d.1,(oT d.1 d.2.1 k).1,d.2.2):=by refine ⟨?_,h.caps,h.small⟩;unfold oT;rw [if_pos (s9 h.st)];exact Jw h.st
theorem Qs (h:eI d) (k:Int):eI (d.1,(mi d.1 d.2.1 d.2.2 k).1,d.2.2)∧((mi d.1 d.2.1 d.2.2 k).2=1∨(mi d.1 d.2.1 d.2.2 k).2=2∨(mi d.1 d.2.1 d.2.2 k).2=3):=by
 have e1:mi d.1 d.2.1 d.2.2 k=oS d.1 d.2.1 d.2.2 k:=by unfold mi;rw [if_pos (by rw [s9 h.st,h.caps]; rfl)]
 rw [e1];exact ⟨⟨DD h.st,h.caps,h.small⟩,X1 d.1 (runT d.1 (some d.2.2) k d.2.1) d.2.2⟩
theorem Qt (h:eI d) (k:Int):eI (d.1,(lj d.1 d.2.1 d.2.2 k).1,(lj d.1 d.2.1 d.2.2 k).2.1)∧((lj d.1 d.2.1 d.2.2 k).2.2=1∨(lj d.1 d.2.1 d.2.2 k).2.2=2∨(lj d.1 d.2.1 d.2.2 k).2.2=3):=by have P:=adS (most:=k) h.st h.caps 12001;unfold lj;rw [if_pos (by rw [s9 h.st,h.caps]; rfl)];dsimp only;generalize lF (lh d.1 d.2.1.2.2.2 (clip k)) (iS d.1 d.2.1.2.2.2 (clip k)) 12001 (d.2.1,d.2.2)=x at P;unfold gM;exact ⟨⟨DD P.ok,P.cap,h.small⟩,X1 d.1 (runT d.1 (some x.2) (clip k-(x.1.2.2.2-d.2.1.2.2.2)) x.1) x.2⟩
theorem step_end (h:eI d) {k:Int} (hc:lN d.1 d.2.1 k=true):eI (d.1,cX d.1 d.2.1 k.toNat,d.2.2):=by
 unfold lN at hc;obtain ⟨h0,h1,h2⟩:=of_decide_eq_true hc;have hk:k.toNat<d.1.1.length:=by omega
 exact ⟨Bm h.st hk h2,h.caps,h.small⟩
theorem afW (h:eI d) {k c:Int} (hl:0≤k∧k<(d.1.2.length:Int)):eI (d.1,(qK n d.1 d.2.1 k c 20000).1,d.2.2):=by refine ⟨?_,h.caps,h.small⟩;unfold qK;rw [if_pos ⟨s9 h.st,hl⟩];exact (Gm h.st (by omega)).ok
theorem BR {w:BB} (h1:w≠se) (h2:¬ DW w):sf d w k=mA d w k:=by unfold sf;rw [if_neg h1,if_neg h2]
theorem Kr {w:BB} (h:DW w):sf d w k=(d,nT d w k):=by unfold sf;rw [if_neg (by rcases h with h | h | h | h<;>(rw [h]; decide)),if_pos h]
theorem G6 {w:BB} (h:¬ (0≤k∧k<(d.1.2.length:Int))):nT d w k=bJ:=if_neg h
theorem X3 {w:BB} (h:¬ DW w):nT d w k=bJ:=by
 unfold nT;split
 ·rw [if_neg (fun e=>h (.inl e)),if_neg (fun e=>h (.inr (.inl e))),if_neg (fun e=>h (.inr (.inr (.inl e)))),if_neg (fun e=>h (.inr (.inr (.inr e))))]
 rfl
theorem afX {w:BB} (h:eI d) (hk : -9223372036854775808≤k∧k≤9223372036854775807) (hn:1048576<n):W (j5.f n d w k) (One d (sf d w k)):=by
 have G7:=h.st.cf;have Jd:=h.st;have dz:=h.st.steps;unfold j5.f;rw [fx];refine bz (P:=fun s=>∃ b:Bool,s=Sum.inr (b,())∧(b=true↔0≤k∧k<(d.1.2.length:Int))) ?_ (fun s ⟨b,e,hl⟩=>?_)
 ·rw [cM];exact ⟨fun h0=>ak.2 ⟨_,rfl,⟨fun h=>⟨h0,of_decide_eq_true h⟩,fun h=>decide_eq_true h.2⟩⟩,fun h0=>ak.2 ⟨_,rfl,⟨fun h=>(by cases h),fun h=>absurd h.1 h0⟩⟩⟩
 subst e;dsimp only;rw [cM]; refine ⟨fun e=>?_,fun n1=>?_⟩
 ·subst e;rw [afx h.small hn,aC];exact Qr X0 hn (fun r=>rfl)
 rw [cM]; refine ⟨fun e=>?_,fun n2=>?_⟩
 ·subst e;rw [BR (by decide) (by decide)];have eR:mA d Qk k=if 0≤k∧k≤400 then ((d.1,d.2.1,u_ d.1 k),qU) else (d,bJ):=rfl
  rw [eR,fx];refine bz (P:=fun s=>∃ b:Bool,s=Sum.inr (b,())∧(b=false↔0≤k∧k≤400)) ?_ (fun s ⟨b,e,hk⟩=>?_)
  ·rw [cM];exact ⟨fun h1=>ak.2 ⟨_,rfl,fun h=>(by cases h),fun h=>(by omega)⟩,fun h0=>ak.2 ⟨_,rfl,fun h=>⟨by omega,by have:=of_decide_eq_false h; omega⟩,fun h=>decide_eq_false (by omega)⟩⟩
  subst e;dsimp only;rw [cw];refine ⟨fun hb=>ak.2 (.bad (if_neg (fun hh=>by rw [hk.2 hh] at hb; cases hb))),fun hb=>?_⟩;have hk:=hk.1 hb;rw [VO h.small hn,ao,if_pos hk];exact ak.2 (.jW rfl ⟨Jd,XU G7 hk.1 hk.2,h.small⟩)
 rw [cM]; refine ⟨fun e=>?_,fun n3=>?_⟩
 ·subst e;rw [BR (by decide) (by decide)];have eR:mA d Qp k=if lN d.1 d.2.1 k=true then ((d.1,cX d.1 d.2.1 k.toNat,d.2.2),aj (cX d.1 d.2.1 k.toNat).2.2.2) else (d,bJ):=rfl
  rw [eR,afB h.small Jd hn,aC];cases hc:lN d.1 d.2.1 k
  ·simp only [Bool.false_eq_true,if_false];rw [tj (by omega) (by omega),ao];exact ak.2 (.bad rfl)
  simp only [if_true];have o:=step_end h hc;have hs:=o.st.steps;simp only at hs;rw [tj (by omega) (by omega),ao];exact ak.2 (.jW rfl o)
 rw [cM]; refine ⟨fun e=>?_,fun n4=>?_⟩
 ·subst e;rw [BR (by decide) (by decide)];have eR:mA d Ql k=((d.1,(oT d.1 d.2.1 k).1,d.2.2),if (oT d.1 d.2.1 k).2=true then [113,117,105,101,116] else [98,117,115,121]):=rfl;rw [eR,adY h.small h.sd hn,aC];have o:=afV h k;rw [cw];exact ⟨fun hb=>ak.2 (.jW (by rw [if_pos hb]) o),fun hb=>ak.2 (.jW (by rw [if_neg (show ¬ (oT d.1 d.2.1 k).2=true from fun e=>by rw [show (oT d.1 d.2.1 k).2=false from hb] at e; cases e)]) o)⟩
 rw [cM]; refine ⟨fun e=>?_,fun n5=>?_⟩
 ·subst e;rw [BR (by decide) (by decide)];have eR:mA d Qm k=((d.1,(mi d.1 d.2.1 d.2.2 k).1,d.2.2),qw (mi d.1 d.2.1 d.2.2 k).2):=rfl;have o:=Qs h k;rw [eR,VG h.small h.sd h.z8 hn,aC];dsimp only;rw [X2 o.2,ao];exact ak.2 (.jW rfl o.1)
 rw [cM]; refine ⟨fun e=>?_,fun n6=>?_⟩
 ·subst e;rw [BR (by decide) (by decide)];have eR:mA d Qq k=((d.1,(lj d.1 d.2.1 d.2.2 k).1,(lj d.1 d.2.1 d.2.2 k).2.1),qw (lj d.1 d.2.1 d.2.2 k).2.2):=rfl;have o:=Qt h k;rw [eR,adW h.small h.sd h.z8 hn hk.1 hk.2,aC];dsimp only;rw [X2 o.2,ao];exact ak.2 (.jW rfl o.1)
 rw [cM]; refine ⟨fun e=>?_,fun n7=>?_⟩
 ·subst e;rw [Kr (.inl rfl),afl h.small G7 hn,aC];unfold DV;have eR:0≤k∧k<(d.1.2.length:Int)→nT d Kn k=(match xm d.1 with | some (g,_)=>fmtS (g.getD k.toNat []) | none=>bJ):=fun hh=>if_pos hh;cases e:zB d.1 300 1 (tF d.1) with
  | none=>
   have e':xm d.1=none:=e;refine ak.2 (.bad ?_);by_cases hh:0≤k∧k<(d.1.2.length:Int)
   ·rw [eR hh,e']
   rw [G6 hh]
  | some gr=>
   obtain ⟨g,r⟩:=gr;have e':xm d.1=some (g,r):=e;have lg:=Xr e';dsimp only;simp only [bf,ar,aY];rw [uB];refine ⟨fun hb=>ak.2 (.bad (by rw [G6 (fun hh=>by rw [hl.2 hh] at hb; cases hb)])),fun hb=>?_⟩;have hh:=hl.1 hb;rw [eR hh,e'];obtain ⟨k0,k1⟩:=hh;obtain ⟨j,rfl⟩:∃ j:Nat,k=(j:Int):=⟨k.toNat,by omega⟩
   have ok:=Xs e' (j:=j) (by omega);rw [af (by omega),ay];have Qu:(g.getD j []).length≤1048576:=by have:=(lE ok).1; unfold aT at this; omega
   rw [JU Qu hn,ao];exact ak.2 (.jW rfl h)
 rw [fx];refine bz (P:=fun s=>∃ b:Bool,s=Sum.inr (b,())∧(b=true↔w=[115,101,110,116]∨w=[113,117,101,117,101]∨w=[114,111,111,109])) ?_ (fun s ⟨c,e,hw⟩=>?_)
 ·rw [cM];refine ⟨fun e=>ak.2 ⟨_,rfl,⟨fun _=>.inl e,fun _=>(by first | rfl | exact decide_eq_true e)⟩⟩,fun m1=>?_⟩;rw [cM];refine ⟨fun e=>ak.2 ⟨_,rfl,⟨fun _=>.inr (.inl e),fun _=>(by first | rfl | exact decide_eq_true e)⟩⟩,fun m2=>ak.2 ⟨_,rfl,⟨fun h=>.inr (.inr (of_decide_eq_true h)),fun h=>decide_eq_true ?_⟩⟩⟩;rcases h with h | h | h
  ·exact absurd h m1
  ·exact absurd h m2
  exact h
 subst e;dsimp only;rw [cw];refine ⟨fun hc=>?_,fun hc=>ak.2 (.bad ?_)⟩;rotate_left
 ·have n8:¬ (w=[115,101,110,116]∨w=[113,117,101,117,101]∨w=[114,111,111,109]):=fun e=>by rw [hw.2 e] at hc; cases hc
  rw [BR n1 (fun e=>e.elim n7 n8)];unfold mA;rw [if_neg n3,if_neg n4,if_neg n5,if_neg n6,if_neg n2]
 have hw:=hw.1 hc;rw [Kr (.inr hw),uB];refine ⟨fun hb=>ak.2 (.bad (by rw [G6 (fun hh=>by rw [hl.2 hh] at hb; cases hb)])),fun hb=>?_⟩;have hh:=hl.1 hb;have eR:nT d w k=if w=Ko then fmtS (d.2.1.2.2.1.getD k.toNat []) else if w=Kp then fmtS (d.2.1.2.1.getD k.toNat []) else if w=Kq then aj (d.2.2.getD k.toNat 0) else bJ:=by unfold nT;rw [if_pos hh,if_neg n7]
 obtain ⟨k0,k1⟩:=hh;obtain ⟨j,rfl⟩:∃ j:Nat,k=(j:Int):=⟨k.toNat,by omega⟩
 have hj:j<d.1.2.length:=by omega
 have hq:=h.st.nq;have hs:=h.st.ns;have eO:=qG h.caps;have L:=h.st.bH j hj;have l1:=lE L.qs;have l2:=lE L.hs;have fu:=Bq h.caps hj;unfold dP at fu;have hm:∀ s,(fmtS s).length<bU:=fun s=>by have:=DF s; unfold bU; omega
 have hi:=fk (x:=d.2.2.getD j 0) (by omega) (by omega);have E:∀ (f:BB×Unit→BB×Unit→BB×Unit→Option (bV×BB×Bool×Unit)),
   (ab (0≤(j:Int)∧(j:Int)<(d.2.1.2.2.1.length:Int)) ((lJ.f n (d.2.1.2.2.1.getD (j:Int).toNat [])).bind fun dw=>ab (0≤(j:Int)∧(j:Int)<(d.2.1.2.1.length:Int)) ((lJ.f n (d.2.1.2.1.getD (j:Int).toNat [])).bind fun jM=>ab (0≤(j:Int)∧(j:Int)<(d.2.2.length:Int)) ((dR.f n (d.2.2.getD (j:Int).toNat 0)).bind fun cV=>ab (dw.1.length<bU) (ab (jM.1.length<bU) (ab (cV.1.length<bU) (f dw jM cV)))))))=f (fmtS (d.2.1.2.2.1.getD j []),()) (fmtS (d.2.1.2.1.getD j []),()) (aj (d.2.2.getD j 0),()):=by
  intro f;simp only [ay];rw [af (by omega),JU (by omega) hn,ao];dsimp only;rw [af (by omega),JU (by omega) hn,ao];dsimp only;rw [af (by omega),tj (by omega) (by omega),ao];dsimp only;rw [af (hm _),af (hm _),af (by unfold bU; omega)]
 rw [eR,ay];rw [cM];refine ⟨fun e=>?_,fun n1=>?_⟩
 ·rw [if_pos e];exact (congrArg (W · (One d _)) (E fun a b c=>some (d,a.1,true,()))).mpr (ak.2 (.jW rfl h))
 rw [if_neg n1,cM];refine ⟨fun e=>?_,fun n2=>?_⟩
 ·rw [if_pos e];exact (congrArg (W · (One d _)) (E fun a b c=>some (d,b.1,true,()))).mpr (ak.2 (.jW rfl h))
 rw [if_neg n2,cM];refine ⟨fun e=>?_,fun n3=>?_⟩
 ·rw [if_pos e];exact (congrArg (W · (One d _)) (E fun a b c=>some (d,c.1,true,()))).mpr (ak.2 (.jW rfl h))
 rcases hw with e | e | e
 ·exact absurd e n1
 ·exact absurd e n2
 exact absurd e n3
theorem afY {c:Int} (h:eI d) (hn:1048576<n):W (z7.f n d k c) (One d (nj n d k c)):=by
 unfold z7.f;rw [fx];refine bz (P:=fun s=>∃ b:Bool,s=Sum.inr (b,())∧(b=false↔0≤k∧k<(d.1.2.length:Int))) ?_ (fun s ⟨b,e,hl⟩=>?_)
 ·rw [cM];exact ⟨fun _=>ak.2 ⟨_,rfl,fun h=>(by cases h),fun h=>(by omega)⟩,fun h0=>ak.2 ⟨_,rfl,fun h=>⟨by omega,by have:=of_decide_eq_false h; omega⟩,fun h=>decide_eq_false (by omega)⟩⟩
 subst e;dsimp only;unfold nj;rw [cw];refine ⟨fun hb=>ak.2 (.bad (if_neg (fun hh=>by rw [hl.2 hh] at hb; cases hb))),fun hb=>?_⟩;have hl:=hl.1 hb;rw [ad8 h.small h.sd hn (by omega) (by omega),aC,if_pos hl];have o:=afW (n:=n) (c:=c) h hl;rw [cw];exact ⟨fun hb=>ak.2 (.jW (by rw [if_pos hb]) o),fun hb=>ak.2 (.jW (by rw [if_neg (show ¬ (qK n d.1 d.2.1 k c 20000).2=true from fun e=>by rw [show (qK n d.1 d.2.1 k c 20000).2=false from hb] at e; cases e)]) o)⟩
abbrev afZ:BB:=[110,111,110,101]
abbrev X4:BB:=[115,116,97,114,116]
abbrev Qv:BB:=[119,97,105,116,115]
def qV (B:List Int):List (BB):=if B=[] then [afZ] else B.map aj
def DX (d:bV) (w:BB):bV×BB:=
 if w=X4 then ((d.1,start d.1,d.2.2),qU) else if w=Qv then (d,Lib.join (qV (vi d.1 d.2.1)) [32]) else (d,bJ)
theorem X5 {B:Nat} : ∀ {L:List (BB)},(∀ x∈L,x.length≤B)→Lib.lens L≤B*L.length
 | [],_=>by simp [Lib.lens]
 | x::L,h=>by have h1:=h x (by simp);have h2:=X5 (L:=L) (fun y hy=>h y (by simp [hy]));simp only [Lib.lens,mL,List.sum_cons,aQ] at h2 ⊢;rw [Nat.mul_succ]; omega
theorem X6 {B:List Int} (h:B.length≤12∧∀ x∈B,-1≤x∧x≤1000):(qV B).length≤12∧(Lib.join (qV B) [32]).length≤1000:=by
 have h1:(qV B).length≤12∧∀ x∈qV B,x.length≤8:=by
  unfold qV;split
  ·exact ⟨by simp,by simp⟩
  refine ⟨by rw [mn]; exact h.1,fun x hx=>?_⟩;obtain ⟨y,hy,rfl⟩:=List.mem_map.1 hx;have:=h.2 y hy;exact fk (by omega) (by omega)
 refine ⟨h1.1,?_⟩;generalize qV B=L at h1;cases L with
 | nil=>simp [Lib.join]
 | cons x L=>
  rw [Lib.join_length];have:=X5 (B:=8) (L:=x::L) h1.2;have:=h1.1;simp only [aQ,bh] at *;omega
theorem af_ {w:BB} (h:eI d) (hn:1048576<n):W (z_.f n d w) (One d (DX d w)):=by
 have G7:=h.st.cf;unfold z_.f;rw [cM];refine ⟨fun e=>?_,fun n1=>?_⟩
 ·subst e;rw [Vs h.small G7 hn,ao];exact ak.2 (.jW rfl ⟨UY G7,h.caps,h.small⟩)
 rw [cM];refine ⟨fun e=>?_,fun n2=>ak.2 (.bad ?_)⟩;rotate_left
 ·unfold DX;rw [if_neg n1,if_neg n2]
 subst e;have eR:DX d Qv=(d,Lib.join (qV (vi d.1 d.2.1)) [32]):=rfl;rw [eR,afC h.small h.st hn,ao];dsimp only;have hB:=XR h.st;generalize vi d.1 d.2.1=B at hB;have hJ:=X6 hB;refine fT (fun (i:Nat) (o:List (BB))=>((i:Int),o,())) B.length (fun i o=>o=(B.take i).map aj) (s0:=[]) rfl (by simp) (by omega) (fun ih o hI=>?_) (fun ih i o hi hI hS=>?_)
 ·rw [jj] at hI;subst hI;simp only [av (Int.lt_irrefl _)];rw [fx];refine bz (P:=fun s'=>s'=Sum.inr (qV B,())) ?_ (fun s' e=>?_)
  ·unfold qV;rw [cM];refine ⟨fun h0=>ak.2 ?_,fun h0=>ak.2 ?_⟩
   ·rw [if_pos (List.eq_nil_of_length_eq_zero (by rw [mn] at h0; omega))]
   rw [if_neg (fun e=>h0 (by rw [e]; rfl))]
  subst e;dsimp only;rw [Pj (by omega) (by omega),ao];exact ak.2 (.jW rfl h)
 have sG:o.length=i:=by rw [hI,mn,List.length_take]; omega
 simp only [aG (show (i:Int)<(B.length:Int) by omega),ay];have hm:=hB.2 (B.getD i 0) (by rw [aJ hi]; exact List.getElem_mem _);rw [af (by omega),tj (by omega) (by omega),ao];dsimp only;rw [db (by simp only [iQ]; omega),a_ (by omega)];exact hS _ (by rw [hI,iC hi,qT,aJ hi]; rfl)
def xx (n:Nat) (d:bV) (t:BB):bV×BB:=
 match qP.f n t with | some r=>if r.2.1=true then (BQ r.1,qU) else (d,bJ) | none=>(d,bJ)
def tJ (n:Nat) (d:bV) (k:Int) (c:BB):bV×BB:=
 match oZ.f n c with | some r=>if r.2.1=true then (if (o6 d.1 k r.1).2.1=true then (BQ (o6 d.1 k r.1).1,qU) else (d,bJ)) else (d,bJ) | none=>(d,bJ)
def xy (n:Nat) (d:bV) (a b c:BB):bV×BB:=
 if a=ni then (match ee b with | some k=>tJ n d k c | none=>(d,bJ))
 else if a=tI then (match ee b,ee c with | some x,some y=>nj n d x y | _,_=>(d,bJ)) else (d,bJ)
def sg (n:Nat) (d:bV):List (BB)→bV×BB
 | [a]=>DX d a
 | [a,b]=>match ee b with | some k=>sf d a k | none=>(d,bJ)
 | [a,b,c]=>xy n d a b c
 | _=>(d,bJ)
def p_ (n:Nat) (d:bV) (l:BB):bV×BB:=
 if l.take 5=[108,111,97,100,32] then xx n d (kN 124 10 (l.drop 5)) else sg n d (bt 32 l)
theorem af0 (hn:1048576<n):pZ.f n []=some ([],true,()):=by
 refine dZ.1 (bz (G5 (by simp) (by simp) hn) (fun r ⟨h1,h2⟩=>?_));obtain ⟨l,c,⟨⟩⟩:=r;cases c
 ·obtain ⟨p,hp,-⟩:=h2 rfl;cases hp
 have:=h1 rfl;cases l with
 | nil=>rfl
 | cons x l=>cases this
theorem X7 {s:BB} {r:aq×(Bool×Unit)} (h:DP s r) (hb:r.2.1=true):cK r.1:=by
 rcases h.tu with ⟨x,o,e⟩ | e
 ·rw [h.all x o e]; exact o
 rw [e] at hb; cases hb
theorem af1 {l:BB} (h:eI d) (hl:l.length≤1048576) (hn:1048577<n) (h5:l.take 5=[108,111,97,100,32]):W (sc.f n d l) (One d (xx n d (kN 124 10 (l.drop 5)))):=by
 have fC:1048576<n:=by omega
 unfold sc.f;have el:l=[108,111,97,100,32]++l.drop 5:=by rw [← h5,List.take_append_drop]
 have hd:(l.drop 5).length≤1048576:=by rw [List.length_drop]; omega
 generalize l.drop 5=t at el hd ⊢;rw [el,afO,ao];dsimp only;rw [aB];have hc:=count_le 124 t;have er:vm.f n t ([124]:BB) ([10]:BB)=some (kN 124 10 t,()):=by unfold vm.f FO;rw [if_pos ⟨by omega,by decide,by rw [iQ]; omega⟩,afL (by decide)];rfl
 rw [er,ao];dsimp only;obtain ⟨r,e1,e2,T⟩:=Xg (n:=n) (s:=kN 124 10 t) (by rw [Qi]; omega) hn;unfold xx;rw [e2,aC];exact Qr (X7 T) fC (fun r=>rfl)
theorem X8 {P:List (BB)} {R:bV×BB} {f:List Int×(Bool×Unit)→Option (bV×BB×Bool×Unit)} (cI:∀ p∈P,p.length+P.length≤1048577) (hf:∀ l',∃ d' t,f (l',false,())=some (d',t,false,())) (hn:1048576<n) (he:∃ p∈P.drop 1,ee p=none) (eR:R=(d,bJ)):W ((pZ.f n (P.drop 1)).bind f) (One d R):=by
 have h1:∀ p∈P.drop 1,p.length≤1048576:=fun p hp=>by have:=cI p (Qn hp);have:0<P.length:=jA.2 (fun e=>by rw [e] at hp; simp at hp);omega
 obtain ⟨p,hp,hq⟩:=he;have:=cI p (Qn hp);obtain ⟨l',e3⟩:=X_ (n:=n) (L:=P.drop 1) (by rw [List.length_drop]; omega) h1 hn ⟨p,hp,hq⟩;obtain ⟨d',t,e4⟩:=hf l';rw [e3,ao,e4];exact ak.2 (.bad eR)
theorem af2 {l:BB} (h:eI d) (hl:l.length≤1048576) (hn:1048577<n) (h5:l.take 5≠[108,111,97,100,32]):W (sc.f n d l) (One d (sg n d (bt 32 l))):=by
 have fC:1048576<n:=by omega
 have hp:=mq 32 l;have hlen:=u6 32 l;have aA:=mR 32 l;unfold sc.f;rw [afP (p:=[108,111,97,100,32]) h5,ao];simp only [ar];rw [qM (by omega),ao];dsimp only;generalize bt 32 l=P at hp hlen aA;have cI:∀ p∈P,p.length+P.length≤1048577:=fun p kU=>by have:=hp p kU; omega
 have fw:0<P.length:=jA.2 aA;rw [fx,af (by omega)];refine bz (P:=fun s=>∃ b:Bool,s=Sum.inr (b,())∧(b=true↔P.getD 0 []=ni∧P.length=3)) ?_ (fun s ⟨b,e,hb⟩=>?_)
 ·rw [cM];exact ⟨fun e=>ak.2 ⟨_,rfl,⟨fun h=>⟨e,by have:=of_decide_eq_true h; omega⟩,fun h=>decide_eq_true (by omega)⟩⟩,fun e=>ak.2 ⟨_,rfl,⟨fun h=>(by cases h),fun h=>absurd h.1 e⟩⟩⟩
 subst e;dsimp only;rw [cw];refine ⟨fun cD=>?_,fun cD=>?_⟩
 ·obtain ⟨hw,h3⟩:=hb.1 cD;obtain ⟨a,b,c,rfl⟩:∃ a b c,P=[a,b,c]:=by
   match P,h3 with
   | [a,b,c],_=>exact ⟨a,b,c,rfl⟩
  have hw:a=ni:=hw;have gj:=cI b (by simp);have ue:=cI c (by simp);simp only [aQ,bh] at gj ue;have e1:(([a,b,c]:List (BB)).take 2).drop 1=[b]:=rfl;have e2:([a,b,c]:List (BB)).getD 2 []=c:=rfl;have eR:sg n d [a,b,c]=(match ee b with | some k=>tJ n d k c | none=>(d,bJ)):=by show xy n d a b c=_;unfold xy;rw [if_pos hw]
  rw [af (by simp),e1,e2,eR];obtain ⟨r2,p2,T2⟩:=WA (n:=n) (s:=c) (by omega) hn;have X9:BP.f n c=some r2:=p2;cases hk:ee b with
  | none=>
   obtain ⟨l',e3⟩:=X_ (n:=n) (L:=[b]) (by simp) (by simp; omega) fC ⟨b,by simp,hk⟩;rw [e3,ao];dsimp only;rw [af (by simp),X9,aC];simp only [Bool.not_false,aB,aY];exact ak.2 (.bad rfl)
  | some k=>
   rw [XZ (by omega) fC hk,ao];dsimp only;rw [af (by simp),X9,aC];simp only [bf,ar,aY];unfold tJ;rw [p2];dsimp only;rw [uB];refine ⟨fun h0=>ak.2 (.bad (by rw [if_neg (by rw [h0]; simp)])),fun h0=>?_⟩;rw [if_pos h0,af (by simp)];have e4:([k]:List Int).getD (0:Int).toNat 0=k:=rfl;have e5:([k]:List Int).getD 0 0=k:=rfl
   try simp only [e4,e5]
   rw [afG h.small h.st.cf (by have:=(lE T2.ok).1; omega) fC,aC];exact Qr XS fC (fun r=>rfl)
 have lW:¬ (P.getD 0 []=ni∧P.length=3):=fun e=>by rw [hb.2 e] at cD; cases cD
 rw [af (by omega)];have e1:(P.take ((P.length:Int)).toNat).drop 1=P.drop 1:=by rw [ay,jj]
 rw [e1]
 match P,lW,cI,fw with
 | [a],lW,cI,fw=>
  have e2:([a]:List (BB)).drop 1=[]:=rfl;rw [e2,af0 fC,ao];simp only [bf,ar];rw [aG (by rfl),af (by simp),c8];exact bz (af_ h fC) (fun r' hg=>ak.2 hg)
 | [a,b],lW,cI,fw=>
  have gj:=cI b (by simp);simp only [aQ,bh] at gj;cases hk:ee b with
  | none=>exact X8 cI (fun l'=>⟨_,_,rfl⟩) fC ⟨b,by simp,hk⟩ (by show (match ee b with | some k=>sf d a k | none=>(d,bJ))=_; rw [hk])
  | some k=>
   have eR:sg n d [a,b]=sf d a k:=by show (match ee b with | some k=>sf d a k | none=>(d,bJ))=_; rw [hk]
   have cr:=XX hk;have e2:([a,b]:List (BB)).drop 1=[b]:=rfl;rw [eR,e2,XZ (by omega) fC hk,ao];simp only [bf,ar];rw [av (by simp),aG (by rfl),af (by simp),af (by simp),c8];exact bz (afX (k:=k) h ⟨by omega,by omega⟩ fC) (fun r' hg=>ak.2 hg)
 | [a,b,c],lW,cI,fw=>
  have gj:=cI b (by simp);have ue:=cI c (by simp);simp only [aQ,bh] at gj ue;have ha:a≠ni:=fun e=>lW ⟨e,rfl⟩;have eT:sg n d [a,b,c]=if a=tI then (match ee b,ee c with | some x,some y=>nj n d x y | _,_=>(d,bJ)) else (d,bJ):=by show xy n d a b c=_;unfold xy;rw [if_neg ha]
  by_cases hx:(∃ x y,ee b=some x∧ee c=some y)
  ·obtain ⟨x,y,h1,h2⟩:=hx;have e2:([a,b,c]:List (BB)).drop 1=[b,c]:=rfl;rw [eT,h1,h2,e2,afU (by omega) (by omega) fC h1 h2,ao];simp only [bf,ar];rw [av (by simp),av (by simp),fx];refine bz (P:=fun s=>s=Sum.inr (decide (a=tI),())) ?_ (fun s e=>?_)
   ·rw [aG (by rfl),af (by simp)];exact ak.2 rfl
   subst e;dsimp only;rw [cM];refine ⟨fun ha=>?_,fun ha=>ak.2 (.bad (if_neg ha))⟩;rw [if_pos ha,af (by simp),af (by simp),c8];exact bz (afY (k:=x) (c:=y) h fC) (fun r' hg=>ak.2 hg)
  have hq:∃ p∈([a,b,c]:List (BB)).drop 1,ee p=none:=by
   cases h1:ee b with
   | none=>exact ⟨b,by simp,h1⟩
   | some x=>
    cases h2:ee c with
    | none=>exact ⟨c,by simp,h2⟩
    | some y=>exact absurd ⟨x,y,h1,h2⟩ hx
  refine X8 cI (fun l'=>⟨_,_,rfl⟩) fC hq ?_;rw [eT];split
  ·cases h1:ee b with
   | none=>rfl
   | some x=>
    cases h2:ee c with
    | none=>rfl
    | some y=>exact absurd ⟨x,y,h1,h2⟩ hx
  rfl
 | a::b::c::e::P,lW,cI,fw=>
  have eR:sg n d (a::b::c::e::P)=(d,bJ):=rfl;have af3:=cI a (by simp);obtain ⟨r,e3,h1,h2⟩:=G5 (n:=n) (L:=(a::b::c::e::P).drop 1) (by simp only [XV,List.drop_zero,aQ] at af3 ⊢; omega) (fun p kU=>by have:=cI p (Qn kU); omega) fC;rw [e3,aC,uB];refine ⟨fun _=>ak.2 (.bad eR),fun h0=>?_⟩;have lL:=congrArg List.length (h1 h0);simp only [XV,List.drop_zero,mn,aQ] at lL;rw [av (by omega),av (by omega),fx];refine bz (P:=fun s=>s=Sum.inr (false,())) ?_ (fun s e=>?_)
  ·rw [av (by omega)];exact ak.2 rfl
  subst e;dsimp only;rw [ar];exact ak.2 (.bad eR)
theorem Ya {l:BB} (h:eI d) (hl:l.length≤1048576) (hn:1048577<n):tH.f n d l=some ((p_ n d l).1,(p_ n d l).2,())∧eI (p_ n d l).1:=by
 have hW:W (sc.f n d l) (One d (p_ n d l)):=by
  unfold p_;split
  ·rename_i h5; exact af1 h hl hn h5
  rename_i h5; exact af2 h hl hn h5
 obtain ⟨r,e,O⟩:=hW;rw [afQ h (by omega),e,aC];cases hb:r.2.2.1
 ·rw [Bool.not_false,aB,O.no hb];exact ⟨rfl,h⟩
 obtain ⟨e2,o⟩:=O.yes hb;rw [bf,ar,e2];exact ⟨rfl,o⟩
end Go.AmT
