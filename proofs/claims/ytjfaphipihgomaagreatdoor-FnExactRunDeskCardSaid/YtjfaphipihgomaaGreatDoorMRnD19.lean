/- One step of a network, by both programs, in plain Lean; two steps that can be made can be made in any order. -/
import Derived.Test.YtjfaphipihgomaaGreatDoorMRnD18
import Derived.WalkKit
import Derived.Lib.Replace
open Go Go.Am
noncomputable section
set_option linter.unusedVariables false
set_option linter.unusedSimpArgs false
set_option maxRecDepth 100000
open Bool renaming and_eq_true → aw, not_true → bf
open Go.Lib renaming count_miss → Qe, index → jK, replaceK_hit → Qf
open Go.Maps renaming int_keyed → Kk, keyOf_int_mk → Kl
open Go.Proofs.Tryz renaming prog → aZ, underlying241 → Km, underlying3 → mZ, underlying9 → oW
open Int renaming toNat_natCast → ay
open List renaming length_singleton → iQ
open Option renaming bind_some → aC
namespace Go.AmT
variable {nt:aq} {s:State} {n:Nat} {k:Int} {ts:List Int}
def lN (nt:aq) (s:State) (k:Int):Bool:=decide (0≤k∧k<(nt.1.length:Int)∧cS nt s k.toNat=true)
theorem afy {k:Nat} (hk:k<nt.1.length):lN nt s (k:Int)=cS nt s k:=by
 unfold lN;rw [ay];cases h:cS nt s k
 ·rw [decide_eq_false (by simp)]
 rw [decide_eq_true ⟨by omega,by omega,rfl⟩]
theorem afz (h:dq nt) (o:bG nt s) (hn:1048576<n):zU.f n nt s k=some (lN nt s k,()):=by
 have hs:=mg o;unfold zU.f;rw [Dj h hs hn,s9 o];simp only [aC,bf,ar];refine dZ.1 (c8.2 (bz (Dl (caps:=none) o.cf hs hn) (fun r ⟨to,fr,e,T,F⟩=>dZ.2 ?_)));subst e;have R:kH nt s (nt,s,to,fr,none):=⟨rfl,rfl,T,F⟩
 unfold Bf.f lN;by_cases h0:0≤k
 ·obtain ⟨j,rfl⟩:∃ j:Nat,k=(j:Int):=⟨k.toNat,by omega⟩
  rw [aG h0];by_cases h1:(j:Int)<(nt.1.length:Int)
  ·have hc:can.f n ((nt.1,nt.2),(s.1,s.2.1,s.2.2.1,s.2.2.2),to,fr,(none:Option (List Int))) (j:Int)=some (cS nt s j,()):=Dp R o (by omega);simp only [aC,h1,decide_true,aB,hc,ay];cases cS nt s j
   ·rw [decide_eq_false (by simp)]
   rw [decide_eq_true ⟨h0,trivial,rfl⟩]
  simp only [aC,h1,decide_false,ar];rw [decide_eq_false (fun hh=>hh.2.1)]
 rw [av h0,decide_eq_false (fun hh=>h0 hh.1)]; rfl
theorem afA {k:Nat} (h:dq nt) (o:bG nt s) (hk:k<nt.1.length) (hn:1048576<n):vh.f n nt s (k:Int)=some (cS nt s k,()):=by have hs:=mg o;unfold vh.f yW.f;rw [Di h hs hn,s9 o];simp only [aC,aB,aG (Int.natCast_nonneg k),decide_eq_true (show (k:Int)<(nt.1.length:Int) by omega),Bh o hk hn]
theorem afB (h:dq nt) (o:bG nt s) (hn:1048576<n) :
  xu.f n nt s k=some (if lN nt s k=true then (cX nt s k.toNat,true,()) else (([],[],[],0),false,())):=by
 have hs:=mg o;unfold xu.f;rw [afz h o hn,ao];cases hc:lN nt s k
 ·rfl
 simp only [bf,ar];have sP:=hc;unfold lN at sP;simp only [decide_eq_true_eq] at sP;obtain ⟨h0,h1,h2⟩:=sP;obtain ⟨j,rfl⟩:∃ j:Nat,k=(j:Int):=⟨k.toNat,by omega⟩
 rw [ay] at h2 ⊢;refine dZ.1 (c8.2 (bz (Dl (caps:=none) o.cf hs hn) (fun r ⟨to,fr,e,T,F⟩=>dZ.2 ?_)));subst e;have R:kH nt s (nt,s,to,fr,none):=⟨rfl,rfl,T,F⟩
 have hr:=Oe (n:=n) R o hs (by omega) h2 hn;simp only at hr ⊢;rw [hr]; rfl
def bl (nt:aq) (s:State) (i:Nat):Int:=if (bd nt s i).1=2∧(s.2.1.getD (bg nt s i).toNat []).length=0 then bg nt s i else -1
def vi (nt:aq) (s:State):List Int:=(List.range nt.1.length).map (bl nt s)
theorem XR (o:bG nt s):(vi nt s).length≤12∧∀ x∈vi nt s,-1≤x∧x≤1000:=by
 have hp:=o.cf.eX;have hl:=o.cf.dB;refine ⟨by unfold vi; rw [List.length_map,List.length_range]; exact hp,fun x hx=>?_⟩;obtain ⟨i,hi,rfl⟩:=List.mem_map.1 hx;have hi:=List.mem_range.1 hi;unfold bl;split
 ·rename_i h;obtain ⟨j,hj,e,-⟩:=nK o hi h.1;omega
 omega
theorem afC (h:dq nt) (o:bG nt s) (hn:1048576<n):zW.f n nt s=some (vi nt s,()):=by
 have hs:=mg o;have hp:=o.cf.eX;have hl:=o.cf.dB;have hq:=o.nq;unfold zW.f;rw [Dj h hs hn,ao,s9 o];simp only [bf,ar];refine dZ.1 ?_;rw [c8];refine bz (Dl (caps:=none) o.cf hs hn) (fun r ⟨to,fr,e,T,F⟩=>?_);subst e;have R:kH nt s (nt,s,to,fr,none):=⟨rfl,rfl,T,F⟩
 refine fT (fun (i:Nat) (x:List Int)=>((i:Int),x,())) nt.1.length (fun i x=>x=(List.range i).map (bl nt s)) (s0:=[]) rfl (by simp) (by omega) (fun ih x hI=>?_) (fun ih i x hi hI hS=>?_)
 ·simp only [av (Int.lt_irrefl _)];exact ak.2 (by rw [hI]; rfl)
 have hx:x.length=i:=by rw [hI]; simp
 simp only [aG (show (i:Int)<(nt.1.length:Int) by omega)];have hw:iP.f n ((nt.1,nt.2),(s.1,s.2.1,s.2.2.1,s.2.2.2),to,fr,(none:Option (List Int))) (i:Int)=some ((bd nt s i).1,bg nt s i,()):=Dn R o hi;rw [hw,ao];dsimp only;rw [fx];refine bz (P:=fun s'=>∃ b:Bool,s'=Sum.inr (b,())∧(b=false↔((bd nt s i).1=2∧(s.2.1.getD (bg nt s i).toNat []).length=0))) ?_ (fun s' ⟨b,e,hb⟩=>?_)
 ·rw [cw];refine ⟨fun h2=>ak.2 ⟨true,rfl,⟨fun h=>(by cases h),fun h=>(by simp [h.1] at h2)⟩⟩,fun h2=>?_⟩;have h2:(bd nt s i).1=2:=by simpa using h2
  obtain ⟨j,hj,e,-⟩:=nK o hi h2;rw [e,af (by omega)];refine ak.2 ⟨_,rfl,?_⟩;rw [decide_eq_false_iff_not];simp only [h2,true_and];omega
 subst e;dsimp only;rw [fx];refine bz (P:=fun s'=>s'=Sum.inr (bl nt s i,())) ?_ (fun s' e=>?_)
 ·rw [cw];refine ⟨fun cD=>ak.2 ?_,fun cD=>ak.2 ?_⟩
  ·rw [bl,if_neg (fun h=>by rw [hb.2 h] at cD; cases cD)]
  rw [bl,if_pos (hb.1 cD)]
 subst e;dsimp only;rw [db (by simp only [iQ]; omega),a_ (by omega)];exact hS _ (by rw [hI,List.range_succ,List.map_append]; rfl)
theorem afD (h:dq nt) (o:bG nt s) (hn:1048576<n):zX.f n nt s=some (vi nt s,()):=by
 have hs:=mg o;have hp:=o.cf.eX;have hq:=o.nq;have ha:=o.na;unfold zX.f;rw [Di h hs hn,ao,s9 o];simp only [bf,ar];refine dZ.1 ?_;refine fT (fun (i:Nat) (x:List Int)=>((i:Int),x,())) nt.1.length (fun i x=>x=(List.range i).map (bl nt s)) (s0:=[]) rfl (by simp) (by omega) (fun ih x hI=>?_) (fun ih i x hi hI hS=>?_)
 ·simp only [av (Int.lt_irrefl _)];exact ak.2 (by rw [hI]; rfl)
 have hx:x.length=i:=by rw [hI]; simp
 simp only [aG (show (i:Int)<(nt.1.length:Int) by omega),ay];rw [af (by omega),af (by omega)];have hA:f_ (prog nt i) (mV s i)=true:=o.act i hi;have hw:gW.f n (nt.1.getD i bC) (s.1.getD i bK)=some ((bd nt s i).1,(bd nt s i).2,()):=Bg hA;rw [hw,ao,F8 o hi hn,ao];dsimp only;rw [fx];refine bz (P:=fun s'=>∃ b:Bool,s'=Sum.inr (b,())∧(b=false↔((bd nt s i).1=2∧(s.2.1.getD (bg nt s i).toNat []).length=0))) ?_ (fun s' ⟨b,e,hb⟩=>?_)
 ·rw [cw];refine ⟨fun h2=>ak.2 ⟨true,rfl,⟨fun h=>(by cases h),fun h=>(by simp [h.1] at h2)⟩⟩,fun h2=>?_⟩;have h2:(bd nt s i).1=2:=by simpa using h2
  obtain ⟨j,hj,e,-⟩:=nK o hi h2;rw [e,af (by omega)];refine ak.2 ⟨_,rfl,?_⟩;rw [decide_eq_false_iff_not];simp only [h2,true_and];omega
 subst e;dsimp only;rw [fx];refine bz (P:=fun s'=>s'=Sum.inr (bl nt s i,())) ?_ (fun s' e=>?_)
 ·rw [cw];refine ⟨fun cD=>ak.2 ?_,fun cD=>ak.2 ?_⟩
  ·rw [bl,if_neg (fun h=>by rw [hb.2 h] at cD; cases cD)]
  rw [bl,if_pos (hb.1 cD)]
 subst e;dsimp only;rw [db (by simp only [iQ]; omega),a_ (by omega)];exact hS _ (by rw [hI,List.range_succ,List.map_append]; rfl)
theorem afE (h:dq nt) (o:bG nt s) (hn:1048576<n):vh.f n nt s k=some (lN nt s k,()):=by
 by_cases hk:0≤k∧k<(nt.1.length:Int)
 ·obtain ⟨j,rfl⟩:∃ j:Nat,k=(j:Int):=⟨k.toNat,by omega⟩
  rw [afA h o (by omega) hn,afy (by omega)]
 have hz:lN nt s k=false:=by unfold lN;exact decide_eq_false (fun hh=>hk ⟨hh.1,hh.2.1⟩)
 rw [hz];unfold vh.f yW.f;rw [Di h (mg o) hn,s9 o];by_cases h0:0≤k
 ·have h1:¬ k<(nt.1.length:Int):=fun h1=>hk ⟨h0,h1⟩;simp only [aC,aB,aG h0,decide_eq_false h1,ar]
 simp only [aC,aB,av h0,ar]
theorem afF (h:dq nt) (o:bG nt s) (hn:1048576<n) :
  zV.f n nt s k=some (if lN nt s k=true then (cX nt s k.toNat,true,()) else (([],[],[],0),false,())):=by
 have hs:=mg o;unfold zV.f;rw [afE h o hn,ao];cases hc:lN nt s k
 ·rfl
 simp only [bf,ar];have sP:=hc;unfold lN at sP;simp only [decide_eq_true_eq] at sP;obtain ⟨h0,h1,h2⟩:=sP;obtain ⟨j,rfl⟩:∃ j:Nat,k=(j:Int):=⟨k.toNat,by omega⟩
 rw [ay] at h2 ⊢;rw [Dx hs hn,ao];dsimp only;rw [Jr o hs (by omega) h2 hn,ao];rfl
noncomputable def o6 (nt:aq) (k:Int) (ts:List Int):aq×(Bool×Unit):=if 0≤k∧k<(nt.2.length:Int)∧cm (tG nt k.toNat ts)=true then (tG nt k.toNat ts,true,()) else (([],[]),false,())
theorem XS (h:(o6 nt k ts).2.1=true):cK (o6 nt k ts).1:=by
 unfold o6 at h ⊢;split at h
 ·rename_i h1;rw [if_pos h1]; exact DO h1.2.2
 cases h
theorem XT {j:Nat} (hj:j<nt.2.length):o6 nt (j:Int) ts=if cm (tG nt j ts)=true then (tG nt j ts,true,()) else (([],[]),false,()):=by
 unfold o6;rw [ay];by_cases h:cm (tG nt j ts)=true
 ·rw [if_pos h,if_pos ⟨by omega,by omega,h⟩]
 rw [if_neg h,if_neg (fun hh=>h hh.2.2)]
theorem afG (h:dq nt) (o:cK nt) (ht:ts.length≤1000) (hn:1048576<n):zP.f n nt k ts=some (o6 nt k ts):=by
 refine dZ.1 ?_;unfold zP.f;rw [s6 h hn,ao,fx];refine bz (P:=fun s=>∃ b:Bool,s=Sum.inr (b,())∧(b=false↔0≤k∧k<(nt.2.length:Int))) ?_ (fun s ⟨b,e,hl⟩=>?_)
 ·rw [Jt o];simp only [bf,ar];rw [cM];exact ⟨fun _=>ak.2 ⟨_,rfl,fun h=>(by cases h),fun h=>(by omega)⟩,fun h1=>ak.2 ⟨_,rfl,fun h=>⟨by omega,by have:=of_decide_eq_false h; omega⟩,fun h=>decide_eq_false (by omega)⟩⟩
 subst e;dsimp only;rw [cw];refine ⟨fun hb=>ak.2 ?_,fun hb=>?_⟩
 ·unfold o6;rw [if_neg (fun hh=>by rw [hl.2 ⟨hh.1,hh.2.1⟩] at hb; cases hb)]
 obtain ⟨k0,k1⟩:=hl.1 hb;obtain ⟨j,rfl⟩:∃ j:Nat,k=(j:Int):=⟨k.toNat,by omega⟩
 have hj:j<nt.2.length:=by omega
 have hg:=(oX (o.ji j hj)).1;rw [← aJ hj aE] at hg;rw [Kj h hn,ao];dsimp only;simp only [ay];rw [af (by omega),aft (by omega) (by omega) hn,ao];dsimp only;rw [af (by omega)];have e:(nt.1,nt.2.set j ((nt.2.getD j aE).1,(nt.2.getD j aE).2.1,(nt.2.getD j aE).2.2.1,(nt.2.getD j aE).2.2.2.1,(nt.2.getD j aE).2.2.2.2++ts))=tG nt j ts:=rfl;rw [e,XK (XN h hj (by omega)) hn,aC,XT hj];cases hc:cm (tG nt j ts)<;>exact ak.2 rfl
theorem afH (h:dq nt) (o:cK nt) (ht:ts.length≤1000) (hn:1048576<n):zQ.f n nt k ts=some (o6 nt k ts):=by
 have hl:=o.dB;refine dZ.1 ?_;unfold zQ.f;rw [rz h hn,ao,Jt o];simp only [bf,ar];rw [nG,ao,bP (by omega) (by omega),aY];dsimp only;rw [uB];refine ⟨fun hb=>ak.2 ?_,fun hb=>?_⟩
 ·unfold o6;rw [if_neg (fun hh=>?_)];rw [decide_eq_true (show 0≤k from hh.1),decide_eq_true (show k≤(nt.2.length:Int)-1 by omega)] at hb;cases hb
 rw [aw,decide_eq_true_eq,decide_eq_true_eq] at hb;obtain ⟨j,rfl⟩:∃ j:Nat,k=(j:Int):=⟨k.toNat,by omega⟩
 have hj:j<nt.2.length:=by omega
 have hg:=(oX (o.ji j hj)).1;rw [← aJ hj aE] at hg;rw [Qc h hn,ao];dsimp only;simp only [ay];rw [af (by omega),db (by omega),af (by omega),qA];have e:(nt.1,nt.2.set j ((nt.2.getD j aE).1,(nt.2.getD j aE).2.1,(nt.2.getD j aE).2.2.1,(nt.2.getD j aE).2.2.2.1,(nt.2.getD j aE).2.2.2.2++ts))=tG nt j ts:=rfl;rw [e,rz (XN h hj (by omega)) hn,ao,XT hj];cases hc:cm (tG nt j ts)<;>exact ak.2 rfl
end Go.AmT
namespace Go.AmT
open Go.Proofs Go.Proofs.Tryz
abbrev bV:Type:=aq×(State×List Int)
def BN.f (n:Nat)  : Option (bV×Unit):=some ((([],[]),([],[],[],0),[]),())
def BN.ae (n:Nat):au:=⟨[],[.sh gu],fun x=>BN.f n ⟩
theorem BN.ok (n:Nat):aP 20 (BN.ae n):=aU n [] [] aK aL func20
def zY.f (n:Nat) (a0:bV):Option (Bool×Unit):=(mb.f n a0.1 a0.2.1).bind fun r1=>br r1.1 ((uH.f n a0.1 a0.2.2).bind fun r2=>some (r2.1,())) (some (false,()))
def zY.ae (n:Nat):au:=⟨[.val gu],[.val .bool],fun x=>zY.f n x.1⟩
theorem zY.ok (n:Nat):aP 36 (zY.ae n):=aU n [] [] (ai (mb.ok n) (ai (uH.ok n) aK)) aL func36
def vj.f (n:Nat) (a0:bV):Option (bV×Unit):=(pY.f n a0.1).bind fun r1=>(uM.f n a0.2.1).bind fun r2=>(cR.f n a0.2.2).bind fun r3=>some ((r1.1,r2.1,r3.1),())
def vj.ae (n:Nat):au:=⟨[.val gu],[.sh gu],fun x=>vj.f n x.1⟩
theorem vj.ok (n:Nat):aP 37 (vj.ae n):=aU n [] [] (ai (pY.ok n) (ai (uM.ok n) (ai ⟨cR.sound n,cR.aD⟩ aK))) aL func37
def sa.f (n:Nat) (a0:aq) (a1:Bool):Option (bV×(BB)×Bool×Unit):=br (!a1) (some ((([],[]),([],[],[],0),[]),[],false,())) ((uU.f n a0).bind fun r1=>(tf.f n a0 0).bind fun r2=>some ((a0,r1.1,r2.1),[111,107],true,()))
def sa.ae (n:Nat):au:=⟨[.val cd,.val .bool],[.sh gu,.val .str,.val .bool],fun x=>sa.f n x.1 x.2.1⟩
theorem sa.ok (n:Nat):aP 89 (sa.ae n):=aU n [] [] (ai (uU.ok n) (ai (tf.ok n) aK)) aL func89
def vk.f (n:Nat) (a0 a1:BB):Option (Bool×Unit):=br (decide ((a1.length:Int)≤(a0.length:Int))) (ab ((0:Int)≤0∧(0:Int)≤(a1.length:Int)∧(a1.length:Int)≤(a0.length:Int)) (some (decide (((a0.take (a1.length:Int).toNat).drop 0)=a1),()))) (some (false,()))
def vk.ae (n:Nat):au:=⟨[.val .str,.val .str],[.val .bool],fun x=>vk.f n x.1 x.2.1⟩
theorem vk.ok (n:Nat):aP 206 (vk.ae n):=aU n [] [] aK aL func206
def zZ.f (n:Nat) (a0 a1:BB):Option ((BB)×Bool×Unit):=(vk.f n a0 a1).bind fun r1=>br (!r1.1) (some (a0,false,())) (ab (0≤(a1.length:Int)∧(a1.length:Int)≤(a0.length:Int)∧(a0.length:Int)≤(a0.length:Int)) (some ((a0.take (a0.length:Int).toNat).drop (a1.length:Int).toNat,true,())))
def zZ.ae (n:Nat):au:=⟨[.val .str,.val .str],[.val .str,.val .bool],fun x=>zZ.f n x.1 x.2.1⟩
theorem zZ.ok (n:Nat):aP 150 (zZ.ae n):=aU n [] [] (ai (vk.ok n) aK) aL func150
def vl.f (n:Nat) (a0 a1:BB):Option ((BB)×Bool×Unit):=(zZ.f n a0 a1).bind fun r1=>some (r1.1,r1.2.1,())
def vl.ae (n:Nat):au:=⟨[.val .str,.val .str],[.val .str,.val .bool],fun x=>vl.f n x.1 x.2.1⟩
theorem vl.ok (n:Nat):aP 88 (vl.ae n):=aU n [] [] (ai (zZ.ok n) aK) aL func88
def BO.f (n:Nat) (a0 a1:BB):Option ((BB)×Unit):=(vk.f n a0 a1).bind fun r1=>br r1.1 (ab (0≤(a1.length:Int)∧(a1.length:Int)≤(a0.length:Int)∧(a0.length:Int)≤(a0.length:Int)) (some ((a0.take (a0.length:Int).toNat).drop (a1.length:Int).toNat,()))) (some (a0,()))
def BO.ae (n:Nat):au:=⟨[.val .str,.val .str],[.val .str],fun x=>BO.f n x.1 x.2.1⟩
theorem BO.ok (n:Nat):aP 218 (BO.ae n):=aU n [] [] (ai (vk.ok n) aK) aL func218
def xw.f (n:Nat) (a0 a1:BB):Option ((BB)×Unit):=(BO.f n a0 a1).bind fun r1=>some (r1.1,())
def xw.ae (n:Nat):au:=⟨[.val .str,.val .str],[.val .str],fun x=>xw.f n x.1 x.2.1⟩
theorem xw.ok (n:Nat):aP 160 (xw.ae n):=aU n [] [] (ai (BO.ok n) aK) aL func160
def pZ.f (n:Nat) (a0:List (BB)):Option (List Int×Bool×Unit):=iter n (fun rA x9=>br (decide (x9.1<(a0.length:Int))) (ab (0≤x9.1∧x9.1<(a0.length:Int)) ((e9.f n (a0.getD x9.1.toNat [])).bind fun dT=>cut (br (!dT.2.1) (some (.inr (true,()))) ((xw.f n (a0.getD x9.1.toNat []) ([45]:BB)).bind fun iA=>some (.inr (decide (9<(iA.1.length:Int)),())))) fun yS=>br yS.1 (some ([],false,())) (ab ((x9.2.1.length+([dT.1]:List Int).length)*8≤bo) (rA (ah (x9.1+1),x9.2.1++[dT.1],()))))) (some (x9.2.1,true,()))) (0,[],())
def pZ.ae (n:Nat):au:=⟨[.val (.sl .str)],[.val IS,.val .bool],fun x=>pZ.f n x.1⟩
theorem pZ.ok (n:Nat):aP 92 (pZ.ae n):=aU n [(4,⟨[(4,.own 1000 I),(12,.int .i64)],[(1000,.row true I)],[10,11],[]⟩),(10,⟨[(28,.bool)],[],[4,7,10,11,12],[]⟩)] [] (ai (e9.ok n) (ai (xw.ok n) aK)) aL func92
end Go.AmT
namespace Go.AmT
open Go.Proofs Go.Proofs.Tryz Go.RowKit
def vm.f (n:Nat) (a0 a1 a2:BB):Option (BB×Unit):=FO a0 a1 a2
def vm.ae (n:Nat):au:=⟨[.val .str,.val .str,.val .str],[.val .str],fun x=>vm.f n x.1 x.2.1 x.2.2.1⟩
theorem vm.aD:dh aZ 91:=eu func91 (by kernel_rfl) (by kernel_rfl)
theorem vm.sound (n:Nat):Sound aZ 91 (vm.ae n):=acI (b:=0) (by kernel_rfl) (fun s o r m w hs hm h1 h2=>Tryz.strings_ReplaceAll s o r m w hs hm h1 h2)
theorem afI {n:Int} (h0 : -9223372036854775808≤n) (h1:n<9223372036854775808):(Lit.int .i64 n).wf=true:=WalkArith.wf_i64 (by omega)
set_option maxHeartbeats 4000000 in
set_option maxRecDepth 1000000 in
theorem afJ (n:Int) (h0 : -9223372036854775808≤n) (h1:n<9223372036854775808) (w:World):Calls aZ 170 #[.int .i64 n] w fun e w'=>e = .returned (.string ⟨(qw n).toArray⟩)∧Below w.heap.size w w':=by
 have hmm:=@run_makeMap aZ;have ho0:(w.alloc (.map #[] 0)).ownsMap (H:=Unit) aZ 3 (plainElem aZ 9) w.heap.size 0 (.map []):=World.ownsMap_made _ _ _ _
 go_enter func170,Tryz.ntmps170
 go_wp2_with (first
  | (refine NB _ rfl _ _ _ 241 rfl 3 9 (Kk mZ) Km _ _ 0 _ rfl ho0 (by unfold maxLen; omega) _ _ _ rfl rfl (Kl mZ (by decide)) _ [] (plainElem_string oW (by decide)) ?_; intro w1 ig FD)
  | (refine NB _ rfl _ _ _ 241 rfl 3 9 (Kk mZ) Km _ _ 1 _ rfl ig (by unfold maxLen; omega) _ _ _ rfl rfl (Kl mZ (by decide)) _ [] (plainElem_string oW (by decide)) ?_; intro w2 sQ FE)
  | (refine NB _ rfl _ _ _ 241 rfl 3 9 (Kk mZ) Km _ _ 2 _ rfl sQ (by unfold maxLen; omega) _ _ _ rfl rfl (Kl mZ (by decide)) _ [] (plainElem_string oW (by decide)) ?_; intro w3 ho3 hg3)
  | (refine acH w3 rfl _ _ 241 rfl 3 9 (Kk mZ) Km oW (by kernel_rfl) _ 3 _ rfl ho3 _ _ rfl (Kl mZ (afI h0 h1)) (qw n) (acJ n) ?_))
 go_ret
 refine ⟨rfl,?_⟩;have b0:Below w.heap.size w (w.alloc (.map #[] 0)):=TO w _;exact NC (NC (NC b0 FD (Nat.le_refl _)) FE (Nat.le_refl _)) hg3 (Nat.le_refl _)
def sb.f (n:Nat) (a0:Int):Option (BB×Unit):=FP a0
def sb.ae (n:Nat):au:=⟨[.val (.int .i64)],[.val .str],fun x=>sb.f n x.1⟩
theorem sb.aD:dh aZ 170:=eu func170 (by kernel_rfl) (by kernel_rfl)
theorem sb.sound (n:Nat):Sound aZ 170 (sb.ae n):=acK (fun m h0 h1 w=>afJ m h0 h1 w)
def BP.f (n:Nat) (a0:BB):Option (List Int×Bool×Unit):=br (decide (a0=([46]:BB))) (some ([],true,())) ((gB.f n a0 ([44]:BB)).bind fun r1=>iter n (fun Gd j_=>br (decide (j_.1<(r1.1.length:Int))) (ab (0≤j_.1∧j_.1<(r1.1.length:Int)) (let Bj:=(r1.1.getD j_.1.toNat []); (e9.f n Bj).bind fun iA=>br (!iA.2.1) (some ([],false,())) (ab ((j_.2.1.length+([iA.1]:List Int).length)*8≤bo) (Gd (ah (j_.1+1),j_.2.1++[iA.1],()))))) ((eV.f n j_.2.1).bind fun fV=>br (!fV.1) (some ([],false,())) (some (j_.2.1,true,())))) (0,[],()))
def BP.ae (n:Nat):au:=⟨[.val .str],[.sh IS,.val .bool],fun x=>BP.f n x.1⟩
theorem BP.ok (n:Nat):aP 93 (BP.ae n):=aU n [(7,⟨[(4,.own 1000 I),(15,.int .i64)],[(1000,.row true I)],[13,14],[]⟩)] [] (ai ⟨gB.sound n,gB.aD⟩ (ai (e9.ok n) (ai ⟨eV.sound n,eV.aD⟩ aK))) aL func93
def z_.f (n:Nat) (a0:bV) (a1:BB):Option (bV×(BB)×Bool×Unit):=br (decide (a1=([115,116,97,114,116]:BB))) ((uU.f n a0.1).bind fun r1=>some ((a0.1,r1.1,a0.2.2),[111,107],true,())) (br (decide (a1=([119,97,105,116,115]:BB))) ((zW.f n a0.1 a0.2.1).bind fun r2=>iter n (fun Gf ir=>br (decide (ir.1<(r2.1.length:Int))) (ab (0≤ir.1∧ir.1<(r2.1.length:Int)) ((dR.f n (r2.1.getD ir.1.toNat 0)).bind fun cV=>ab ((ir.2.1.length+([cV.1]:List (BB)).length)*16≤bo) (Gf (ah (ir.1+1),ir.2.1++[cV.1],())))) (cut (br (decide ((ir.2.1.length:Int)=0)) (some (.inr ([[110,111,110,101]],()))) (some (.inr (ir.2.1,())))) fun Pz=>(nO.f n Pz.1 ([32]:BB)).bind fun ec=>some (a0,ec.1,true,()))) (0,[],())) (some (a0,[],false,())))
def z_.ae (n:Nat):au:=⟨[.val gu,.val .str],[.sh gu,.val .str,.val .bool],fun x=>z_.f n x.1 x.2.1⟩
theorem z_.ok (n:Nat):aP 95 (z_.ae n):=aU n [(12,⟨[(7,.own 1000 .str),(27,.int .i64)],[(1000,.row true .str)],[2,4,25,26],[]⟩),(20,⟨[(7,.own 1000 .str)],[(1000,.row true .str)],[2,4],[]⟩)] [] (ai (uU.ok n) (ai (zW.ok n) (ai ⟨dR.sound n,dR.aD⟩ (ai ⟨nO.sound n,nO.aD⟩ aK)))) aL func95
theorem j5.afK:Nv aZ 188 9 9:=⟨Tryz.underlying188,oW,oW,fun w=>by kernel_rfl⟩
def j5.cE:List (Nat×LA):=[(2,⟨[(11,.bool)],[],[1,2,3,6,9,10],[]⟩),(10,⟨[(56,.bool)],[],[2,3,6,9],[]⟩),(41,⟨[(141,.bool)],[],[2,3,6,21],[]⟩),(46,⟨[(149,.bool)],[],[1,2,3,6,10,11],[]⟩)]
def j5.f (n:Nat) (a0:bV) (a1:BB) (a2:Int):Option (bV×(BB)×Bool×Unit):=cut (br (decide (0≤a2)) (some (.inr (decide (a2<(a0.1.2.length:Int)),()))) (some (.inr (false,())))) fun y1=>br (decide (a1=([115,112,108,105,99,101]:BB))) ((xq.f n a0.1 a2).bind fun r2=>(sa.f n r2.1 r2.2.1).bind fun r3=>some (r3.1,r3.2.1,r3.2.2.1,())) (br (decide (a1=([99,97,112,115]:BB))) (cut (br (decide (a2<0)) (some (.inr (true,()))) (some (.inr (decide (400<a2),())))) fun y4=>br y4.1 (some (a0,[],false,())) ((tf.f n a0.1 a2).bind fun r5=>some ((a0.1,a0.2.1,r5.1),[111,107],true,()))) (br (decide (a1=([115,116,101,112]:BB))) ((xu.f n a0.1 a0.2.1 a2).bind fun r6=>(dR.f n r6.1.2.2.2).bind fun r7=>some ((a0.1,r6.1,a0.2.2),r7.1,r6.2.1,())) (br (decide (a1=([116,117,114,110,115]:BB))) ((w6.f n a0.1 a0.2.1 a2).bind fun r8=>br r8.2.1 (some ((a0.1,r8.1,a0.2.2),[113,117,105,101,116],true,())) (some ((a0.1,r8.1,a0.2.2),[98,117,115,121],true,()))) (br (decide (a1=([98,111,117,110,100,101,100]:BB))) ((pS.f n a0.1 a0.2.1 a0.2.2 a2).bind fun r9=>(sb.f n r9.2.1).bind fun gv=>some ((a0.1,r9.1,a0.2.2),gv.1,true,())) (br (decide (a1=([112,97,114,107,115]:BB))) ((w4.f n a0.1 a0.2.1 a0.2.2 a2).bind fun dT=>(sb.f n dT.2.2.1).bind fun fh=>some ((a0.1,dT.1,dT.2.1),fh.1,true,())) (br (decide (a1=([108,101,97,115,116]:BB))) ((xo.f n a0.1).bind fun fU=>cut (br (!fU.2.2.1) (some (.inr (true,()))) (some (.inr (!y1.1,())))) fun oH=>br oH.1 (some (a0,[],false,())) (ab (0≤a2∧a2<(fU.1.length:Int)) ((lJ.f n (fU.1.getD a2.toNat [])).bind fun fV=>some (a0,fV.1,true,())))) (cut (br (decide (a1=([115,101,110,116]:BB))) (some (.inr (decide (a1=([115,101,110,116]:BB)),()))) (br (decide (a1=([113,117,101,117,101]:BB))) (some (.inr (decide (a1=([113,117,101,117,101]:BB)),()))) (some (.inr (decide (a1=([114,111,111,109]:BB)),()))))) fun Qg=>br Qg.1 (br (!y1.1) (some (a0,[],false,())) (br (decide (a1=([115,101,110,116]:BB))) (ab (0≤a2∧a2<(a0.2.1.2.2.1.length:Int)) (let G4:=(a0.2.1.2.2.1.getD a2.toNat []); (lJ.f n G4).bind fun dw=>ab (0≤a2∧a2<(a0.2.1.2.1.length:Int)) (let GY:=(a0.2.1.2.1.getD a2.toNat []); (lJ.f n GY).bind fun jM=>ab (0≤a2∧a2<(a0.2.2.length:Int)) ((dR.f n (a0.2.2.getD a2.toNat 0)).bind fun cV=>ab (dw.1.length<bU) (ab (jM.1.length<bU) (ab (cV.1.length<bU) (some (a0,dw.1,true,())))))))) (br (decide (a1=([113,117,101,117,101]:BB))) (ab (0≤a2∧a2<(a0.2.1.2.2.1.length:Int)) (let G2:=(a0.2.1.2.2.1.getD a2.toNat []); (lJ.f n G2).bind fun ec=>ab (0≤a2∧a2<(a0.2.1.2.1.length:Int)) (let v24:=(a0.2.1.2.1.getD a2.toNat []); (lJ.f n v24).bind fun oN=>ab (0≤a2∧a2<(a0.2.2.length:Int)) ((dR.f n (a0.2.2.getD a2.toNat 0)).bind fun km=>ab (ec.1.length<bU) (ab (oN.1.length<bU) (ab (km.1.length<bU) (some (a0,oN.1,true,())))))))) (br (decide (a1=([114,111,111,109]:BB))) (ab (0≤a2∧a2<(a0.2.1.2.2.1.length:Int)) (let wY:=(a0.2.1.2.2.1.getD a2.toNat []); (lJ.f n wY).bind fun eB=>ab (0≤a2∧a2<(a0.2.1.2.1.length:Int)) (let Qd:=(a0.2.1.2.1.getD a2.toNat []); (lJ.f n Qd).bind fun cF=>ab (0≤a2∧a2<(a0.2.2.length:Int)) ((dR.f n (a0.2.2.getD a2.toNat 0)).bind fun lG=>ab (eB.1.length<bU) (ab (cF.1.length<bU) (ab (lG.1.length<bU) (some (a0,lG.1,true,())))))))) (none))))) (some (a0,[],false,())))))))))
def j5.ae (n:Nat):au:=⟨[.val gu,.val .str,.val I],[.sh gu,.val .str,.val .bool],fun x=>j5.f n x.1 x.2.1 x.2.2.1⟩
def j5.cfg (n:Nat):ba:=⟨mS,[(166,xq.ae n),(89,sa.ae n),(152,tf.ae n),(167,xu.ae n),(164,dR.ae n),(168,w6.ae n),(169,pS.ae n),(170,sb.ae n),(171,w4.ae n),(172,xo.ae n),(173,lJ.ae n)],[],[2900188]⟩
theorem j5.eq:∀ (n:Nat) (a0:bV) (a1:BB) (a2:Int),AA (j5.cfg n) n f96 (fm f96 j5.cE) [.val gu,.val .str,.val I] [.sh gu,.val .str,.val .bool] (a0,a1,a2,())=j5.f n a0 a1 a2:=by intros;kernel_rfl
theorem j5.aD:dh aZ 96:=eu func96 (by kernel_rfl) (by kernel_rfl)
theorem j5.sound (n:Nat):Sound aZ 96 (j5.ae n):=Ix (fn:=f96) (m:=j5.ae n) (c:=j5.cfg n) (acG mixed (sU (.of (c:=j5.cfg n) ⟨xq.ok n,⟨sa.ok n,⟨tf.ok n,⟨xu.ok n,⟨⟨dR.sound n,dR.aD⟩,⟨w6.ok n,⟨pS.ok n,⟨⟨sb.sound n,sb.aD⟩,⟨w4.ok n,⟨xo.ok n,⟨lJ.ok n,trivial⟩⟩⟩⟩⟩⟩⟩⟩⟩⟩⟩) (.of (c:=j5.cfg n) trivial)) (eo kC) rfl j5.afK) (eo kC) func96 (fun x=>(j5.eq n x.1 x.2.1 x.2.2.1).symm)
def z7.f (n:Nat) (a0:bV) (a1 a2:Int):Option (bV×(BB)×Bool×Unit):=cut (br (decide (a1<0)) (some (.inr (true,()))) (some (.inr (decide ((a0.1.2.length:Int)≤a1),())))) fun y1=>br y1.1 (some (a0,[],false,())) ((za.f n a0.1 a0.2.1 a1 a2 20000).bind fun r2=>br r2.2.1 (some ((a0.1,r2.1,a0.2.2),[109,101,116],true,())) (some ((a0.1,r2.1,a0.2.2),[102,97,105,108,101,100],true,())))
def z7.ae (n:Nat):au:=⟨[.val gu,.val I,.val I],[.sh gu,.val .str,.val .bool],fun x=>z7.f n x.1 x.2.1 x.2.2.1⟩
theorem z7.ok (n:Nat):aP 97 (z7.ae n):=aU n [(1,⟨[(20,.bool)],[],[1,2,3,6],[]⟩)] [] (ai (za.ok n) aK) aL func97
def sc.f (n:Nat) (a0:bV) (a1:BB):Option (bV×(BB)×Bool×Unit):=(vl.f n a1 ([108,111,97,100,32]:BB)).bind fun r1=>br r1.2.1 ((vm.f n r1.1 ([124]:BB) ([10]:BB)).bind fun r5=>(qP.f n r5.1).bind fun r6=>(sa.f n r6.1 r6.2.1).bind fun r7=>some (r7.1,r7.2.1,r7.2.2.1,())) ((gB.f n a1 ([32]:BB)).bind fun r8=>cut (ab ((0:Int)≤0∧0<(r8.1.length:Int)) (br (decide ((r8.1.getD 0 [])=([102,101,101,100]:BB))) (some (.inr (decide ((r8.1.length:Int)=3),()))) (some (.inr (false,()))))) fun y9=>br y9.1 (ab ((0:Int)≤1∧(1:Int)≤2∧2≤(r8.1.length:Int)) ((pZ.f n ((r8.1.take 2).drop 1)).bind fun fV=>ab ((0:Int)≤2∧(2:Int)<(r8.1.length:Int)) ((BP.f n (r8.1.getD 2 [])).bind fun jf=>cut (br (!fV.2.1) (some (.inr (true,()))) (some (.inr (!jf.2.1,())))) fun ND=>br ND.1 (some (a0,[],false,())) (ab ((0:Int)≤0∧0<(fV.1.length:Int)) ((zP.f n a0.1 (fV.1.getD 0 0) jf.1).bind fun dw=>(sa.f n dw.1 dw.2.1).bind fun nF=>some (nF.1,nF.2.1,nF.2.2.1,())))))) (ab ((0:Int)≤1∧(1:Int)≤(r8.1.length:Int)∧(r8.1.length:Int)≤(r8.1.length:Int)) ((pZ.f n ((r8.1.take (r8.1.length:Int).toNat).drop 1)).bind fun jM=>br (!jM.2.1) (some (a0,[],false,())) (br (decide ((jM.1.length:Int)=0)) (ab ((0:Int)≤0∧0<(r8.1.length:Int)) ((z_.f n a0 (r8.1.getD 0 [])).bind fun cV=>some (cV.1,cV.2.1,cV.2.2.1,()))) (br (decide ((jM.1.length:Int)=1)) (ab ((0:Int)≤0∧0<(r8.1.length:Int)) (ab ((0:Int)≤0∧0<(jM.1.length:Int)) ((j5.f n a0 (r8.1.getD 0 []) (jM.1.getD 0 0)).bind fun gA=>some (gA.1,gA.2.1,gA.2.2.1,())))) (cut (br (decide ((jM.1.length:Int)=2)) (ab ((0:Int)≤0∧0<(r8.1.length:Int)) (some (.inr (decide ((r8.1.getD 0 [])=([100,101,109,97,110,100]:BB)),())))) (some (.inr (false,())))) fun w5=>br w5.1 (ab ((0:Int)≤0∧0<(jM.1.length:Int)) (ab ((0:Int)≤1∧(1:Int)<(jM.1.length:Int)) ((z7.f n a0 (jM.1.getD 0 0) (jM.1.getD 1 0)).bind fun G3=>some (G3.1,G3.2.1,G3.2.2.1,())))) (some (a0,[],false,()))))))))
def sc.ae (n:Nat):au:=⟨[.val gu,.val .str],[.sh gu,.val .str,.val .bool],fun x=>sc.f n x.1 x.2.1⟩
theorem sc.ok (n:Nat):aP 38 (sc.ae n):=aU n [(6,⟨[(41,.bool)],[],[2,4,9],[]⟩),(10,⟨[(60,.bool)],[],[2,4,10,12],[]⟩),(25,⟨[(112,.bool)],[],[2,4,14],[]⟩)] [] (ai (vl.ok n) (ai ⟨vm.sound n,vm.aD⟩ (ai (qP.ok n) (ai (sa.ok n) (ai ⟨gB.sound n,gB.aD⟩ (ai (pZ.ok n) (ai (BP.ok n) (ai (zP.ok n) (ai (z_.ok n) (ai ⟨j5.sound n,j5.aD⟩ (ai (z7.ok n) aK))))))))))) aL func38
def tH.f (n:Nat) (a0:bV) (a1:BB):Option (bV×(BB)×Unit):=(zY.f n a0).bind fun r1=>br (!r1.1) ((vj.f n a0).bind fun r3=>some (r3.1,[110,111],())) ((vj.f n a0).bind fun r4=>(sc.f n r4.1 a1).bind fun r5=>br (!r5.2.2.1) ((vj.f n a0).bind fun r6=>some (r6.1,[110,111],())) (some (r5.1,r5.2.1,())))
def tH.ae (n:Nat):au:=⟨[.val gu,.val .str],[.sh gu,.val .str],fun x=>tH.f n x.1 x.2.1⟩
theorem tH.ok (n:Nat):aP 13 (tH.ae n):=aU n [] [] (ai (zY.ok n) (ai (vj.ok n) (ai (sc.ok n) aK))) aL func13
end Go.AmT
namespace Go.AmT
variable {d:bV} {n:Nat}
def kN (a b:UInt8) (s:BB):BB:=s.map fun c=>if c=a then b else c
theorem Qh (a b:UInt8):∀ s:BB,Lib.replaceK [a] [b] (Lib.count s [a]) s=kN a b s
 | []=>by rw [Qe (by simp [jK])]; rfl
 | x::xs=>by
  by_cases h:x=a
  ·subst h;have Ba:jK (x::xs) [x]=((0:Nat):Int):=by rw [jK]; simp [List.isPrefixOf]
   rw [Lib.count_cons_eq,Nat.add_comm,Qf _ _ _ _ 0 Ba];have ih:=Qh x b xs;simp only [List.take_zero,List.nil_append,iQ,Nat.zero_add,List.drop_one,List.tail_cons];rw [ih];unfold kN;rw [List.map_cons,if_pos rfl]; rfl
  rw [Lib.count_cons_ne x a xs h];have ih:=Qh a b xs;have e:kN a b (x::xs)=x::kN a b xs:=by unfold kN; rw [List.map_cons,if_neg h]
  have hp:([a]:BB).isPrefixOf (x::xs)=false:=by simp [List.isPrefixOf,Ne.symm h]
  have Ba:jK (x::xs) [a]=if jK xs [a]==-1 then -1 else jK xs [a]+1:=by rw [jK,hp]; simp
  rw [e];by_cases hm:jK xs [a] = -1
  ·rw [Qe hm] at ih ⊢;rw [← ih]; rfl
  have CC:=Lib.index_ge xs [a];obtain ⟨j,hj⟩:∃ j:Nat,jK xs [a]=j:=⟨(jK xs [a]).toNat,by omega⟩
  have Nj:jK (x::xs) [a]=((j+1:Nat):Int):=by rw [Ba,if_neg (fun e=>hm (beq_iff_eq.1 e)),hj]; omega
  rw [Lib.count_hit (by simp) hj,Nat.add_comm] at ih ⊢;rw [Qf _ _ _ _ (j+1) Nj,← ih,Qf _ _ _ _ j hj];simp
theorem afL {a b:UInt8} (h:a≠b) (s:BB):Lib.replaceAll s [a] [b]=kN a b s:=by unfold Lib.replaceAll Lib.replace Lib.replaceNum;rw [if_neg (by simp [h]),if_pos (.inl (by decide))];exact Qh a b s
theorem Qi (a b:UInt8) (s:BB):(kN a b s).length=s.length:=by simp [kN]
theorem count_le (a:UInt8):∀ s:BB,Lib.count s [a]≤s.length
 | []=>by rw [Qe (by simp [jK])]; simp
 | x::xs=>by
  have ih:=count_le a xs;by_cases h:x=a
  ·subst h;rw [Lib.count_cons_eq,List.length_cons]; omega
  rw [Lib.count_cons_ne x a xs h,List.length_cons]; omega
structure eI (d:bV):Prop where
 st:bG d.1 d.2.1
 caps:fi d.1.2 d.2.2=true
 small:dq d.1
theorem eI.sd (h:eI d):kf d.2.1:=mg h.st
theorem eI.z8 (h:eI d):d.2.2.length≤1048576:=by have h1:=qG h.caps;have h2:=h.st.cf.dB;omega
theorem afM (h:eI d) (hn:1048576<n):zY.f n d=some (true,()):=by unfold zY.f;rw [Dj h.small h.sd hn,ao];simp only [s9 h.st,aB];rw [UD h.small h.z8 hn,ao];simp only [Jt h.st.cf,h.caps]; rfl
theorem afN (h:eI d) (hn:1048576<n):vj.f n d=some (d,()):=by unfold vj.f;rw [Kj h.small hn,ao];dsimp only;rw [UW h.sd hn,ao];dsimp only;rw [XJ h.z8,ao]
theorem Qj (s p:BB):vk.f n s p=some (decide (s.take p.length=p),()):=by
 unfold vk.f;by_cases h:p.length≤s.length
 ·rw [aG (by omega),af (by omega),List.drop_zero,ay]
 rw [av (by omega),decide_eq_false];intro e;have:=congrArg List.length e;rw [List.length_take] at this;omega
theorem afO (p t:BB):vl.f n (p++t) p=some (t,true,()):=by unfold vl.f zZ.f;rw [Qj,ao];dsimp only;rw [List.take_left,decide_eq_true rfl];simp only [bf,ar];rw [af (by rw [List.length_append]; omega)];simp only [aC,ay,List.take_length,List.drop_left]
theorem afP {s p:BB} (h:s.take p.length≠p):vl.f n s p=some (s,false,()):=by unfold vl.f zZ.f;rw [Qj,ao];dsimp only;rw [decide_eq_false h]; rfl
theorem afQ {line:BB} (h:eI d) (hn:1048576<n):tH.f n d line=(sc.f n d line).bind fun r5=>br (!r5.2.2.1) (some (d,[110,111],())) (some (r5.1,r5.2.1,())):=by unfold tH.f;rw [afM h hn,ao];simp only [bf,ar];rw [afN h hn,ao,ao]
abbrev Qk:BB:=[99,97,112,115]
abbrev Ql:BB:=[116,117,114,110,115]
abbrev Qm:BB:=[98,111,117,110,100,101,100]
abbrev Kn:BB:=[108,101,97,115,116]
abbrev Ko:BB:=[115,101,110,116]
theorem XU {nt:aq} (o:cK nt) {c:Int} (h0:0≤c) (h1:c≤400):fi nt.2 (u_ nt c)=true:=by
 unfold u_;rw [Jt o,decide_eq_true (show 0≤c∧c≤400 from ⟨h0,h1⟩)];simp only [Bool.and_self,if_true];unfold fi;rw [aw,decide_eq_true_eq,List.all_eq_true];refine ⟨by simp,fun j hj=>?_⟩;have hj:=List.mem_range.1 hj;rw [List.length_map] at hj;have ht:=(oX (o.ji j hj)).1;have e1:(nt.2.map fun l=>max c (l.2.2.2.2.length:Int)).getD j 0=max c ((nt.2.getD j aE).2.2.2.2.length:Int):=by rw [aJ (by simpa using hj),aJ hj]; simp
 rw [e1,aJ hj,aw,decide_eq_true_eq,decide_eq_true_eq];omega
theorem afR {nt:aq} (o:cK nt) (hS:dq nt) {c:Int} (h0:0≤c) (h1:c≤400):eI (nt,start nt,u_ nt c):=⟨UY o,XU o h0 h1,hS⟩
abbrev zD:bV:=(([],[]),([],[],[],0),[])
theorem afS:eI zD:=by
 have on:cK (([],[]):aq):=⟨by simp,by simp,fun i hi=>absurd hi (by simp),fun i hi=>absurd hi (by simp),fun i hi=>absurd hi (by simp),fun i hi=>absurd hi (by simp),fun i hi=>absurd hi (by simp)⟩
 exact ⟨⟨on,rfl,rfl,rfl,by decide,fun i hi=>absurd hi (by simp),fun i hi=>absurd hi (by simp)⟩,by decide,⟨by simp,by simp,by simp,by simp⟩⟩
end Go.AmT
