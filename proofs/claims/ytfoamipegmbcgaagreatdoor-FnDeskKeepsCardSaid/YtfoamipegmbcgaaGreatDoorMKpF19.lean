/- Desks and lines that are drawn, in plain Lean: the desks are valid, the lines short. -/
import Derived.Test.YtfoamipegmbcgaaGreatDoorLGenD
import Derived.Test.YtfoamipegmbcgaaGreatDoorMKpF9
import Derived.Test.YtfoamipegmbcgaaGreatDoorMKpF17
namespace Go.AmT
open Go Go.Am
set_option linter.unusedVariables false
set_option linter.unusedSimpArgs false
abbrev rv:Type:=List Int×(Int×(Int×Unit))
theorem ZG {n:Nat} {b:List Int} (hb:b.length≤1048576) (hn:1048576<n) {c:rv} (hc:ct b c) :
  W (oQ.f n c.1 c.2.1 c.2.2.1) (fun r=>Es 4 (r.2.1,r.2.2.1)∧bq (r.2.1,r.2.2.1) (r.2.2.2.1,(r.2.2.2.2.1,(r.2.2.2.2.2.1,r.1)))∧ct b r.2.2.2.2.2.2):=by
 unfold oQ.f
 rw [aB]
 refine au (tf hb (by simp) hc) (fun r1 ⟨_,c1⟩=>?_)
 rw [aB]
 refine au (Oi (m:=4) hb (by omega) hn c1) (fun r2 ⟨hN,c2⟩=>?_)
 have o:=hN.ok
 have hp:=o.ew
 have hS:=hN.small
 rw [V9 hS o hn,aA,aB]
 refine au (eI hb c2) (fun r4 ⟨⟨a0,a1,_⟩,c4⟩=>?_)
 have a1:=a1 (by omega)
 refine qD (fun x=>0≤x.1∧x.1≤60∧ct b (x.2.1,(x.2.2.1,(x.2.2.2.1,())))∧bq (r2.1,r2.2.1) (x.2.2.2.2.2.1,(x.2.2.2.2.2.2.1,(x.2.2.2.2.2.2.2.1,x.2.2.2.2.1)))) (fun x=>x.1.toNat) (fun ih x hx jW=>?_) ⟨a0,by show r4.1≤60; omega,c4,HU o⟩ (by show r4.1.toNat<n; omega)
 obtain ⟨k,cb,ci,ch,t,A,Q,H,⟨⟩⟩:=x
 obtain ⟨k0,kr,k1,k2⟩:=hx
 simp only at k0 kr k1 k2
 by_cases hk:0<k
 ·simp only [aZ hk]
  rw [aB]
  refine au (eI (c:=(cb,(ci,(ch,())))) hb k1) (fun pV ⟨⟨b0,b1,_⟩,c24⟩=>?_)
  unfold xd.f
  rw [aZ b0]
  simp only [Option.bind_some]
  obtain ⟨p,jd⟩:∃ p:Nat,pV.1=(p:Int):=⟨pV.1.toNat,by omega⟩
  rw [jd,bo (n:=k-1) (by omega) (by omega)]
  have kf:∀ Q':_→Prop,(∀ x',(0≤x'.1∧x'.1≤60∧ct b (x'.2.1,(x'.2.2.1,(x'.2.2.2.1,())))∧bq (r2.1,r2.2.1) (x'.2.2.2.2.2.1,(x'.2.2.2.2.2.2.1,(x'.2.2.2.2.2.2.2.1,x'.2.2.2.2.1))))→x'.1.toNat<k.toNat→W (ih x') Q')→W (ih (k-1,(pV.2.1,(pV.2.2.1,(pV.2.2.2.1,(t,(A,(Q,(H,()))))))))) Q':=fun Q' jW=>jW _ ⟨by simp only; omega,by simp only; omega,c24,k2⟩ (by simp only; omega)
  have kf:=kf _ jW
  by_cases ao:(p:Int)<(r2.1.length:Int)
  ·have dL:p<r2.1.length:=by omega
   have zv:sP.f n (r2.1,r2.2.1) (A,(Q,(H,t))) (p:Int)=some (dH (r2.1,r2.2.1) (A,(Q,(H,t))) p,()):=VE k2 dL hn
   rw [decide_eq_true ao,aL,zv]
   simp only [Option.bind_some,bF]
   cases hc:dH (r2.1,r2.2.1) (A,(Q,(H,t))) p
   ·rw [aF]; exact kf
   ·rw [aL]
    have cI:=VT (n:=n) k2 (nB k2) dL hc hn
    simp only at cI
    rw [cI]
    simp only [Option.bind_some]
    exact jW _ ⟨by simp only; omega,by simp only; omega,c24,zu k2 dL hc⟩ (by simp only; omega)
  ·rw [decide_eq_false ao,aF,bF,aF]; exact kf
 ·simp only [aK hk]
  rw [aj]
  exact ⟨hN,k2,k1⟩
theorem ZH {n:Nat} {b:List Int} (hb:b.length≤1048576) {ps:List Program} {ls:List aG} (hl:ls.length≤1000) (hn:1048576<n) {c:rv} (hc:ct b c) :
  W (oS.f n c.1 c.2.1 c.2.2.1 ps ls) (fun r=>r.1.length≤1048576∧r.2.2.2.2.1=ps∧r.2.2.2.2.2.1=ls):=by
 unfold oS.f
 refine fA (fun i (x:rv×List Int)=>((i:Int),(x.1.1,(x.1.2.1,(x.1.2.2.1,(x.2,())))))) ls.length (fun i x=>ct b x.1∧x.2.length=i) (s0:=(c,[])) rfl ⟨hc,rfl⟩ (by omega) (fun ih x hI=>?_) (fun ih i x hi hI hS=>?_)
 rotate_left
 ·obtain ⟨c2,l2⟩:=hI
  simp only [aZ (show (i:Int)<(ls.length:Int) by omega)]
  rw [ah (by omega),aB]
  refine au (tf hb (by simp) c2) (fun r ⟨_,c3⟩=>?_)
  rw [bZ (by simp only [List.length_singleton]; omega),bm (by omega)]
  exact hS (r.2,_) ⟨c3,by simp [l2]⟩
 obtain ⟨c1,l1⟩:=hI
 simp only [aK (Int.lt_irrefl _)]
 rw [e_]
 refine au (P:=fun s=>∃ y:Bool×rv,s=Sum.inr y∧ct b y.2∧(y.1=true→0<x.2.length)) ?_ (fun s ⟨y,e,c2,h0⟩=>?_)
 ·rw [bI]
  refine ⟨fun h0=>?_,fun _=>aj.2 ⟨_,rfl,c1,fun h=>by cases h⟩⟩
  rw [aB]
  exact au (nF hb c1) (fun r c3=>aj.2 ⟨_,rfl,c3,fun _=>by omega⟩)
 subst e
 dsimp only
 rw [e_]
 refine au (P:=fun s=>∃ y:List Int×(Int×(Int×(List Int×Unit))),s=Sum.inr y∧ct b (y.1,(y.2.1,(y.2.2.1,())))∧y.2.2.2.1.length≤1000) ?_ (fun s ⟨z,e,c3,h3⟩=>?_)
 ·rw [bH]
  refine ⟨fun hy=>?_,fun _=>aj.2 ⟨_,rfl,c2,by show x.2.length≤1000; omega⟩⟩
  have h0:=h0 hy
  rw [aB]
  refine au (eI hb c2) (fun r ⟨⟨a0,a1,_⟩,c3⟩=>?_)
  have a1:=a1 (by omega)
  rw [aB]
  refine au (tf hb (by simp) c3) (fun r2 ⟨_,c4⟩=>?_)
  rw [ah ⟨a0,a1⟩]
  exact aj.2 ⟨_,rfl,c4,by simp; omega⟩
 subst e
 dsimp only
 rw [aB]
 refine au (nF hb c3) (fun r c4=>?_)
 rw [bH]
 refine ⟨fun _=>?_,fun _=>aj.2 ⟨by show z.2.2.2.1.length≤_; omega,rfl,rfl⟩⟩
 rw [bZ (by simp only [List.length_singleton]; omega)]
 exact aj.2 ⟨by simp; omega,rfl,rfl⟩
theorem Pw {n:Nat} {d:dj} (h1:cL d.1) (h2:jt d.2.1) (h3:d.2.2.length≤1048576) (hn:1048576<n):pX.f n d=some (fC d.1 d.2.1&&dY d.1.2 d.2.2,()):=by
 unfold pX.f
 rw [Vz h1 h2 h3 hn,aA]
theorem ZI {n:Nat} {code:List Int} (hb:code.length≤1048576) (hn:1048576<n):W (tD.f n code) (fun r=>j3 r.1):=by
 unfold tD.f
 rw [aB]
 refine au (N5 hb hn) (fun r1 c1=>?_)
 unfold pY.f
 rw [aB,aB]
 refine au (ZG hb hn c1) (fun r2 ⟨hN,o,c2⟩=>?_)
 have hl:=hN.ok.dt
 have hl:r2.2.2.1.length≤1000:=by simp only at hl; omega
 rw [aB]
 refine au (ZH hb hl hn c2) (fun r3 ⟨h3,e1,e2⟩=>?_)
 rw [e1,e2,Pw hN.small (nB o) h3 hn,aA,pt]
 refine ⟨fun _=>?_,fun h=>?_⟩
 ·rw [Wz hN.small hn,aA]
  exact aj.2 (aj.2 ⟨o,I_ hN.ok (by omega) (by omega),hN.small⟩)
 ·rw [Bool.and_eq_true] at h
  exact aj.2 (aj.2 ⟨o,h.2,hN.small⟩)
theorem ZJ {n:Nat} {b:List Int} (hb:b.length≤1048576) (hn:1048576<n) {c:rv} (hc:ct b c):W (oT.f n 4 c.1 c.2.1 c.2.2.1) (fun r=>r.1.length≤1000∧ct b r.2):=by
 unfold oT.f
 rw [bo (n:=(4:Int)+1) (by omega) (by omega),aB]
 refine au (eI hb hc) (fun r1 ⟨⟨a0,a1,_⟩,c1⟩=>?_)
 have a1:=a1 (by omega)
 refine qD (fun x=>0≤x.1∧x.1+(x.2.2.2.2.1.length:Int)≤4∧ct b (x.2.1,(x.2.2.1,(x.2.2.2.1,())))) (fun x=>x.1.toNat) (fun ih x hx hS=>?_) ⟨a0,by simp only [List.length_nil]; omega,c1⟩ (by show r1.1.toNat<n; omega)
 obtain ⟨k,cb,ci,ch,l,⟨⟩⟩:=x
 obtain ⟨k0,k1,k2⟩:=hx
 simp only at k0 k1 k2
 by_cases hk:0<k
 ·simp only [aZ hk]
  rw [aB]
  refine au (N7 (c:=(cb,(ci,(ch,())))) hb k2) (fun r2 ⟨_,h2⟩=>?_)
  rw [bZ (by simp only [List.length_singleton]; omega),bo (n:=k-1) (by omega) (by omega)]
  exact hS _ ⟨by simp only; omega,by simp only [List.length_append,List.length_singleton]; omega,h2⟩ (by simp only; omega)
 ·simp only [aK hk]
  rw [aB]
  refine au (nF (c:=(cb,(ci,(ch,())))) hb k2) (fun r2 c2=>?_)
  rw [e_]
  refine au (P:=fun s=>∃ y:List Int×(Int×(Int×(List Int×Unit))),s=Sum.inr y∧ct b (y.1,(y.2.1,(y.2.2.1,())))∧y.2.2.2.1.length≤100) ?_ (fun s ⟨z,e,c3,h3⟩=>?_)
  ·rw [bH]
   refine ⟨fun _=>?_,fun _=>aj.2 ⟨_,rfl,c2,by show l.length≤100; omega⟩⟩
   rw [aB]
   refine au (tf hb (by simp) c2) (fun r3 ⟨_,c3⟩=>?_)
   rw [bZ (by simp only [List.length_singleton]; omega)]
   exact aj.2 ⟨_,rfl,c3,by simp; omega⟩
  subst e
  dsimp only
  rw [aB]
  refine au (nF hb c3) (fun r4 c4=>?_)
  rw [bH]
  refine ⟨fun _=>?_,fun _=>aj.2 ⟨by show z.2.2.2.1.length≤1000; omega,c4⟩⟩
  rw [aB]
  refine au (eI hb c4) (fun r5 ⟨⟨b0,b1,_⟩,c5⟩=>?_)
  have b1:=b1 (by omega)
  rw [bo (by omega) (by omega),ah ⟨trivial,by omega,by rw [mr]; omega⟩]
  exact aj.2 ⟨by simp; omega,c5⟩
theorem ZK {n:Nat} {b:List Int} (hb:b.length≤1048576) {l:List (List UInt8)} (hl:0<l.length) {c:rv} (hc:ct b c):W (oU.f n l c.1 c.2.1 c.2.2.1) (fun r=>ct b r.2):=by
 unfold oU.f
 rw [aB]
 refine au (eI hb hc) (fun r ⟨⟨h0,h1,_⟩,h⟩=>?_)
 have h1:=h1 (by omega)
 rw [ah ⟨h0,h1⟩]
 exact aj.2 h
structure nJ (ps:List Program) (ls:List aG):Prop where
 pl:ps.length≤100
 pc:∀ p∈ps,p.2.2.length≤100
 ll:ls.length≤1000
 lt:∀ l∈ls,l.2.2.2.2.length≤100
theorem nJ.small {ps:List Program} {ls:List aG} (A:nJ ps ls) (i j:Nat):cL (ps,(ls.drop i).take j):=
 ⟨Nat.le_trans A.pl (by omega),fun p hp=>⟨Nat.le_trans (A.pc p hp) (by omega)⟩,by have:=A.ll; simp only [List.length_take,List.length_drop]; omega,fun l hl=>⟨Nat.le_trans (A.lt l (List.mem_of_mem_drop (List.mem_of_mem_take hl))) (by omega)⟩⟩
theorem nJ.prog {ps:List Program} {ls:List aG} (A:nJ ps ls) {p:Program} (h:ps.length<100) (hp:p.2.2.length≤100):nJ (ps++[p]) ls:=⟨by simp; omega,vc A.pc hp,A.ll,A.lt⟩
theorem nJ.set {ps:List Program} {ls:List aG} (A:nJ ps ls) (i:Nat) {l:aG} (hl:l.2.2.2.2.length≤100):nJ ps (ls.set i l):=⟨A.pl,A.pc,by simp; exact A.ll,fun x hx=>by
 rcases List.mem_or_eq_of_mem_set hx with h | h
 ·exact A.lt x h
 ·rw [h]; exact hl⟩
theorem nJ.at {ps:List Program} {ls:List aG} (A:nJ ps ls) (i:Nat) (hi:i<ls.length):(ls.getD i aM).2.2.2.2.length≤100:=by rw [aH hi]; exact A.lt _ (List.getElem_mem hi)
theorem ZL {n:Nat} {b:List Int} (hb:b.length≤1048576) (hn:1048576<n) {c:rv} (hc:ct b c):W (oV.f n c.1 c.2.1 c.2.2.1) (fun r=>cL (r.2.2.1,(r.2.2.2.1.drop r.1).take r.2.1)∧ct b r.2.2.2.2):=by
 unfold oV.f
 rw [aB]
 refine au (Oi (m:=5) hb (by omega) hn hc) (fun r1 ⟨hN,c1⟩=>?_)
 have A:nJ r1.1 r1.2.1:=⟨Nat.le_trans hN.ew (by omega),fun p hp=>(hN.drawn p hp).code,by have:=hN.ok.dt; simp only at this; omega,fun l hl=>Nat.le_trans (hN.gQ l hl).1 (by omega)⟩
 have h5:r1.1.length≤5:=hN.ew
 have hL:r1.2.1.length≤100:=by have:=hN.ok.dt; simp only at this; omega
 rw [aB]
 refine au (nF hb c1) (fun r2 c2=>?_)
 rw [bH]
 refine ⟨fun _=>?_,fun _=>aj.2 ⟨A.small _ _,c2⟩⟩
 rw [aB]
 refine au (eI hb c2) (fun r3 ⟨_,c3⟩=>?_)
 rw [bI]; refine ⟨fun _=>?_,fun _=>?_⟩
 ·unfold xF.f
  rw [aA,aB]
  refine au (ZK hb (by simp) c3) (fun r4 c4=>?_)
  rw [aB]
  refine au (Oa hn) (fun r5 ZM=>?_)
  rw [bZ (by simp only [List.length_singleton]; omega)]
  exact aj.2 ⟨(A.prog (by omega) ZM.code).small _ _,c4⟩
 rw [bI]; refine ⟨fun _=>?_,fun _=>?_⟩
 ·rw [aB]
  refine au (tf hb (by simp) c3) (fun r4 ⟨_,c4⟩=>?_)
  rw [bZ (by simp only [List.length_singleton]; omega)]
  exact aj.2 ⟨(nJ.mk A.pl A.pc (by simp; omega) (vc A.lt (by simp))).small _ _,c4⟩
 rw [bI]; refine ⟨fun _=>?_,fun _=>?_⟩
 ·rw [bI]
  refine ⟨fun h0=>?_,fun _=>aj.2 ⟨A.small _ _,c3⟩⟩
  rw [aB]
  refine au (eI hb c3) (fun r4 ⟨⟨a0,a1,_⟩,c4⟩=>?_)
  rw [ah ⟨a0,a1 h0⟩]
  exact aj.2 ⟨(A.set _ (by simp)).small _ _,c4⟩
 rw [bI]; refine ⟨fun _=>?_,fun _=>?_⟩
 ·rw [bI]
  refine ⟨fun h0=>?_,fun _=>aj.2 ⟨A.small _ _,c3⟩⟩
  rw [aB]
  refine au (eI hb c3) (fun r4 ⟨⟨a0,a1,_⟩,c4⟩=>?_)
  have a1:=a1 h0
  rw [aB]
  refine au (tf hb (by simp) c4) (fun r5 ⟨_,c5⟩=>?_)
  rw [ah ⟨a0,a1⟩]
  exact aj.2 ⟨(A.set r4.1.toNat (l:=(_,(_,(_,(r5.1,(r1.2.1.getD r4.1.toNat aM).2.2.2.2))))) (A.at r4.1.toNat (by omega))).small _ _,c5⟩
 rw [bI]; refine ⟨fun _=>?_,fun _=>?_⟩
 ·rw [bI]
  refine ⟨fun h0=>?_,fun _=>aj.2 ⟨A.small _ _,c3⟩⟩
  rw [ah (by omega)]
  exact aj.2 ⟨A.small _ _,c3⟩
 refine qD (fun x=>nJ x.1 x.2.1∧x.1.length≤13) (fun x=>13-x.1.length) (fun ih x hx hS=>?_) ⟨A,by show r1.1.length≤13; omega⟩ (by show 13-r1.1.length<n; omega)
 obtain ⟨ps,ls,⟨⟩⟩:=x
 obtain ⟨B,hB⟩:=hx
 simp only at B hB
 rw [bI]
 refine ⟨fun ZN=>?_,fun _=>aj.2 ⟨B.small _ _,c3⟩⟩
 simp only at ZN
 rw [bZ (by simp only [List.length_singleton]; omega)]
 exact hS _ ⟨B.prog (by omega) (by simp),by simp; omega⟩ (by simp; omega)
theorem ZO {n:Nat} {nt:ai} (hS:cL nt) (hn:1048576<n):W (vS.f n nt) (fun r=>r.1.length≤1000000):=by
 unfold vS.f
 rw [IG hS hn,aA]
 have hl:(vo nt).length≤150000:=by
  unfold vo
  split
  ·rename_i h; exact X2 (xy h)
  ·simp
 dsimp only
 generalize vo nt=t at hl
 refine fA (fun (i:Nat) (o:List UInt8)=>(o,((i:Int),()))) t.length (fun i o=>o.length≤i+5) (s0:=[108,111,97,100,32]) rfl (by simp) (by omega) (fun ih o hI=>?_) (fun ih i o hi hI jW=>?_)
 ·have hI:o.length≤t.length+5:=hI
  simp only [aK (Int.lt_irrefl _)]
  exact aj.2 (by show o.length≤1000000; omega)
 ·have hI:o.length≤i+5:=hI
  simp only [aZ (show (i:Int)<(t.length:Int) by omega),Int.toNat_natCast]
  rw [ah (by omega),bm (by omega),bI]
  refine ⟨fun _=>?_,fun _=>?_⟩
  ·rw [ah (by unfold aU; simp only [List.length_singleton]; omega)]
   exact jW _ (by show (o++[124]).length≤i+1+5; simp; omega)
  ·have h1:((t.take (((i+1:Nat):Int)).toNat).drop i).length≤1:=by rw [Int.toNat_natCast,List.length_drop,List.length_take]; omega
   rw [ah (by omega),ah (by unfold aU; omega)]
   exact jW _ (by show (o++_).length≤i+1+5; rw [List.length_append]; omega)
theorem xH {n:Nat} {b:List Int} (hb:b.length≤1048576) {l:List (List UInt8)} (hl:0<l.length) (qz:∀ t∈l,t.length≤20) {c:rv} (hc:ct b c):W (iY.f n c.1 c.2.1 c.2.2.1 l) (fun r=>r.1.length≤20∧ct b r.2):=
 au (N6 hb hl hc) (fun r ⟨h,c⟩=>⟨qz _ h,c⟩)
theorem ZP {n:Nat} {b:List Int} (hb:b.length≤1048576) {ps:List Program} {ls:List aG} (hp:ps.length≤1000) (hl:ls.length≤1000) (hn:1048576<n) {c:rv} (hc:ct b c):W (oW.f n ps ls c.1 c.2.1 c.2.2.1) (fun r=>r.1.length≤1000000):=by
 have hM:∀ {m:Nat},m≤1000000→m<aU:=fun h=>by unfold aU; omega
 unfold oW.f
 rw [aB]
 refine au (eI hb hc) (fun r1 ⟨⟨a0,a1,_⟩,c1⟩=>?_)
 have a1:=a1 (by omega)
 rw [nG hn (by omega) (by omega),aA,aB]
 have l1:=dB (x:=r1.1) (by omega) (by omega)
 refine au (eI hb c1) (fun r3 ⟨⟨b0,b1,_⟩,c3⟩=>?_)
 have b1:=b1 (by omega)
 rw [nG hn (by omega) (by omega),aA,aB]
 have l3:=dB (x:=r3.1) (by omega) (by omega)
 refine au (nF hb c3) (fun r5 c5=>?_)
 rw [e_]
 refine au (P:=fun s=>∃ y:List UInt8×rv,s=Sum.inr y∧y.1.length≤20∧ct b y.2) ?_ (fun s ⟨y,e,hy,c6⟩=>?_)
 ·rw [bH]
  refine ⟨fun _=>?_,fun _=>aj.2 ⟨_,rfl,by show (Lib.itoa r1.1).length≤20; omega,c5⟩⟩
  rw [aB]
  exact au (xH hb (by simp) (by decide) c5) (fun r ⟨h,c⟩=>aj.2 ⟨_,rfl,h,c⟩)
 subst e
 dsimp only
 rw [aB]
 refine au (eI hb c6) (fun r9 ⟨_,c9⟩=>?_)
 rw [bI]; refine ⟨fun _=>?_,fun _=>?_⟩
 ·rw [aB]
  refine au (ZL hb hn c9) (fun cH ⟨iv,MS⟩=>?_)
  rw [aB]
  exact au (ZO iv hn) (fun r h=>aj.2 h)
 rw [bI]; refine ⟨fun _=>?_,fun _=>?_⟩
 ·rw [ah (hM (by simp; omega)),ah (hM (by simp; omega)),aB]
  refine au (ZJ hb hn c9) (fun fB ⟨An,c12⟩=>?_)
  have hf:=oI fB.1
  rw [B7 (by omega) hn,aA]
  dsimp only
  rw [ah (hM (by simp; omega))]
  exact aj.2 (by simp; omega)
 rw [bI]; refine ⟨fun _=>?_,fun _=>?_⟩
 ·rw [ah (hM (by simp; omega))]
  exact aj.2 (by simp; omega)
 rw [bI]; refine ⟨fun _=>?_,fun _=>?_⟩
 ·rw [aB]
  refine au (xH hb (by simp) (by decide) c9) (fun r ⟨h,c⟩=>?_)
  rw [ah (hM (by simp; omega))]
  exact aj.2 (by simp; omega)
 rw [e_]
 refine au (P:=fun s=>∃ y:Bool,s=Sum.inr (y,())) ?_ (fun s ⟨z,e⟩=>?_)
 ·rw [bI]
  exact ⟨fun _=>aj.2 ⟨_,rfl⟩,fun _=>aj.2 ⟨_,rfl⟩⟩
 subst e
 dsimp only
 rw [bH]; refine ⟨fun _=>?_,fun _=>?_⟩
 ·rw [ah (hM (by simp; omega))]
  exact aj.2 (by simp; omega)
 rw [bI]; refine ⟨fun _=>?_,fun _=>?_⟩
 ·rw [aB]
  refine au (xH hb (by simp) (by decide) c9) (fun r ⟨h,c⟩=>?_)
  rw [aB]
  refine au (xH hb (by simp) (by decide) c) (fun r' ⟨h',c'⟩=>?_)
  rw [ah (hM (by omega))]
  exact aj.2 (by simp; omega)
 rw [bI]; refine ⟨fun _=>?_,fun _=>?_⟩
 ·rw [ah (hM (by simp; omega)),ah (hM (by simp; omega)),aB]
  refine au (xH hb (by simp) (by decide) c9) (fun r ⟨h,c⟩=>?_)
  rw [ah (hM (by simp; omega))]
  exact aj.2 (by simp; omega)
 rw [bI]; refine ⟨fun _=>?_,fun _=>?_⟩
 ·rw [ah (hM (by simp; omega))]
  exact aj.2 (by simp; omega)
 rw [bI]; refine ⟨fun _=>?_,fun _=>?_⟩
 ·rw [aB]
  refine au (xH hb (by simp) (by decide) c9) (fun r ⟨h,c⟩=>?_)
  rw [ah (hM (by omega))]
  exact aj.2 (by simp; omega)
 rw [bI]; refine ⟨fun _=>aj.2 (by simp),fun _=>?_⟩
 rw [bI]; refine ⟨fun _=>aj.2 (by simp),fun _=>?_⟩
 rw [bI]; refine ⟨fun _=>aj.2 (by simp),fun _=>?_⟩
 rw [aB]
 exact au (xH hb (by simp) (by decide) c9) (fun r ⟨h,c⟩=>aj.2 (by show r.1.length≤1000000; omega))
theorem ZQ {n:Nat} {code:List Int} {nt:ai} (hb:code.length≤1048576) (o:cM nt) (hn:1048576<n):W (tE.f n code nt) (fun r=>r.1.length≤1000000):=by
 have h1:=o.ew
 have h2:=o.dt
 unfold tE.f
 rw [aB]
 refine au (N5 hb hn) (fun r1 c1=>?_)
 rw [aB]
 exact au (ZP hb (by omega) (by omega) hn c1) (fun r h=>aj.2 h)
theorem ZR {n:Nat} {code:List Int} {ZS:Int} (hb:code.length≤1048576) (hn:1048576<n):W (fresh.f n code ZS) (fun r=>r.1.length≤1048576):=by
 unfold fresh.f
 refine qD (fun x=>0≤x.1∧x.1≤600∧(x.2.1.length:Int)=x.1+1) (fun x=>(600-x.1).toNat) (fun ih x hx hS=>?_) ⟨Int.le_refl _,by show (0:Int)≤600; omega,by rfl⟩ (by show (600-(0:Int)).toNat<n; omega)
 obtain ⟨i,l,⟨⟩⟩:=x
 simp only at hx
 by_cases h1:i<(code.length:Int)
 ·by_cases h2:i<600
  ·simp only [aZ h1,bF,decide_eq_true h2,aL]
   rw [ah (by omega),bZ (by simp only [List.length_singleton]; omega),bo (n:=i+1) (by omega) (by omega)]
   exact hS _ (by simp only [List.length_append,List.length_singleton]; omega) (by simp only; omega)
  ·simp only [aZ h1,bF,decide_eq_false h2,aF]
   rw [aj]; simp only; omega
 ·simp only [aK h1,bF,aF]
  rw [aj]; simp only; omega
end Go.AmT
namespace Go.AmT
noncomputable section
open Go Go.Am Go.Proofs
set_option linter.unusedVariables false
set_option maxRecDepth 100000
def law.bY:List (Nat×LA):=[(8,⟨[(54,.bool)],[],[3,4,5,6],[]⟩),(14,⟨[(9,.bool),(57,.int .i64)],[],[3,4,5,6,55,56],[]⟩),(21,⟨[(83,.bool)],[],[3,5],[]⟩)]
def law.f (n:Nat) (a0:List Int):Option (Bool×Unit):=br (decide (1048576<(a0.length:Int))) (some (true,())) ((tD.f n a0).bind fun r1=>(fresh.f n a0 3).bind fun r2=>(tE.f n r2.1 r1.1.1).bind fun r3=>(pW.f n r1.1 r3.1).bind fun r4=>(pW.f n r1.1 r3.1).bind fun r5=>cut (α:=(Bool×Unit)) (br (decide (r4.2.1=([]:List UInt8))) (some (.inr (true,()))) (br (!decide (r4.2.1=r5.2.1)) (some (.inr (true,()))) ((pX.f n r4.1).bind fun cH=>br (!cH.1) (some (.inr (true,()))) ((mJ.f n r4.1.1).bind fun dA=>(mJ.f n r5.1.1).bind fun fB=>some (.inr ((!decide (dA.1=fB.1)),())))))) fun y9=>br y9.1 (some (false,())) (iter (α:=(Bool×(Int×Unit))) n (fun lO fS=>br (decide (fS.2.1<5)) (br (decide (fS.2.1=4)) (br fS.1 (lO (true,((ag (fS.2.1+1)),()))) (br (decide (5≤(r3.1.length:Int))) (ab ((0:Int)≤0∧(0:Int)≤5∧5≤(r3.1.length:Int)) (lO ((decide (((r3.1.take 5).drop 0)=([119,97,105,116,115]:List UInt8))),((ag (fS.2.1+1)),())))) (lO (false,((ag (fS.2.1+1)),()))))) (br (decide (fS.2.1=3)) (br fS.1 (lO (true,((ag (fS.2.1+1)),()))) (br (decide (5≤(r3.1.length:Int))) (ab ((0:Int)≤0∧(0:Int)≤5∧5≤(r3.1.length:Int)) (lO ((decide (((r3.1.take 5).drop 0)=([114,111,111,109,32]:List UInt8))),((ag (fS.2.1+1)),())))) (lO (false,((ag (fS.2.1+1)),()))))) (br (decide (fS.2.1=2)) (br fS.1 (lO (true,((ag (fS.2.1+1)),()))) (br (decide (6≤(r3.1.length:Int))) (ab ((0:Int)≤0∧(0:Int)≤6∧6≤(r3.1.length:Int)) (lO ((decide (((r3.1.take 6).drop 0)=([113,117,101,117,101,32]:List UInt8))),((ag (fS.2.1+1)),())))) (lO (false,((ag (fS.2.1+1)),()))))) (br (decide (fS.2.1=1)) (br fS.1 (lO (true,((ag (fS.2.1+1)),()))) (br (decide (5≤(r3.1.length:Int))) (ab ((0:Int)≤0∧(0:Int)≤5∧5≤(r3.1.length:Int)) (lO ((decide (((r3.1.take 5).drop 0)=([115,101,110,116,32]:List UInt8))),((ag (fS.2.1+1)),())))) (lO (false,((ag (fS.2.1+1)),()))))) (br (decide (fS.2.1=0)) (br fS.1 (lO (true,((ag (fS.2.1+1)),()))) (br (decide (6≤(r3.1.length:Int))) (ab ((0:Int)≤0∧(0:Int)≤6∧6≤(r3.1.length:Int)) (lO ((decide (((r3.1.take 6).drop 0)=([108,101,97,115,116,32]:List UInt8))),((ag (fS.2.1+1)),())))) (lO (false,((ag (fS.2.1+1)),()))))) (none)))))) (cut (α:=(Bool×Unit)) (br (!decide (r4.2.1=([110,111]:List UInt8))) (some (.inr ((!fS.1),()))) (some (.inr (false,())))) fun ZT=>br ZT.1 (some (true,())) ((mJ.f n r4.1.1).bind fun u5=>(mJ.f n r1.1.1).bind fun ks=>br (decide (u5.1=ks.1)) ((tG.f n r1.1.1 r4.1.2.1 r1.1.2.1).bind fun ZU=>br ZU.1 ((tF.f n r4.1.2.2 r1.1.2.2).bind fun ZV=>some (ZV.1,())) (some (false,()))) (some (false,()))))) (false,(0,()))))
def law.ae (n:Nat):ar:=⟨[.val (.sl U8)],[.val .bool],fun x=>law.f n x.1⟩
def law.cfg (n:Nat):aP:=⟨ly,[(19,tD.ae n),(21,fresh.ae n),(20,tE.ae n),(6,pW.ae n),(22,pX.ae n),(9,mJ.ae n),(10,tG.ae n),(23,tF.ae n)],[],[2000057]⟩
theorem law.sound (n:Nat):Sound Tryz.prog 4 (law.ae n):=hZ (c:=law.cfg n) (n:=n) (an:=d_ Tryz.f4 law.bY) ⟨tD.ok n,⟨fresh.ok n,⟨tE.ok n,⟨pW.ok n,⟨pX.ok n,⟨mJ.ok n,⟨tG.ok n,⟨tF.ok n,trivial⟩⟩⟩⟩⟩⟩⟩⟩ trivial (dM km) Tryz.func4 (fun x=>by kernel_rfl)
end
end Go.AmT
namespace Go.AmT
open Go Go.Am
set_option linter.unusedVariables false
set_option linter.unusedSimpArgs false
theorem ZW (s:State):IL s≠[]:=by unfold IL; simp
theorem ZX {n:Nat} {nt:ai} {s:State} (h:cL nt) (o:bq nt s) (hn:1048576<n):tG.f n nt s s=some (true,()):=by
 unfold tG.f
 rw [Yk h (nB o) hn,aA]
 dsimp only
 have e:EC nt s≠[]:=by unfold EC; rw [if_pos (sZ o)]; exact ZW s
 rw [decide_eq_false e]
 simp [br]
theorem ZY {n:Nat} {l:List Int} (hl:l.length≤1048576) (hn:1048576<n):tF.f n l l=some (true,()):=by
 refine iz.1 ?_
 unfold tF.f
 rw [decide_eq_true rfl]
 simp only [Bool.not_true,aF]
 refine fA (fun (i:Nat) (_:Unit)=>((i:Int),())) l.length (fun _ _=>True) (s0:=()) rfl trivial (by omega) (fun ih o hI=>?_) (fun ih i o hi hI hS=>?_)
 ·simp only [aK (Int.lt_irrefl _)]
  exact aj.2 rfl
 ·simp only [aZ (show (i:Int)<(l.length:Int) by omega)]
  rw [ah (by omega),ah (by omega)]
  simp only [decide_true,Bool.not_true,aF]
  rw [bm (by omega)]
  exact hS () trivial
theorem ZZ {l w:List UInt8} {k:Nat} (hk:2≤k) (hw:ask w) (h:decide ((l.take k).drop 0=w)=true):ask l:=by
 have h:=of_decide_eq_true h
 rw [List.drop_zero] at h
 have e:l.take 2=w.take 2:=by rw [← h,List.take_take,Nat.min_eq_left hk]
 unfold ask at hw ⊢
 rw [e]; exact hw
theorem Z_ (code:List Int) (aah:po (.sl U8) code):∃ n,law.f n code=some (true,()):=by
 refine ⟨1048578,iz.1 ?_⟩
 have hn:1048576<1048578:=by omega
 have kF:1048577<1048578:=by omega
 unfold law.f
 rw [bI]
 refine ⟨fun _=>aj.2 rfl,fun hl=>?_⟩
 rw [aB]
 refine au (ZI (by omega) hn) (fun r1 h1=>?_)
 rw [aB]
 refine au (ZR (by omega) hn) (fun r2 h2=>?_)
 rw [aB]
 refine au (ZQ h2 h1.st.ck hn) (fun r3 h3=>?_)
 obtain ⟨r4,e4,K⟩:=ZD h1 h3 kF
 rw [e4,Option.bind_some,Option.bind_some,e_]
 refine au (P:=fun s=>s=Sum.inr (false,())) ?_ (fun s e=>?_)
 ·rw [aK K.out,decide_eq_true rfl]
  simp only [Bool.not_true,aF]
  rw [Pw K.ok.small K.ok.xE K.ok.zR hn,aA,sZ K.ok.st,K.ok.caps]
  simp only [Bool.and_self,Bool.not_true,aF]
  rw [IG K.ok.small hn,aA,aA]
  exact aj.2 (by simp)
 subst e
 dsimp only
 rw [aF]
 refine qD (fun x=>0≤x.2.1∧x.2.1≤5∧(x.1=true→ask r3.1)) (fun x=>(5-x.2.1).toNat) (fun ih x hx hS=>?_) ⟨Int.le_refl _,by show (0:Int)≤5; omega,fun h=>by cases h⟩ (by show (5-(0:Int)).toNat<_; omega)
 obtain ⟨a,i,⟨⟩⟩:=x
 obtain ⟨i0,i5,ha⟩:=hx
 simp only at i0 i5 ha
 rw [bI]
 refine ⟨fun h5=>?_,fun h5=>?_⟩
 ·simp only at h5
  have go:∀ a',(a'=true→ask r3.1)→W (ih (a',(ag (i+1),()))) (fun x=>x=(true,())):=fun a' h=>by
   rw [bo (by omega) (by omega)]
   exact hS _ ⟨by simp only; omega,by simp only; omega,h⟩ (by simp only; omega)
  have one:∀ (k:Nat) (w:List UInt8),2≤k→ask w→W (br a (ih (true,(ag (i+1),()))) (br (decide ((k:Int)≤(r3.1.length:Int))) (ab ((0:Int)≤0∧(0:Int)≤(k:Int)∧(k:Int)≤(r3.1.length:Int)) (ih (decide ((r3.1.take k).drop 0=w),(ag (i+1),())))) (ih (false,(ag (i+1),()))))) (fun x=>x=(true,())):=fun k w hk hw=>by
   rw [bH]
   refine ⟨fun h=>go _ (fun _=>ha h),fun _=>?_⟩
   rw [bI]
   refine ⟨fun hlen=>?_,fun _=>go _ (fun h=>by cases h)⟩
   rw [ah ⟨by omega,by omega,hlen⟩]
   exact go _ (ZZ hk hw)
  rw [bI]; refine ⟨fun _=>one 5 [119,97,105,116,115] (by omega) (by decide),fun _=>?_⟩
  rw [bI]; refine ⟨fun _=>one 5 [114,111,111,109,32] (by omega) (by decide),fun _=>?_⟩
  rw [bI]; refine ⟨fun _=>one 6 [113,117,101,117,101,32] (by omega) (by decide),fun _=>?_⟩
  rw [bI]; refine ⟨fun _=>one 5 [115,101,110,116,32] (by omega) (by decide),fun _=>?_⟩
  rw [bI]; refine ⟨fun _=>one 6 [108,101,97,115,116,32] (by omega) (by decide),fun _=>?_⟩
  exfalso
  simp only at *
  omega
 ·rw [e_]
  refine au (P:=fun s=>∃ b:Bool,s=Sum.inr (b,())∧(b=false→r4.1=r1.1)) ?_ (fun s ⟨b,e,hb⟩=>?_)
  ·rw [pt]
   refine ⟨fun _=>aj.2 ⟨_,rfl,fun h=>K.same (.inr (ha (by simpa using h)))⟩,fun h=>aj.2 ⟨_,rfl,fun _=>K.same (.inl (of_decide_eq_true h))⟩⟩
  subst e
  dsimp only
  rw [bH]
  refine ⟨fun _=>aj.2 rfl,fun cw=>?_⟩
  rw [hb cw,IG h1.small hn,aA,aA]
  dsimp only
  rw [decide_eq_true rfl,aL,ZX h1.small h1.st hn,aA]
  dsimp only
  rw [aL,ZY h1.zR hn,aA]
  exact aj.2 rfl
end Go.AmT
