/- Capacities that are raised, in plain Lean: both programs make the same. -/
import Derived.Test.YtfoamipegmbcgaaGreatDoorMKpF5
import Derived.Test.YtfoamipegmbcgaaGreatDoorMKpF2
namespace Go.AmT
noncomputable section
open Go Go.Am
set_option linter.unusedVariables false
set_option linter.unusedSimpArgs false
theorem NA {n:Nat} {nt:ai} {s:State} {caps:List Int} {r:kK} (R:iU nt s r) (o:bq nt s) (hc:caps.length=nt.2.length) (e:r.2.2.2.2=some caps) (hn:1048576<n):stuck.f n r=some (!qU nt s caps,()):=by
 have hp:=o.ck.ew
 unfold stuck.f
 rw [R.ck]
 refine iz.1 (MV nt.1.length (qT nt s caps) (yes:=fun _=>some (false,())) (fun ih i hi=>?_) (fun ih=>aK (Int.lt_irrefl _)) (by omega) (fun i hi h=>?_) (fun h=>?_))
 ·rw [aZ (by omega),H5 R o hc e hi,bm (by omega),Option.bind_some,MY]
 ·rw [aj,qU,MW hi h]; rfl
 ·rw [aj,qU,MX h]; rfl
def s9 (nt:ai) (s:State) (caps:List Int):Bool:=fC nt s&&(dY nt.2 caps&&(!qU nt s caps&&od nt s))
theorem Wd {n:Nat} {nt:ai} {s:State} {caps:List Int} (h:cL nt) (hs:jt s) (hc:caps.length≤1048576) (hn:1048576<n):uV.f n nt s caps=some (s9 nt s caps,()):=by
 unfold uV.f s9
 rw [H3 h hs hc hn]
 cases e1:fC nt s
 ·rfl
 ·cases e2:dY nt.2 caps
  ·rfl
  ·simp only [Option.bind_some,Bool.true_and,Bool.not_true,aF]
   refine iz.1 (aB.2 (au (H4 (s_ e1) hs hc hn) (fun r ⟨R,e⟩=>iz.2 ?_)))
   rw [NA R (s_ e1) (s4 e2) e hn,Ia R (s_ e1) hn]
   cases qU nt s caps<;>cases od nt s<;>rfl
def ta (nt:ai) (s:State) (caps:List Int) (k:Nat):Bool:=dH nt s k&&!qT nt s caps k
def ez (caps:List Int) (j:Nat):Int:=caps.getD j 0
theorem Ib {nt:ai} {s:State} {caps:List Int} {k:Nat} (o:bq nt s) (hk:k<nt.1.length) (h:ta nt s caps k=true):∃ j:Nat,j<nt.2.length∧bQ nt s k=(j:Int)∧(bf nt s k).1=3∧dH nt s k=true∧¬ (nt.2.getD j aM).2.2.1<0∧¬ ((s.2.1.getD j []).length:Int)<ez caps j:=by
 unfold ta at h
 simp only [Bool.and_eq_true,Bool.not_eq_true'] at h
 obtain ⟨h1,h2⟩:=h
 unfold qT at h2
 rw [h1,Bool.true_and] at h2
 simp only [Bool.or_eq_false_iff,Bool.not_eq_false',decide_eq_true_eq,decide_eq_false_iff_not] at h2
 obtain ⟨c3,c4,c5⟩:=h2
 obtain ⟨j,hj,e,-⟩:=sU o hk c3
 rw [e,Int.toNat_natCast] at c4 c5
 exact ⟨j,hj,e,c3,h1,c4,c5⟩
structure jV (caps:List Int) (P:Nat→Prop) (b:Int):Prop where
 none:b<0→b = -1∧∀ j,¬ P j
 some:0≤b→P b.toNat∧∀ i,P i→ez caps b.toNat<ez caps i∨(ez caps b.toNat=ez caps i∧b.toNat≤i)
theorem jV.uniq {caps:List Int} {P:Nat→Prop} {b c:Int} (B:jV caps P b) (C:jV caps P c):b=c:=by
 rcases Int.lt_or_le b 0 with hb | hb
 ·rcases Int.lt_or_le c 0 with hc | hc
  ·rw [(B.none hb).1,(C.none hc).1]
  ·exact absurd (C.some hc).1 ((B.none hb).2 _)
 ·rcases Int.lt_or_le c 0 with hc | hc
  ·exact absurd (B.some hb).1 ((C.none hc).2 _)
  ·have h1:=(B.some hb).2 _ (C.some hc).1
   have h2:=(C.some hc).2 _ (B.some hb).1
   omega
theorem jV.congr {caps:List Int} {P Q:Nat→Prop} {b:Int} (B:jV caps P b) (h:∀ j,P j↔Q j):jV caps Q b:=
 ⟨fun hb=>⟨(B.none hb).1,fun j hj=>(B.none hb).2 j ((h j).2 hj)⟩,fun hb=>⟨(h _).1 (B.some hb).1,fun i hi=>(B.some hb).2 i ((h i).2 hi)⟩⟩
theorem jV.more {caps:List Int} {P:Nat→Prop} {b:Int} (B:jV caps P b) (j:Nat):jV caps (fun i=>P i∨i=j) (if b<0∨ez caps j<ez caps b.toNat∨(ez caps j=ez caps b.toNat∧(j:Int)<b) then (j:Int) else b):=by
 split
 ·rename_i h
  refine ⟨fun hb=>by omega,fun _=>⟨.inr (by omega),fun i hi=>?_⟩⟩
  rw [Int.toNat_natCast]
  rcases hi with hi | rfl
  ·rcases Int.lt_or_le b 0 with hb | hb
   ·exact absurd hi ((B.none hb).2 i)
   ·have:=(B.some hb).2 i hi
    omega
  ·exact .inr ⟨rfl,Nat.le_refl _⟩
 ·rename_i h
  have hb:0≤b:=by omega
  refine ⟨fun hb=>by omega,fun _=>⟨.inl (B.some hb).1,fun i hi=>?_⟩⟩
  rcases hi with hi | rfl
  ·exact (B.some hb).2 i hi
  ·omega
def Ej (nt:ai) (s:State) (caps:List Int) (b:Int) (k:Nat):Int:=
 if ta nt s caps k=true then (if b<0∨ez caps (bQ nt s k).toNat<ez caps b.toNat∨(ez caps (bQ nt s k).toNat=ez caps b.toNat∧bQ nt s k<b) then bQ nt s k else b) else b
def BU (nt:ai) (s:State) (caps:List Int):Int:=(List.range nt.1.length).foldl (Ej nt s caps) (-1)
def pH (nt:ai) (s:State) (caps:List Int) (K:Nat) (j:Nat):Prop:=∃ k,k<K∧ta nt s caps k=true∧bQ nt s k=(j:Int)
theorem We {nt:ai} {s:State} {caps:List Int} {k:Nat} {b:Int} (o:bq nt s) (hk:k<nt.1.length) (B:jV caps (pH nt s caps k) b):jV caps (pH nt s caps (k+1)) (Ej nt s caps b k):=by
 unfold Ej
 split
 ·rename_i h
  obtain ⟨j,hj,e,-⟩:=Ib o hk h
  rw [e,Int.toNat_natCast]
  refine (B.more j).congr (fun i=>⟨?_,?_⟩)
  ·rintro (⟨k',a,b,c⟩ | rfl)
   ·exact ⟨k',by omega,b,c⟩
   ·exact ⟨k,by omega,h,e⟩
  ·rintro ⟨k',a,b,c⟩
   rcases Nat.lt_or_eq_of_le (Nat.le_of_lt_succ a) with h1 | h1
   ·exact .inl ⟨k',h1,b,c⟩
   ·subst h1; rw [e] at c; exact .inr (by omega)
 ·rename_i h
  refine B.congr (fun i=>⟨?_,?_⟩)
  ·rintro ⟨k',a,b,c⟩; exact ⟨k',by omega,b,c⟩
  ·rintro ⟨k',a,b,c⟩
   rcases Nat.lt_or_eq_of_le (Nat.le_of_lt_succ a) with h1 | h1
   ·exact ⟨k',h1,b,c⟩
   ·subst h1; exact absurd b h
theorem Wg {nt:ai} {s:State} {caps:List Int} : jV caps (pH nt s caps 0) (-1):=⟨fun _=>⟨rfl,fun j ⟨k,h,_⟩=>by omega⟩,fun h=>by omega⟩
theorem NB {nt:ai} {s:State} {caps:List Int} (o:bq nt s):∀ k,k≤nt.1.length→jV caps (pH nt s caps k) ((List.range k).foldl (Ej nt s caps) (-1))
 | 0,_=>Wg
 | k+1,hk=>by
  rw [List.range_succ,List.foldl_append]
  exact We o (by omega) (NB o k (by omega))
theorem NC {nt:ai} {s:State} {caps:List Int} (o:bq nt s):jV caps (pH nt s caps nt.1.length) (BU nt s caps):=NB o _ (Nat.le_refl _)
theorem ND {nt:ai} {s:State} {caps:List Int} {K j:Nat} (o:bq nt s) (hK:K≤nt.1.length) (h:pH nt s caps K j):j<nt.2.length:=by
 obtain ⟨k,a,b,c⟩:=h
 obtain ⟨i,hi,e,-⟩:=Ib o (show k<nt.1.length by omega) b
 omega
theorem NF {nt:ai} {s:State} {caps:List Int} {K:Nat} {b:Int} (o:bq nt s) (hK:K≤nt.1.length) (B:jV caps (pH nt s caps K) b) (hb:0≤b):b<(nt.2.length:Int):=by
 have:=ND o hK (B.some hb).1
 omega
def Ic (caps:List Int) (b:Int):List Int×Int×Bool:=if b<0∨ez caps b.toNat=400 then ([],0,false) else (caps.set b.toNat (ez caps b.toNat+1),b,true)
def pI (nt:ai) (s:State) (caps:List Int):List Int×Int×Bool:=Ic caps (BU nt s caps)
theorem BV {ls:List aG} {caps:List Int} (h:dY ls caps=true) {j:Nat} (hj:j<ls.length):((ls.getD j aM).2.2.2.2.length:Int)≤ez caps j∧ez caps j≤400:=by
 have hl:=s4 h
 unfold dY at h
 simp only [Bool.and_eq_true,decide_eq_true_eq,List.all_eq_true,List.mem_range] at h
 exact h.2 j (by omega)
def zz (nt:ai) (s:State) (caps:List Int):List Int×Int×Bool:=if s9 nt s caps=true then pI nt s caps else ([],0,false)
theorem Wh {nt:ai} {s:State} {caps:List Int} (h:s9 nt s caps=true):bq nt s∧dY nt.2 caps=true∧qU nt s caps=false∧od nt s=true:=by
 unfold s9 at h
 simp only [Bool.and_eq_true,Bool.not_eq_true'] at h
 exact ⟨s_ h.1,h.2.1,h.2.2⟩
def NG (nt:ai) (s:State) (caps:List Int) (i k:Nat) (j:Nat):Prop:=(j<i∧pH nt s caps nt.1.length j)∨(j=i∧pH nt s caps k j)
theorem Wi {n:Nat} {nt:ai} {s:State} {caps:List Int} (h:cL nt) (hs:jt s) (hc:caps.length≤1048576) (hn:1048576<n):pG.f n nt s caps=some ((zz nt s caps).1,((zz nt s caps).2.1,((zz nt s caps).2.2,()))):=by
 unfold pG.f zz
 rw [Wd h hs hc hn]
 cases e:s9 nt s caps
 ·rfl
 ·obtain ⟨o,ok,-⟩:=Wh e
  have hp:=o.ck.ew
  have hl:=o.ck.dt
  have eg:=s4 ok
  simp only [Option.bind_some,Bool.not_true,aF,if_true]
  refine iz.1 (aB.2 (au (H4 o hs hc hn) (fun r ⟨R,e⟩=>?_)))
  refine fA (fun i (b:Int)=>(b,((i:Int),()))) nt.2.length (fun i b=>jV caps (fun j=>j<i∧pH nt s caps nt.1.length j) b) (s0:=-1) rfl ⟨fun _=>⟨rfl,fun j hj=>by omega⟩,fun h=>by omega⟩ (by omega) (fun ih b hB=>?_) (fun ih i b hi hI hS=>?_)
  ·simp only [aK (Int.lt_irrefl _)]
   have B:jV caps (pH nt s caps nt.1.length) b:=hB.congr (fun j=>⟨fun hh=>hh.2,fun hh=>⟨ND o (Nat.le_refl _) hh,hh⟩⟩)
   have hI:=B.uniq (NC o)
   rw [iz]
   unfold pI Ic
   rw [← hI]
   by_cases hb:b<0
   ·rw [aZ hb,bF,aL,if_pos (.inl hb)]
   ·have ao:=NF o (Nat.le_refl _) B (by omega)
    have eK:=BV ok (show b.toNat<nt.2.length by omega)
    rw [aK hb,ah (by omega),bF]
    by_cases h4:ez caps b.toNat=400
    ·rw [if_pos (.inr h4)]
     have:decide (caps.getD b.toNat 0=400)=true:=decide_eq_true h4
     rw [this]; rfl
    ·rw [if_neg (by omega)]
     have:decide (caps.getD b.toNat 0=400)=false:=decide_eq_false h4
     rw [this]
     simp only [aF]
     rw [sT (by omega)]
     simp only [Option.bind_some]
     rw [ah (by omega),ah (by omega),bo (by unfold ez at eK; omega) (by unfold ez at eK; omega)]
     rfl
  ·simp only [aZ (show (i:Int)<(nt.2.length:Int) by omega)]
   refine fA (fun k (b:Int)=>(b,((k:Int),()))) nt.1.length (fun k b=>jV caps (NG nt s caps i k) b) (s0:=b) rfl (hI.congr (fun j=>⟨fun hh=>.inl hh,fun hh=>?_⟩)) (by omega) (fun nP b hB=>?_) (fun nP k b hk hB jW=>?_)
   ·rcases hh with hh | ⟨-,k,hk,-⟩
    ·exact hh
    ·omega
   ·simp only [aK (Int.lt_irrefl _)]
    rw [bm (by omega)]
    refine hS b (hB.congr (fun j=>⟨?_,?_⟩))
    ·rintro (⟨a,b⟩ | ⟨rfl,b⟩)
     ·exact ⟨by omega,b⟩
     ·exact ⟨by omega,b⟩
    ·rintro ⟨a,b⟩
     rcases Nat.lt_or_eq_of_le (Nat.le_of_lt_succ a) with h1 | h1
     ·exact .inl ⟨h1,b⟩
     ·exact .inr ⟨h1,b⟩
   ·have hw:fY.f n ((r.1,r.2.1),((r.2.2.2.2.1,(r.2.2.2.2.2.1,(r.2.2.2.2.2.2.1,r.2.2.1))),(r.2.2.2.2.2.2.2.1,(r.2.2.2.2.2.2.2.2.1,r.2.2.2.1)))) (k:Int)=some ((bf nt s k).1,(bQ nt s k,())):=zm R o hk
    have zv:=zn (n:=n) R o hk
    have Wj:=H5 (n:=n) R o eg e hk
    simp only [aZ (show (k:Int)<(nt.1.length:Int) by omega),hw,zv,Wj,Option.bind_some]
    rw [bm (by omega)]
    have Ek:(ta nt s caps k=true→bQ nt s k≠(i:Int))→W (nP (b,(((k+1:Nat):Int),()))) _:=fun av=>jW b (hB.congr (fun j=>⟨?_,?_⟩))
    rotate_left
    ·rintro (hh | ⟨rfl,k',a,b,c⟩)
     ·exact .inl hh
     ·exact .inr ⟨rfl,k',by omega,b,c⟩
    ·rintro (hh | ⟨rfl,k',a,b,c⟩)
     ·exact .inl hh
     ·rcases Nat.lt_or_eq_of_le (Nat.le_of_lt_succ a) with h1 | h1
      ·exact .inr ⟨rfl,k',h1,b,c⟩
      ·subst h1; exact absurd c (av b)
    by_cases c3:(bf nt s k).1=3
    ·rw [aZ c3]
     by_cases cl:bQ nt s k=(i:Int)
     ·rw [aZ cl]
      cases g_:dH nt s k
      ·rw [aF]; exact Ek (fun hh=>by unfold ta at hh; rw [g_] at hh; cases hh)
      ·rw [aL]
       cases cS:qT nt s caps k
       ·rw [Bool.not_false,aL]
        have El:ta nt s caps k=true:=by unfold ta; rw [g_,cS]; rfl
        have hM:=(hB.more i).congr (Q:=NG nt s caps i (k+1)) (fun j=>⟨?_,?_⟩)
        rotate_left
        ·rintro ((hh | ⟨rfl,k',a,b,c⟩) | rfl)
         ·exact .inl hh
         ·exact .inr ⟨rfl,k',by omega,b,c⟩
         ·exact .inr ⟨rfl,k,by omega,El,cl⟩
        ·rintro (hh | ⟨rfl,-⟩)
         ·exact .inl (.inl hh)
         ·exact .inr rfl
        by_cases hb:b<0
        ·rw [aZ hb]
         rw [if_pos (.inl hb)] at hM
         exact jW _ hM
        ·have Wk:=(hB.some (by omega)).1
         have aaf:b.toNat≤i:=by rcases Wk with hh | hh<;>omega
         rw [aK hb,ah (by omega),ah (by omega)]
         simp only [Int.toNat_natCast]
         by_cases h1:caps.getD i 0<caps.getD b.toNat 0
         ·rw [aZ h1]
          rw [if_pos (.inr (.inl h1))] at hM
          exact jW _ hM
         ·rw [aK h1]
          rw [if_neg (by unfold ez; omega)] at hM
          exact jW _ hM
       ·rw [Bool.not_true,aF]; exact Ek (fun hh=>by unfold ta at hh; rw [g_,cS] at hh; cases hh)
     ·rw [aK cl]; exact Ek (fun _=>cl)
    ·rw [aK c3]
     refine Ek (fun hh=>?_)
     obtain ⟨j,-,-,Wl,-⟩:=Ib o hk hh
     exact absurd Wl c3
end
end Go.AmT
namespace Go.AmT
noncomputable section
open Go Go.Am Go.Proofs
set_option linter.unusedVariables false
set_option maxRecDepth 100000
def xf.f (n:Nat) (a0:kK):Option (Int×Unit):=(quiet.f n a0).bind fun r1=>br r1.1 (some (1,())) ((stuck.f n a0).bind fun r2=>br r2.1 (some (2,())) (some (3,())))
def xf.ae (n:Nat):ar:=⟨[.ee uF],[.val I],fun x=>xf.f n x.1⟩
theorem xf.ok (n:Nat):aN 45 (xf.ae n):=aQ n [] [] (ak (quiet.ok n) (ak (stuck.ok n) aC)) aD Tryz.func45
def mC.f (n:Nat) (a0:ai) (a1:State) (a2:List Int) (a3:Int):Option (State×(Int×Unit)):=(oh.f n a0 a1 a2).bind fun r1=>br (!r1.1) (some (([],([],([],0))),(0,()))) ((kL.f n a0.1 a0.2 a1.1 a1.2.1 a1.2.2.1 a1.2.2.2 a2).bind fun r2=>(turns.f n a3 r2.1 r2.2.1 r2.2.2.1 r2.2.2.2.1 r2.2.2.2.2.1 r2.2.2.2.2.2.1 r2.2.2.2.2.2.2.1 r2.2.2.2.2.2.2.2.1 r2.2.2.2.2.2.2.2.2.1).bind fun r3=>(xf.f n ((r3.1,r3.2.1),((r3.2.2.2.2.1,(r3.2.2.2.2.2.1,(r3.2.2.2.2.2.2.1,r3.2.2.1))),(r3.2.2.2.2.2.2.2.1,(r3.2.2.2.2.2.2.2.2.1,r3.2.2.2.1))))).bind fun r4=>some ((r3.2.2.2.2.1,(r3.2.2.2.2.2.1,(r3.2.2.2.2.2.2.1,r3.2.2.1))),(r4.1,())))
def mC.ae (n:Nat):ar:=⟨[.val cD,.val e9,.val IS,.val I],[.val e9,.val I],fun x=>mC.f n x.1 x.2.1 x.2.2.1 x.2.2.2.1⟩
theorem mC.ok (n:Nat):aN 15 (mC.ae n):=aQ n [] [] (ak (oh.ok n) (ak (xf.ok n) aC)) (bA (kL.ok n) (bA (turns.ok n) aD)) Tryz.func15
end
end Go.AmT
namespace Go.AmT
open Go Go.Am
set_option linter.unusedVariables false
set_option linter.unusedSimpArgs false
def qX (nt:ai) (s:State) (caps:List Int):Int:=if od nt s=true then (if qU nt s caps=true then 3 else 2) else 1
def uX (nt:ai) (s:State) (caps:List Int) (most:Int):State×Int:=(runT nt (some caps) most s,qX nt (runT nt (some caps) most s) caps)
noncomputable def xg (nt:ai) (s:State) (caps:List Int) (most:Int):State×Int:=if fC nt s&&dY nt.2 caps then uX nt s caps most else (([],([],([],0))),0)
theorem NH {n:Nat} {nt:ai} {s:State} {caps:List Int} {most:Int} (h:cL nt) (hs:jt s) (hc:caps.length≤1048576) (hn:1048576<n):mC.f n nt s caps most=some ((xg nt s caps most).1,((xg nt s caps most).2,())):=by
 unfold mC.f xg
 rw [H3 h hs hc hn]
 cases e:fC nt s&&dY nt.2 caps
 ·rfl
 ·rw [Bool.and_eq_true] at e
  have o:=s_ e.1
  have eg:=s4 e.2
  simp only [Option.bind_some,Bool.not_true,aF,if_true]
  refine iz.1 (aB.2 (au (H4 o hs hc hn) (fun r ⟨R,e⟩=>iz.2 ?_)))
  obtain ⟨r1,r2,r3,r4,r5,r6,r7,r8,r9,⟨⟩⟩:=r
  have e:r4=some caps:=e
  subst e
  obtain ⟨e1,e2,T,F⟩:=R
  have e1:(r1,r2)=nt:=e1
  have e2:(r5,(r6,(r7,r3)))=s:=e2
  subst e1 e2
  have R:iU (r1,r2) (r5,(r6,(r7,r3))) ((r1,r2),((r5,(r6,(r7,r3))),(r8,(r9,some caps)))):=⟨rfl,rfl,T,F⟩
  have ht:=Nw (n:=n) (most:=most) R o (fun c h=>by cases h; exact eg) hn
  simp only at ht ⊢
  rw [ht]
  unfold uX
  generalize hr:runT (r1,r2) (some caps) most (r5,(r6,(r7,r3)))=t
  have ot:bq (r1,r2) t:=by rw [← hr]; exact Eh o
  have R':iU (r1,r2) t ((r1,r2),(t,(r8,(r9,some caps)))):=R.step
  have hq:quiet.f n ((r1,r2),((t.1,(t.2.1,(t.2.2.1,t.2.2.2))),(r8,(r9,some caps))))=some (!od (r1,r2) t,()):=Ia R' ot hn
  have hk:stuck.f n ((r1,r2),((t.1,(t.2.1,(t.2.2.1,t.2.2.2))),(r8,(r9,some caps))))=some (!qU (r1,r2) t caps,()):=NA R' ot eg rfl hn
  simp only [Option.bind_some]
  unfold xf.f
  rw [hq,hk]
  unfold qX
  cases od (r1,r2) t
  ·rfl
  ·cases qU (r1,r2) t caps<;>rfl
theorem BW {nt:ai} {s:State} {caps:List Int} {most:Int} (o:bq nt s):bq nt (uX nt s caps most).1:=Eh o
end Go.AmT
namespace Go.AmT
noncomputable section
open Go Go.Am Go.Proofs
set_option linter.unusedVariables false
set_option maxRecDepth 100000
def tb.f (n:Nat) (a0:ai) (a1:State) (a2:List Int) (a3:Int):Option (State×(List Int)×(Int×Unit)):=(oh.f n a0 a1 a2).bind fun r1=>br (!r1.1) (some (([],([],([],0))),([],(0,())))) ((cd.f n a2).bind fun r2=>(mC.f n a0 a1 r2.1 (ag (a3-(ag (a1.2.2.2-a1.2.2.2))))).bind fun r3=>(pG.f n a0 r3.1 r2.1).bind fun r4=>cut (α:=(Bool×Unit)) (br (!decide (r3.2.1=2)) (some (.inr (true,()))) (some (.inr ((!r4.2.2.1),())))) fun y5=>br y5.1 (some (r3.1,(r2.1,(r3.2.1,())))) (iter (α:=(Int×(List a_)×(List (List Int))×(List (List Int))×(List Int)×Unit)) n (fun BX eU=>(mC.f n a0 (eU.2.1,(eU.2.2.1,(eU.2.2.2.1,eU.1))) eU.2.2.2.2.1 (ag (a3-(ag (eU.1-a1.2.2.2))))).bind fun fa=>(pG.f n a0 fa.1 eU.2.2.2.2.1).bind fun fq=>cut (α:=(Bool×Unit)) (br (!decide (fa.2.1=2)) (some (.inr (true,()))) (some (.inr ((!fq.2.2.1),())))) fun xh=>br xh.1 (some (fa.1,(eU.2.2.2.2.1,(fa.2.1,())))) (BX (fa.1.2.2.2,(fa.1.1,(fa.1.2.1,(fa.1.2.2.1,(fq.1,()))))))) (r3.1.2.2.2,(r3.1.1,(r3.1.2.1,(r3.1.2.2.1,(r4.1,())))))))
def tb.ae (n:Nat):ar:=⟨[.val cD,.val e9,.val IS,.val I],[.val e9,.val IS,.val I],fun x=>tb.f n x.1 x.2.1 x.2.2.1 x.2.2.2.1⟩
theorem tb.ok (n:Nat):aN 130 (tb.ae n):=aQ n [(6,⟨[(5,.aJ 1000 0),(12,.own 1004 I)],[(1000,.cells [] [.own 1001 bu,.own 1002 IS,.own 1003 IS,.int .i64]),(1001,.row true bu),(1002,.row true IS),(1003,.row true IS),(1004,.row true I)],[3,4,8,11],[]⟩),(11,⟨[(55,.bool)],[],[3,4,5,8,11,12,14,15],[]⟩),(1000006,⟨[],[],[],[]⟩),(2000011,⟨[(55,.bool)],[],[3,4,5,8,11,12,14,15],[]⟩)] [] (ak (oh.ok n) (ak ⟨cd.sound n,cd.az⟩ (ak (mC.ok n) (ak (pG.ok n) aC)))) aD Tryz.func130
end
end Go.AmT
namespace Go.AmT
open Go Go.Am
set_option linter.unusedVariables false
set_option linter.unusedSimpArgs false
def clip (most:Int):Int:=max 0 (min most 20000)
theorem Wm {nt:ai} {c:Option (List Int)} {t:State} {d most:Int} (o:bq nt t) (hd:0≤d) (lk:d≤t.2.2.2) (Em:most<0→d=0):runT nt c (most-d) t=runT nt c (clip most-d) t:=by
 unfold runT oi
 have hG:Good (s6 nt c) (cX nt) (most-d) nt.1.length (fun x=>JS nt x∧x.2.2.2.2=t.2.2.2+x.1) zw:=by
  rintro ⟨m,s⟩ k ⟨hx,he⟩ hk hm hg
  have:=Eg (most:=most-d) (fun _ _=>zx) (m,s) k hx hk hm hg
  refine ⟨⟨this.1,?_⟩,this.2⟩
  have he:s.2.2.2=t.2.2.2+m:=he
  show s.2.2.2+1=t.2.2.2+(m+1)
  omega
 rw [Ns (m2:=clip most-d) hG ?_ 20001 (x:=(0,t)) ⟨⟨o,Int.le_refl _,o.steps.1⟩,by show t.2.2.2=t.2.2.2+0; omega⟩]
 rintro ⟨m,s⟩ ⟨hx,he⟩
 have hle:=hx.le
 have he:s.2.2.2=t.2.2.2+m:=he
 simp only at hle ⊢
 unfold clip
 by_cases h:s.2.2.2<20000
 ·refine .inl ?_
  omega
 ·refine .inr (fun k hk=>?_)
  cases hm:s6 nt c s k
  ·rfl
  ·exact absurd (qS (zx hm)).2.1 h
theorem Wn {nt:ai} {caps:List Int} {t:State} {d most:Int} (o:bq nt t) (hd:0≤d) (lk:d≤t.2.2.2) (Em:most<0→d=0):uX nt t caps (most-d)=uX nt t caps (clip most-d):=by
 unfold uX
 rw [Wm o hd lk Em]
def room (caps:List Int):Nat:=(caps.map fun c=>(400-c).toNat).sum
theorem NI:∀ {caps:List Int} {b:Nat} (hb:b<caps.length),caps[b]<400→room (caps.set b (caps[b]+1))<room caps
 | c::l,0,_,h=>by
  have h:c<400:=h
  show (400-(c+1)).toNat+room l<(400-c).toNat+room l
  omega
 | c::l,b+1,hb,h=>by
  have cw:b<l.length:=by simpa using hb
  have:=NI (caps:=l) (b:=b) (by simpa using hb) (by simpa using h)
  show (400-c).toNat+room (l.set b (l[b]+1))<(400-c).toNat+room l
  omega
theorem room_le:∀ {caps:List Int},(∀ c∈caps,0≤c)→room caps≤400*caps.length
 | [],_=>Nat.le_refl _
 | c::l,h=>by
  have h1:=h c (by simp)
  have:=room_le (caps:=l) (fun x hx=>h x (by simp [hx]))
  show (400-c).toNat+room l≤400*(l.length+1)
  omega
theorem Wo {nt:ai} {caps:List Int} (o:cM nt) (h:dY nt.2 caps=true):room caps≤12000:=by
 have hl:=s4 h
 have hL:=o.dt
 have:=room_le (caps:=caps) (fun c hc=>by
  obtain ⟨i,hi,rfl⟩:=List.mem_iff_getElem.1 hc
  have:=BV h (show i<nt.2.length by omega)
  unfold ez at this
  rw [aH hi] at this
  omega)
 omega
theorem Wp {ls:List aG} {caps:List Int} (hl:caps.length=ls.length) (h:∀ j,j<ls.length→((ls.getD j aM).2.2.2.2.length:Int)≤ez caps j∧ez caps j≤400):dY ls caps=true:=by
 unfold dY
 simp only [Bool.and_eq_true,decide_eq_true_eq,List.all_eq_true,List.mem_range]
 exact ⟨hl,fun j hj=>h j (by omega)⟩
theorem Wq {caps:List Int} {b j:Nat} {x:Int} (hb:b<caps.length):ez (caps.set b x) j=if j=b then x else ez caps j:=by
 unfold ez
 by_cases h:j=b
 ·subst h; rw [lF hb,if_pos rfl]
 ·rw [getD_set_ne (Ne.symm h),if_neg h]
theorem Wr {nt:ai} {s:State} {caps:List Int} (o:bq nt s) (hc:dY nt.2 caps=true) (h:(pI nt s caps).2.2=true):∃ b:Nat,b<nt.2.length∧BU nt s caps=(b:Int)∧ez caps b<400∧(pI nt s caps).1=caps.set b (ez caps b+1)∧dY nt.2 (pI nt s caps).1=true∧room (pI nt s caps).1<room caps:=by
 have hl:=s4 hc
 unfold pI Ic at h ⊢
 split at h
 ·cases h
 ·rename_i hn
  rw [if_neg hn]
  have B:=NC (caps:=caps) o
  have ao:=NF o (Nat.le_refl _) B (by omega)
  obtain ⟨b,hb⟩:∃ b:Nat,BU nt s caps=(b:Int):=⟨(BU nt s caps).toNat,by omega⟩
  rw [hb] at hn ao ⊢
  rw [Int.toNat_natCast] at hn ⊢
  have El:b<nt.2.length:=by omega
  have eK:=BV hc El
  have h4:ez caps b<400:=by omega
  refine ⟨b,El,rfl,h4,rfl,Wp (by rw [List.length_set]; exact hl) (fun j hj=>?_),?_⟩
  ·rw [Wq (by omega)]
   have:=BV hc hj
   split
   ·rename_i e; subst e; omega
   ·exact this
  ·have cS:b<caps.length:=by omega
   have e:ez caps b=caps[b]:=by unfold ez; rw [aH cS]
   rw [e] at h4 ⊢
   exact NI cS h4
abbrev Pk:Type:=State×List Int
def fZ (nt:ai) (s0 M:Int) (x:Pk):State×Int:=uX nt x.1 x.2 (M-(x.1.2.2.2-s0))
def jX (nt:ai) (s0 M:Int) (x:Pk):Bool:=decide ((fZ nt s0 M x).2=2)&&(pI nt (fZ nt s0 M x).1 x.2).2.2
def gT (nt:ai) (s0 M:Int) (x:Pk):Pk:=((fZ nt s0 M x).1,(pI nt (fZ nt s0 M x).1 x.2).1)
structure xi (nt:ai) (s0 most:Int) (x:Pk):Prop where
 ok:bq nt x.1
 cap:dY nt.2 x.2=true
 le:s0≤x.1.2.2.2
 neg:most≤0→x.1.2.2.2=s0
theorem Ws {nt:ai} {c:Option (List Int)} {most:Int} {t:State} (o:bq nt t):t.2.2.2≤(runT nt c most t).2.2.2∧(most≤0→runT nt c most t=t):=by
 constructor
 ·have hG:Good (s6 nt c) (cX nt) most nt.1.length (fun x=>JS nt x∧x.2.2.2.2=t.2.2.2+x.1) zw:=by
   rintro ⟨m,s⟩ k ⟨hx,he⟩ hk hm hg
   have:=Eg (most:=most) (fun _ _=>zx) (m,s) k hx hk hm hg
   refine ⟨⟨this.1,?_⟩,this.2⟩
   have he:s.2.2.2=t.2.2.2+m:=he
   show s.2.2.2+1=t.2.2.2+(m+1)
   omega
  have:=Nr hG (x:=(0,t)) ⟨⟨o,Int.le_refl _,o.steps.1⟩,by show t.2.2.2=t.2.2.2+0; omega⟩
  obtain ⟨hJ,he⟩:=this
  have:=hJ.2.1
  unfold runT
  omega
 ·intro h
  unfold runT
  rw [H7]
  rintro ⟨-,h2⟩
  have h2:(0:Int)<most:=h2
  omega
theorem En {nt:ai} {s0 most:Int} (x:Pk) (hx:xi nt s0 most x) (h:jX nt s0 (clip most) x=true):xi nt s0 most (gT nt s0 (clip most) x)∧room (gT nt s0 (clip most) x).2<room x.2:=by
 unfold jX at h
 rw [Bool.and_eq_true] at h
 have o1:bq nt (fZ nt s0 (clip most) x).1:=BW hx.ok
 obtain ⟨b,-,-,-,-,h1,h2⟩:=Wr o1 hx.cap h.2
 have hs:=Ws (c:=some x.2) (most:=clip most-(x.1.2.2.2-s0)) hx.ok
 refine ⟨⟨o1,h1,?_,fun hm=>?_⟩,h2⟩
 ·have:=hx.le
  show s0≤(runT nt (some x.2) (clip most-(x.1.2.2.2-s0)) x.1).2.2.2
  omega
 ·have e:=hx.neg hm
  show (runT nt (some x.2) (clip most-(x.1.2.2.2-s0)) x.1).2.2.2=s0
  rw [hs.2 (by unfold clip; omega)]; exact e
noncomputable def BY (nt:ai) (s:State) (caps:List Int) (most:Int):State×List Int×Int:=
 if fC nt s&&dY nt.2 caps then
  ((fZ nt s.2.2.2 (clip most) (jv (jX nt s.2.2.2 (clip most)) (gT nt s.2.2.2 (clip most)) 12001 (s,caps))).1,(jv (jX nt s.2.2.2 (clip most)) (gT nt s.2.2.2 (clip most)) 12001 (s,caps)).2,(fZ nt s.2.2.2 (clip most) (jv (jX nt s.2.2.2 (clip most)) (gT nt s.2.2.2 (clip most)) 12001 (s,caps))).2)
 else (([],([],([],0))),[],0)
theorem NJ {nt:ai} {s:State} {caps:List Int} {most:Int} (o:bq nt s) (hc:dY nt.2 caps=true):xi nt s.2.2.2 most (s,caps):=⟨o,hc,Int.le_refl _,fun _=>rfl⟩
theorem Wt {nt:ai} {s:State} {caps:List Int} {most:Int} (o:bq nt s) (hc:dY nt.2 caps=true) (m:Nat):xi nt s.2.2.2 most (jv (jX nt s.2.2.2 (clip most)) (gT nt s.2.2.2 (clip most)) m (s,caps)):=
 Nu (fun x hx h=>(En x hx h).1) m _ (NJ o hc)
theorem Wu {nt:ai} {s0 M:Int} {x:Pk} (o:bq nt x.1) (hc:dY nt.2 x.2=true) (h:(fZ nt s0 M x).2=2):s9 nt (fZ nt s0 M x).1 x.2=true:=by
 have o1:bq nt (fZ nt s0 M x).1:=BW o
 have h:qX nt (fZ nt s0 M x).1 x.2=2:=h
 unfold s9
 rw [show fC nt (fZ nt s0 M x).1=true from decide_eq_true o1,hc]
 unfold qX at h
 cases h1:od nt (fZ nt s0 M x).1
 ·rw [h1] at h; simp at h
 ·rw [h1] at h
  cases h2:qU nt (fZ nt s0 M x).1 x.2
  ·rfl
  ·rw [h2] at h; simp at h
theorem NK {n:Nat} {nt:ai} {s0 most:Int} {x:Pk} (h:cL nt) (hx:xi nt s0 most x) (h0:0≤s0) (hn:1048576<n) (qY : -9223372036854775808≤most) (qZ:most≤9223372036854775807) {ρ:Type} {G:State→Int→Option ρ} {H:State→List Int→Option ρ} {st:State} (cI:st=x.1) :
  ((mC.f n nt st x.2 (ag (most-ag (x.1.2.2.2-s0)))).bind fun fa=>(pG.f n nt fa.1 x.2).bind fun fq=>cut (α:=(Bool×Unit)) (br (!decide (fa.2.1=2)) (some (.inr (true,()))) (some (.inr ((!fq.2.2.1),())))) fun xh=>br xh.1 (G fa.1 fa.2.1) (H fa.1 fq.1)) =
   if jX nt s0 (clip most) x=true then H (gT nt s0 (clip most) x).1 (gT nt s0 (clip most) x).2 else G (fZ nt s0 (clip most) x).1 (fZ nt s0 (clip most) x).2:=by
 subst cI
 obtain ⟨t,c⟩:=x
 have ot:bq nt t:=hx.ok
 have eg:c.length=nt.2.length:=s4 hx.cap
 have hL:=ot.ck.dt
 have hle:s0≤t.2.2.2:=hx.le
 have Em:most≤0→t.2.2.2=s0:=hx.neg
 have s2:=ot.steps
 have hw:ag (most-ag (t.2.2.2-s0))=most-(t.2.2.2-s0):=by
  rw [bo (n:=t.2.2.2-s0) (by omega) (by omega),bo (by omega) (by omega)]
 simp only [hw]
 rw [NH h (nB ot) (by omega) hn]
 have eR:xg nt t c (most-(t.2.2.2-s0))=fZ nt s0 (clip most) (t,c):=by
  unfold xg
  rw [show fC nt t=true from decide_eq_true ot,show dY nt.2 c=true from hx.cap]
  exact Wn ot (by omega) (by omega) (fun hh=>by have:=Em (by omega); omega)
 rw [eR]
 have Wv:=Wu (x:=(t,c)) (s0:=s0) (M:=clip most) ot (show dY nt.2 c=true from hx.cap)
 have oR:bq nt (fZ nt s0 (clip most) (t,c)).1:=BW ot
 simp only [Option.bind_some]
 rw [Wi h (nB oR) (by omega) hn]
 simp only [Option.bind_some]
 unfold jX gT
 generalize hR:fZ nt s0 (clip most) (t,c)=R at *
 by_cases h2:R.2=2
 ·have hj:s9 nt R.1 c=true:=Wv h2
  have Ww:zz nt R.1 c=pI nt R.1 c:=by unfold zz; rw [hj]; rfl
  rw [Ww,decide_eq_true h2,Bool.not_true,aF,bF]
  simp only [Bool.true_and]
  cases (pI nt R.1 c).2.2
  ·rw [Bool.not_false,aL,if_neg (by simp)]
  ·rw [Bool.not_true,aF,if_pos rfl]
 ·rw [decide_eq_false h2,Bool.not_false,aL,bF,aL,Bool.false_and,if_neg (by simp)]
theorem NL {α:Type} {c:α→Bool} {f:α→α} {J:α→Prop} {μ:α→Nat} (hJ:∀ x,J x→c x=true→J (f x)∧μ (f x)<μ x):∀ (m:Nat) (x:α),J x→μ x<m→jv c f (m+1) x=jv c f m x
 | 0,x,_,h=>absurd h (Nat.not_lt_zero _)
 | m+1,x,hx,h=>by
  show (if c x=true then jv c f (m+1) (f x) else x)=(if c x=true then jv c f m (f x) else x)
  split
  ·rename_i hc
   have:=hJ x hx hc
   exact NL hJ m _ this.1 (by omega)
  ·rfl
theorem Wx {n:Nat} {nt:ai} {s:State} {caps:List Int} {most:Int} (h:cL nt) (hs:jt s) (hc:caps.length≤1048576) (hn:1048576<n) (qY : -9223372036854775808≤most) (qZ:most≤9223372036854775807) :
  tb.f n nt s caps most=some ((BY nt s caps most).1,((BY nt s caps most).2.1,((BY nt s caps most).2.2,()))):=by
 unfold tb.f BY
 rw [H3 h hs hc hn]
 cases e:fC nt s&&dY nt.2 caps
 ·rfl
 ·rw [Bool.and_eq_true] at e
  have o:=s_ e.1
  have hr:=Wo o.ck e.2
  simp only [Option.bind_some,Bool.not_true,aF,if_true]
  rw [sT hc]
  simp only [Option.bind_some]
  have P0:=NJ (most:=most) o e.2
  have key:∀ (F:(Int×(List a_)×(List (List Int))×(List (List Int))×(List Int)×Unit→Option (State×(List Int)×(Int×Unit)))→Int×(List a_)×(List (List Int))×(List (List Int))×(List Int)×Unit→Option (State×(List Int)×(Int×Unit))),
    (∀ ih x,xi nt s.2.2.2 most x→F ih (x.1.2.2.2,(x.1.1,(x.1.2.1,(x.1.2.2.1,(x.2,())))))=if jX nt s.2.2.2 (clip most) x=true then ih ((gT nt s.2.2.2 (clip most) x).1.2.2.2,((gT nt s.2.2.2 (clip most) x).1.1,((gT nt s.2.2.2 (clip most) x).1.2.1,((gT nt s.2.2.2 (clip most) x).1.2.2.1,((gT nt s.2.2.2 (clip most) x).2,()))))) else some ((fZ nt s.2.2.2 (clip most) x).1,(x.2,((fZ nt s.2.2.2 (clip most) x).2,()))))→
    ((mC.f n nt s caps (ag (most-ag (s.2.2.2-s.2.2.2)))).bind fun r3=>(pG.f n nt r3.1 caps).bind fun r4=>cut (α:=(Bool×Unit)) (br (!decide (r3.2.1=2)) (some (.inr (true,()))) (some (.inr ((!r4.2.2.1),())))) fun y5=>br y5.1 (some (r3.1,(caps,(r3.2.1,())))) (iter n F (r3.1.2.2.2,(r3.1.1,(r3.1.2.1,(r3.1.2.2.1,(r4.1,()))))))) =
    some ((fZ nt s.2.2.2 (clip most) (jv (jX nt s.2.2.2 (clip most)) (gT nt s.2.2.2 (clip most)) 12001 (s,caps))).1,((jv (jX nt s.2.2.2 (clip most)) (gT nt s.2.2.2 (clip most)) 12001 (s,caps)).2,((fZ nt s.2.2.2 (clip most) (jv (jX nt s.2.2.2 (clip most)) (gT nt s.2.2.2 (clip most)) 12001 (s,caps))).2,()))):=by
   intro F hF
   refine (NK (x:=(s,caps)) h P0 o.steps.1 hn qY qZ (G:=fun t w=>some (t,(caps,(w,())))) (H:=fun t cc=>iter n F (t.2.2.2,(t.1,(t.2.1,(t.2.2.1,(cc,())))))) rfl).trans ?_
   rw [← NL (μ:=fun x:Pk=>room x.2) En 12001 (s,caps) P0 (by show room caps<12001; omega)]
   have e1:jv (jX nt s.2.2.2 (clip most)) (gT nt s.2.2.2 (clip most)) (12001+1) (s,caps)=if jX nt s.2.2.2 (clip most) (s,caps)=true then jv (jX nt s.2.2.2 (clip most)) (gT nt s.2.2.2 (clip most)) 12001 (gT nt s.2.2.2 (clip most) (s,caps)) else (s,caps):=rfl
   rw [e1]
   cases hC:jX nt s.2.2.2 (clip most) (s,caps)
   ·rfl
   ·simp only [if_true]
    obtain ⟨P1,ao⟩:=En _ P0 hC
    have ao:room (gT nt s.2.2.2 (clip most) (s,caps)).2<room caps:=ao
    exact Nt (c:=jX nt s.2.2.2 (clip most)) (f:=gT nt s.2.2.2 (clip most)) (J:=xi nt s.2.2.2 most) (μ:=fun x=>room x.2) En (fun x=>(x.1.2.2.2,(x.1.1,(x.1.2.1,(x.1.2.2.1,(x.2,()))))))
     (G:=fun x=>some ((fZ nt s.2.2.2 (clip most) x).1,(x.2,((fZ nt s.2.2.2 (clip most) x).2,())))) hF (x:=gT nt s.2.2.2 (clip most) (s,caps)) P1 (by show room _<n; omega) (by show room _<12001; omega)
  exact key _ (fun ih x hx=>NK (x:=x) h hx o.steps.1 hn qY qZ (G:=fun t w=>some (t,(x.2,(w,())))) (H:=fun t cc=>ih (t.2.2.2,(t.1,(t.2.1,(t.2.2.1,(cc,())))))) rfl)
end Go.AmT
namespace Go.AmT
noncomputable section
open Go Go.Am Go.Proofs
set_option linter.unusedVariables false
set_option maxRecDepth 100000
def tc.f (n:Nat) (a0:ai) (a1:State) (a2:Int):Option (State×(Bool×Unit)):=(jS.f n a0 a1).bind fun r1=>br (!r1.1) (some (([],([],([],0))),(false,()))) ((iB.f n a0.1 a0.2 a1.1 a1.2.1 a1.2.2.1 a1.2.2.2 (none:Option (List Int))).bind fun r2=>(turns.f n a2 r2.1 r2.2.1 r2.2.2.1 r2.2.2.2.1 r2.2.2.2.2.1 r2.2.2.2.2.2.1 r2.2.2.2.2.2.2.1 r2.2.2.2.2.2.2.2.1 r2.2.2.2.2.2.2.2.2.1).bind fun r3=>(quiet.f n ((r3.1,r3.2.1),((r3.2.2.2.2.1,(r3.2.2.2.2.2.1,(r3.2.2.2.2.2.2.1,r3.2.2.1))),(r3.2.2.2.2.2.2.2.1,(r3.2.2.2.2.2.2.2.2.1,r3.2.2.2.1))))).bind fun r4=>some ((r3.2.2.2.2.1,(r3.2.2.2.2.2.1,(r3.2.2.2.2.2.2.1,r3.2.2.1))),(r4.1,())))
def tc.ae (n:Nat):ar:=⟨[.val cD,.val e9,.val I],[.val e9,.val .bool],fun x=>tc.f n x.1 x.2.1 x.2.2.1⟩
theorem tc.ok (n:Nat):aN 14 (tc.ae n):=aQ n [] [] (ak (jS.ok n) (ak (quiet.ok n) aC)) (bA (iB.ok n) (bA (turns.ok n) aD)) Tryz.func14
end
end Go.AmT
namespace Go.AmT
open Go Go.Am
set_option linter.unusedVariables false
set_option linter.unusedSimpArgs false
noncomputable def BZ (nt:ai) (s:State) (most:Int):State×Bool:=if fC nt s=true then (runT nt none most s,!od nt (runT nt none most s)) else (([],([],([],0))),false)
theorem Wy {n:Nat} {nt:ai} {s:State} {most:Int} (h:cL nt) (hs:jt s) (hn:1048576<n):tc.f n nt s most=some ((BZ nt s most).1,((BZ nt s most).2,())):=by
 unfold tc.f BZ
 rw [zj h hs hn]
 cases e1:fC nt s
 ·rfl
 ·have o:=s_ e1
  simp only [Option.bind_some,Bool.not_true,aF,if_true]
  refine iz.1 (aB.2 (au (zl (caps:=none) o.ck hs hn) (fun r ⟨to,fr,e,T,F⟩=>iz.2 ?_)))
  subst e
  have R:iU nt s (nt,(s,(to,(fr,none)))):=⟨rfl,rfl,T,F⟩
  simp only
  rw [Nw (most:=most) R o (fun _ h=>by cases h) hn]
  simp only [Option.bind_some]
  have hq:quiet.f n ((nt.1,nt.2),(((runT nt none most s).1,((runT nt none most s).2.1,((runT nt none most s).2.2.1,(runT nt none most s).2.2.2))),(to,(fr,none))))=some (!od nt (runT nt none most s),()):=Ia (iU.step R) (Eh o) hn
  rw [hq]
  rfl
end Go.AmT
namespace Go.AmT
noncomputable section
open Go Go.Am Go.Proofs
set_option linter.unusedVariables false
set_option maxRecDepth 100000
def uY.f (n:Nat) (a0:ai) (a1:Int):Option ((List Int)×Unit):=cut (α:=(Bool×Unit)) ((fo.f n a0).bind fun r4=>br (!r4.1) (some (.inr (true,()))) ((cg.f n a1 0 400).bind fun r5=>some (.inr ((!r5.1),())))) fun y3=>br y3.1 (some ([],())) (iter (α:=(Int×(List Int)×Unit)) n (fun Ie eV=>br (decide (eV.1<(a0.2.length:Int))) (ab (0≤eV.1∧eV.1<(a0.2.length:Int)) (let zp:=(a0.2.getD eV.1.toNat aM); ab ((eV.2.1.length+([(max a1 (zp.2.2.2.2.length:Int))]:List Int).length)*8≤aW) (Ie ((ag (eV.1+1)),((eV.2.1++[(max a1 (zp.2.2.2.2.length:Int))]),()))))) (some (eV.2.1,()))) (0,([],())))
def uY.ae (n:Nat):ar:=⟨[.val cD,.val I],[.val IS],fun x=>uY.f n x.1 x.2.1⟩
theorem uY.ok (n:Nat):aN 104 (uY.ae n):=aQ n [(1,⟨[(15,.bool)],[],[1,2],[]⟩),(7,⟨[(5,.own 1000 I),(20,.int .i64)],[(1000,.row true I)],[1,18,19],[]⟩)] [] (ak ⟨fo.sound n,fo.az⟩ (ak ⟨cg.sound n,cg.az⟩ aC)) aD Tryz.func104
def pJ.f (n:Nat) (a0:ai) (a1:Int):Option ((List Int)×Unit):=cut (α:=(Bool×Unit)) ((dq.f n a0).bind fun r3=>br (!r3.1) (some (.inr (true,()))) (br (decide (a1<0)) (some (.inr (true,()))) (some (.inr ((decide (400<a1)),()))))) fun y2=>br y2.1 (some ([],())) (iter (α:=(Int×(List Int)×Unit)) n (fun qJ x9=>br (decide (x9.1<(a0.2.length:Int))) (ab (0≤x9.1∧x9.1<(a0.2.length:Int)) (let v11:=(a0.2.getD x9.1.toNat aM); ab ((x9.2.1.length+([(max a1 (v11.2.2.2.2.length:Int))]:List Int).length)*8≤aW) (qJ ((ag (x9.1+1)),((x9.2.1++[(max a1 (v11.2.2.2.2.length:Int))]),()))))) (some (x9.2.1,()))) (0,([],())))
def pJ.ae (n:Nat):ar:=⟨[.val cD,.val I],[.val IS],fun x=>pJ.f n x.1 x.2.1⟩
theorem pJ.ok (n:Nat):aN 16 (pJ.ae n):=aQ n [(1,⟨[(18,.bool)],[],[1,2],[]⟩),(7,⟨[(5,.own 1000 I),(23,.int .i64)],[(1000,.row true I)],[1,21,22],[]⟩)] [] (ak ⟨dq.sound n,dq.az⟩ aC) aD Tryz.func16
end
end Go.AmT
namespace Go.AmT
open Go Go.Am
set_option linter.unusedVariables false
set_option linter.unusedSimpArgs false
theorem NM {α β ρ:Type} (l:List α) (g:α→β) {F:(Int×List β×Unit→Option ρ)→Int×List β×Unit→Option ρ} {R:List β→Option ρ}
  (h1:∀ ih i (hi:i<l.length) (s:List β),s.length=i→F ih ((i:Int),(s,()))=ih (((i+1:Nat):Int),(s++[g l[i]],())))
  (h2:∀ ih s,F ih ((l.length:Int),(s,()))=R s) {n:Nat} (hn:l.length<n):iter n F (0,([],()))=R (l.map g):=by
 have:=qM (F:=F) (fun i=>((i:Int),((l.take i).map g,()))) l.length (R:=R (l.map g)) (fun ih i hi=>by
  show F ih (((i:Int)),((l.take i).map g,()))=_
  rw [h1 ih i hi _ (by simp; omega),List.take_succ_eq_append_getElem hi,List.map_append]; rfl) (fun ih=>by
  show F ih ((l.length:Int),_)=_
  rw [h2]; simp) hn
 simpa using this
noncomputable def xj (nt:ai) (c:Int):List Int:=if (cy nt&&decide (0≤c∧c≤400))=true then nt.2.map fun l=>max c (l.2.2.2.2.length:Int) else []
theorem Wz {n:Nat} {nt:ai} {c:Int} (h:cL nt) (hn:1048576<n):uY.f n nt c=some (xj nt c,()):=by
 have hl:=h.dt
 unfold uY.f xj
 rw [zf h hn,sF]
 simp only [Option.bind_some]
 have e:cut (α:=(Bool×Unit)) (ρ:=List Int×Unit) (br (!cy nt) (some (.inr (true,()))) (some (.inr ((!(decide (0≤c)&&decide (c≤400))),()))))=fun f=>f (!(cy nt&&decide (0≤c∧c≤400)),()):=by
  funext f
  by_cases a:0≤c<;>by_cases b:c≤400<;>cases cy nt<;>simp [a,b,br,cut]
 rw [e]
 simp only
 cases hb:(cy nt&&decide (0≤c∧c≤400))
 ·rfl
 ·simp only [Bool.not_true,aF,if_true]
  refine NM nt.2 (fun l=>max c (l.2.2.2.2.length:Int)) (R:=fun s=>some (s,())) (fun ih i hi s hs=>?_) (fun ih s=>aK (Int.lt_irrefl _)) (by omega)
  have c0:0≤(i:Int):=by omega
  have c1:(i:Int)<(nt.2.length:Int):=by omega
  have hm:=mr
  have e1:nt.2.getD i aM=nt.2[i]:=aH hi _
  simp only [c1,c0,and_self,sN,decide_true,aL,Int.toNat_natCast,e1]
  rw [ah (by simp only [List.length_singleton]; simp only [aW]; omega),bm (by omega)]
theorem NN {n:Nat} {nt:ai} {c:Int} (h:cL nt) (hn:1048576<n):pJ.f n nt c=some (xj nt c,()):=by
 have hl:=h.dt
 unfold pJ.f xj
 rw [qH h hn]
 simp only [Option.bind_some]
 have e:cut (α:=(Bool×Unit)) (ρ:=List Int×Unit) (br (!cy nt) (some (.inr (true,()))) (br (decide (c<0)) (some (.inr (true,()))) (some (.inr ((decide (400<c)),())))))=fun f=>f (!(cy nt&&decide (0≤c∧c≤400)),()):=by
  funext f
  by_cases a:c<0<;>by_cases b:400<c<;>cases cy nt<;>simp [a,b,br,cut]<;>(congr 2; simp; omega)
 rw [e]
 simp only
 cases hb:(cy nt&&decide (0≤c∧c≤400))
 ·rfl
 ·simp only [Bool.not_true,aF,if_true]
  refine NM nt.2 (fun l=>max c (l.2.2.2.2.length:Int)) (R:=fun s=>some (s,())) (fun ih i hi s hs=>?_) (fun ih s=>aK (Int.lt_irrefl _)) (by omega)
  have c0:0≤(i:Int):=by omega
  have c1:(i:Int)<(nt.2.length:Int):=by omega
  have e1:nt.2.getD i aM=nt.2[i]:=aH hi _
  simp only [c1,c0,and_self,sN,decide_true,aL,Int.toNat_natCast,e1]
  rw [ah (by simp only [List.length_singleton]; simp only [aW]; omega),bm (by omega)]
end Go.AmT
