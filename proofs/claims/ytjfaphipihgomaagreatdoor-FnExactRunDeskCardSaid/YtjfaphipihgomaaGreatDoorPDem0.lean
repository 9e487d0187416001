/- Demands, in plain Lean: both programs meet the same. -/
import Derived.Test.YtjfaphipihgomaaGreatDoorLDem0
open Go Go.Am
noncomputable section
set_option linter.unusedVariables false
set_option linter.unusedSimpArgs false
open Bool renaming not_false → iR, not_true → bf
open Int renaming toNat_natCast → ay
open List renaming getElem_mem → ct, length_singleton → iQ
open Nat renaming not_lt_zero → yT
open Option renaming bind_some → aC
namespace Go.AmT
variable {l link d n:Nat} {nt:aq} {fin count most:Int} {s t:State}
def dF (s:State) (j:Nat):Int:=((s.2.2.1.getD j []).length:Int)
def fW (nt:aq) (link:Nat):Int:=(nt.2.getD link aE).1
def dC (f:Nat→Bool) (l:Nat):Nat→Bool:=fun j=>f j||decide (j=l)
def jo (nt:aq) (fin count:Int) (link:Nat) (rec:State→Nat→Int→State×Bool):Nat→State→State×Bool
 | 0,s=>(s,false)
 | m+1,s=>
  if dF s link<count then
   if s.2.2.2<fin∧cS nt s (fW nt link).toNat=true then jo nt fin count link rec m (cX nt s (fW nt link).toNat)
   else if ¬ s.2.2.2<fin∨(bd nt s (fW nt link).toNat).1≠2∨s.2.2.2=20000 then (s,false)
   else if (rec s (bg nt s (fW nt link).toNat).toNat (dF s (bg nt s (fW nt link).toNat).toNat+1)).2=true then jo nt fin count link rec m (rec s (bg nt s (fW nt link).toNat).toNat (dF s (bg nt s (fW nt link).toNat).toNat+1)).1
   else ((rec s (bg nt s (fW nt link).toNat).toNat (dF s (bg nt s (fW nt link).toNat).toNat+1)).1,false)
  else (s,true)
def cz (nt:aq) (fin:Int):Nat→(Nat→Bool)→State→Nat→Int→State×Bool
 | 0,_,s,_,_=>(s,false)
 | d+1,f,s,link,count=>
  if count≤dF s link then (s,true)
  else if fW nt link<0∨f link=true then (s,false)
  else jo nt fin count link (cz nt fin d (dC f link)) 20001 s
def oV (f:Nat→Bool):Nat→Nat
 | 0=>0
 | L+1=>oV f L+if f L=true then 0 else 1
theorem VQ {f:Nat→Bool} (h:f l=false):∀ {L:Nat},oV (dC f l) L+(if l<L then 1 else 0)=oV f L
 | 0=>by simp [oV]
 | L+1=>by
  have ih:=VQ (L:=L) h;show oV (dC f l) L+(if dC f l L=true then 0 else 1)+_=oV f L+_;by_cases e:L=l
  ·subst e;rw [if_neg (by omega)] at ih;rw [if_pos (show dC f L L=true by simp [dC]),if_pos (show L<L+1 by omega),h];simp only [Bool.false_eq_true,if_false];omega
  have e2:dC f l L=f L:=by simp [dC,e]
  rw [e2];by_cases h1:l<L
  ·rw [if_pos h1] at ih; rw [if_pos (show l<L+1 by omega)]; omega
  rw [if_neg h1] at ih; rw [if_neg (show ¬ l<L+1 by omega)]; omega
theorem JG {f:Nat→Bool} {L:Nat} (h:f l=false) (hl:l<L):oV (dC f l) L<oV f L:=by have:=VQ (L:=L) h;rw [if_pos hl] at this;omega
theorem OJ {f:Nat→Bool} : ∀ {L:Nat},oV f L≤L
 | 0=>Nat.le_refl _
 | L+1=>by have:=OJ (f:=f) (L:=L);show oV f L+_≤L+1;split<;>omega
theorem OK {rec:State→Nat→Int→State×Bool} (J:State→Prop) (hk:(fW nt link).toNat<nt.1.length)
  (hs:∀ s k,J s→k<nt.1.length→cS nt s k=true→J (cX nt s k)) (hl:∀ s k,J s→k<nt.1.length→(bd nt s k).1=2→(bg nt s k).toNat<nt.2.length)
  (hr:∀ s l c,J s→l<nt.2.length→J (rec s l c).1):∀ m s,J s→J (jo nt fin count link rec m s).1
 | 0,s,h=>h
 | m+1,s,h=>by
  unfold jo;split
  ·split
   ·rename_i hc; exact OK J hk hs hl hr m _ (hs s _ h hk hc.2)
   split
   ·exact h
   rename_i h2;have hw:(bd nt s (fW nt link).toNat).1=2:=by
    by_cases hh:(bd nt s (fW nt link).toNat).1=2
    ·exact hh
    exact absurd (.inr (.inl hh)) h2
   have:=hr s _ (dF s (bg nt s (fW nt link).toNat).toNat+1) h (hl s _ h hk hw);split
   ·exact OK J hk hs hl hr m _ this
   exact this
  exact h
theorem Gk (o:cK nt) {link:Nat} (hl:link<nt.2.length) (h:¬ fW nt link<0):(fW nt link).toNat<nt.1.length∧fW nt link=((fW nt link).toNat:Int):=by
 have E:=(o.ends link hl).out;unfold fW at h ⊢;rw [aJ hl] at h ⊢;rcases E with ⟨h1,-⟩ | ⟨h1,h2,-⟩
 ·omega
 omega
theorem VR (J:State→Prop) (ho:∀ s,J s→bG nt s) (hs:∀ s k,J s→k<nt.1.length→cS nt s k=true→J (cX nt s k)):∀ d f s link count,link<nt.2.length→J s→J (cz nt fin d f s link count).1
 | 0,f,s,link,count,hl,h=>h
 | d+1,f,s,link,count,hl,h=>by
  unfold cz;split
  ·exact h
  split
  ·exact h
  rename_i h2;obtain ⟨hk,-⟩:=Gk (ho s h).cf hl (fun hh=>h2 (.inl hh));exact OK J hk hs (fun s k hJ hk hw=>by obtain ⟨j,hj,e,-⟩:=nK (ho s hJ) hk hw; rw [e]; exact hj) (fun s l c hJ hl=>VR J ho hs d _ s l c hl hJ) 20001 s h
theorem OL {rec:State→Nat→Int→State×Bool} : ∀ m s,(jo nt fin count link rec m s).2=true→count≤dF (jo nt fin count link rec m s).1 link
 | 0,s,h=>by cases h
 | m+1,s,h=>by
  unfold jo at h ⊢;split
  ·rename_i hc;rw [if_pos hc] at h;split
   ·rename_i h1;rw [if_pos h1] at h;exact OL m _ h
   rename_i h1;rw [if_neg h1] at h;split
   ·rename_i h2; rw [if_pos h2] at h; cases h
   rename_i h2;rw [if_neg h2] at h;split
   ·rename_i h3; rw [if_pos h3] at h; exact OL m _ h
   rename_i h3; rw [if_neg h3] at h; cases h
  rename_i hc;show count≤dF s link;omega
theorem ad_ {f:Nat→Bool} (h:(cz nt fin d f s link count).2=true):count≤dF (cz nt fin d f s link count).1 link:=by
 cases d with
 | zero=>cases h
 | succ d=>
  unfold cz at h ⊢;split
  ·rename_i h1; exact h1
  rename_i h1;rw [if_neg h1] at h;split
  ·rename_i h2; rw [if_pos h2] at h; cases h
  rename_i h2; rw [if_neg h2] at h; exact OL _ _ h
structure zb (nt:aq) (s t:State):Prop where
 ok:bG nt t
 le:s.2.2.2≤t.2.2.2
 eq:t.2.2.2=s.2.2.2→t=s
theorem zb.refl (o:bG nt s):zb nt s s:=⟨o,Int.le_refl _,fun _=>rfl⟩
theorem zb.step {k:Nat} (A:zb nt s t) (hk:k<nt.1.length) (hc:cS nt t k=true):zb nt s (cX nt t k):=by
 have h:=A.le;refine ⟨Bm A.ok hk hc,?_,fun e=>?_⟩
 ·show s.2.2.2≤t.2.2.2+1;omega
 have e:t.2.2.2+1=s.2.2.2:=e;omega
theorem Gm {f:Nat→Bool} (o:bG nt s) (hl:link<nt.2.length):zb nt s (cz nt fin d f s link count).1:=
 VR (zb nt s) (fun _ A=>A.ok) (fun _ _ A hk hc=>A.step hk hc) d f s link count hl (zb.refl o)
theorem VS {f:Nat→Bool} (o:bG nt s) (hl:link<nt.2.length) (h:(cz nt fin d f s link (dF s link+1)).2=true):s.2.2.2<(cz nt fin d f s link (dF s link+1)).1.2.2.2:=by
 have A:=Gm (fin:=fin) (d:=d) (f:=f) (count:=dF s link+1) o hl;have h1:=ad_ h;have h2:=A.le;rcases Int.lt_or_eq_of_le h2 with h3 | h3
 ·exact h3
 rw [A.eq h3.symm] at h1;omega
theorem ad0 {b:List Bool} (hl:l<b.length) (f:Nat→Bool) (hf:∀ j,b.getD j false=f j):∀ j,(b.set l true).getD j false=dC f l j:=by
 intro j;by_cases h:j=l
 ·subst h; rw [mW hl]; simp [dC]
 rw [getD_set_ne (Ne.symm h),hf]; simp [dC,h]
theorem ad1 {b:List Bool} (hl:l<b.length) (h:b.getD l false=false):(b.set l true).set l false=b:=by
 rw [List.set_set];have:b[l]=false:=by rw [← h,aJ hl]
 rw [← this]; exact List.set_getElem_self hl
theorem VT {n:Nat} {nt:aq} {fin:Int} (hn:1048576<n):∀ (d:Nat) (b:List Bool) (f:Nat→Bool) (s:State) (link:Nat) (count:Int),bG nt s→b.length=nt.2.length→(∀ j,b.getD j false=f j)→link<nt.2.length→oV f nt.2.length<d→
  dk.F n d nt.1 nt.2 s.2.2.2 (link:Int) count fin s.1 s.2.1 s.2.2.1 b=some ((cz nt fin d f s link count).1.2.2.2,(cz nt fin d f s link count).2,(cz nt fin d f s link count).1.1,(cz nt fin d f s link count).1.2.1,(cz nt fin d f s link count).1.2.2.1,b,())
 | 0,b,f,s,link,count,o,hb,hf,hl,hd=>absurd hd (yT _)
 | d+1,b,f,s,link,count,o,hb,hf,hl,hd=>by
  have mO:=o.ns
  have hL:=o.cf.dB
  show dk.B n (dk.F n d) nt.1 nt.2 s.2.2.2 (link:Int) count fin s.1 s.2.1 s.2.2.1 b=_
  unfold dk.B
  simp only [ay]
  rw [af (by omega)]
  show br (decide (count≤dF s link)) _ _=_
  unfold cz
  by_cases h1:count≤dF s link
  ·rw [aG h1,if_pos h1]
  ·rw [av h1,if_neg h1,af (by omega)]
   show cut (α:=Bool×Unit) (br (decide (fW nt link<0)) _ _) _=_
   by_cases h2:fW nt link<0
   ·rw [aG h2,aY,aB,if_pos (.inl h2)]
   ·rw [av h2,af (by omega),aY,hf]
    cases h3:f link
    ·rw [ar,if_neg (by simp [h2]),af (by omega)]
     obtain ⟨hk,ek⟩:=Gk o.cf hl h2
     have OM:=JG h3 hl
     have sJ:=ad1 (show link<b.length by omega) (by rw [hf,h3])
     have key:∀ (m m':Nat) (t:State),bG nt t→(20000-t.2.2.2).toNat<m→(20000-t.2.2.2).toNat<m'→
       ∀ (F:((List Bool)×(Int×(List bM)×(List (List Int))×(List (List Int))×Unit)→Option (Int×(Bool×(List bM)×(List (List Int))×(List (List Int))×(List Bool)×Unit)))→(List Bool)×(Int×(List bM)×(List (List Int))×(List (List Int))×Unit)→Option (Int×(Bool×(List bM)×(List (List Int))×(List (List Int))×(List Bool)×Unit))),
       (∀ ih bT,F ih bT=ab (0≤(link:Int)∧(link:Int)<(bT.2.2.2.2.1.length:Int)) (br (decide (((bT.2.2.2.2.1.getD link []).length:Int)<count)) (cut (α:=(Bool×Unit)) (br (decide (bT.2.1<fin)) ((ki.f n (nt.1,nt.2) (bT.2.2.1,bT.2.2.2.1,bT.2.2.2.2.1,bT.2.1) (nt.2.getD link aE).1).bind fun OG=>some (.inr (OG.1,()))) (some (.inr (false,())))) fun OH=>br OH.1 ((k_.f n nt.1 nt.2 bT.2.1 (nt.2.getD link aE).1 bT.2.2.1 bT.2.2.2.1 bT.2.2.2.2.1).bind fun w7=>ih (bT.1,w7.1,w7.2.1,w7.2.2.1,w7.2.2.2.1,())) (ab (0≤(nt.2.getD link aE).1∧(nt.2.getD link aE).1<(nt.1.length:Int)) (let lC:=(nt.1.getD (nt.2.getD link aE).1.toNat bC); ab (0≤(nt.2.getD link aE).1∧(nt.2.getD link aE).1<(bT.2.2.1.length:Int)) ((gW.f n lC (bT.2.2.1.getD (nt.2.getD link aE).1.toNat bK)).bind fun Gi=>cut (α:=(Bool×Unit)) (br (!(decide (bT.2.1<fin))) (some (.inr (true,()))) (br (!decide (Gi.1=2)) (some (.inr (true,()))) (some (.inr (decide (bT.2.1=20000),()))))) fun Gj=>br Gj.1 (ab (0≤(link:Int)∧(link:Int)<(bT.1.length:Int)) (let uI:=(bT.1.set link false); some (bT.2.1,false,bT.2.2.1,bT.2.2.2.1,bT.2.2.2.2.1,uI,()))) ((kZ.f n (nt.1,nt.2) (bT.2.2.1,bT.2.2.2.1,bT.2.2.2.2.1,bT.2.1) (nt.2.getD link aE).1).bind fun pT=>ab (0≤pT.1∧pT.1<(bT.2.2.2.2.1.length:Int)) ((dk.F n d nt.1 nt.2 bT.2.1 pT.1 (ah (((bT.2.2.2.2.1.getD pT.1.toNat []).length:Int)+1)) fin bT.2.2.1 bT.2.2.2.1 bT.2.2.2.2.1 bT.1).bind fun eA=>br (!eA.2.1) (ab (0≤(link:Int)∧(link:Int)<(eA.2.2.2.2.2.1.length:Int)) (let v51:=(eA.2.2.2.2.2.1.set link false); some (eA.1,false,eA.2.2.1,eA.2.2.2.1,eA.2.2.2.2.1,v51,()))) (ih (eA.2.2.2.2.2.1,eA.1,eA.2.2.1,eA.2.2.2.1,eA.2.2.2.2.1,())))))))) (ab (0≤(link:Int)∧(link:Int)<(bT.1.length:Int)) (let OI:=(bT.1.set link false); some (bT.2.1,true,bT.2.2.1,bT.2.2.2.1,bT.2.2.2.2.1,OI,())))))→
       iter m F (b.set link true,t.2.2.2,t.1,t.2.1,t.2.2.1,())=some ((jo nt fin count link (cz nt fin d (dC f link)) m' t).1.2.2.2,(jo nt fin count link (cz nt fin d (dC f link)) m' t).2,(jo nt fin count link (cz nt fin d (dC f link)) m' t).1.1,(jo nt fin count link (cz nt fin d (dC f link)) m' t).1.2.1,(jo nt fin count link (cz nt fin d (dC f link)) m' t).1.2.2.1,b,()):=by
      intro m
      induction m with
      | zero=>intro m' t ot h; omega
      | succ m IH=>
       intro m' t ot hm yu F hF
       obtain ⟨m',rfl⟩:∃ q,m'=q+1:=⟨m'-1,by omega⟩
       show F (iter m F) _=_
       rw [hF]
       have hnt:=ot.ns
       have Tu:=ot.na
       have dz:=ot.steps
       simp only
       rw [af (by omega)]
       unfold jo
       show br (decide (dF t link<count)) _ _=_
       by_cases c1:dF t link<count
       ·rw [aG c1,if_pos c1,show (nt.2.getD link aE).1=(((fW nt link).toNat:Nat):Int) from ek]
        generalize ly:(fW nt link).toNat=k at hk ⊢
        have yU:ki.f n (nt.1,nt.2) (t.1,t.2.1,t.2.2.1,t.2.2.2) (k:Int)=some (cS nt t k,()):=Bh ot hk hn
        have iN:kZ.f n (nt.1,nt.2) (t.1,t.2.1,t.2.2.1,t.2.2.2) (k:Int)=some (bg nt t k,()):=F8 ot hk hn
        have hw:gW.f n (nt.1.getD k bC) (t.1.getD k bK)=some ((bd nt t k).1,(bd nt t k).2,()):=Bg (ot.act k hk)
        have VU:¬ (t.2.2.2<fin∧cS nt t k=true)→(ab (0≤(k:Int)∧(k:Int)<(nt.1.length:Int)) (let lC:=(nt.1.getD (k:Int).toNat bC); ab (0≤(k:Int)∧(k:Int)<(t.1.length:Int)) ((gW.f n lC (t.1.getD (k:Int).toNat bK)).bind fun Gi=>cut (α:=(Bool×Unit)) (br (!(decide (t.2.2.2<fin))) (some (.inr (true,()))) (br (!decide (Gi.1=2)) (some (.inr (true,()))) (some (.inr (decide (t.2.2.2=20000),()))))) fun Gj=>br Gj.1 (ab (0≤(link:Int)∧(link:Int)<((b.set link true).length:Int)) (let uI:=((b.set link true).set link false); some (t.2.2.2,false,t.1,t.2.1,t.2.2.1,uI,()))) ((kZ.f n (nt.1,nt.2) (t.1,t.2.1,t.2.2.1,t.2.2.2) (k:Int)).bind fun pT=>ab (0≤pT.1∧pT.1<(t.2.2.1.length:Int)) ((dk.F n d nt.1 nt.2 t.2.2.2 pT.1 (ah (((t.2.2.1.getD pT.1.toNat []).length:Int)+1)) fin t.1 t.2.1 t.2.2.1 (b.set link true)).bind fun eA=>br (!eA.2.1) (ab (0≤(link:Int)∧(link:Int)<(eA.2.2.2.2.2.1.length:Int)) (let v51:=(eA.2.2.2.2.2.1.set link false); some (eA.1,false,eA.2.2.1,eA.2.2.2.1,eA.2.2.2.2.1,v51,()))) (iter m F (eA.2.2.2.2.2.1,eA.1,eA.2.2.1,eA.2.2.2.1,eA.2.2.2.2.1,()))))))) =
          some ((if ¬ t.2.2.2<fin∨(bd nt t k).1≠2∨t.2.2.2=20000 then (t,false) else if (cz nt fin d (dC f link) t (bg nt t k).toNat (dF t (bg nt t k).toNat+1)).2=true then jo nt fin count link (cz nt fin d (dC f link)) m' (cz nt fin d (dC f link) t (bg nt t k).toNat (dF t (bg nt t k).toNat+1)).1 else ((cz nt fin d (dC f link) t (bg nt t k).toNat (dF t (bg nt t k).toNat+1)).1,false)).1.2.2.2,(if ¬ t.2.2.2<fin∨(bd nt t k).1≠2∨t.2.2.2=20000 then (t,false) else if (cz nt fin d (dC f link) t (bg nt t k).toNat (dF t (bg nt t k).toNat+1)).2=true then jo nt fin count link (cz nt fin d (dC f link)) m' (cz nt fin d (dC f link) t (bg nt t k).toNat (dF t (bg nt t k).toNat+1)).1 else ((cz nt fin d (dC f link) t (bg nt t k).toNat (dF t (bg nt t k).toNat+1)).1,false)).2,(if ¬ t.2.2.2<fin∨(bd nt t k).1≠2∨t.2.2.2=20000 then (t,false) else if (cz nt fin d (dC f link) t (bg nt t k).toNat (dF t (bg nt t k).toNat+1)).2=true then jo nt fin count link (cz nt fin d (dC f link)) m' (cz nt fin d (dC f link) t (bg nt t k).toNat (dF t (bg nt t k).toNat+1)).1 else ((cz nt fin d (dC f link) t (bg nt t k).toNat (dF t (bg nt t k).toNat+1)).1,false)).1.1,(if ¬ t.2.2.2<fin∨(bd nt t k).1≠2∨t.2.2.2=20000 then (t,false) else if (cz nt fin d (dC f link) t (bg nt t k).toNat (dF t (bg nt t k).toNat+1)).2=true then jo nt fin count link (cz nt fin d (dC f link)) m' (cz nt fin d (dC f link) t (bg nt t k).toNat (dF t (bg nt t k).toNat+1)).1 else ((cz nt fin d (dC f link) t (bg nt t k).toNat (dF t (bg nt t k).toNat+1)).1,false)).1.2.1,(if ¬ t.2.2.2<fin∨(bd nt t k).1≠2∨t.2.2.2=20000 then (t,false) else if (cz nt fin d (dC f link) t (bg nt t k).toNat (dF t (bg nt t k).toNat+1)).2=true then jo nt fin count link (cz nt fin d (dC f link)) m' (cz nt fin d (dC f link) t (bg nt t k).toNat (dF t (bg nt t k).toNat+1)).1 else ((cz nt fin d (dC f link) t (bg nt t k).toNat (dF t (bg nt t k).toNat+1)).1,false)).1.2.2.1,b,()):=by
         intro qj
         rw [af (by omega)]
         simp only [ay]
         rw [af (by omega),hw]
         simp only [aC,List.length_set]
         rw [sJ]
         by_cases d1:t.2.2.2<fin
         ·rw [decide_eq_true d1,bf,ar]
          by_cases d2:(bd nt t k).1=2
          ·rw [decide_eq_true d2,bf,ar,aY]
           by_cases d3:t.2.2.2=20000
           ·rw [decide_eq_true d3,aB,if_pos (.inr (.inr d3)),af (by omega)]
           ·rw [decide_eq_false d3,ar,if_neg (by omega),iN]
            obtain ⟨j,hj,ej,-⟩:=nK ot hk d2
            simp only [aC,ej,ay]
            rw [af (by omega)]
            have qJ:(b.set link true).length=nt.2.length:=by simpa using hb
            have hq:(t.2.2.1.getD j []).length≤1048576:=by rw [aJ (by omega)]; exact (mg ot).fG _ (ct (by omega))
            have JH:=VT (fin:=fin) hn d (b.set link true) (dC f link) t j (dF t j+1) ot qJ (ad0 (by omega) f hf) hj (by omega)
            rw [bP (by omega) (by omega),show ((t.2.2.1.getD j []).length:Int)+1=dF t j+1 from rfl,JH]
            have hA:=Gm (fin:=fin) (d:=d) (f:=dC f link) (count:=dF t j+1) ot hj
            have hM:=VS (fin:=fin) (d:=d) (f:=dC f link) ot hj
            generalize cz nt fin d (dC f link) t j (dF t j+1)=R at hA hM ⊢
            simp only [aC]
            cases h5:R.2
            ·rw [iR,aB,if_neg (by simp),af (by rw [qJ]; omega),sJ]
            ·rw [bf,ar,if_pos rfl]
             have hM:=hM h5
             have AP:=hA.ok.steps
             exact IH m' R.1 hA.ok (by omega) (by omega) F hF
          ·rw [decide_eq_false d2,iR,aB,aY,aB,if_pos (.inr (.inl d2)),af (by omega)]
         ·rw [decide_eq_false d1,iR,aB,aY,aB,if_pos (.inl d1),af (by omega)]
        by_cases c2:t.2.2.2<fin
        ·rw [aG c2,yU]
         simp only [aC,aY]
         cases c3:cS nt t k
         ·rw [ar,if_neg (by simp)]
          exact VU (by rw [c3]; simp)
         ·rw [aB,if_pos ⟨c2,rfl⟩,Jr ot (mg ot) hk c3 hn]
          have wv:=(s7 c3).2.1
          simp only [aC]
          refine IH m' (cX nt t k) (Bm ot hk c3) ?_ ?_ F hF
          ·show (20000-(t.2.2.2+1)).toNat<m
           omega
          ·show (20000-(t.2.2.2+1)).toNat<m'
           omega
        ·rw [av c2,aY,ar,if_neg (fun hh=>c2 hh.1)]
         exact VU (fun hh=>c2 hh.1)
       ·rw [av c1,if_neg c1,af (by simp; omega),sJ]
     have dz:=o.steps
     exact key n 20001 s o (by omega) (by omega) _ (fun ih x=>rfl)
    ·rw [aB,if_pos (.inr rfl)]
abbrev DA:Type:=(List Program)×List bb×(Int×Option (List Int)×List bM×List (List Int)×List (List Int)×List (List Int)×List (List Int)×Int×List Int×Unit)
abbrev VV:Type:=(Int)→(Int)→(List Program)→(List bb)→(Int)→(Option (List Int))→(List bM)→(List (List Int))→(List (List Int))→(List (List Int))→(List (List Int))→(Int)→(List Int)→Option (Bool×DA)
def VW {ρ:Type} (n:Nat) (link count k:Int) (slf:VV) (out:Bool→DA→Option ρ) (ih:DA→Option ρ) (x:DA):Option ρ:=
 ab (0≤link∧link<(x.2.2.2.2.2.2.1.length:Int)) (br (decide (((x.2.2.2.2.2.2.1.getD link.toNat []).length:Int)<count)) ((can.f n ((x.1,x.2.1),(x.2.2.2.2.1,x.2.2.2.2.2.1,x.2.2.2.2.2.2.1,x.2.2.1),x.2.2.2.2.2.2.2.1,x.2.2.2.2.2.2.2.2.1,x.2.2.2.1) k).bind fun km=>br km.1 (br (decide (x.2.2.2.2.2.2.2.2.2.1≤0)) (out false x) ((k9.f n k x.1 x.2.1 x.2.2.1 x.2.2.2.1 x.2.2.2.2.1 x.2.2.2.2.2.1 x.2.2.2.2.2.2.1 x.2.2.2.2.2.2.2.1 x.2.2.2.2.2.2.2.2.1).bind fun eB=>ih (eB.1,eB.2.1,eB.2.2.1,eB.2.2.2.1,eB.2.2.2.2.1,eB.2.2.2.2.2.1,eB.2.2.2.2.2.2.1,eB.2.2.2.2.2.2.2.1,eB.2.2.2.2.2.2.2.2.1,ah (x.2.2.2.2.2.2.2.2.2.1-1),x.2.2.2.2.2.2.2.2.2.2.1,()))) ((iP.f n ((x.1,x.2.1),(x.2.2.2.2.1,x.2.2.2.2.2.1,x.2.2.2.2.2.2.1,x.2.2.1),x.2.2.2.2.2.2.2.1,x.2.2.2.2.2.2.2.2.1,x.2.2.2.1) k).bind fun iT=>br (!decide (iT.1=2)) (out false x) (ab (0≤iT.2.1∧iT.2.1<(x.2.2.2.2.2.2.1.length:Int)) ((slf iT.2.1 (ah (((x.2.2.2.2.2.2.1.getD iT.2.1.toNat []).length:Int)+1)) x.1 x.2.1 x.2.2.1 x.2.2.2.1 x.2.2.2.2.1 x.2.2.2.2.2.1 x.2.2.2.2.2.2.1 x.2.2.2.2.2.2.2.1 x.2.2.2.2.2.2.2.2.1 x.2.2.2.2.2.2.2.2.2.1 x.2.2.2.2.2.2.2.2.2.2.1).bind fun cF=>br (!cF.1) (out false cF.2) (ih (cF.2.1,cF.2.2.1,cF.2.2.2.1,cF.2.2.2.2.1,cF.2.2.2.2.2.1,cF.2.2.2.2.2.2.1,cF.2.2.2.2.2.2.2.1,cF.2.2.2.2.2.2.2.2.1,cF.2.2.2.2.2.2.2.2.2.1,cF.2.2.2.2.2.2.2.2.2.2.1,cF.2.2.2.2.2.2.2.2.2.2.2.1,())))))) (out true x))
def DE (nt:aq) (to fr:List (List Int)) (s0 most:Int) (bl:List Int) (t:State):DA:=(nt.1,nt.2,t.2.2.2,none,t.1,t.2.1,t.2.2.1,to,fr,most-(t.2.2.2-s0),bl,())
def iU (most:Int):Int:=max 0 (min most 20000)
def Gn (fin:Int) (t:State):Prop:=¬ t.2.2.2<fin∨t.2.2.2=20000
theorem ad2 {f:Nat→Bool} (h:Gn fin t):cz nt fin d f t link (dF t link+1)=(t,false):=by
 cases d with
 | zero=>rfl
 | succ d=>
  unfold cz;rw [if_neg (by omega)];split
  ·rfl
  show (if dF t link<dF t link+1 then _ else _)=_;rw [if_pos (by omega)];split
  ·rename_i h1;have:=(s7 h1.2).2.1;rcases h with h | h
   ·exact absurd h1.1 h
   omega
  rw [if_pos (by rcases h with h | h; exact .inl h; exact .inr (.inr h))]
theorem ad3 {s0:Int} (h0:0≤s0) (h1:s0≤t.2.2.2) (h2:t.2.2.2≤20000):Gn (s0+iU most) t↔(most-(t.2.2.2-s0)≤0∨t.2.2.2=20000):=by unfold Gn iU;omega
theorem VX {ρ:Type} {to fr:List (List Int)} {s0:Int} {slf:VV} {f:Nat→Bool} {bl:List Int} (out:Bool→DA→Option ρ) (hn:1048576<n)
  (T:jL nt wR toQ (fun p=>p.1) to nt.2.length) (E:jL nt yP yQ (fun p=>p.2.1) fr nt.2.length) (h0:0≤s0) (uX : -9223372036854775808≤most) (uY:most≤9223372036854775807) (hl:link<nt.2.length) (hk:(fW nt link).toNat<nt.1.length) (ek:fW nt link=((fW nt link).toNat:Int))
  (JH:∀ t j c,bG nt t→s0≤t.2.2.2→j<nt.2.length→slf (j:Int) c nt.1 nt.2 t.2.2.2 none t.1 t.2.1 t.2.2.1 to fr (most-(t.2.2.2-s0)) bl=some ((cz nt (s0+iU most) d f t j c).2,DE nt to fr s0 most bl (cz nt (s0+iU most) d f t j c).1)) :
  ∀ (m m':Nat) (t:State),bG nt t→s0≤t.2.2.2→(20000-t.2.2.2).toNat<m→(20000-t.2.2.2).toNat<m'→∀ F:(DA→Option ρ)→DA→Option ρ,(∀ ih x,F ih x=VW n (link:Int) count (fW nt link) slf out ih x)→
   iter m F (DE nt to fr s0 most bl t)=out (jo nt (s0+iU most) count link (cz nt (s0+iU most) d f) m' t).2 (DE nt to fr s0 most bl (jo nt (s0+iU most) count link (cz nt (s0+iU most) d f) m' t).1):=by
 intro m;induction m with
 | zero=>intro m' t ot _ h; omega
 | succ m IH=>
  intro m' t ot pq hm yu F hF;obtain ⟨m',rfl⟩:∃ q,m'=q+1:=⟨m'-1,by omega⟩
  show F (iter m F) _=_;rw [hF];have hnt:=ot.ns;have dz:=ot.steps;have R:kH nt t (nt,t,to,fr,none):=⟨rfl,rfl,T,E⟩
  have VY:=ad3 (most:=most) h0 pq dz.2;unfold VW DE;simp only [ay];rw [af (by omega)];unfold jo;show br (decide (dF t link<count)) _ _=_;by_cases c1:dF t link<count
  ·rw [aG c1,if_pos c1,ek];generalize (fW nt link).toNat=k at hk ⊢;have yU:can.f n ((nt.1,nt.2),(t.1,t.2.1,t.2.2.1,t.2.2.2),to,fr,(none:Option (List Int))) (k:Int)=some (cS nt t k,()):=Dp R ot hk;have hw:iP.f n ((nt.1,nt.2),(t.1,t.2.1,t.2.2.1,t.2.2.2),to,fr,(none:Option (List Int))) (k:Int)=some ((bd nt t k).1,bg nt t k,()):=Dn R ot hk;simp only [ay];rw [yU,hw];simp only [aC];by_cases hS:Gn (s0+iU most) t
   ·have uV:=VY.1 hS;have e1:¬ (t.2.2.2<s0+iU most∧cS nt t k=true):=by
     rintro ⟨a,b⟩;have:=(s7 b).2.1;rcases hS with h | h
     ·exact h a
     omega
    rw [if_neg e1,if_pos (by rcases hS with h | h; exact .inl h; exact .inr (.inr h))];cases c3:cS nt t k
    ·rw [ar];by_cases d2:(bd nt t k).1=2
     ·obtain ⟨j,hj,ej,-⟩:=nK ot hk d2;have hq:(t.2.2.1.getD j []).length≤1048576:=by rw [aJ (by omega)]; exact (mg ot).fG _ (ct (by omega))
      rw [decide_eq_true d2,bf,ar];simp only [ej,ay];rw [af (by omega),bP (by omega) (by omega),show ((t.2.2.1.getD j []).length:Int)+1=dF t j+1 from rfl,JH t j _ ot pq hj,ad2 hS];rfl
     rw [decide_eq_false d2,iR,aB]
    have wv:=(s7 c3).2.1;rw [aB,aG (by omega)]
   have uV:=mt VY.2 hS;have hS3:t.2.2.2<s0+iU most∧t.2.2.2≠20000:=by unfold Gn at hS; omega
   cases c3:cS nt t k
   ·rw [ar,if_neg (by simp)];by_cases d2:(bd nt t k).1=2
    ·obtain ⟨j,hj,ej,-⟩:=nK ot hk d2;have hq:(t.2.2.1.getD j []).length≤1048576:=by rw [aJ (by omega)]; exact (mg ot).fG _ (ct (by omega))
     rw [decide_eq_true d2,bf,ar,if_neg (by omega)];simp only [ej,ay];rw [af (by omega),bP (by omega) (by omega),show ((t.2.2.1.getD j []).length:Int)+1=dF t j+1 from rfl,JH t j _ ot pq hj];have hA:=Gm (fin:=s0+iU most) (d:=d) (f:=f) (count:=dF t j+1) ot hj;have hM:=VS (fin:=s0+iU most) (d:=d) (f:=f) ot hj;generalize cz nt (s0+iU most) d f t j (dF t j+1)=Q at hA hM ⊢;simp only [aC];cases h5:Q.2
     ·rw [iR,aB,if_neg (by simp)]; rfl
     rw [bf,ar,if_pos rfl];have hM:=hM h5;have AP:=hA.ok.steps;exact IH m' Q.1 hA.ok (by omega) (by omega) (by omega) F hF
    rw [decide_eq_false d2,iR,aB,if_pos (.inr (.inl d2))]
   rw [aB,av (by omega),if_pos ⟨hS3.1,rfl⟩];have hs:=Oe (n:=n) R ot (mg ot) hk c3 hn;simp only at hs;rw [hs];simp only [aC];rw [bP (n:=most-(t.2.2.2-s0)-1) (by omega) (by omega)];have e2:most-(t.2.2.2-s0)-1=most-((cX nt t k).2.2.2-s0):=by show _=most-(t.2.2.2+1-s0);omega
   rw [e2];refine IH m' (cX nt t k) (Bm ot hk c3) ?_ ?_ ?_ F hF
   ·show s0≤t.2.2.2+1;omega
   ·show (20000-(t.2.2.2+1)).toNat<m;omega
   show (20000-(t.2.2.2+1)).toNat<m';omega
  rw [av c1,if_neg c1]
theorem ad4 {l:List Int} {x:Int} (hl:l.length≤1048576) (hn:1048576<n):∃ r:Int,y8.f n l x=some (r,())∧decide (0≤r)=decide (x∈l):=by
 unfold y8.f;have:=M8 l (fun y=>decide (x=y)) (F:=(fun jY x5=>br (decide (x5.1<(l.length:Int))) (ab (0≤x5.1∧x5.1<(l.length:Int)) (br (decide (x=(l.getD x5.1.toNat 0))) (some (x5.1,())) (jY (ah (x5.1+1),())))) (some (-1,())))) (fun ih i hi=>by
  have c1:(i:Int)<(l.length:Int):=by omega
  simp only [aG c1,ay,aJ hi,iF];rw [af (by omega),a_ (by omega)];by_cases h:x=l[i]
  ·rw [if_pos h,if_pos (decide_eq_true h)]
  rw [if_neg h,if_neg (by simp [h])]) (fun ih=>av (Int.lt_irrefl _)) (n:=n) (by omega)
 obtain ⟨r,e,h⟩:=this;refine ⟨r,e,h.trans ?_⟩;rw [Bool.eq_iff_iff,List.any_eq_true,decide_eq_true_eq];constructor
 ·rintro ⟨y,hy,e⟩;rw [decide_eq_true_eq] at e;rw [e]; exact hy
 intro h; exact ⟨x,h,decide_eq_true rfl⟩
theorem VZ {l:List Int} {x:Int} (hl:l.length≤1048576) (hn:1048576<n):th.f n l x=some (decide (x∈l),()):=by obtain ⟨r,e,h⟩:=ad4 (x:=x) hl hn;unfold th.f;rw [e,aC,h]
def rO (bl:List Int):Nat→Bool:=fun j=>decide ((j:Int)∈bl)
theorem JI {bl:List Int} : rO (bl++[(link:Int)])=dC (rO bl) link:=by
 funext j;unfold rO dC;rw [Bool.eq_iff_iff,Bool.or_eq_true,decide_eq_true_eq,decide_eq_true_eq,decide_eq_true_eq,List.mem_append,List.mem_singleton];constructor
 ·rintro (h | h)
  ·exact .inl h
  exact .inr (by omega)
 rintro (h | h)
 ·exact .inl h
 exact .inr (by omega)
theorem V_ {to fr:List (List Int)} {s0:Int} (hn:1048576<n)
  (T:jL nt wR toQ (fun p=>p.1) to nt.2.length) (E:jL nt yP yQ (fun p=>p.2.1) fr nt.2.length) (h0:0≤s0) (uX : -9223372036854775808≤most) (uY:most≤9223372036854775807) :
  ∀ (d:Nat) (bl:List Int) (t:State) (link:Nat) (count:Int),bG nt t→s0≤t.2.2.2→link<nt.2.length→oV (rO bl) nt.2.length<d→bl.length+oV (rO bl) nt.2.length≤1000→
   dr.F n d (link:Int) count nt.1 nt.2 t.2.2.2 none t.1 t.2.1 t.2.2.1 to fr (most-(t.2.2.2-s0)) bl=some ((cz nt (s0+iU most) d (rO bl) t link count).2,DE nt to fr s0 most bl (cz nt (s0+iU most) d (rO bl) t link count).1)
 | 0,bl,t,link,count,o,pq,hl,hd,hb=>absurd hd (yT _)
 | d+1,bl,t,link,count,o,pq,hl,hd,hb=>by
  have mO:=o.ns;show dr.B n (dr.F n d) (link:Int) count nt.1 nt.2 t.2.2.2 none t.1 t.2.1 t.2.2.1 to fr (most-(t.2.2.2-s0)) bl=_;unfold dr.B;simp only [ay];rw [af (by omega)];show br (decide (count≤dF t link)) _ _=_;unfold cz;by_cases h1:count≤dF t link
  ·rw [aG h1,if_pos h1]; rfl
  rw [av h1,if_neg h1,af (by omega)];show cut (α:=Bool×Unit) (br (decide (fW nt link<0)) _ _) _=_;by_cases h2:fW nt link<0
  ·rw [aG h2,aY,aB,if_pos (.inl h2)]; rfl
  rw [av h2,VZ (by omega) hn];simp only [aC,aY];rw [show decide ((link:Int)∈bl)=rO bl link from rfl];cases h3:rO bl link
  ·rw [ar,if_neg (by simp [h2])];obtain ⟨hk,ek⟩:=Gk o.cf hl h2;have OM:=JG h3 hl;rw [wS (by omega)];simp only [aC];rw [db (by simp only [iQ]; omega)];have dz:=o.steps;refine VX (link:=link) (fun b x=>some (b,x.1,x.2.1,x.2.2.1,x.2.2.2.1,x.2.2.2.2.1,x.2.2.2.2.2.1,x.2.2.2.2.2.2.1,x.2.2.2.2.2.2.2.1,x.2.2.2.2.2.2.2.2.1,x.2.2.2.2.2.2.2.2.2.1,bl,()))
    hn T E h0 uX uY hl hk ek (slf:=dr.F n d) (bl:=bl++[(link:Int)]) (d:=d) (f:=dC (rO bl) link) (fun u j c ou hu hj=>?_) n 20001 t o pq (by omega) (by omega) _ (fun ih x=>rfl)
   have:=V_ hn T E h0 uX uY d (bl++[(link:Int)]) u j c ou hu hj (by rw [JI]; omega) (by rw [JI,List.length_append,iQ]; omega);rw [JI] at this;exact this
  rw [aB,if_pos (.inr rfl)]; rfl
def qK (n:Nat) (nt:aq) (s:State) (link count most:Int):State×Bool:=
 if ij nt s=true∧0≤link∧link<(nt.2.length:Int) then cz nt (s.2.2.2+iU most) (n+1) (fun _=>false) s link.toNat count else (([],[],[],0),false)
theorem ad5:rO []=fun _=>false:=by funext j; rfl
theorem V0 : ∀ (d d':Nat) (f:Nat→Bool) (s:State) (link:Nat) (count:Int),bG nt s→link<nt.2.length→oV f nt.2.length<d→oV f nt.2.length<d'→cz nt fin d f s link count=cz nt fin d' f s link count
 | 0,d',f,s,link,count,o,hl,h,h'=>absurd h (yT _)
 | d+1,0,f,s,link,count,o,hl,h,h'=>absurd h' (yT _)
 | d+1,d'+1,f,s,link,count,o,hl,h,h'=>by
  unfold cz;split
  ·rfl
  split
  ·rfl
  rename_i h2;have h3:f link=false:=by
   cases e:f link
   ·rfl
   exact absurd (.inr e) h2
  have OM:=JG h3 hl;obtain ⟨hk,-⟩:=Gk o.cf hl (fun hh=>h2 (.inl hh));have ad6:∀ m t,bG nt t→jo nt fin count link (cz nt fin d (dC f link)) m t=jo nt fin count link (cz nt fin d' (dC f link)) m t:=by
   intro m;induction m with
   | zero=>intro t _; rfl
   | succ m ih=>
    intro t ot;unfold jo;split
    ·split
     ·rename_i hc; exact ih _ (Bm ot hk hc.2)
     split
     ·rfl
     rename_i c2;have hw:(bd nt t (fW nt link).toNat).1=2:=by
      by_cases hh:(bd nt t (fW nt link).toNat).1=2
      ·exact hh
      exact absurd (.inr (.inl hh)) c2
     obtain ⟨j,hj,ej,-⟩:=nK ot hk hw;rw [ej,ay,V0 d d' (dC f link) t j _ ot hj (by omega) (by omega)];split
     ·exact ih _ (Gm ot hj).ok
     rfl
    rfl
  exact ad6 _ s o
theorem ad7 {link:Int} (h:dq nt) (hs:kf s) (hn:1048576<n):y7.f n nt s link count most=some ((qK n nt s link count most).1,(qK n nt s link count most).2,()):=by
 have hb:=iD;unfold y7.f qK bY.f;rw [Di h hs hn];cases e1:ij nt s
 ·rfl
 have o:=qF e1;have hL:=o.cf.dB;have dz:=o.steps;simp only [aC,bf,ar,true_and];rw [bP (by omega) (by omega)];by_cases h1:0≤link
 ·by_cases h2:link<(nt.2.length:Int)
  ·rw [aG h1,decide_eq_true (show link≤(nt.2.length:Int)-1 by omega),if_pos ⟨h1,h2⟩];simp only [aC,bf,aY,ar];rw [Dx hs hn];simp only [aC];rw [af ⟨by omega,by rw [hb]; omega⟩];obtain ⟨l,rfl⟩:∃ l:Nat,link=(l:Int):=⟨link.toNat,by omega⟩
   have hl:l<nt.2.length:=by omega
   have hf:=OJ (f:=fun _=>false) (L:=nt.2.length);have:=VT (fin:=s.2.2.2+iU most) hn n (List.replicate nt.2.length false) (fun _=>false) s l count o (by simp) (fun j=>by rw [List.getD_eq_getElem?_getD,List.getElem?_replicate]; split<;>rfl) hl (by omega);rw [show ah (s.2.2.2+max 0 (min most 20000))=s.2.2.2+iU most by unfold iU; rw [bP (by omega) (by omega)]];unfold dk.f;rw [show ((nt.2.length:Int)).toNat=nt.2.length from rfl,this,ay,V0 n (n+1) _ s l count o hl (by omega) (by omega)];rfl
  rw [aG h1,decide_eq_false (show ¬ link≤(nt.2.length:Int)-1 by omega),if_neg (fun hh=>h2 hh.2)];rfl
 rw [av h1,if_neg (fun hh=>h1 hh.1)]; rfl
theorem ad8 {link:Int} (h:dq nt) (hs:kf s) (hn:1048576<n) (uX : -9223372036854775808≤most) (uY:most≤9223372036854775807):za.f n nt s link count most=some ((qK n nt s link count most).1,(qK n nt s link count most).2,()):=by
 unfold za.f qK;rw [Dj h hs hn];cases e1:ij nt s
 ·rfl
 have o:=qF e1;have hL:=o.cf.dB;have dz:=o.steps;simp only [aC,bf,ar,true_and];by_cases h1:0≤link
 ·by_cases h2:link<(nt.2.length:Int)
  ·rw [av (by omega),decide_eq_false (show ¬ (nt.2.length:Int)≤link by omega),if_pos ⟨h1,h2⟩];simp only [aY,ar];refine dZ.1 (c8.2 (bz (Dl (caps:=none) o.cf hs hn) (fun r ⟨to,fr,e,T,F⟩=>dZ.2 ?_)));subst e;obtain ⟨l,rfl⟩:∃ l:Nat,link=(l:Int):=⟨link.toNat,by omega⟩
   have hl:l<nt.2.length:=by omega
   have mO:=o.ns;have hf:=OJ (f:=fun _=>false) (L:=nt.2.length);simp only;have key:rN.f n (l:Int) count nt.1 nt.2 s.2.2.2 none s.1 s.2.1 s.2.2.1 to fr most=some ((cz nt (s.2.2.2+iU most) (n+1) (fun _=>false) s l count).2,nt.1,nt.2,(cz nt (s.2.2.2+iU most) (n+1) (fun _=>false) s l count).1.2.2.2,none,(cz nt (s.2.2.2+iU most) (n+1) (fun _=>false) s l count).1.1,(cz nt (s.2.2.2+iU most) (n+1) (fun _=>false) s l count).1.2.1,(cz nt (s.2.2.2+iU most) (n+1) (fun _=>false) s l count).1.2.2.1,to,fr,most-((cz nt (s.2.2.2+iU most) (n+1) (fun _=>false) s l count).1.2.2.2-s.2.2.2),()):=by
    unfold rN.f;simp only [ay];rw [af (by omega)];show br (decide (count≤dF s l)) _ _=_;unfold cz;have e0:most-(s.2.2.2-s.2.2.2)=most:=by omega
    by_cases h3:count≤dF s l
    ·rw [aG h3,if_pos h3,e0]
    rw [av h3,if_neg h3,af (by omega)];show cut (α:=Bool×Unit) (br (decide (fW nt l<0)) _ _) _=_;by_cases h4:fW nt l<0
    ·rw [aG h4,aY,aB,if_pos (.inl h4),e0]
    rw [av h4,VZ (by simp) hn];simp only [aC,aY,List.not_mem_nil,decide_false,ar];rw [if_neg (by simp [h4])];obtain ⟨hk,ek⟩:=Gk o.cf hl h4;rw [wS (by simp)];simp only [aC];rw [db (by simp)];have hd:=VX (link:=l) (count:=count) (n:=n) (s0:=s.2.2.2) (most:=most) (fun b x=>some (b,x.1,x.2.1,x.2.2.1,x.2.2.2.1,x.2.2.2.2.1,x.2.2.2.2.2.1,x.2.2.2.2.2.2.1,x.2.2.2.2.2.2.2.1,x.2.2.2.2.2.2.2.2.1,x.2.2.2.2.2.2.2.2.2.1,()))
     hn T F dz.1 uX uY hl hk ek (slf:=dr.f n) (bl:=[(l:Int)]) (d:=n) (f:=dC (fun _=>false) l) (fun u j c ou hu hj=>by have OM:=JG (f:=fun _=>false) (l:=l) (L:=nt.2.length) rfl hl;have e2:rO [(l:Int)]=dC (fun _=>false) l:=(JI (bl:=[])).trans (by rw [ad5]);have:=V_ hn T F dz.1 uX uY n [(l:Int)] u j c ou hu hj (by rw [e2]; omega) (by rw [e2]; simp only [iQ]; omega);rw [e2] at this;exact this) n 20001 s o (Int.le_refl _) (by omega) (by omega)
    have oq:=hd _ (fun ih x=>rfl);unfold DE at oq;rw [e0] at oq;exact oq
   rw [key];rfl
  rw [av (by omega),decide_eq_true (show (nt.2.length:Int)≤link by omega),if_neg (fun hh=>h2 hh.2)];rfl
 rw [aG (by omega),if_neg (fun hh=>h1 hh.1)]; rfl
end Go.AmT
