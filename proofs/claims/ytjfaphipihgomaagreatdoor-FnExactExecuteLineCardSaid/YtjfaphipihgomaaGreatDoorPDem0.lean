/- Demands, in plain Lean: both programs meet the same. -/
import Derived.Test.YtjfaphipihgomaaGreatDoorLDem0
open Go Go.Am
noncomputable section
set_option linter.unusedVariables false
set_option linter.unusedSimpArgs false
open Bool renaming not_false → gT, not_true → bo
open Int renaming toNat_natCast → az
open List renaming getElem_mem → bV, length_singleton → nE
open Nat renaming not_lt_zero → zU
open Option renaming bind_some → aA
namespace Go.AmT
variable {l link d n:Nat} {nt:ak} {fin count most:Int} {s t:State}
def dM (s:State) (j:Nat):Int:=((s.2.2.1.getD j []).length:Int)
def fZ (nt:ak) (link:Nat):Int:=(nt.2.getD link ay).1
def dJ (f:Nat→Bool) (l:Nat):Nat→Bool:=fun j=>f j||decide (j=l)
def jx (nt:ak) (fin count:Int) (link:Nat) (rec:State→Nat→Int→State×Bool):Nat→State→State×Bool
 | 0,s=>(s,false)
 | m+1,s=>
  if dM s link<count then
   if s.2.2.2<fin∧dw nt s (fZ nt link).toNat=true then jx nt fin count link rec m (eY nt s (fZ nt link).toNat)
   else if ¬ s.2.2.2<fin∨(bE nt s (fZ nt link).toNat).1≠2∨s.2.2.2=20000 then (s,false)
   else if (rec s (bL nt s (fZ nt link).toNat).toNat (dM s (bL nt s (fZ nt link).toNat).toNat+1)).2=true then jx nt fin count link rec m (rec s (bL nt s (fZ nt link).toNat).toNat (dM s (bL nt s (fZ nt link).toNat).toNat+1)).1
   else ((rec s (bL nt s (fZ nt link).toNat).toNat (dM s (bL nt s (fZ nt link).toNat).toNat+1)).1,false)
  else (s,true)
def cG (nt:ak) (fin:Int):Nat→(Nat→Bool)→State→Nat→Int→State×Bool
 | 0,_,s,_,_=>(s,false)
 | d+1,f,s,link,count=>
  if count≤dM s link then (s,true)
  else if fZ nt link<0∨f link=true then (s,false)
  else jx nt fin count link (cG nt fin d (dJ f link)) 20001 s
def pw (f:Nat→Bool):Nat→Nat
 | 0=>0
 | L+1=>pw f L+if f L=true then 0 else 1
theorem WO {f:Nat→Bool} (h:f l=false):∀ {L:Nat},pw (dJ f l) L+(if l<L then 1 else 0)=pw f L
 | 0=>by simp [pw]
 | L+1=>by
  have ih:=WO (L:=L) h;show pw (dJ f l) L+(if dJ f l L=true then 0 else 1)+_=pw f L+_;by_cases e:L=l
  ·subst e;rw [if_neg (by omega)] at ih;rw [if_pos (show dJ f L L=true by simp [dJ]),if_pos (show L<L+1 by omega),h]
   grind
  have e2:dJ f l L=f L:=by simp [dJ,e]
  grind
theorem Ku {f:Nat→Bool} {L:Nat} (h:f l=false) (hl:l<L):pw (dJ f l) L<pw f L:=by
 have:=WO (L:=L) h
 grind
theorem PC {f:Nat→Bool} : ∀ {L:Nat},pw f L≤L
 | 0=>Nat.le_refl _
 | L+1=>by
  have:=PC (f:=f) (L:=L);show pw f L+_≤L+1
  grind
theorem PD {rec:State→Nat→Int→State×Bool} (J:State→Prop) (hk:(fZ nt link).toNat<nt.1.length)
  (hs:∀ s k,J s→k<nt.1.length→dw nt s k=true→J (eY nt s k)) (hl:∀ s k,J s→k<nt.1.length→(bE nt s k).1=2→(bL nt s k).toNat<nt.2.length)
  (hr:∀ s l c,J s→l<nt.2.length→J (rec s l c).1):∀ m s,J s→J (jx nt fin count link rec m s).1
 | 0,s,h=>h
 | m+1,s,h=>by
  unfold jx;split
  ·split
   ·rename_i hc; exact PD J hk hs hl hr m _ (hs s _ h hk hc.2)
   split
   ·exact h
   rename_i h2;have hw:(bE nt s (fZ nt link).toNat).1=2:=by
    by_cases hh:(bE nt s (fZ nt link).toNat).1=2
    ·exact hh
    omega
   have:=hr s _ (dM s (bL nt s (fZ nt link).toNat).toNat+1) h (hl s _ h hk hw);split
   ·exact PD J hk hs hl hr m _ this
   omega
  omega
theorem Hc (o:cQ nt) {link:Nat} (hl:link<nt.2.length) (h:¬ fZ nt link<0):(fZ nt link).toNat<nt.1.length∧fZ nt link=((fZ nt link).toNat:Int):=by
 have E:=(o.ends link hl).out;unfold fZ at h ⊢;rw [aU hl] at h ⊢;rcases E with ⟨h1,-⟩ | ⟨h1,h2,-⟩
 ·omega
 omega
theorem WQ (J:State→Prop) (ho:∀ s,J s→bU nt s) (hs:∀ s k,J s→k<nt.1.length→dw nt s k=true→J (eY nt s k)):∀ d f s link count,link<nt.2.length→J s→J (cG nt fin d f s link count).1
 | 0,f,s,link,count,hl,h=>h
 | d+1,f,s,link,count,hl,h=>by
  unfold cG;split
  ·exact h
  split
  ·exact h
  rename_i h2;obtain ⟨hk,-⟩:=Hc (ho s h).cb hl (fun hh=>h2 (.inl hh));exact PD J hk hs (fun s k hJ hk hw=>by obtain ⟨j,hj,e,-⟩:=qw (ho s hJ) hk hw; rw [e]; exact hj) (fun s l c hJ hl=>WQ J ho hs d _ s l c hl hJ) 20001 s h
theorem PE {rec:State→Nat→Int→State×Bool} : ∀ m s,(jx nt fin count link rec m s).2=true→count≤dM (jx nt fin count link rec m s).1 link
 | 0,s,h=>by cases h
 | m+1,s,h=>by
  unfold jx at h ⊢;split
  ·rename_i hc;rw [if_pos hc] at h;split
   ·rename_i h1;rw [if_pos h1] at h;exact PE m _ h
   rename_i h1;rw [if_neg h1] at h;split
   ·grind
   rename_i h2;rw [if_neg h2] at h;split
   ·rename_i h3; rw [if_pos h3] at h; exact PE m _ h
   grind
  grind
theorem afr {f:Nat→Bool} (h:(cG nt fin d f s link count).2=true):count≤dM (cG nt fin d f s link count).1 link:=by
 cases d with
 | zero=>cases h
 | succ d=>
  unfold cG at h ⊢;split
  ·omega
  rename_i h1;rw [if_neg h1] at h;split
  ·grind
  rename_i h2; rw [if_neg h2] at h; exact PE _ _ h
structure Ad (nt:ak) (s t:State):Prop where
 ok:bU nt t
 le:s.2.2.2≤t.2.2.2
 eq:t.2.2.2=s.2.2.2→t=s
theorem Ad.refl (o:bU nt s):Ad nt s s:=⟨o,Int.le_refl _,fun _=>rfl⟩
theorem Ad.step {k:Nat} (A:Ad nt s t) (hk:k<nt.1.length) (hc:dw nt t k=true):Ad nt s (eY nt t k):=by
 have h:=A.le;refine ⟨Ej A.ok hk hc,?_,fun e=>?_⟩
 ·show s.2.2.2≤t.2.2.2+1;omega
 have e:t.2.2.2+1=s.2.2.2:=e;omega
theorem He {f:Nat→Bool} (o:bU nt s) (hl:link<nt.2.length):Ad nt s (cG nt fin d f s link count).1:=
 WQ (Ad nt s) (fun _ A=>A.ok) (fun _ _ A hk hc=>A.step hk hc) d f s link count hl (Ad.refl o)
theorem WR {f:Nat→Bool} (o:bU nt s) (hl:link<nt.2.length) (h:(cG nt fin d f s link (dM s link+1)).2=true):s.2.2.2<(cG nt fin d f s link (dM s link+1)).1.2.2.2:=by
 have A:=He (fin:=fin) (d:=d) (f:=f) (count:=dM s link+1) o hl;have h1:=afr h;have h2:=A.le;rcases Int.lt_or_eq_of_le h2 with h3 | h3
 ·exact h3
 rw [A.eq h3.symm] at h1;omega
theorem afs {b:List Bool} (hl:l<b.length) (f:Nat→Bool) (hf:∀ j,b.getD j false=f j):∀ j,(b.set l true).getD j false=dJ f l j:=by
 intro j;by_cases h:j=l
 ·subst h; rw [jD hl]; simp [dJ]
 rw [getD_set_ne (Ne.symm h),hf]; simp [dJ,h]
theorem aft {b:List Bool} (hl:l<b.length) (h:b.getD l false=false):(b.set l true).set l false=b:=by
 rw [List.set_set];have:b[l]=false:=by rw [← h,aU hl]
 rw [← this]; exact List.set_getElem_self hl
theorem WS {n:Nat} {nt:ak} {fin:Int} (hn:1048576<n):∀ (d:Nat) (b:List Bool) (f:Nat→Bool) (s:State) (link:Nat) (count:Int),bU nt s→b.length=nt.2.length→(∀ j,b.getD j false=f j)→link<nt.2.length→pw f nt.2.length<d→
  dB.F n d nt.1 nt.2 s.2.2.2 (link:Int) count fin s.1 s.2.1 s.2.2.1 b=some ((cG nt fin d f s link count).1.2.2.2,(cG nt fin d f s link count).2,(cG nt fin d f s link count).1.1,(cG nt fin d f s link count).1.2.1,(cG nt fin d f s link count).1.2.2.1,b,())
 | 0,b,f,s,link,count,o,hb,hf,hl,hd=>absurd hd (zU _)
 | d+1,b,f,s,link,count,o,hb,hf,hl,hd=>by
  have nC:=o.ns
  have hL:=o.cb.dp
  show dB.B n (dB.F n d) nt.1 nt.2 s.2.2.2 (link:Int) count fin s.1 s.2.1 s.2.2.1 b=_
  unfold dB.B
  simp only [az]
  rw [af (by omega)]
  show br (decide (count≤dM s link)) _ _=_
  unfold cG
  by_cases h1:count≤dM s link
  ·rw [aM h1,if_pos h1]
  ·rw [au h1,if_neg h1,af (by omega)]
   show cut (α:=Bool×Unit) (br (decide (fZ nt link<0)) _ _) _=_
   by_cases h2:fZ nt link<0
   ·rw [aM h2,bg,ax,if_pos (.inl h2)]
   ·rw [au h2,af (by omega),bg,hf]
    cases h3:f link
    ·rw [aw,if_neg (by simp [h2]),af (by omega)]
     obtain ⟨hk,ek⟩:=Hc o.cb hl h2
     have PF:=Ku h3 hl
     have tG:=aft (show link<b.length by omega) (by rw [hf,h3])
     have key:∀ (m m':Nat) (t:State),bU nt t→(20000-t.2.2.2).toNat<m→(20000-t.2.2.2).toNat<m'→
       ∀ (F:((List Bool)×(Int×(List aY)×(List (List Int))×(List (List Int))×Unit)→Option (Int×(Bool×(List aY)×(List (List Int))×(List (List Int))×(List Bool)×Unit)))→(List Bool)×(Int×(List aY)×(List (List Int))×(List (List Int))×Unit)→Option (Int×(Bool×(List aY)×(List (List Int))×(List (List Int))×(List Bool)×Unit))),
       (∀ ih bY,F ih bY=ab (0≤(link:Int)∧(link:Int)<(bY.2.2.2.2.1.length:Int)) (br (decide (((bY.2.2.2.2.1.getD link []).length:Int)<count)) (cut (α:=(Bool×Unit)) (br (decide (bY.2.1<fin)) ((kx.f n (nt.1,nt.2) (bY.2.2.1,bY.2.2.2.1,bY.2.2.2.2.1,bY.2.1) (nt.2.getD link ay).1).bind fun Pz=>some (.inr (Pz.1,()))) (some (.inr (false,())))) fun PA=>br PA.1 ((lp.f n nt.1 nt.2 bY.2.1 (nt.2.getD link ay).1 bY.2.2.1 bY.2.2.2.1 bY.2.2.2.2.1).bind fun xV=>ih (bY.1,xV.1,xV.2.1,xV.2.2.1,xV.2.2.2.1,())) (ab (0≤(nt.2.getD link ay).1∧(nt.2.getD link ay).1<(nt.1.length:Int)) (let lQ:=(nt.1.getD (nt.2.getD link ay).1.toNat bf); ab (0≤(nt.2.getD link ay).1∧(nt.2.getD link ay).1<(bY.2.2.1.length:Int)) ((ig.f n lQ (bY.2.2.1.getD (nt.2.getD link ay).1.toNat bz)).bind fun Ha=>cut (α:=(Bool×Unit)) (br (!(decide (bY.2.1<fin))) (some (.inr (true,()))) (br (!decide (Ha.1=2)) (some (.inr (true,()))) (some (.inr (decide (bY.2.1=20000),()))))) fun Hb=>br Hb.1 (ab (0≤(link:Int)∧(link:Int)<(bY.1.length:Int)) (let vu:=(bY.1.set link false); some (bY.2.1,false,bY.2.2.1,bY.2.2.2.1,bY.2.2.2.2.1,vu,()))) ((ll.f n (nt.1,nt.2) (bY.2.2.1,bY.2.2.2.1,bY.2.2.2.2.1,bY.2.1) (nt.2.getD link ay).1).bind fun qB=>ab (0≤qB.1∧qB.1<(bY.2.2.2.2.1.length:Int)) ((dB.F n d nt.1 nt.2 bY.2.1 qB.1 (ag (((bY.2.2.2.2.1.getD qB.1.toNat []).length:Int)+1)) fin bY.2.2.1 bY.2.2.2.1 bY.2.2.2.2.1 bY.1).bind fun ez=>br (!ez.2.1) (ab (0≤(link:Int)∧(link:Int)<(ez.2.2.2.2.2.1.length:Int)) (let v51:=(ez.2.2.2.2.2.1.set link false); some (ez.1,false,ez.2.2.1,ez.2.2.2.1,ez.2.2.2.2.1,v51,()))) (ih (ez.2.2.2.2.2.1,ez.1,ez.2.2.1,ez.2.2.2.1,ez.2.2.2.2.1,())))))))) (ab (0≤(link:Int)∧(link:Int)<(bY.1.length:Int)) (let PB:=(bY.1.set link false); some (bY.2.1,true,bY.2.2.1,bY.2.2.2.1,bY.2.2.2.2.1,PB,())))))→
       iter m F (b.set link true,t.2.2.2,t.1,t.2.1,t.2.2.1,())=some ((jx nt fin count link (cG nt fin d (dJ f link)) m' t).1.2.2.2,(jx nt fin count link (cG nt fin d (dJ f link)) m' t).2,(jx nt fin count link (cG nt fin d (dJ f link)) m' t).1.1,(jx nt fin count link (cG nt fin d (dJ f link)) m' t).1.2.1,(jx nt fin count link (cG nt fin d (dJ f link)) m' t).1.2.2.1,b,()):=by
      intro m
      induction m with
      | zero=>intro m' t ot h; omega
      | succ m IH=>
       intro m' t ot hm qM F hF
       obtain ⟨m',rfl⟩:∃ q,m'=q+1:=⟨m'-1,by omega⟩
       show F (iter m F) _=_
       rw [hF]
       have hnt:=ot.ns
       have Uw:=ot.na
       have dK:=ot.steps
       simp only
       rw [af (by omega)]
       unfold jx
       show br (decide (dM t link<count)) _ _=_
       by_cases c1:dM t link<count
       ·rw [aM c1,if_pos c1,show (nt.2.getD link ay).1=(((fZ nt link).toNat:Nat):Int) from ek]
        generalize lL:(fZ nt link).toNat=k at hk ⊢
        have A9:kx.f n (nt.1,nt.2) (t.1,t.2.1,t.2.2.1,t.2.2.2) (k:Int)=some (dw nt t k,()):=Cb ot hk hn
        have jY:ll.f n (nt.1,nt.2) (t.1,t.2.1,t.2.2.1,t.2.2.2) (k:Int)=some (bL nt t k,()):=G_ ot hk hn
        have hw:ig.f n (nt.1.getD k bf) (t.1.getD k bz)=some ((bE nt t k).1,(bE nt t k).2,()):=Ca (ot.act k hk)
        have ZE:¬ (t.2.2.2<fin∧dw nt t k=true)→(ab (0≤(k:Int)∧(k:Int)<(nt.1.length:Int)) (let lQ:=(nt.1.getD (k:Int).toNat bf); ab (0≤(k:Int)∧(k:Int)<(t.1.length:Int)) ((ig.f n lQ (t.1.getD (k:Int).toNat bz)).bind fun Ha=>cut (α:=(Bool×Unit)) (br (!(decide (t.2.2.2<fin))) (some (.inr (true,()))) (br (!decide (Ha.1=2)) (some (.inr (true,()))) (some (.inr (decide (t.2.2.2=20000),()))))) fun Hb=>br Hb.1 (ab (0≤(link:Int)∧(link:Int)<((b.set link true).length:Int)) (let vu:=((b.set link true).set link false); some (t.2.2.2,false,t.1,t.2.1,t.2.2.1,vu,()))) ((ll.f n (nt.1,nt.2) (t.1,t.2.1,t.2.2.1,t.2.2.2) (k:Int)).bind fun qB=>ab (0≤qB.1∧qB.1<(t.2.2.1.length:Int)) ((dB.F n d nt.1 nt.2 t.2.2.2 qB.1 (ag (((t.2.2.1.getD qB.1.toNat []).length:Int)+1)) fin t.1 t.2.1 t.2.2.1 (b.set link true)).bind fun ez=>br (!ez.2.1) (ab (0≤(link:Int)∧(link:Int)<(ez.2.2.2.2.2.1.length:Int)) (let v51:=(ez.2.2.2.2.2.1.set link false); some (ez.1,false,ez.2.2.1,ez.2.2.2.1,ez.2.2.2.2.1,v51,()))) (iter m F (ez.2.2.2.2.2.1,ez.1,ez.2.2.1,ez.2.2.2.1,ez.2.2.2.2.1,()))))))) =
          some ((if ¬ t.2.2.2<fin∨(bE nt t k).1≠2∨t.2.2.2=20000 then (t,false) else if (cG nt fin d (dJ f link) t (bL nt t k).toNat (dM t (bL nt t k).toNat+1)).2=true then jx nt fin count link (cG nt fin d (dJ f link)) m' (cG nt fin d (dJ f link) t (bL nt t k).toNat (dM t (bL nt t k).toNat+1)).1 else ((cG nt fin d (dJ f link) t (bL nt t k).toNat (dM t (bL nt t k).toNat+1)).1,false)).1.2.2.2,(if ¬ t.2.2.2<fin∨(bE nt t k).1≠2∨t.2.2.2=20000 then (t,false) else if (cG nt fin d (dJ f link) t (bL nt t k).toNat (dM t (bL nt t k).toNat+1)).2=true then jx nt fin count link (cG nt fin d (dJ f link)) m' (cG nt fin d (dJ f link) t (bL nt t k).toNat (dM t (bL nt t k).toNat+1)).1 else ((cG nt fin d (dJ f link) t (bL nt t k).toNat (dM t (bL nt t k).toNat+1)).1,false)).2,(if ¬ t.2.2.2<fin∨(bE nt t k).1≠2∨t.2.2.2=20000 then (t,false) else if (cG nt fin d (dJ f link) t (bL nt t k).toNat (dM t (bL nt t k).toNat+1)).2=true then jx nt fin count link (cG nt fin d (dJ f link)) m' (cG nt fin d (dJ f link) t (bL nt t k).toNat (dM t (bL nt t k).toNat+1)).1 else ((cG nt fin d (dJ f link) t (bL nt t k).toNat (dM t (bL nt t k).toNat+1)).1,false)).1.1,(if ¬ t.2.2.2<fin∨(bE nt t k).1≠2∨t.2.2.2=20000 then (t,false) else if (cG nt fin d (dJ f link) t (bL nt t k).toNat (dM t (bL nt t k).toNat+1)).2=true then jx nt fin count link (cG nt fin d (dJ f link)) m' (cG nt fin d (dJ f link) t (bL nt t k).toNat (dM t (bL nt t k).toNat+1)).1 else ((cG nt fin d (dJ f link) t (bL nt t k).toNat (dM t (bL nt t k).toNat+1)).1,false)).1.2.1,(if ¬ t.2.2.2<fin∨(bE nt t k).1≠2∨t.2.2.2=20000 then (t,false) else if (cG nt fin d (dJ f link) t (bL nt t k).toNat (dM t (bL nt t k).toNat+1)).2=true then jx nt fin count link (cG nt fin d (dJ f link)) m' (cG nt fin d (dJ f link) t (bL nt t k).toNat (dM t (bL nt t k).toNat+1)).1 else ((cG nt fin d (dJ f link) t (bL nt t k).toNat (dM t (bL nt t k).toNat+1)).1,false)).1.2.2.1,b,()):=by
         intro tc
         rw [af (by omega)]
         simp only [az]
         rw [af (by omega),hw]
         simp only [aA,List.length_set]
         rw [tG]
         by_cases d1:t.2.2.2<fin
         ·rw [decide_eq_true d1,bo,aw]
          by_cases d2:(bE nt t k).1=2
          ·rw [decide_eq_true d2,bo,aw,bg]
           by_cases d3:t.2.2.2=20000
           ·rw [decide_eq_true d3,ax,if_pos (.inr (.inr d3)),af (by omega)]
           ·rw [decide_eq_false d3,aw,if_neg (by omega),jY]
            obtain ⟨j,hj,ej,-⟩:=qw ot hk d2
            simp only [aA,ej,az]
            rw [af (by omega)]
            have rS:(b.set link true).length=nt.2.length:=by simpa using hb
            have hq:(t.2.2.1.getD j []).length≤1048576:=by rw [aU (by omega)]; exact (my ot).po _ (bV (by omega))
            have Kv:=WS (fin:=fin) hn d (b.set link true) (dJ f link) t j (dM t j+1) ot rS (afs (by omega) f hf) hj (by omega)
            rw [bM (by omega) (by omega),show ((t.2.2.1.getD j []).length:Int)+1=dM t j+1 from rfl,Kv]
            have hA:=He (fin:=fin) (d:=d) (f:=dJ f link) (count:=dM t j+1) ot hj
            have hM:=WR (fin:=fin) (d:=d) (f:=dJ f link) ot hj
            generalize cG nt fin d (dJ f link) t j (dM t j+1)=R at hA hM ⊢
            simp only [aA]
            cases h5:R.2
            ·rw [gT,ax,if_neg (by simp),af (by rw [rS]; omega),tG]
            ·rw [bo,aw,if_pos rfl]
             have hM:=hM h5
             have BH:=hA.ok.steps
             exact IH m' R.1 hA.ok (by omega) (by omega) F hF
          ·rw [decide_eq_false d2,gT,ax,bg,ax,if_pos (.inr (.inl d2)),af (by omega)]
         ·rw [decide_eq_false d1,gT,ax,bg,ax,if_pos (.inl d1),af (by omega)]
        by_cases c2:t.2.2.2<fin
        ·rw [aM c2,A9]
         simp only [aA,bg]
         cases c3:dw nt t k
         ·rw [aw,if_neg (by simp)]
          exact ZE (by rw [c3]; simp)
         ·rw [ax,if_pos ⟨c2,rfl⟩,Kj ot (my ot) hk c3 hn]
          have wZ:=(xM c3).2.1
          simp only [aA]
          refine IH m' (eY nt t k) (Ej ot hk c3) ?_ ?_ F hF
          ·show (20000-(t.2.2.2+1)).toNat<m
           omega
          ·show (20000-(t.2.2.2+1)).toNat<m'
           omega
        ·rw [au c2,bg,aw,if_neg (fun hh=>c2 hh.1)]
         exact ZE (fun hh=>c2 hh.1)
       ·rw [au c1,if_neg c1,af (by simp; omega),tG]
     have dK:=o.steps
     exact key n 20001 s o (by omega) (by omega) _ (fun ih x=>rfl)
    ·rw [ax,if_pos (.inr rfl)]
abbrev DA:Type:=(List Program)×List aK×(Int×Option (List Int)×List aY×List (List Int)×List (List Int)×List (List Int)×List (List Int)×Int×List Int×Unit)
abbrev WT:Type:=(Int)→(Int)→(List Program)→(List aK)→(Int)→(Option (List Int))→(List aY)→(List (List Int))→(List (List Int))→(List (List Int))→(List (List Int))→(Int)→(List Int)→Option (Bool×DA)
def WU {ρ:Type} (n:Nat) (link count k:Int) (slf:WT) (out:Bool→DA→Option ρ) (ih:DA→Option ρ) (x:DA):Option ρ:=
 ab (0≤link∧link<(x.2.2.2.2.2.2.1.length:Int)) (br (decide (((x.2.2.2.2.2.2.1.getD link.toNat []).length:Int)<count)) ((can.f n ((x.1,x.2.1),(x.2.2.2.2.1,x.2.2.2.2.2.1,x.2.2.2.2.2.2.1,x.2.2.1),x.2.2.2.2.2.2.2.1,x.2.2.2.2.2.2.2.2.1,x.2.2.2.1) k).bind fun lr=>br lr.1 (br (decide (x.2.2.2.2.2.2.2.2.2.1≤0)) (out false x) ((lq.f n k x.1 x.2.1 x.2.2.1 x.2.2.2.1 x.2.2.2.2.1 x.2.2.2.2.2.1 x.2.2.2.2.2.2.1 x.2.2.2.2.2.2.2.1 x.2.2.2.2.2.2.2.2.1).bind fun ef=>ih (ef.1,ef.2.1,ef.2.2.1,ef.2.2.2.1,ef.2.2.2.2.1,ef.2.2.2.2.2.1,ef.2.2.2.2.2.2.1,ef.2.2.2.2.2.2.2.1,ef.2.2.2.2.2.2.2.2.1,ag (x.2.2.2.2.2.2.2.2.2.1-1),x.2.2.2.2.2.2.2.2.2.2.1,()))) ((iY.f n ((x.1,x.2.1),(x.2.2.2.2.1,x.2.2.2.2.2.1,x.2.2.2.2.2.2.1,x.2.2.1),x.2.2.2.2.2.2.2.1,x.2.2.2.2.2.2.2.2.1,x.2.2.2.1) k).bind fun i_=>br (!decide (i_.1=2)) (out false x) (ab (0≤i_.2.1∧i_.2.1<(x.2.2.2.2.2.2.1.length:Int)) ((slf i_.2.1 (ag (((x.2.2.2.2.2.2.1.getD i_.2.1.toNat []).length:Int)+1)) x.1 x.2.1 x.2.2.1 x.2.2.2.1 x.2.2.2.2.1 x.2.2.2.2.2.1 x.2.2.2.2.2.2.1 x.2.2.2.2.2.2.2.1 x.2.2.2.2.2.2.2.2.1 x.2.2.2.2.2.2.2.2.2.1 x.2.2.2.2.2.2.2.2.2.2.1).bind fun cR=>br (!cR.1) (out false cR.2) (ih (cR.2.1,cR.2.2.1,cR.2.2.2.1,cR.2.2.2.2.1,cR.2.2.2.2.2.1,cR.2.2.2.2.2.2.1,cR.2.2.2.2.2.2.2.1,cR.2.2.2.2.2.2.2.2.1,cR.2.2.2.2.2.2.2.2.2.1,cR.2.2.2.2.2.2.2.2.2.2.1,cR.2.2.2.2.2.2.2.2.2.2.2.1,())))))) (out true x))
def Er (nt:ak) (to fr:List (List Int)) (s0 most:Int) (bl:List Int) (t:State):DA:=(nt.1,nt.2,t.2.2.2,none,t.1,t.2.1,t.2.2.1,to,fr,most-(t.2.2.2-s0),bl,())
def ja (most:Int):Int:=max 0 (min most 20000)
def Hf (fin:Int) (t:State):Prop:=¬ t.2.2.2<fin∨t.2.2.2=20000
theorem afu {f:Nat→Bool} (h:Hf fin t):cG nt fin d f t link (dM t link+1)=(t,false):=by
 cases d with
 | zero=>rfl
 | succ d=>
  unfold cG;rw [if_neg (by omega)];split
  ·rfl
  show (if dM t link<dM t link+1 then _ else _)=_;rw [if_pos (by omega)];split
  ·rename_i h1;have:=(xM h1.2).2.1;rcases h with h | h
   ·exact absurd h1.1 h
   omega
  rw [if_pos (by rcases h with h | h; exact .inl h; exact .inr (.inr h))]
theorem afv {s0:Int} (h0:0≤s0) (h1:s0≤t.2.2.2) (h2:t.2.2.2≤20000):Hf (s0+ja most) t↔(most-(t.2.2.2-s0)≤0∨t.2.2.2=20000):=by unfold Hf ja;omega
theorem WV {ρ:Type} {to fr:List (List Int)} {s0:Int} {slf:WT} {f:Nat→Bool} {bl:List Int} (out:Bool→DA→Option ρ) (hn:1048576<n)
  (T:jQ nt xE toQ (fun p=>p.1) to nt.2.length) (E:jQ nt zO zP (fun p=>p.2.1) fr nt.2.length) (h0:0≤s0) (vH : -9223372036854775808≤most) (mo:most≤9223372036854775807) (hl:link<nt.2.length) (hk:(fZ nt link).toNat<nt.1.length) (ek:fZ nt link=((fZ nt link).toNat:Int))
  (Kv:∀ t j c,bU nt t→s0≤t.2.2.2→j<nt.2.length→slf (j:Int) c nt.1 nt.2 t.2.2.2 none t.1 t.2.1 t.2.2.1 to fr (most-(t.2.2.2-s0)) bl=some ((cG nt (s0+ja most) d f t j c).2,Er nt to fr s0 most bl (cG nt (s0+ja most) d f t j c).1)) :
  ∀ (m m':Nat) (t:State),bU nt t→s0≤t.2.2.2→(20000-t.2.2.2).toNat<m→(20000-t.2.2.2).toNat<m'→∀ F:(DA→Option ρ)→DA→Option ρ,(∀ ih x,F ih x=WU n (link:Int) count (fZ nt link) slf out ih x)→
   iter m F (Er nt to fr s0 most bl t)=out (jx nt (s0+ja most) count link (cG nt (s0+ja most) d f) m' t).2 (Er nt to fr s0 most bl (jx nt (s0+ja most) count link (cG nt (s0+ja most) d f) m' t).1):=by
 intro m;induction m with
 | zero=>intro m' t ot _ h; omega
 | succ m IH=>
  intro m' t ot p7 hm qM F hF;obtain ⟨m',rfl⟩:∃ q,m'=q+1:=⟨m'-1,by omega⟩
  show F (iter m F) _=_;rw [hF];have hnt:=ot.ns;have dK:=ot.steps;have R:kQ nt t (nt,t,to,fr,none):=⟨rfl,rfl,T,E⟩
  have WW:=afv (most:=most) h0 p7 dK.2;unfold WU Er;simp only [az];rw [af (by omega)];unfold jx;show br (decide (dM t link<count)) _ _=_;by_cases c1:dM t link<count
  ·rw [aM c1,if_pos c1,ek];generalize (fZ nt link).toNat=k at hk ⊢;have A9:can.f n ((nt.1,nt.2),(t.1,t.2.1,t.2.2.1,t.2.2.2),to,fr,(none:Option (List Int))) (k:Int)=some (dw nt t k,()):=Ef R ot hk;have hw:iY.f n ((nt.1,nt.2),(t.1,t.2.1,t.2.2.1,t.2.2.2),to,fr,(none:Option (List Int))) (k:Int)=some ((bE nt t k).1,bL nt t k,()):=Ee R ot hk;simp only [az];rw [A9,hw];simp only [aA];by_cases hS:Hf (s0+ja most) t
   ·have xR:=WW.1 hS;have e1:¬ (t.2.2.2<s0+ja most∧dw nt t k=true):=by
     rintro ⟨a,b⟩;have:=(xM b).2.1;rcases hS with h | h
     ·exact h a
     omega
    rw [if_neg e1,if_pos (by rcases hS with h | h; exact .inl h; exact .inr (.inr h))];cases c3:dw nt t k
    ·rw [aw];by_cases d2:(bE nt t k).1=2
     ·obtain ⟨j,hj,ej,-⟩:=qw ot hk d2;have hq:(t.2.2.1.getD j []).length≤1048576:=by rw [aU (by omega)]; exact (my ot).po _ (bV (by omega))
      rw [decide_eq_true d2,bo,aw];simp only [ej,az];rw [af (by omega),bM (by omega) (by omega),show ((t.2.2.1.getD j []).length:Int)+1=dM t j+1 from rfl,Kv t j _ ot p7 hj,afu hS];rfl
     rw [decide_eq_false d2,gT,ax]
    have wZ:=(xM c3).2.1;rw [ax,aM (by omega)]
   have xR:=mt WW.2 hS;have hS3:t.2.2.2<s0+ja most∧t.2.2.2≠20000:=by unfold Hf at hS; omega
   cases c3:dw nt t k
   ·rw [aw,if_neg (by simp)];by_cases d2:(bE nt t k).1=2
    ·obtain ⟨j,hj,ej,-⟩:=qw ot hk d2;have hq:(t.2.2.1.getD j []).length≤1048576:=by rw [aU (by omega)]; exact (my ot).po _ (bV (by omega))
     rw [decide_eq_true d2,bo,aw,if_neg (by omega)];simp only [ej,az];rw [af (by omega),bM (by omega) (by omega),show ((t.2.2.1.getD j []).length:Int)+1=dM t j+1 from rfl,Kv t j _ ot p7 hj];have hA:=He (fin:=s0+ja most) (d:=d) (f:=f) (count:=dM t j+1) ot hj;have hM:=WR (fin:=s0+ja most) (d:=d) (f:=f) ot hj;generalize cG nt (s0+ja most) d f t j (dM t j+1)=Q at hA hM ⊢;simp only [aA];cases h5:Q.2
     ·rw [gT,ax,if_neg (by simp)]; rfl
     rw [bo,aw,if_pos rfl];have hM:=hM h5;have BH:=hA.ok.steps;exact IH m' Q.1 hA.ok (by omega) (by omega) (by omega) F hF
    rw [decide_eq_false d2,gT,ax,if_pos (.inr (.inl d2))]
   rw [ax,au (by omega),if_pos ⟨hS3.1,rfl⟩];have hs:=Pa (n:=n) R ot (my ot) hk c3 hn;simp only at hs;rw [hs];simp only [aA];rw [bM (n:=most-(t.2.2.2-s0)-1) (by omega) (by omega)];have e2:most-(t.2.2.2-s0)-1=most-((eY nt t k).2.2.2-s0):=by show _=most-(t.2.2.2+1-s0);omega
   rw [e2];refine IH m' (eY nt t k) (Ej ot hk c3) ?_ ?_ ?_ F hF
   ·show s0≤t.2.2.2+1;omega
   ·show (20000-(t.2.2.2+1)).toNat<m;omega
   show (20000-(t.2.2.2+1)).toNat<m';omega
  rw [au c1,if_neg c1]
theorem afw {l:List Int} {x:Int} (hl:l.length≤1048576) (hn:1048576<n):∃ r:Int,Ab.f n l x=some (r,())∧decide (0≤r)=decide (x∈l):=by
 unfold Ab.f;have:=N0 l (fun y=>decide (x=y)) (F:=(fun fa x5=>br (decide (x5.1<(l.length:Int))) (ab (0≤x5.1∧x5.1<(l.length:Int)) (br (decide (x=(l.getD x5.1.toNat 0))) (some (x5.1,())) (fa (ag (x5.1+1),())))) (some (-1,())))) (fun ih i hi=>by
  have c1:(i:Int)<(l.length:Int):=by omega
  simp only [aM c1,az,aU hi,iN];rw [af (by omega),ba (by omega)]
  grind) (fun ih=>au (Int.lt_irrefl _)) (n:=n) (by omega)
 grind
theorem WX {l:List Int} {x:Int} (hl:l.length≤1048576) (hn:1048576<n):uh.f n l x=some (decide (x∈l),()):=by
 obtain ⟨r,e,h⟩:=afw (x:=x) hl hn;unfold uh.f
 grind
def sC (bl:List Int):Nat→Bool:=fun j=>decide ((j:Int)∈bl)
theorem Kw {bl:List Int} : sC (bl++[(link:Int)])=dJ (sC bl) link:=by
 funext j;unfold sC dJ
 grind
theorem WY {to fr:List (List Int)} {s0:Int} (hn:1048576<n)
  (T:jQ nt xE toQ (fun p=>p.1) to nt.2.length) (E:jQ nt zO zP (fun p=>p.2.1) fr nt.2.length) (h0:0≤s0) (vH : -9223372036854775808≤most) (mo:most≤9223372036854775807) :
  ∀ (d:Nat) (bl:List Int) (t:State) (link:Nat) (count:Int),bU nt t→s0≤t.2.2.2→link<nt.2.length→pw (sC bl) nt.2.length<d→bl.length+pw (sC bl) nt.2.length≤1000→
   dE.F n d (link:Int) count nt.1 nt.2 t.2.2.2 none t.1 t.2.1 t.2.2.1 to fr (most-(t.2.2.2-s0)) bl=some ((cG nt (s0+ja most) d (sC bl) t link count).2,Er nt to fr s0 most bl (cG nt (s0+ja most) d (sC bl) t link count).1)
 | 0,bl,t,link,count,o,p7,hl,hd,hb=>absurd hd (zU _)
 | d+1,bl,t,link,count,o,p7,hl,hd,hb=>by
  have nC:=o.ns;show dE.B n (dE.F n d) (link:Int) count nt.1 nt.2 t.2.2.2 none t.1 t.2.1 t.2.2.1 to fr (most-(t.2.2.2-s0)) bl=_;unfold dE.B;simp only [az];rw [af (by omega)];show br (decide (count≤dM t link)) _ _=_;unfold cG;by_cases h1:count≤dM t link
  ·rw [aM h1,if_pos h1]; rfl
  rw [au h1,if_neg h1,af (by omega)];show cut (α:=Bool×Unit) (br (decide (fZ nt link<0)) _ _) _=_;by_cases h2:fZ nt link<0
  ·rw [aM h2,bg,ax,if_pos (.inl h2)]; rfl
  rw [au h2,WX (by omega) hn];simp only [aA,bg];rw [show decide ((link:Int)∈bl)=sC bl link from rfl];cases h3:sC bl link
  ·rw [aw,if_neg (by grind)];obtain ⟨hk,ek⟩:=Hc o.cb hl h2;have PF:=Ku h3 hl;rw [xF (by omega)];simp only [aA];rw [dD (by grind)];have dK:=o.steps;refine WV (link:=link) (fun b x=>some (b,x.1,x.2.1,x.2.2.1,x.2.2.2.1,x.2.2.2.2.1,x.2.2.2.2.2.1,x.2.2.2.2.2.2.1,x.2.2.2.2.2.2.2.1,x.2.2.2.2.2.2.2.2.1,x.2.2.2.2.2.2.2.2.2.1,bl,()))
    hn T E h0 vH mo hl hk ek (slf:=dE.F n d) (bl:=bl++[(link:Int)]) (d:=d) (f:=dJ (sC bl) link) (fun u j c ou hu hj=>?_) n 20001 t o p7 (by omega) (by omega) _ (fun ih x=>rfl)
   have:=WY hn T E h0 vH mo d (bl++[(link:Int)]) u j c ou hu hj (by rw [Kw]; omega) (by rw [Kw,List.length_append,nE]; omega);rw [Kw] at this;omega
  rw [ax,if_pos (.inr rfl)]; rfl
def rT (n:Nat) (nt:ak) (s:State) (link count most:Int):State×Bool:=
 if gk nt s=true∧0≤link∧link<(nt.2.length:Int) then cG nt (s.2.2.2+ja most) (n+1) (fun _=>false) s link.toNat count else (([],[],[],0),false)
theorem afx:sC []=fun _=>false:=by funext j; rfl
theorem WZ : ∀ (d d':Nat) (f:Nat→Bool) (s:State) (link:Nat) (count:Int),bU nt s→link<nt.2.length→pw f nt.2.length<d→pw f nt.2.length<d'→cG nt fin d f s link count=cG nt fin d' f s link count
 | 0,d',f,s,link,count,o,hl,h,h'=>absurd h (zU _)
 | d+1,0,f,s,link,count,o,hl,h,h'=>absurd h' (zU _)
 | d+1,d'+1,f,s,link,count,o,hl,h,h'=>by
  unfold cG;split
  ·rfl
  split
  ·rfl
  rename_i h2;have h3:f link=false:=by
   cases e:f link
   ·rfl
   grind
  have PF:=Ku h3 hl;obtain ⟨hk,-⟩:=Hc o.cb hl (fun hh=>h2 (.inl hh));have aib:∀ m t,bU nt t→jx nt fin count link (cG nt fin d (dJ f link)) m t=jx nt fin count link (cG nt fin d' (dJ f link)) m t:=by
   intro m;induction m with
   | zero=>intro t _; rfl
   | succ m ih=>
    intro t ot;unfold jx;split
    ·split
     ·rename_i hc; exact ih _ (Ej ot hk hc.2)
     split
     ·rfl
     rename_i c2;have hw:(bE nt t (fZ nt link).toNat).1=2:=by
      by_cases hh:(bE nt t (fZ nt link).toNat).1=2
      ·exact hh
      omega
     obtain ⟨j,hj,ej,-⟩:=qw ot hk hw;rw [ej,az,WZ d d' (dJ f link) t j _ ot hj (by omega) (by omega)];split
     ·exact ih _ (He ot hj).ok
     rfl
    rfl
  grind
theorem afy {link:Int} (h:cL nt) (hs:gP s) (hn:1048576<n):Aa.f n nt s link count most=some ((rT n nt s link count most).1,(rT n nt s link count most).2,()):=by
 have hb:=iR;unfold Aa.f rT ch.f;rw [D9 h hs hn];cases e1:gk nt s
 ·rfl
 have o:=ru e1;have hL:=o.cb.dp;have dK:=o.steps;simp only [aA,bo,aw,true_and];rw [bM (by omega) (by omega)];by_cases h1:0≤link
 ·by_cases h2:link<(nt.2.length:Int)
  ·rw [aM h1,decide_eq_true (show link≤(nt.2.length:Int)-1 by omega),if_pos ⟨h1,h2⟩];simp only [aA,bo,bg,aw];rw [Cg hs hn];simp only [aA];rw [af ⟨by omega,by omega⟩];obtain ⟨l,rfl⟩:∃ l:Nat,link=(l:Int):=⟨link.toNat,by omega⟩
   have hl:l<nt.2.length:=by omega
   have hf:=PC (f:=fun _=>false) (L:=nt.2.length);have:=WS (fin:=s.2.2.2+ja most) hn n (List.replicate nt.2.length false) (fun _=>false) s l count o (by simp) (fun j=>by grind) hl (by omega);rw [show ag (s.2.2.2+max 0 (min most 20000))=s.2.2.2+ja most by unfold ja; rw [bM (by omega) (by omega)]];unfold dB.f;rw [show ((nt.2.length:Int)).toNat=nt.2.length from rfl,this,az,WZ n (n+1) _ s l count o hl (by omega) (by omega)];rfl
  rw [aM h1,decide_eq_false (show ¬ link≤(nt.2.length:Int)-1 by omega),if_neg (fun hh=>h2 hh.2)];rfl
 rw [au h1,if_neg (fun hh=>h1 hh.1)]; rfl
theorem afz {link:Int} (h:cL nt) (hs:gP s) (hn:1048576<n) (vH : -9223372036854775808≤most) (mo:most≤9223372036854775807):Ac.f n nt s link count most=some ((rT n nt s link count most).1,(rT n nt s link count most).2,()):=by
 unfold Ac.f rT;rw [B8 h hs hn];cases e1:gk nt s
 ·rfl
 have o:=ru e1;have hL:=o.cb.dp;have dK:=o.steps;simp only [aA,bo,aw,true_and];by_cases h1:0≤link
 ·by_cases h2:link<(nt.2.length:Int)
  ·rw [au (by omega),decide_eq_false (show ¬ (nt.2.length:Int)≤link by omega),if_pos ⟨h1,h2⟩];simp only [bg,aw];refine eM.1 (dt.2 (bA (Ed (caps:=none) o.cb hs hn) (fun r ⟨to,fr,e,T,F⟩=>eM.2 ?_)));subst e;obtain ⟨l,rfl⟩:∃ l:Nat,link=(l:Int):=⟨link.toNat,by omega⟩
   have hl:l<nt.2.length:=by omega
   have nC:=o.ns;have hf:=PC (f:=fun _=>false) (L:=nt.2.length);simp only;have key:sB.f n (l:Int) count nt.1 nt.2 s.2.2.2 none s.1 s.2.1 s.2.2.1 to fr most=some ((cG nt (s.2.2.2+ja most) (n+1) (fun _=>false) s l count).2,nt.1,nt.2,(cG nt (s.2.2.2+ja most) (n+1) (fun _=>false) s l count).1.2.2.2,none,(cG nt (s.2.2.2+ja most) (n+1) (fun _=>false) s l count).1.1,(cG nt (s.2.2.2+ja most) (n+1) (fun _=>false) s l count).1.2.1,(cG nt (s.2.2.2+ja most) (n+1) (fun _=>false) s l count).1.2.2.1,to,fr,most-((cG nt (s.2.2.2+ja most) (n+1) (fun _=>false) s l count).1.2.2.2-s.2.2.2),()):=by
    unfold sB.f;simp only [az];rw [af (by omega)];show br (decide (count≤dM s l)) _ _=_;unfold cG;have e0:most-(s.2.2.2-s.2.2.2)=most:=by omega
    by_cases h3:count≤dM s l
    ·rw [aM h3,if_pos h3,e0]
    rw [au h3,if_neg h3,af (by omega)];show cut (α:=Bool×Unit) (br (decide (fZ nt l<0)) _ _) _=_;by_cases h4:fZ nt l<0
    ·rw [aM h4,bg,ax,if_pos (.inl h4),e0]
    rw [au h4,WX (by simp) hn];simp only [aA,bg,List.not_mem_nil,decide_false,aw];rw [if_neg (by grind)];obtain ⟨hk,ek⟩:=Hc o.cb hl h4;rw [xF (by simp)];simp only [aA];rw [dD (by simp)];have hd:=WV (link:=l) (count:=count) (n:=n) (s0:=s.2.2.2) (most:=most) (fun b x=>some (b,x.1,x.2.1,x.2.2.1,x.2.2.2.1,x.2.2.2.2.1,x.2.2.2.2.2.1,x.2.2.2.2.2.2.1,x.2.2.2.2.2.2.2.1,x.2.2.2.2.2.2.2.2.1,x.2.2.2.2.2.2.2.2.2.1,()))
     hn T F dK.1 vH mo hl hk ek (slf:=dE.f n) (bl:=[(l:Int)]) (d:=n) (f:=dJ (fun _=>false) l) (fun u j c ou hu hj=>by have PF:=Ku (f:=fun _=>false) (l:=l) (L:=nt.2.length) rfl hl;have e2:sC [(l:Int)]=dJ (fun _=>false) l:=(Kw (bl:=[])).trans (by rw [afx]);have:=WY hn T F dK.1 vH mo n [(l:Int)] u j c ou hu hj (by grind) (by grind);rw [e2] at this;exact this) n 20001 s o (Int.le_refl _) (by omega) (by omega)
    have pJ:=hd _ (fun ih x=>rfl);unfold Er at pJ;rw [e0] at pJ;exact pJ
   grind
  rw [au (by omega),decide_eq_true (show (nt.2.length:Int)≤link by omega),if_neg (fun hh=>h2 hh.2)];rfl
 rw [aM (by omega),if_neg (fun hh=>h1 hh.1)]; rfl
end Go.AmT
