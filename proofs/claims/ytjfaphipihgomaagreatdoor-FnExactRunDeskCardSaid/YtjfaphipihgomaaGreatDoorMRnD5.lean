/- Functions of the program, each as a plain Lean function. No condition. -/
import Derived.Test.YtjfaphipihgomaaGreatDoorMRnD4
open Go Go.Am
noncomputable section
set_option linter.unusedVariables false
set_option maxRecDepth 100000
set_option linter.unusedSimpArgs false
open Int renaming toNat_natCast → ay
open List renaming range → bA
open Nat renaming le_refl → cj, lt_or_eq_of_le → ry, not_lt_zero → yT
open Option renaming bind_some → aC
namespace Go.AmT
open Go.Proofs Go.Proofs.Tryz
def uQ.f (n:Nat) (a0:aq) (a1:State) (a2:List Int) (a3:Int):Option (Int×Unit):=ab (0≤a3∧a3<(a0.1.length:Int)) (let v1:=(a0.1.getD a3.toNat bC); ab (0≤a3∧a3<(a1.1.length:Int)) (let v2:=(a1.1.getD a3.toNat bK); (gW.f n v1 v2).bind fun r3=>(kZ.f n a0 a1 a3).bind fun r4=>br (!decide (r3.1=3)) (some (-1,())) (ab (0≤r4.1∧r4.1<(a0.2.length:Int)) (let v5:=(a0.2.getD r4.1.toNat aE); br (decide (v5.2.2.1<0)) (some (-1,())) (ab (0≤r4.1∧r4.1<(a1.2.1.length:Int)) (let v6:=(a1.2.1.getD r4.1.toNat []); ab (0≤r4.1∧r4.1<(a2.length:Int)) (br (decide ((v6.length:Int)<(a2.getD r4.1.toNat 0))) (some (-1,())) (some (r4.1,())))))))))
def uQ.ae (n:Nat):au:=⟨[.val cd,.val dG,.val IS,.val I],[.val I],fun x=>uQ.f n x.1 x.2.1 x.2.2.1 x.2.2.2.1⟩
theorem uQ.ok (n:Nat):aP 199 (uQ.ae n):=aU n [] [] (ai (gW.ok n) (ai (kZ.ok n) aK)) aL func199
def s8.f (n:Nat) (a0:aq) (a1:State) (a2:List Int) (a3:Int):Option (Bool×Unit):=(ki.f n a0 a1 a3).bind fun r1=>br r1.1 ((uQ.f n a0 a1 a2 a3).bind fun r2=>some (decide (r2.1<0),())) (some (false,()))
def s8.ae (n:Nat):au:=⟨[.val cd,.val dG,.val IS,.val I],[.val .bool],fun x=>s8.f n x.1 x.2.1 x.2.2.1 x.2.2.2.1⟩
theorem s8.ok (n:Nat):aP 198 (s8.ae n):=aU n [] [] (ai (ki.ok n) (ai (uQ.ok n) aK)) aL func198
def rG.f (n:Nat) (a0:aq) (a1:State) (a2:List Int):Option (Bool×Unit):=(mb.f n a0 a1).bind fun r1=>br r1.1 ((uH.f n a0 a2).bind fun r2=>some (r2.1,())) (some (false,()))
def rG.ae (n:Nat):au:=⟨[.val cd,.val dG,.val IS],[.val .bool],fun x=>rG.f n x.1 x.2.1 x.2.2.1⟩
theorem rG.ok (n:Nat):aP 229 (rG.ae n):=aU n [] [] (ai (mb.ok n) (ai (uH.ok n) aK)) aL func229
def nL.la:LA:=⟨[(0,.agg [.sh b_,.sh du]),(1,.agg [.sh bp,.sh IS,.sh IS,.int .i64]),(2,.sh I)],[],[],[]⟩
def nL.lb:LA:=⟨[(0,.bn 1000 0)],[(1000,.cells [] [.sh b_,.sh du,.own 1001 bp,.own 1002 IS,.own 1003 IS,.int .i64,.own 1004 IS,.own 1005 IS,.cZ I]),(1001,.row true bp),(1002,.row true IS),(1003,.row true IS),(1004,.row true IS),(1005,.row true IS)],[],[]⟩
def nL.f (n:Nat) (a0:List Program) (a1:List bb) (a2:List bM) (a3 a4:List (List Int)) (a5:Int) (a6:List Int):Option (List Program×List bb×Int×Option (List Int)×List bM×List (List Int)×List (List Int)×List (List Int)×List (List Int)×Unit):=ab (a6.length*8≤bo) ((kg.f n a0 a1 a2 a3 a4 a5 ((some a6):Option (List Int))).bind fun r1=>some (r1.1,r1.2.1,r1.2.2.1,r1.2.2.2.1,r1.2.2.2.2.1,r1.2.2.2.2.2.1,r1.2.2.2.2.2.2.1,r1.2.2.2.2.2.2.2.1,r1.2.2.2.2.2.2.2.2.1,()))
def nL.ae (n:Nat):dn:=⟨nL.la,nL.lb,fun x=>nL.f n x.1 x.2.1 x.2.2.1 x.2.2.2.1 x.2.2.2.2.1 x.2.2.2.2.2.1 x.2.2.2.2.2.2.1⟩
theorem nL.ok (n:Nat):pD 230 (nL.ae n):=rv n [] [27] aK (eM (kg.ok n) aL) func230
end Go.AmT
namespace Go.AmT
theorem s9 {nt:aq} {s:State} (o:bG nt s):ij nt s=true:=decide_eq_true o
theorem Jt {nt:aq} (o:cK nt):cm nt=true:=decide_eq_true o
theorem qF {nt:aq} {s:State} (h:ij nt s=true):bG nt s:=of_decide_eq_true h
theorem adr {nt:aq} {s:State} (h:ij nt s=true):cm nt=true:=by have:=(qF h).cf;simp [cm,this]
theorem Oh {n:Nat} {nt:aq} {s:State} {caps:List Int} (h:dq nt) (hs:kf s) (hc:caps.length≤1048576) (hn:1048576<n):rG.f n nt s caps=some (ij nt s&&fi nt.2 caps,()):=by
 unfold rG.f;rw [Dj h hs hn,UD h hc hn];cases e:ij nt s
 ·rfl
 simp [adr e,br]
theorem qG {ls:List bb} {caps:List Int} (h:fi ls caps=true):caps.length=ls.length:=by unfold fi at h;simp only [Bool.and_eq_true,decide_eq_true_eq] at h;exact h.1
def mX (nt:aq) (s:State) (caps:List Int) (k:Nat):Bool:=
 cS nt s k&&(!decide ((bd nt s k).1=3)||(decide ((nt.2.getD (bg nt s k).toNat aE).2.2.1<0)||decide (((s.2.1.getD (bg nt s k).toNat []).length:Int)<caps.getD (bg nt s k).toNat 0)))
theorem Oi {n:Nat} {nt:aq} {s:State} {caps:List Int} (o:bG nt s) (h:kf s) (hc:caps.length≤1048576) (hn:1048576<n) :
  W (nL.f n nt.1 nt.2 s.1 s.2.1 s.2.2.1 s.2.2.2 caps) (fun r=>kH nt s ((r.1,r.2.1),(r.2.2.2.2.1,r.2.2.2.2.2.1,r.2.2.2.2.2.2.1,r.2.2.1),r.2.2.2.2.2.2.2.1,r.2.2.2.2.2.2.2.2.1,r.2.2.2.1)∧r.2.2.2.1=some caps):=by
 unfold nL.f;rw [db (by omega),c8];refine bz (Dl o.cf h hn) (fun r ⟨to,fr,e,T,F⟩=>?_);subst e;rw [ak];exact ⟨⟨rfl,rfl,T,F⟩,rfl⟩
theorem Oj {n:Nat} {nt:aq} {s:State} {caps:List Int} {r:nJ} (R:kH nt s r) (o:bG nt s) (hc:caps.length=nt.2.length) (e:r.2.2.2.2=some caps) {k:Nat} (hk:k<nt.1.length):may.f n r (k:Int)=some (mX nt s caps k,()):=by
 unfold may.f mX;rw [Dp R o hk,Dn R o hk,e,R.st,R.cf];simp only [aC,Option.isNone_some,Option.getD_some];have hq:=o.nq;cases yU:cS nt s k
 ·rfl
 simp only [Bool.not_true,ar,aY,Bool.true_and];by_cases c3:(bd nt s k).1=3
 ·obtain ⟨j,hj,e,-⟩:=rD o hk c3;rw [e];simp only [c3,decide_true,Bool.not_true,ar,ay,Bool.false_or];rw [af (by omega),af (by omega),af (by omega)];cases decide ((nt.2.getD j aE).2.2.1<0)<;>rfl
 simp [c3,br]
theorem U9 {n:Nat} {nt:aq} {s:State} {caps:List Int} (o:bG nt s) (hc:caps.length=nt.2.length) {k:Nat} (hk:k<nt.1.length) (hn:1048576<n) :
  uQ.f n nt s caps (k:Int)=some (if (bd nt s k).1=3∧¬ (nt.2.getD (bg nt s k).toNat aE).2.2.1<0∧¬ ((s.2.1.getD (bg nt s k).toNat []).length:Int)<caps.getD (bg nt s k).toNat 0 then bg nt s k else -1,()):=by
 have ha:=o.act k hk;have oO:k<s.1.length:=by rw [o.na]; exact hk
 have hw:gW.f n (nt.1.getD k bC) (s.1.getD k bK)=some ((bd nt s k).1,(bd nt s k).2,()):=Bg ha;have hq:=o.nq;unfold uQ.f;simp only [ay];rw [af (by omega),af (by omega),hw,F8 o hk hn];simp only [aC];by_cases c3:(bd nt s k).1=3
 ·obtain ⟨j,hj,e,-⟩:=rD o hk c3;rw [e];simp only [c3,decide_true,Bool.not_true,ar,ay];rw [af (by omega),af (by omega),af (by omega)];by_cases c4:(nt.2.getD j aE).2.2.1<0
  ·rw [aG c4,if_neg (by simp only [c4]; simp)]
  rw [av c4];by_cases c5:((s.2.1.getD j []).length:Int)<caps.getD j 0
  ·rw [aG c5,if_neg (by simp only [c5]; simp)]
  rw [av c5,if_pos ⟨trivial,c4,c5⟩]
 rw [if_neg (fun h=>c3 h.1)]; simp [c3,br]
theorem Va {n:Nat} {nt:aq} {s:State} {caps:List Int} (o:bG nt s) (hc:caps.length=nt.2.length) {k:Nat} (hk:k<nt.1.length) (hn:1048576<n):s8.f n nt s caps (k:Int)=some (mX nt s caps k,()):=by
 unfold s8.f mX;rw [Bh o hk hn,U9 o hc hk hn];simp only [aC];cases cS nt s k
 ·rfl
 simp only [aB,Bool.true_and];congr 2;by_cases c3:(bd nt s k).1=3
 ·obtain ⟨j,hj,e,-⟩:=rD o hk c3;rw [e];by_cases c4:(nt.2.getD (j:Int).toNat aE).2.2.1<0
  ·rw [if_neg (fun h=>h.2.1 c4)]; simp only [c4]; simp
  by_cases c5:((s.2.1.getD (j:Int).toNat []).length:Int)<caps.getD (j:Int).toNat 0
  ·rw [if_neg (fun h=>h.2.2 c5)]; simp only [c5]; simp
  rw [if_pos ⟨c3,c4,c5⟩];simp only [c3,c4,c5];simp
 rw [if_neg (fun h=>c3 h.1)]; simp [c3]
def mY (nt:aq) (s:State) (caps:List Int):Bool:=(bA nt.1.length).any (mX nt s caps)
section
variable {σ:Type} (g:σ→Nat→Bool) (st:σ→Nat→σ) (most:Int)
def one (x:Int×σ) (k:Nat):Int×σ:=if x.1<most∧g x.2 k=true then (x.1+1,st x.2 k) else x
def cN (x:Int×σ):Nat→Int×σ
 | 0=>x
 | i+1=>one g st most (cN x i) i
def nM (K:Nat):Nat→Int×σ→Int×σ
 | 0,x=>x
 | m+1,x=>if (bA K).any (g x.2)=true∧x.1<most then nM K m (cN g st most x K) else x
variable {g st most} {K:Nat} {J:Int×σ→Prop} {μ:Int×σ→Nat}
def Good (g:σ→Nat→Bool) (st:σ→Nat→σ) (most:Int) (K:Nat) (J:Int×σ→Prop) (μ:Int×σ→Nat):Prop:=
 ∀ x k,J x→k<K→x.1<most→g x.2 k=true→J (x.1+1,st x.2 k)∧μ (x.1+1,st x.2 k)<μ x
theorem Vb (hG:Good g st most K J μ) {x:Int×σ} {k:Nat} (hx:J x) (hk:k<K):J (one g st most x k)∧μ (one g st most x k)≤μ x:=by
 unfold one;split
 ·rename_i h; have:=hG x k hx hk h.1 h.2; exact ⟨this.1,by omega⟩
 exact ⟨hx,cj _⟩
theorem ta (hG:Good g st most K J μ) {x:Int×σ} (hx:J x):∀ i,i≤K→J (cN g st most x i)∧μ (cN g st most x i)≤μ x
 | 0,_=>⟨hx,cj _⟩
 | i+1,hi=>by have h1:=ta hG hx i (by omega);have h2:=Vb hG h1.1 (show i<K by omega);exact ⟨h2.1,Nat.le_trans h2.2 h1.2⟩
theorem Vc (hG:Good g st most K J μ) {x:Int×σ} (hx:J x):∀ i,i≤K→(cN g st most x i=x∧(x.1<most→∀ j,j<i→g x.2 j=false))∨μ (cN g st most x i)<μ x
 | 0,_=>.inl ⟨rfl,fun _ j hj=>by omega⟩
 | i+1,hi=>by
  have hJ:=ta hG hx i (by omega);rcases Vc hG hx i (by omega) with ⟨h1,h2⟩ | h
  ·show (one g st most (cN g st most x i) i=x∧_)∨_;by_cases hc:x.1<most∧g x.2 i=true
   ·refine .inr ?_;show μ (one g st most (cN g st most x i) i)<μ x;rw [h1];unfold one;rw [if_pos hc];exact (hG x i hx (by omega) hc.1 hc.2).2
   refine .inl ⟨by rw [h1]; unfold one; rw [if_neg hc],fun hm j hj=>?_⟩;rcases Nat.lt_or_ge j i with h | h
   ·exact h2 hm j h
   rw [show j=i by omega];cases hg:g x.2 i
   ·rfl
   exact absurd ⟨hm,hg⟩ hc
  exact .inr (Nat.lt_of_le_of_lt (Vb hG hJ.1 (show i<K by omega)).2 h)
theorem Vd {x:Int×σ} {i:Nat} (h:most≤(cN g st most x i).1):∀ j,i≤j→cN g st most x j=cN g st most x i:=by
 intro j hj;induction j with
 | zero=>rw [show i=0 by omega]
 | succ j ih=>
  rcases ry hj with h1 | h1
  ·have:=ih (by omega);show one g st most (cN g st most x j) j=_;rw [this];unfold one;rw [if_neg (by omega)]
  rw [h1]
theorem Ol {p:Nat→Bool} {K:Nat} : (bA K).any p=true↔∃ k,k<K∧p k=true:=by simp [List.any_eq_true]
theorem Om (hG:Good g st most K J μ) {x:Int×σ} (hx:J x) (ha:(bA K).any (g x.2)=true) (hm:x.1<most):μ (cN g st most x K)<μ x:=by
 rcases Vc hG hx K (cj _) with ⟨-,h⟩ | h
 ·obtain ⟨k,hk,e⟩:=Ol.1 ha;rw [h hm k hk] at e; cases e
 exact h
theorem Ve (x:Int×σ) (h:¬ ((bA K).any (g x.2)=true∧x.1<most)):∀ i,i≤K→cN g st most x i=x
 | 0,_=>rfl
 | i+1,hi=>by show one g st most (cN g st most x i) i=x;rw [Ve x h i (by omega)];unfold one;rw [if_neg];rintro ⟨h1,h2⟩;exact h ⟨Ol.2 ⟨i,hi,h2⟩,h1⟩
theorem Vf (hG:Good g st most K J μ):∀ (m:Nat) (x:Int×σ),J x→μ x<m→nM g st most K (m+1) x=nM g st most K m x
 | 0,x,_,h=>absurd h (yT _)
 | m+1,x,hx,h=>by
  show (if _ then nM g st most K (m+1) (cN g st most x K) else x)=(if _ then nM g st most K m (cN g st most x K) else x)
  split
  ·rename_i hc;refine Vf hG m _ (ta hG hx K (cj _)).1 ?_;have:=Om hG hx hc.1 hc.2;omega
  rfl
def nN (g:σ→Nat→Bool) (st:σ→Nat→σ) (most:Int) (K:Nat) (x:Int×σ):Int×σ:=nM g st most K 20001 x
theorem On (hG:Good g st most K J μ) {x:Int×σ} (hx:J x) (hm:μ x≤20000):nN g st most K x=nN g st most K (cN g st most x K):=by
 by_cases hc:(bA K).any (g x.2)=true∧x.1<most
 ·unfold nN;rw [← Vf hG 20001 x hx (by omega)];show (if _ then nM g st most K 20001 (cN g st most x K) else x)=_;rw [if_pos hc]
 rw [Ve x hc K (cj _)]
theorem Ju {x:Int×σ} (hc:¬ ((bA K).any (g x.2)=true∧x.1<most)):nN g st most K x=x:=by show (if _ then nM g st most K 20000 (cN g st most x K) else x)=x;rw [if_neg hc]
theorem Vg (hG:Good g st most K J μ):∀ (m:Nat) (x:Int×σ),J x→J (nM g st most K m x)∧μ (nM g st most K m x)≤μ x
 | 0,x,hx=>⟨hx,cj _⟩
 | m+1,x,hx=>by
  show J (if _ then nM g st most K m (cN g st most x K) else x)∧μ (if _ then nM g st most K m (cN g st most x K) else x)≤μ x;split
  ·have h1:=ta hG hx K (cj _);have h2:=Vg hG m _ h1.1;exact ⟨h2.1,Nat.le_trans h2.2 h1.2⟩
  exact ⟨hx,cj _⟩
theorem Vh (hG:Good g st most K J μ) {x:Int×σ} (hx:J x):J (nN g st most K x):=(Vg hG _ x hx).1
variable {γ δ ρ:Type}
theorem Vi (hG:Good g st most K J μ) (Du:∀ x,J x→μ x≤20000) (enc:Int→σ→γ) (jZ:Int→Nat→σ→δ) {F:(γ→Option ρ)→γ→Option ρ} {G:Int→σ→Option ρ} {n:Nat}
  (hF:∀ ih made s,J (made,s)→∃ Fi:(δ→Option ρ)→δ→Option ρ,F ih (enc made s)=(if (bA K).any (g s)=true∧made<most then iter n Fi (jZ made 0 s) else G made s)∧
   (∀ gY made k s,J (made,s)→k<K→made<most→Fi gY (jZ made k s)=if g s k=true then gY (jZ (made+1) (k+1) (st s k)) else gY (jZ made (k+1) s))∧
   (∀ gY made k s,J (made,s)→k≤K→¬ (k<K∧made<most)→Fi gY (jZ made k s)=ih (enc made s)))
  (hK:K<n) (hn:20000<n) {x:Int×σ} (hx:J x):iter n F (enc x.1 x.2)=G (nN g st most K x).1 (nN g st most K x).2:=by
 have inner:∀ (ih:γ→Option ρ) (Fi:(δ→Option ρ)→δ→Option ρ),(∀ gY made k s,J (made,s)→k<K→made<most→Fi gY (jZ made k s)=if g s k=true then gY (jZ (made+1) (k+1) (st s k)) else gY (jZ made (k+1) s))→
   (∀ gY made k s,J (made,s)→k≤K→¬ (k<K∧made<most)→Fi gY (jZ made k s)=ih (enc made s))→
   ∀ (x:Int×σ),J x→iter n Fi (jZ x.1 0 x.2)=ih (enc (cN g st most x K).1 (cN g st most x K).2):=by
  intro ih Fi hi he x hx;have:∀ m k,k≤K→K-k<m→iter m Fi (jZ (cN g st most x k).1 k (cN g st most x k).2)=ih (enc (cN g st most x K).1 (cN g st most x K).2):=by
   intro m;induction m with
   | zero=>intro k hk h; omega
   | succ m IH=>
    intro k hk hm;have hJ:=(ta hG hx k hk).1;show Fi (iter m Fi) _=_;by_cases hc:k<K∧(cN g st most x k).1<most
    ·rw [hi _ _ _ _ hJ hc.1 hc.2];have h2:=IH (k+1) (by omega) (by omega);have e:cN g st most x (k+1)=one g st most (cN g st most x k) k:=rfl;rw [e] at h2;unfold one at h2;by_cases hg:g (cN g st most x k).2 k=true
     ·rw [if_pos ⟨hc.2,hg⟩] at h2;rw [if_pos hg]; exact h2
     rw [if_neg (fun h=>hg h.2)] at h2;rw [if_neg hg]; exact h2
    rw [he _ _ _ _ hJ hk hc];have e:cN g st most x K=cN g st most x k:=by
     rcases ry hk with h | h
     ·exact Vd (by omega) K hk
     rw [h]
    rw [e]
  exact this n 0 (Nat.zero_le _) (by omega)
 have:∀ m (x:Int×σ),J x→μ x<m→iter m F (enc x.1 x.2)=G (nN g st most K x).1 (nN g st most K x).2:=by
  intro m;induction m with
  | zero=>intro x _ h; omega
  | succ m IH=>
   intro x hx hm;show F (iter m F) _=_;obtain ⟨Fi,e,hi,he⟩:=hF (iter m F) x.1 x.2 hx;rw [e];by_cases hc:(bA K).any (g x.2)=true∧x.1<most
   ·rw [if_pos hc,inner _ Fi hi he x hx,IH _ (ta hG hx K (cj _)).1 (by have:=Om hG hx hc.1 hc.2; omega),← On hG hx (Du x hx)]
   rw [if_neg hc,Ju hc]
 exact this n x hx (by have:=Du x hx; omega)
theorem ads (hG:Good g st most K J μ) (Du:∀ x,J x→μ x≤20000) (enc:Int→Bool→σ→γ) (jZ:Int→Bool→Nat→σ→δ) {F:(γ→Option ρ)→γ→Option ρ} {G:σ→Option ρ} {n:Nat}
  (hF:∀ ih made s,J (made,s)→∃ Fi:(δ→Option ρ)→δ→Option ρ,F ih (enc made true s)=iter n Fi (jZ made false 0 s)∧
   (∀ gY made again k s,J (made,s)→k<K→Fi gY (jZ made again k s)=if most≤made then G s else if g s k=true then gY (jZ (made+1) true (k+1) (st s k)) else gY (jZ made again (k+1) s))∧
   (∀ gY made again s,J (made,s)→Fi gY (jZ made again K s)=ih (enc made again s)))
  (hF0:∀ ih made s,J (made,s)→F ih (enc made false s)=G s)
  (hK:K<n) (hn:20001<n) {x:Int×σ} (hx:J x):iter n F (enc x.1 true x.2)=G (nN g st most K x).2:=by
 have inner:∀ (ih:γ→Option ρ) (Fi:(δ→Option ρ)→δ→Option ρ),(∀ gY made again k s,J (made,s)→k<K→Fi gY (jZ made again k s)=if most≤made then G s else if g s k=true then gY (jZ (made+1) true (k+1) (st s k)) else gY (jZ made again (k+1) s))→
   (∀ gY made again s,J (made,s)→Fi gY (jZ made again K s)=ih (enc made again s))→∀ (x:Int×σ),J x→(∀ again,(again=false→cN g st most x K=x)→(again=true→μ (cN g st most x K)<μ x)→ih (enc (cN g st most x K).1 again (cN g st most x K).2)=G (nN g st most K x).2)→
   iter n Fi (jZ x.1 false 0 x.2)=G (nN g st most K x).2:=by
  intro ih Fi hi he x hx hih;have:∀ m k again,k≤K→K-k<m→(again=false→cN g st most x k=x)→(again=true→μ (cN g st most x k)<μ x)→iter m Fi (jZ (cN g st most x k).1 again k (cN g st most x k).2)=G (nN g st most K x).2:=by
   intro m;induction m with
   | zero=>intro k again hk h; omega
   | succ m IH=>
    intro k again hk hm h0 h1;have hJ:=(ta hG hx k hk).1;show Fi (iter m Fi) _=_;rcases ry hk with ax | hE
    ·rw [hi _ _ _ _ _ hJ ax];by_cases Jv:most≤(cN g st most x k).1
     ·rw [if_pos Jv,On hG hx (Du x hx),Vd Jv K hk,Ju (fun h=>by omega)]
     rw [if_neg Jv];have e:cN g st most x (k+1)=one g st most (cN g st most x k) k:=rfl;by_cases hg:g (cN g st most x k).2 k=true
     ·rw [if_pos hg];have e2:cN g st most x (k+1)=((cN g st most x k).1+1,st (cN g st most x k).2 k):=by rw [e]; unfold one; rw [if_pos ⟨by omega,hg⟩]
      have h3:=(hG _ k hJ ax (by omega) hg).2;have h4:=(ta hG hx k hk).2;have h2:=IH (k+1) true (by omega) (by omega) (fun h=>by cases h) (fun _=>by rw [e2]; omega);rw [e2] at h2;exact h2
     rw [if_neg hg];have e2:cN g st most x (k+1)=cN g st most x k:=by rw [e]; unfold one; rw [if_neg (fun h=>hg h.2)]
     have h2:=IH (k+1) again (by omega) (by omega) (by rw [e2]; exact h0) (by rw [e2]; exact h1);rw [e2] at h2;exact h2
    subst hE;rw [he _ _ _ _ hJ];exact hih again h0 h1
  exact this n 0 false (Nat.zero_le _) (by omega) (fun _=>rfl) (fun h=>by cases h)
 have:∀ m (x:Int×σ),J x→μ x+1<m→iter m F (enc x.1 true x.2)=G (nN g st most K x).2:=by
  intro m;induction m with
  | zero=>intro x _ h; omega
  | succ m IH=>
   intro x hx hm;show F (iter m F) _=_;obtain ⟨Fi,e,hi,he⟩:=hF (iter m F) x.1 x.2 hx;rw [e];refine inner _ Fi hi he x hx (fun again h0 h1=>?_);have hJ:=(ta hG hx K (cj _)).1;cases again
   ·obtain ⟨m',rfl⟩:∃ m',m=m'+1:=⟨m-1,by omega⟩
    show F (iter m' F) _=_;rw [hF0 _ _ _ hJ,h0 rfl];have hc:¬ ((bA K).any (g x.2)=true∧x.1<most):=by rintro ⟨h2,h3⟩;have:=Om hG hx h2 h3;rw [h0 rfl] at this;omega
    rw [Ju hc]
   rw [IH _ hJ (by have:=h1 rfl; omega),← On hG hx (Du x hx)]
 exact this n x hx (by have:=Du x hx; omega)
end
section
variable {σ:Type} {g:σ→Nat→Bool} {st:σ→Nat→σ} {m1 m2:Int} {K:Nat} {J:Int×σ→Prop} {μ:Int×σ→Nat}
theorem Oo (hG:Good g st m1 K J μ) (H:∀ x,J x→(x.1<m1↔x.1<m2)∨∀ k,k<K→g x.2 k=false) {x:Int×σ} (hx:J x):∀ i,i≤K→cN g st m1 x i=cN g st m2 x i
 | 0,_=>rfl
 | i+1,hi=>by
  have ih:=Oo hG H hx i (by omega);have hJ:=(ta hG hx i (by omega)).1;show one g st m1 (cN g st m1 x i) i=one g st m2 (cN g st m2 x i) i;rw [← ih];unfold one;rcases H _ hJ with h | h
  ·by_cases h1:(cN g st m1 x i).1<m1
   ·by_cases hg:g (cN g st m1 x i).2 i=true
    ·rw [if_pos ⟨h1,hg⟩,if_pos ⟨h.1 h1,hg⟩]
    rw [if_neg (fun hh=>hg hh.2),if_neg (fun hh=>hg hh.2)]
   rw [if_neg (fun hh=>h1 hh.1),if_neg (fun hh=>h1 (h.2 hh.1))]
  have:=h i (by omega);rw [if_neg (fun hh=>by rw [this] at hh; exact absurd hh.2 (by simp)),if_neg (fun hh=>by rw [this] at hh; exact absurd hh.2 (by simp))]
theorem Vj (hG:Good g st m1 K J μ) (H:∀ x,J x→(x.1<m1↔x.1<m2)∨∀ k,k<K→g x.2 k=false):∀ (m:Nat) {x:Int×σ},J x→nM g st m1 K m x=nM g st m2 K m x
 | 0,x,_=>rfl
 | m+1,x,hx=>by
  have ih:=Vj hG H m (ta hG hx K (cj _)).1;rw [Oo hG H hx K (cj _)] at ih;show (if _ then nM g st m1 K m (cN g st m1 x K) else x)=(if _ then nM g st m2 K m (cN g st m2 x K) else x)
  rw [Oo hG H hx K (cj _),ih];by_cases ha:(bA K).any (g x.2)=true
  ·rcases H x hx with h | h
   ·by_cases h1:x.1<m1
    ·rw [if_pos ⟨ha,h1⟩,if_pos ⟨ha,h.1 h1⟩]
    rw [if_neg (fun hh=>h1 hh.2),if_neg (fun hh=>h1 (h.2 hh.2))]
   obtain ⟨k,hk,e⟩:=Ol.1 ha;rw [h k hk] at e; cases e
  rw [if_neg (fun hh=>ha hh.1),if_neg (fun hh=>ha hh.1)]
end
section
variable {α γ ρ:Type} (c:α→Bool) (f:α→α)
def lF:Nat→α→α
 | 0,x=>x
 | m+1,x=>if c x=true then lF m (f x) else x
variable {c f}
theorem Oq {J:α→Prop} {μ:α→Nat} (hJ:∀ x,J x→c x=true→J (f x)∧μ (f x)<μ x) (enc:α→γ) {F:(γ→Option ρ)→γ→Option ρ} {G:α→Option ρ}
  (hF:∀ ih x,J x→F ih (enc x)=if c x=true then ih (enc (f x)) else G x):∀ {n m:Nat} {x:α},J x→μ x<n→μ x<m→iter n F (enc x)=G (lF c f m x)
 | 0,m,x,hx,h,_=>absurd h (yT _)
 | n+1,0,x,hx,_,h=>absurd h (yT _)
 | n+1,m+1,x,hx,h1,h2=>by
  show F (iter n F) (enc x)=G (if c x=true then lF c f m (f x) else x);rw [hF _ _ hx];cases hc:c x
  ·rw [if_neg (by simp),if_neg (by simp)]
  rw [if_pos rfl,if_pos rfl];have:=hJ x hx hc;exact Oq hJ enc hF this.1 (by omega) (by omega)
theorem Vk {J:α→Prop} (hJ:∀ x,J x→c x=true→J (f x)):∀ (m:Nat) (x:α),J x→J (lF c f m x)
 | 0,x,hx=>hx
 | m+1,x,hx=>by
  show J (if c x=true then lF c f m (f x) else x);split
  ·rename_i h; exact Vk hJ m _ (hJ x hx h)
  exact hx
end
end Go.AmT
namespace Go.AmT
open Go.Proofs Go.Proofs.Tryz
def qH.f (n:Nat) (a0:aq) (a1:State):Option (Int×Unit):=iter n (fun nH bO=>br (decide (bO.1<(a0.1.length:Int))) ((ki.f n a0 a1 bO.1).bind fun fh=>br fh.1 (some (bO.1,())) (nH (ah (bO.1+1),()))) (some (-1,()))) (0,())
def qH.ae (n:Nat):au:=⟨[.val cd,.val dG],[.val I],fun x=>qH.f n x.1 x.2.1⟩
theorem qH.ok (n:Nat):aP 136 (qH.ae n):=aU n [(3,⟨[(9,.int .i64)],[],[2,3,8],[]⟩)] [] (ai (ki.ok n) aK) aL func136
def nothing.la:LA:=⟨[],[],[],[]⟩
def nothing.lb:LA:=⟨[],[],[],[]⟩
def nothing.f (n:Nat)  : Option (Unit):=some ()
def nothing.ae (n:Nat):dn:=⟨nothing.la,nothing.lb,fun x=>nothing.f n ⟩
theorem nothing.ok (n:Nat):pD 227 (nothing.ae n):=rv n [] [] aK aL func227
def turns.la:LA:=⟨[(0,.bn 0 0),(1,.int .i64),(2,.fn 227 [])],[(0,.cells [true,true,false,false,false,false,false,false,true] [.sh b_,.sh du,.own 1 bp,.own 2 IS,.own 3 IS,.int .i64,.own 4 IS,.own 5 IS,.cZ I]),(1,.row true bp),(2,.row true IS),(3,.row true IS),(4,.row true IS),(5,.row true IS)],[],[]⟩
def turns.lb:LA:=⟨[],[(0,.cells [true,true,false,false,false,false,false,false,true] [.sh b_,.sh du,.own 1 bp,.own 2 IS,.own 3 IS,.int .i64,.own 4 IS,.own 5 IS,.cZ I]),(1,.row true bp),(2,.row true IS),(3,.row true IS),(4,.row true IS),(5,.row true IS)],[],[]⟩
def turns.f (n:Nat) (a0:Int) (a1:List Program) (a2:List bb) (a3:Int) (a4:Option (List Int)) (a5:List bM) (a6 a7:List (List Int)) (a8 a9:List (List Int)):Option (List Program×List bb×Int×Option (List Int)×List bM×List (List Int)×List (List Int)×List (List Int)×List (List Int)×Unit):=iter n (fun adt kJ=>br kJ.2.1 (iter n (fun Vl cU=>br (decide (cU.2.2.1<(kJ.2.2.1.length:Int))) (br (decide (a0≤cU.1)) (some (cU.2.2.2.1,cU.2.2.2.2.1,cU.2.2.2.2.2.1,cU.2.2.2.2.2.2.1,cU.2.2.2.2.2.2.2.1,cU.2.2.2.2.2.2.2.2.1,cU.2.2.2.2.2.2.2.2.2.1,cU.2.2.2.2.2.2.2.2.2.2.1,cU.2.2.2.2.2.2.2.2.2.2.2.1,())) ((may.f n ((cU.2.2.2.1,cU.2.2.2.2.1),(cU.2.2.2.2.2.2.2.1,cU.2.2.2.2.2.2.2.2.1,cU.2.2.2.2.2.2.2.2.2.1,cU.2.2.2.2.2.1),cU.2.2.2.2.2.2.2.2.2.2.1,cU.2.2.2.2.2.2.2.2.2.2.2.1,cU.2.2.2.2.2.2.1) cU.2.2.1).bind fun wN=>br wN.1 ((k9.f n cU.2.2.1 cU.2.2.2.1 cU.2.2.2.2.1 cU.2.2.2.2.2.1 cU.2.2.2.2.2.2.1 cU.2.2.2.2.2.2.2.1 cU.2.2.2.2.2.2.2.2.1 cU.2.2.2.2.2.2.2.2.2.1 cU.2.2.2.2.2.2.2.2.2.2.1 cU.2.2.2.2.2.2.2.2.2.2.2.1).bind fun mU=>(nothing.f n ).bind fun Jh=>Vl (ah (cU.1+1),true,ah (cU.2.2.1+1),mU.1,mU.2.1,mU.2.2.1,mU.2.2.2.1,mU.2.2.2.2.1,mU.2.2.2.2.2.1,mU.2.2.2.2.2.2.1,mU.2.2.2.2.2.2.2.1,mU.2.2.2.2.2.2.2.2.1,())) (Vl (cU.1,cU.2.1,ah (cU.2.2.1+1),cU.2.2.2.1,cU.2.2.2.2.1,cU.2.2.2.2.2.1,cU.2.2.2.2.2.2.1,cU.2.2.2.2.2.2.2.1,cU.2.2.2.2.2.2.2.2.1,cU.2.2.2.2.2.2.2.2.2.1,cU.2.2.2.2.2.2.2.2.2.2.1,cU.2.2.2.2.2.2.2.2.2.2.2.1,())))) (adt (cU.1,cU.2.1,cU.2.2.2.1,cU.2.2.2.2.1,cU.2.2.2.2.2.1,cU.2.2.2.2.2.2.1,cU.2.2.2.2.2.2.2.1,cU.2.2.2.2.2.2.2.2.1,cU.2.2.2.2.2.2.2.2.2.1,cU.2.2.2.2.2.2.2.2.2.2.1,cU.2.2.2.2.2.2.2.2.2.2.2.1,()))) (kJ.1,false,0,kJ.2.2.1,kJ.2.2.2.1,kJ.2.2.2.2.1,kJ.2.2.2.2.2.1,kJ.2.2.2.2.2.2.1,kJ.2.2.2.2.2.2.2.1,kJ.2.2.2.2.2.2.2.2.1,kJ.2.2.2.2.2.2.2.2.2.1,kJ.2.2.2.2.2.2.2.2.2.2.1,())) (some (kJ.2.2.1,kJ.2.2.2.1,kJ.2.2.2.2.1,kJ.2.2.2.2.2.1,kJ.2.2.2.2.2.2.1,kJ.2.2.2.2.2.2.2.1,kJ.2.2.2.2.2.2.2.2.1,kJ.2.2.2.2.2.2.2.2.2.1,kJ.2.2.2.2.2.2.2.2.2.2.1,()))) (0,true,a1,a2,a3,a4,a5,a6,a7,a8,a9,())
def turns.ae (n:Nat):dn:=⟨turns.la,turns.lb,fun x=>turns.f n x.1 x.2.1 x.2.2.1 x.2.2.2.1 x.2.2.2.2.1 x.2.2.2.2.2.1 x.2.2.2.2.2.2.1 x.2.2.2.2.2.2.2.1 x.2.2.2.2.2.2.2.2.1 x.2.2.2.2.2.2.2.2.2.1⟩
theorem turns.ok (n:Nat):pD 226 (turns.ae n):=rv n [(3,⟨[(0,.bn 0 0),(6,.int .i64),(7,.bool)],[(0,.cells [true,true,false,false,false,false,false,false,true] [.sh b_,.sh du,.own 1 bp,.own 2 IS,.own 3 IS,.int .i64,.own 4 IS,.own 5 IS,.cZ I]),(1,.row true bp),(2,.row true IS),(3,.row true IS),(4,.row true IS),(5,.row true IS)],[1,2],[]⟩),(10,⟨[(0,.bn 0 0),(6,.int .i64),(7,.bool),(16,.int .i64)],[(0,.cells [true,true,false,false,false,false,false,false,true] [.sh b_,.sh du,.own 1 bp,.own 2 IS,.own 3 IS,.int .i64,.own 4 IS,.own 5 IS,.cZ I]),(1,.row true bp),(2,.row true IS),(3,.row true IS),(4,.row true IS),(5,.row true IS)],[1,2,15],[]⟩)] [] (ai (may.ok n) aK) (eM (k9.ok n) (eM (nothing.ok n) aL)) func226
end Go.AmT
namespace Go.AmT
variable {nt:aq} {most:Int} {s:State}
def JS (nt:aq) (x:Int×State):Prop:=bG nt x.2∧0≤x.1∧x.1≤x.2.2.2.2
def wX (x:Int×State):Nat:=(20000-x.2.2.2.2).toNat
theorem Ot {x:Int×State} (h:JS nt x):wX x≤20000:=by have:=h.1.steps;unfold wX; omega
theorem JS.le {x:Int×State} (h:JS nt x):0≤x.1∧x.1≤20000:=by have:=h.1.steps;have:=h.2;omega
theorem Dv {g:State→Nat→Bool} (hg:∀ s k,g s k=true→cS nt s k=true):Good g (cX nt) most nt.1.length (JS nt) wX:=by
 rintro ⟨m,s⟩ k ⟨o,h0,h1⟩ hk hm hgk;have hc:=hg _ _ hgk;obtain ⟨-,wv,-,-⟩:=s7 hc;have hs:=o.steps;have h0:0≤m:=h0;have h1:m≤s.2.2.2:=h1;have wv:s.2.2.2<20000:=wv;refine ⟨⟨Bm o hk hc,?_,?_⟩,?_⟩
 ·show 0≤m+1;omega
 ·show m+1≤s.2.2.2+1;omega
 show (20000-(s.2.2.2+1)).toNat<(20000-s.2.2.2).toNat;omega
theorem adu : Good (cS nt) (cX nt) most nt.1.length (JS nt) wX:=Dv (fun _ _ h=>h)
theorem Vm {caps:List Int} {k:Nat} (h:mX nt s caps k=true):cS nt s k=true:=by unfold mX at h;rw [Bool.and_eq_true] at h;exact h.1
def tb (nt:aq) (c:Option (List Int)) (s:State) (k:Nat):Bool:=match c with | none=>cS nt s k | some caps=>mX nt s caps k
theorem Bn {c:Option (List Int)} {k:Nat} (h:tb nt c s k=true):cS nt s k=true:=by
 cases c with
 | none=>exact h
 | some caps=>exact Vm h
theorem adv {n:Nat} {r:nJ} (R:kH nt s r) (o:bG nt s) (hc:∀ caps,r.2.2.2.2=some caps→caps.length=nt.2.length) {k:Nat} (hk:k<nt.1.length):may.f n r (k:Int)=some (tb nt r.2.2.2.2 s k,()):=by
 cases e:r.2.2.2.2 with
 | none=>
  unfold may.f;rw [Dp R o hk,e];show _=some (cS nt s k,());cases cS nt s k<;>rfl
 | some caps=>exact Oj R o (hc _ e) e hk
def runT (nt:aq) (c:Option (List Int)) (most:Int) (s:State):State:=(nN (tb nt c) (cX nt) most nt.1.length (0,s)).2
theorem Jw {c:Option (List Int)} (o:bG nt s):bG nt (runT nt c most s):=
 (Vh (Dv (fun _ _=>Bn)) (J:=JS nt) (x:=(0,s)) ⟨o,Int.le_refl _,o.steps.1⟩).1
theorem Vn {n:Nat} {to fr:List (List Int)} {c:Option (List Int)} (R:kH nt s (nt,s,to,fr,c)) (o:bG nt s) (hc:∀ caps,c=some caps→caps.length=nt.2.length) (hn:1048576<n) :
  turns.f n most nt.1 nt.2 s.2.2.2 c s.1 s.2.1 s.2.2.1 to fr =
   some (nt.1,nt.2,(runT nt c most s).2.2.2,c,(runT nt c most s).1,(runT nt c most s).2.1,(runT nt c most s).2.2.1,to,fr,()):=by
 have hp:=o.cf.eX;unfold turns.f runT;refine ads (g:=tb nt c) (st:=cX nt) (most:=most) (K:=nt.1.length) (J:=JS nt) (μ:=wX) (Dv (fun _ _=>Bn)) (fun _=>Ot)
  (fun made again s=>(made,again,nt.1,nt.2,s.2.2.2,c,s.1,s.2.1,s.2.2.1,to,fr,())) (fun made again k s=>(made,again,(k:Int),nt.1,nt.2,s.2.2.2,c,s.1,s.2.1,s.2.2.1,to,fr,()))
  (G:=fun s=>some (nt.1,nt.2,s.2.2.2,c,s.1,s.2.1,s.2.2.1,to,fr,())) (fun ih made s h=>⟨_,aB,fun gY made again k s h hk=>?_,fun gY made again s h=>?_⟩) (fun ih made s h=>ar) (by omega) (by omega) (x:=(0,s)) ⟨o,Int.le_refl _,o.steps.1⟩
 ·have c1:(k:Int)<(nt.1.length:Int):=by omega
  have R':kH nt s (nt,s,to,fr,c):=R.step;have hm:may.f n ((nt.1,nt.2),(s.1,s.2.1,s.2.2.1,s.2.2.2),to,fr,c) (k:Int)=some (tb nt c s k,()):=adv R' h.1 hc hk;have hle:=h.le;simp only [aG c1,hm,aC,iF];split
  ·rfl
  rename_i Jv;cases hg:tb nt c s k
  ·simp only [ar,Bool.false_eq_true,if_false];rw [a_ (by omega)]
  simp only [aB,if_true];have hs:=Oe (n:=n) R' h.1 (mg h.1) hk (Bn hg) hn;simp only at hs;rw [hs];simp only [aC];rw [a_ (by omega),bP (n:=made+1) (by simp only at hle; omega) (by simp only at hle; omega)];rfl
 simp only [av (Int.lt_irrefl _)]
end Go.AmT
namespace Go.AmT
open Go.Proofs Go.Proofs.Tryz
def tc.f (n:Nat) (a0:aq):Option (List (List Int)×Unit):=iter n (fun oI x6=>br (decide (x6.1<(a0.2.length:Int))) (ab (0≤x6.1∧x6.1<(a0.2.length:Int)) (let v8:=(a0.2.getD x6.1.toNat aE); (gJ.f n v8.2.2.2.2).bind fun r9=>ab ((x6.2.1.length+([r9.1]:List (List Int)).length)*24≤bo) (oI (ah (x6.1+1),x6.2.1++[r9.1],())))) (some (x6.2.1,()))) (0,[],())
def tc.ae (n:Nat):au:=⟨[.val cd],[.val (.sl IS)],fun x=>tc.f n x.1⟩
theorem tc.ok (n:Nat):aP 58 (tc.ae n):=aU n [(4,⟨[(3,.own 1000 IS),(10,.int .i64)],[(1000,.row true IS)],[8,9],[]⟩)] [] (ai (gJ.ok n) aK) aL func58
def yV.f (n:Nat) (a0:Program):Option (bM×Unit):=(jg.f n a0).bind fun r1=>br (!r1.1) (some ((0,[]),())) (some ((0,[0,0,0,0]),()))
def yV.ae (n:Nat):au:=⟨[.val b_],[.val bp],fun x=>yV.f n x.1⟩
theorem yV.ok (n:Nat):aP 59 (yV.ae n):=aU n [] [] (ai ⟨jg.sound n,jg.aD⟩ aK) aL func59
def uS.f (n:Nat) (a0:aq):Option (State×Unit):=(eH.f n a0).bind fun r1=>br (!r1.1) (some (([],[],[],0),())) ((tc.f n a0).bind fun r2=>(tc.f n a0).bind fun r3=>iter n (fun F1 gG=>br (decide (gG.1<(a0.1.length:Int))) (ab (0≤gG.1∧gG.1<(a0.1.length:Int)) (let F2:=(a0.1.getD gG.1.toNat bC); (yV.f n F2).bind fun km=>ab ((gG.2.2.1.length+([km.1]:List bM).length)*32≤bo) (F1 (ah (gG.1+1),gG.2.1,gG.2.2.1++[km.1],gG.2.2.2.1,gG.2.2.2.2.1,())))) (some ((gG.2.2.1,gG.2.2.2.1,gG.2.2.2.2.1,gG.2.1),()))) (0,0,[],r2.1,r3.1,()))
def uS.ae (n:Nat):au:=⟨[.val cd],[.val dG],fun x=>uS.f n x.1⟩
theorem uS.ok (n:Nat):aP 27 (uS.ae n):=aU n [(7,⟨[(3,.bn 1000 0),(18,.int .i64)],[(1000,.cells [] [.own 1001 bp,.own 1002 IS,.own 1003 IS,.int .i64]),(1001,.row true bp),(1002,.row true IS),(1003,.row true IS)],[2,16,17],[]⟩)] [] (ai ⟨eH.sound n,eH.aD⟩ (ai (tc.ok n) (ai (yV.ok n) aK))) aL func27
def uT.f (n:Nat) (a0:Program):Option (bM×Unit):=(jh.f n a0).bind fun r1=>br (!r1.1) (some ((0,[]),())) (ab (4=4∧0≤4∧4*(8:Int)≤(bo:Int)) (some ((0,List.replicate 4 (0:Int)),())))
def uT.ae (n:Nat):au:=⟨[.val b_],[.val bp],fun x=>uT.f n x.1⟩
theorem uT.ok (n:Nat):aP 207 (uT.ae n):=aU n [] [] (ai ⟨jh.sound n,jh.aD⟩ aK) aL func207
def uU.f (n:Nat) (a0:aq):Option (State×Unit):=(ez.f n a0).bind fun r1=>br (!r1.1) (some (([],[],[],0),())) (iter n (fun Dw dj=>br (decide (dj.1<(a0.1.length:Int))) (ab (0≤dj.1∧dj.1<(a0.1.length:Int)) (let wY:=(a0.1.getD dj.1.toNat bC); (uT.f n wY).bind fun eB=>ab ((dj.2.2.1.length+([eB.1]:List bM).length)*32≤bo) (Dw (ah (dj.1+1),dj.2.1,dj.2.2.1++[eB.1],())))) (iter n (fun adw oQ=>br (decide (oQ.1<(a0.2.length:Int))) (ab (0≤oQ.1∧oQ.1<(a0.2.length:Int)) (let v51:=(a0.2.getD oQ.1.toNat aE); (cR.f n v51.2.2.2.2).bind fun rC=>ab ((oQ.2.2.2.1.length+([rC.1]:List (List Int)).length)*24≤bo) ((cR.f n v51.2.2.2.2).bind fun Vo=>ab ((oQ.2.2.2.2.1.length+([Vo.1]:List (List Int)).length)*24≤bo) (adw (ah (oQ.1+1),oQ.2.1,oQ.2.2.1,oQ.2.2.2.1++[rC.1],oQ.2.2.2.2.1++[Vo.1],()))))) (some ((oQ.2.2.1,oQ.2.2.2.1,oQ.2.2.2.2.1,oQ.2.1),()))) (0,dj.2.1,dj.2.2.1,[],[],()))) (0,0,[],()))
def uU.ae (n:Nat):au:=⟨[.val cd],[.sh dG],fun x=>uU.f n x.1⟩
theorem uU.ok (n:Nat):aP 151 (uU.ae n):=aU n [(7,⟨[(3,.bn 1000 0),(16,.int .i64)],[(1000,.cells [] [.own 1001 bp,.lP (.nil),.lP (.nil),.int .i64]),(1001,.row true bp)],[1,2,14,15],[]⟩),(16,⟨[(3,.bn 1000 0),(31,.int .i64)],[(1000,.cells [] [.own 1001 bp,.own 1002 IS,.own 1003 IS,.int .i64]),(1001,.row true bp),(1002,.row true IS),(1003,.row true IS)],[2,29,30],[]⟩)] [] (ai ⟨ez.sound n,ez.aD⟩ (ai (uT.ok n) (ai ⟨cR.sound n,cR.aD⟩ aK))) aL func151
end Go.AmT
