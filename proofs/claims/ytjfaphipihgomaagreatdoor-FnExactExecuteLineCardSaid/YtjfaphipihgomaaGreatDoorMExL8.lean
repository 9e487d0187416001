/- Functions of the program, each as a plain Lean function. No condition. -/
import Derived.Test.YtjfaphipihgomaaGreatDoorMExL7
open Go Go.Am
noncomputable section
set_option linter.unusedVariables false
set_option maxRecDepth 100000
set_option linter.unusedSimpArgs false
open Bool renaming not_true → bo
open Int renaming lt_irrefl → bH, natCast_nonneg → zT, toNat_natCast → az
open List renaming getElem_mem → bV, range → bD
open Nat renaming le_refl → cx, lt_or_eq_of_le → s9, not_lt_zero → zU
open Option renaming bind_some → aA
namespace Go.AmT
open Go.Proofs Go.Proofs.Tryz
def vE.f (n:Nat) (a0:ak) (a1:State) (a2:List Int) (a3:Int):Option (Int×Unit):=ab (0≤a3∧a3<(a0.1.length:Int)) (let v1:=(a0.1.getD a3.toNat bf); ab (0≤a3∧a3<(a1.1.length:Int)) (let v2:=(a1.1.getD a3.toNat bz); (ig.f n v1 v2).bind fun r3=>(ll.f n a0 a1 a3).bind fun r4=>br (!decide (r3.1=3)) (some (-1,())) (ab (0≤r4.1∧r4.1<(a0.2.length:Int)) (let v5:=(a0.2.getD r4.1.toNat ay); br (decide (v5.2.2.1<0)) (some (-1,())) (ab (0≤r4.1∧r4.1<(a1.2.1.length:Int)) (let v6:=(a1.2.1.getD r4.1.toNat []); ab (0≤r4.1∧r4.1<(a2.length:Int)) (br (decide ((v6.length:Int)<(a2.getD r4.1.toNat 0))) (some (-1,())) (some (r4.1,())))))))))
def vE.ae (n:Nat):ar:=⟨[.val bZ,.val dk,.val IS,.val I],[.val I],fun x=>vE.f n x.1 x.2.1 x.2.2.1 x.2.2.2.1⟩
theorem vE.ok (n:Nat):aH 199 (vE.ae n):=aJ n [] [] (ai (ig.ok n) (ai (ll.ok n) aC)) aD func199
def t_.f (n:Nat) (a0:ak) (a1:State) (a2:List Int) (a3:Int):Option (Bool×Unit):=(kx.f n a0 a1 a3).bind fun r1=>br r1.1 ((vE.f n a0 a1 a2 a3).bind fun r2=>some (decide (r2.1<0),())) (some (false,()))
def t_.ae (n:Nat):ar:=⟨[.val bZ,.val dk,.val IS,.val I],[.val .bool],fun x=>t_.f n x.1 x.2.1 x.2.2.1 x.2.2.2.1⟩
theorem t_.ok (n:Nat):aH 198 (t_.ae n):=aJ n [] [] (ai (kx.ok n) (ai (vE.ok n) aC)) aD func198
def so.f (n:Nat) (a0:ak) (a1:State) (a2:List Int):Option (Bool×Unit):=(mq.f n a0 a1).bind fun r1=>br r1.1 ((vt.f n a0 a2).bind fun r2=>some (r2.1,())) (some (false,()))
def so.ae (n:Nat):ar:=⟨[.val bZ,.val dk,.val IS],[.val .bool],fun x=>so.f n x.1 x.2.1 x.2.2.1⟩
theorem so.ok (n:Nat):aH 229 (so.ae n):=aJ n [] [] (ai (mq.ok n) (ai (vt.ok n) aC)) aD func229
def og.la:LA:=⟨[(0,.agg [.sh bp,.sh bJ]),(1,.agg [.sh a_,.sh IS,.sh IS,.int .i64]),(2,.sh I)],[],[],[]⟩
def og.lb:LA:=⟨[(0,.bt 1000 0)],[(1000,.cells [] [.sh bp,.sh bJ,.own 1001 a_,.own 1002 IS,.own 1003 IS,.int .i64,.own 1004 IS,.own 1005 IS,.dn I]),(1001,.row true a_),(1002,.row true IS),(1003,.row true IS),(1004,.row true IS),(1005,.row true IS)],[],[]⟩
def og.f (n:Nat) (a0:List Program) (a1:List aK) (a2:List aY) (a3 a4:List (List Int)) (a5:Int) (a6:List Int):Option (List Program×List aK×Int×Option (List Int)×List aY×List (List Int)×List (List Int)×List (List Int)×List (List Int)×Unit):=ab (a6.length*8≤bn) ((ku.f n a0 a1 a2 a3 a4 a5 ((some a6):Option (List Int))).bind fun r1=>some (r1.1,r1.2.1,r1.2.2.1,r1.2.2.2.1,r1.2.2.2.2.1,r1.2.2.2.2.2.1,r1.2.2.2.2.2.2.1,r1.2.2.2.2.2.2.2.1,r1.2.2.2.2.2.2.2.2.1,()))
def og.ae (n:Nat):cM:=⟨og.la,og.lb,fun x=>og.f n x.1 x.2.1 x.2.2.1 x.2.2.2.1 x.2.2.2.2.1 x.2.2.2.2.2.1 x.2.2.2.2.2.2.1⟩
theorem og.ok (n:Nat):ks 230 (og.ae n):=lj n [] [27] aC (dI (ku.ok n) aD) func230
end Go.AmT
namespace Go.AmT
theorem ua {nt:ak} {s:State} (o:bU nt s):gk nt s=true:=decide_eq_true o
theorem Kk {nt:ak} (o:cQ nt):cr nt=true:=decide_eq_true o
theorem ru {nt:ak} {s:State} (h:gk nt s=true):bU nt s:=of_decide_eq_true h
theorem aeS {nt:ak} {s:State} (h:gk nt s=true):cr nt=true:=by have:=(ru h).cb;simp [cr,this]
theorem Pd {n:Nat} {nt:ak} {s:State} {caps:List Int} (h:cL nt) (hs:gP s) (hc:caps.length≤1048576) (hn:1048576<n):so.f n nt s caps=some (gk nt s&&eQ nt.2 caps,()):=by
 unfold so.f;rw [B8 h hs hn,OG h hc hn];cases e:gk nt s
 ·rfl
 simp [aeS e,br]
theorem rv {ls:List aK} {caps:List Int} (h:eQ ls caps=true):caps.length=ls.length:=by
 unfold eQ at h
 grind
def nn (nt:ak) (s:State) (caps:List Int) (k:Nat):Bool:=
 dw nt s k&&(!decide ((bE nt s k).1=3)||(decide ((nt.2.getD (bL nt s k).toNat ay).2.2.1<0)||decide (((s.2.1.getD (bL nt s k).toNat []).length:Int)<caps.getD (bL nt s k).toNat 0)))
theorem Pe {n:Nat} {nt:ak} {s:State} {caps:List Int} (o:bU nt s) (h:gP s) (hc:caps.length≤1048576) (hn:1048576<n) :
  W (og.f n nt.1 nt.2 s.1 s.2.1 s.2.2.1 s.2.2.2 caps) (fun r=>kQ nt s ((r.1,r.2.1),(r.2.2.2.2.1,r.2.2.2.2.2.1,r.2.2.2.2.2.2.1,r.2.2.1),r.2.2.2.2.2.2.2.1,r.2.2.2.2.2.2.2.2.1,r.2.2.2.1)∧r.2.2.2.1=some caps):=by
 unfold og.f;rw [dD (by omega),dt];refine bA (Ed o.cb h hn) (fun r ⟨to,fr,e,T,F⟩=>?_);subst e;rw [ao];exact ⟨⟨rfl,rfl,T,F⟩,rfl⟩
theorem Pf {n:Nat} {nt:ak} {s:State} {caps:List Int} {r:oe} (R:kQ nt s r) (o:bU nt s) (hc:caps.length=nt.2.length) (e:r.2.2.2.2=some caps) {k:Nat} (hk:k<nt.1.length):may.f n r (k:Int)=some (nn nt s caps k,()):=by
 unfold may.f nn;rw [Ef R o hk,Ee R o hk,e,R.st,R.cb];simp only [aA,Option.isNone_some,Option.getD_some];have hq:=o.nq;cases A9:dw nt s k
 ·rfl
 simp only [bo,aw,bg,Bool.true_and];by_cases c3:(bE nt s k).1=3
 ·obtain ⟨j,hj,e,-⟩:=vB o hk c3;rw [e];simp only [c3,decide_true,bo,aw,az,Bool.false_or];rw [af (by omega),af (by omega),af (by omega)];cases decide ((nt.2.getD j ay).2.2.1<0)<;>rfl
 simp [c3,br]
theorem V6 {n:Nat} {nt:ak} {s:State} {caps:List Int} (o:bU nt s) (hc:caps.length=nt.2.length) {k:Nat} (hk:k<nt.1.length) (hn:1048576<n) :
  vE.f n nt s caps (k:Int)=some (if (bE nt s k).1=3∧¬ (nt.2.getD (bL nt s k).toNat ay).2.2.1<0∧¬ ((s.2.1.getD (bL nt s k).toNat []).length:Int)<caps.getD (bL nt s k).toNat 0 then bL nt s k else -1,()):=by
 have ha:=o.act k hk;have uP:k<s.1.length:=by rw [o.na]; exact hk
 have hw:ig.f n (nt.1.getD k bf) (s.1.getD k bz)=some ((bE nt s k).1,(bE nt s k).2,()):=Ca ha;have hq:=o.nq;unfold vE.f;simp only [az];rw [af (by omega),af (by omega),hw,G_ o hk hn];simp only [aA];by_cases c3:(bE nt s k).1=3
 ·obtain ⟨j,hj,e,-⟩:=vB o hk c3;rw [e];simp only [c3,decide_true,bo,aw,az];rw [af (by omega),af (by omega),af (by omega)];by_cases c4:(nt.2.getD j ay).2.2.1<0
  ·rw [aM c4,if_neg (by omega)]
  rw [au c4];by_cases c5:((s.2.1.getD j []).length:Int)<caps.getD j 0
  ·rw [aM c5,if_neg (by omega)]
  rw [au c5,if_pos ⟨trivial,c4,c5⟩]
 rw [if_neg (fun h=>c3 h.1)]; simp [c3,br]
theorem V7 {n:Nat} {nt:ak} {s:State} {caps:List Int} (o:bU nt s) (hc:caps.length=nt.2.length) {k:Nat} (hk:k<nt.1.length) (hn:1048576<n):t_.f n nt s caps (k:Int)=some (nn nt s caps k,()):=by
 unfold t_.f nn;rw [Cb o hk hn,V6 o hc hk hn];simp only [aA];cases dw nt s k
 ·rfl
 simp only [ax,Bool.true_and];congr 2;by_cases c3:(bE nt s k).1=3
 ·obtain ⟨j,hj,e,-⟩:=vB o hk c3
  grind
 grind
def nF (nt:ak) (s:State) (caps:List Int):Bool:=(bD nt.1.length).any (nn nt s caps)
section
variable {σ:Type} (g:σ→Nat→Bool) (st:σ→Nat→σ) (most:Int)
def one (x:Int×σ) (k:Nat):Int×σ:=if x.1<most∧g x.2 k=true then (x.1+1,st x.2 k) else x
def c_ (x:Int×σ):Nat→Int×σ
 | 0=>x
 | i+1=>one g st most (c_ x i) i
def oh (K:Nat):Nat→Int×σ→Int×σ
 | 0,x=>x
 | m+1,x=>if (bD K).any (g x.2)=true∧x.1<most then oh K m (c_ g st most x K) else x
variable {g st most} {K:Nat} {J:Int×σ→Prop} {μ:Int×σ→Nat}
def Good (g:σ→Nat→Bool) (st:σ→Nat→σ) (most:Int) (K:Nat) (J:Int×σ→Prop) (μ:Int×σ→Nat):Prop:=
 ∀ x k,J x→k<K→x.1<most→g x.2 k=true→J (x.1+1,st x.2 k)∧μ (x.1+1,st x.2 k)<μ x
theorem V8 (hG:Good g st most K J μ) {x:Int×σ} {k:Nat} (hx:J x) (hk:k<K):J (one g st most x k)∧μ (one g st most x k)≤μ x:=by
 unfold one
 split
 ·rename_i h; have:=hG x k hx hk h.1 h.2; exact ⟨this.1,by omega⟩
 ·exact ⟨hx,cx _⟩
theorem uK (hG:Good g st most K J μ) {x:Int×σ} (hx:J x):∀ i,i≤K→J (c_ g st most x i)∧μ (c_ g st most x i)≤μ x
 | 0,_=>⟨hx,cx _⟩
 | i+1,hi=>by have h1:=uK hG hx i (by omega);have h2:=V8 hG h1.1 (show i<K by omega);exact ⟨h2.1,Nat.le_trans h2.2 h1.2⟩
theorem V9 (hG:Good g st most K J μ) {x:Int×σ} (hx:J x):∀ i,i≤K→(c_ g st most x i=x∧(x.1<most→∀ j,j<i→g x.2 j=false))∨μ (c_ g st most x i)<μ x
 | 0,_=>.inl ⟨rfl,fun _ j hj=>by omega⟩
 | i+1,hi=>by
  have hJ:=uK hG hx i (by omega);rcases V9 hG hx i (by omega) with ⟨h1,h2⟩ | h
  ·show (one g st most (c_ g st most x i) i=x∧_)∨_;by_cases hc:x.1<most∧g x.2 i=true
   ·refine .inr ?_;show μ (one g st most (c_ g st most x i) i)<μ x;rw [h1];unfold one;rw [if_pos hc];exact (hG x i hx (by omega) hc.1 hc.2).2
   refine .inl ⟨by rw [h1]; unfold one; rw [if_neg hc],fun hm j hj=>?_⟩;rcases Nat.lt_or_ge j i with h | h
   ·exact h2 hm j h
   rw [show j=i by omega];cases hg:g x.2 i
   ·rfl
   exact absurd ⟨hm,hg⟩ hc
  exact .inr (Nat.lt_of_le_of_lt (V8 hG hJ.1 (show i<K by omega)).2 h)
theorem Wa {x:Int×σ} {i:Nat} (h:most≤(c_ g st most x i).1):∀ j,i≤j→c_ g st most x j=c_ g st most x i:=by
 intro j hj;induction j with
 | zero=>grind
 | succ j ih=>
  rcases s9 hj with h1 | h1
  ·have:=ih (by omega);show one g st most (c_ g st most x j) j=_;rw [this];unfold one
   grind
  grind
theorem Pg (hG:Good g st most K J μ) {x:Int×σ} (hx:J x) (ha:(bD K).any (g x.2)=true) (hm:x.1<most):μ (c_ g st most x K)<μ x:=by
 rcases V9 hG hx K (cx _) with ⟨-,h⟩ | h
 ·grind
 omega
theorem Wb (x:Int×σ) (h:¬ ((bD K).any (g x.2)=true∧x.1<most)):∀ i,i≤K→c_ g st most x i=x
 | 0,_=>rfl
 | i+1,hi=>by
  show one g st most (c_ g st most x i) i=x;rw [Wb x h i (by omega)];unfold one
  grind
theorem Wc (hG:Good g st most K J μ):∀ (m:Nat) (x:Int×σ),J x→μ x<m→oh g st most K (m+1) x=oh g st most K m x
 | 0,x,_,h=>absurd h (zU _)
 | m+1,x,hx,h=>by
  show (if _ then oh g st most K (m+1) (c_ g st most x K) else x)=(if _ then oh g st most K m (c_ g st most x K) else x)
  split
  ·rename_i hc;refine Wc hG m _ (uK hG hx K (cx _)).1 ?_;have:=Pg hG hx hc.1 hc.2;omega
  rfl
def oi (g:σ→Nat→Bool) (st:σ→Nat→σ) (most:Int) (K:Nat) (x:Int×σ):Int×σ:=oh g st most K 20001 x
theorem Ph (hG:Good g st most K J μ) {x:Int×σ} (hx:J x) (hm:μ x≤20000):oi g st most K x=oi g st most K (c_ g st most x K):=by
 by_cases hc:(bD K).any (g x.2)=true∧x.1<most
 ·unfold oi;rw [← Wc hG 20001 x hx (by omega)];show (if _ then oh g st most K 20001 (c_ g st most x K) else x)=_
  grind
 rw [Wb x hc K (cx _)]
theorem Kl {x:Int×σ} (hc:¬ ((bD K).any (g x.2)=true∧x.1<most)):oi g st most K x=x:=by
 show (if _ then oh g st most K 20000 (c_ g st most x K) else x)=x
 grind
theorem Wd (hG:Good g st most K J μ):∀ (m:Nat) (x:Int×σ),J x→J (oh g st most K m x)∧μ (oh g st most K m x)≤μ x
 | 0,x,hx=>⟨hx,cx _⟩
 | m+1,x,hx=>by
  show J (if _ then oh g st most K m (c_ g st most x K) else x)∧μ (if _ then oh g st most K m (c_ g st most x K) else x)≤μ x;split
  ·have h1:=uK hG hx K (cx _);have h2:=Wd hG m _ h1.1
   grind
  grind
theorem We (hG:Good g st most K J μ) {x:Int×σ} (hx:J x):J (oi g st most K x):=(Wd hG _ x hx).1
variable {γ δ ρ:Type}
theorem Wg (hG:Good g st most K J μ) (EX:∀ x,J x→μ x≤20000) (enc:Int→σ→γ) (j8:Int→Nat→σ→δ) {F:(γ→Option ρ)→γ→Option ρ} {G:Int→σ→Option ρ} {n:Nat}
  (hF:∀ ih made s,J (made,s)→∃ Fi:(δ→Option ρ)→δ→Option ρ,F ih (enc made s)=(if (bD K).any (g s)=true∧made<most then iter n Fi (j8 made 0 s) else G made s)∧
   (∀ ij made k s,J (made,s)→k<K→made<most→Fi ij (j8 made k s)=if g s k=true then ij (j8 (made+1) (k+1) (st s k)) else ij (j8 made (k+1) s))∧
   (∀ ij made k s,J (made,s)→k≤K→¬ (k<K∧made<most)→Fi ij (j8 made k s)=ih (enc made s)))
  (hK:K<n) (hn:20000<n) {x:Int×σ} (hx:J x):iter n F (enc x.1 x.2)=G (oi g st most K x).1 (oi g st most K x).2:=by
 have inner:∀ (ih:γ→Option ρ) (Fi:(δ→Option ρ)→δ→Option ρ),(∀ ij made k s,J (made,s)→k<K→made<most→Fi ij (j8 made k s)=if g s k=true then ij (j8 (made+1) (k+1) (st s k)) else ij (j8 made (k+1) s))→
   (∀ ij made k s,J (made,s)→k≤K→¬ (k<K∧made<most)→Fi ij (j8 made k s)=ih (enc made s))→
   ∀ (x:Int×σ),J x→iter n Fi (j8 x.1 0 x.2)=ih (enc (c_ g st most x K).1 (c_ g st most x K).2):=by
  intro ih Fi hi he x hx;have:∀ m k,k≤K→K-k<m→iter m Fi (j8 (c_ g st most x k).1 k (c_ g st most x k).2)=ih (enc (c_ g st most x K).1 (c_ g st most x K).2):=by
   intro m;induction m with
   | zero=>omega
   | succ m IH=>
    intro k hk hm;have hJ:=(uK hG hx k hk).1;show Fi (iter m Fi) _=_;by_cases hc:k<K∧(c_ g st most x k).1<most
    ·rw [hi _ _ _ _ hJ hc.1 hc.2];have h2:=IH (k+1) (by omega) (by omega);have e:c_ g st most x (k+1)=one g st most (c_ g st most x k) k:=rfl;rw [e] at h2;unfold one at h2
     grind
    rw [he _ _ _ _ hJ hk hc];have e:c_ g st most x K=c_ g st most x k:=by
     rcases s9 hk with h | h
     ·exact Wa (by omega) K hk
     rw [h]
    rw [e]
  exact this n 0 (Nat.zero_le _) (by omega)
 have:∀ m (x:Int×σ),J x→μ x<m→iter m F (enc x.1 x.2)=G (oi g st most K x).1 (oi g st most K x).2:=by
  intro m;induction m with
  | zero=>omega
  | succ m IH=>
   intro x hx hm;show F (iter m F) _=_;obtain ⟨Fi,e,hi,he⟩:=hF (iter m F) x.1 x.2 hx;rw [e];by_cases hc:(bD K).any (g x.2)=true∧x.1<most
   ·rw [if_pos hc,inner _ Fi hi he x hx,IH _ (uK hG hx K (cx _)).1 (by have:=Pg hG hx hc.1 hc.2; omega),← Ph hG hx (EX x hx)]
   rw [if_neg hc,Kl hc]
 grind
theorem aeT (hG:Good g st most K J μ) (EX:∀ x,J x→μ x≤20000) (enc:Int→Bool→σ→γ) (j8:Int→Bool→Nat→σ→δ) {F:(γ→Option ρ)→γ→Option ρ} {G:σ→Option ρ} {n:Nat}
  (hF:∀ ih made s,J (made,s)→∃ Fi:(δ→Option ρ)→δ→Option ρ,F ih (enc made true s)=iter n Fi (j8 made false 0 s)∧
   (∀ ij made again k s,J (made,s)→k<K→Fi ij (j8 made again k s)=if most≤made then G s else if g s k=true then ij (j8 (made+1) true (k+1) (st s k)) else ij (j8 made again (k+1) s))∧
   (∀ ij made again s,J (made,s)→Fi ij (j8 made again K s)=ih (enc made again s)))
  (hF0:∀ ih made s,J (made,s)→F ih (enc made false s)=G s)
  (hK:K<n) (hn:20001<n) {x:Int×σ} (hx:J x):iter n F (enc x.1 true x.2)=G (oi g st most K x).2:=by
 have inner:∀ (ih:γ→Option ρ) (Fi:(δ→Option ρ)→δ→Option ρ),(∀ ij made again k s,J (made,s)→k<K→Fi ij (j8 made again k s)=if most≤made then G s else if g s k=true then ij (j8 (made+1) true (k+1) (st s k)) else ij (j8 made again (k+1) s))→
   (∀ ij made again s,J (made,s)→Fi ij (j8 made again K s)=ih (enc made again s))→∀ (x:Int×σ),J x→(∀ again,(again=false→c_ g st most x K=x)→(again=true→μ (c_ g st most x K)<μ x)→ih (enc (c_ g st most x K).1 again (c_ g st most x K).2)=G (oi g st most K x).2)→
   iter n Fi (j8 x.1 false 0 x.2)=G (oi g st most K x).2:=by
  intro ih Fi hi he x hx hih;have:∀ m k again,k≤K→K-k<m→(again=false→c_ g st most x k=x)→(again=true→μ (c_ g st most x k)<μ x)→iter m Fi (j8 (c_ g st most x k).1 again k (c_ g st most x k).2)=G (oi g st most K x).2:=by
   intro m;induction m with
   | zero=>omega
   | succ m IH=>
    intro k again hk hm h0 h1;have hJ:=(uK hG hx k hk).1;show Fi (iter m Fi) _=_;rcases s9 hk with aF | hE
    ·rw [hi _ _ _ _ _ hJ aF];by_cases Km:most≤(c_ g st most x k).1
     ·rw [if_pos Km,Ph hG hx (EX x hx),Wa Km K hk,Kl (fun h=>by omega)]
     rw [if_neg Km];have e:c_ g st most x (k+1)=one g st most (c_ g st most x k) k:=rfl;by_cases hg:g (c_ g st most x k).2 k=true
     ·rw [if_pos hg];have e2:c_ g st most x (k+1)=((c_ g st most x k).1+1,st (c_ g st most x k).2 k):=by rw [e]; unfold one; rw [if_pos ⟨by omega,hg⟩]
      have h3:=(hG _ k hJ aF (by omega) hg).2
      grind
     rw [if_neg hg];have e2:c_ g st most x (k+1)=c_ g st most x k:=by rw [e]; unfold one; rw [if_neg (fun h=>hg h.2)]
     grind
    grind
  exact this n 0 false (Nat.zero_le _) (by omega) (fun _=>rfl) (fun h=>by cases h)
 have:∀ m (x:Int×σ),J x→μ x+1<m→iter m F (enc x.1 true x.2)=G (oi g st most K x).2:=by
  intro m;induction m with
  | zero=>omega
  | succ m IH=>
   intro x hx hm;show F (iter m F) _=_;obtain ⟨Fi,e,hi,he⟩:=hF (iter m F) x.1 x.2 hx;rw [e];refine inner _ Fi hi he x hx (fun again h0 h1=>?_);have hJ:=(uK hG hx K (cx _)).1;cases again
   ·obtain ⟨m',rfl⟩:∃ m',m=m'+1:=⟨m-1,by omega⟩
    show F (iter m' F) _=_;rw [hF0 _ _ _ hJ,h0 rfl];have hc:¬ ((bD K).any (g x.2)=true∧x.1<most):=by rintro ⟨h2,h3⟩;have:=Pg hG hx h2 h3;rw [h0 rfl] at this;omega
    rw [Kl hc]
   rw [IH _ hJ (by grind),← Ph hG hx (EX x hx)]
 grind
end
section
variable {σ:Type} {g:σ→Nat→Bool} {st:σ→Nat→σ} {m1 m2:Int} {K:Nat} {J:Int×σ→Prop} {μ:Int×σ→Nat}
theorem Pj (hG:Good g st m1 K J μ) (H:∀ x,J x→(x.1<m1↔x.1<m2)∨∀ k,k<K→g x.2 k=false) {x:Int×σ} (hx:J x):∀ i,i≤K→c_ g st m1 x i=c_ g st m2 x i
 | 0,_=>rfl
 | i+1,hi=>by
  have ih:=Pj hG H hx i (by omega);have hJ:=(uK hG hx i (by omega)).1;show one g st m1 (c_ g st m1 x i) i=one g st m2 (c_ g st m2 x i) i;rw [← ih];unfold one
  grind
theorem Wh (hG:Good g st m1 K J μ) (H:∀ x,J x→(x.1<m1↔x.1<m2)∨∀ k,k<K→g x.2 k=false):∀ (m:Nat) {x:Int×σ},J x→oh g st m1 K m x=oh g st m2 K m x
 | 0,x,_=>rfl
 | m+1,x,hx=>by
  have ih:=Wh hG H m (uK hG hx K (cx _)).1;rw [Pj hG H hx K (cx _)] at ih;show (if _ then oh g st m1 K m (c_ g st m1 x K) else x)=(if _ then oh g st m2 K m (c_ g st m2 x K) else x)
  rw [Pj hG H hx K (cx _),ih]
  grind
end
section
variable {α γ ρ:Type} (c:α→Bool) (f:α→α)
def lT:Nat→α→α
 | 0,x=>x
 | m+1,x=>if c x=true then lT m (f x) else x
variable {c f}
theorem Pl {J:α→Prop} {μ:α→Nat} (hJ:∀ x,J x→c x=true→J (f x)∧μ (f x)<μ x) (enc:α→γ) {F:(γ→Option ρ)→γ→Option ρ} {G:α→Option ρ}
  (hF:∀ ih x,J x→F ih (enc x)=if c x=true then ih (enc (f x)) else G x):∀ {n m:Nat} {x:α},J x→μ x<n→μ x<m→iter n F (enc x)=G (lT c f m x)
 | 0,m,x,hx,h,_=>absurd h (zU _)
 | n+1,0,x,hx,_,h=>absurd h (zU _)
 | n+1,m+1,x,hx,h1,h2=>by
  show F (iter n F) (enc x)=G (if c x=true then lT c f m (f x) else x);rw [hF _ _ hx];cases hc:c x
  ·grind
  rw [if_pos rfl,if_pos rfl];have:=hJ x hx hc;exact Pl hJ enc hF this.1 (by omega) (by omega)
theorem Wi {J:α→Prop} (hJ:∀ x,J x→c x=true→J (f x)):∀ (m:Nat) (x:α),J x→J (lT c f m x)
 | 0,x,hx=>hx
 | m+1,x,hx=>by
  show J (if c x=true then lT c f m (f x) else x);split
  ·rename_i h; exact Wi hJ m _ (hJ x hx h)
  omega
end
end Go.AmT
namespace Go.AmT
open Go.Proofs Go.Proofs.Tryz
def ry.f (n:Nat) (a0:ak) (a1:State):Option (Int×Unit):=iter n (fun oa bT=>br (decide (bT.1<(a0.1.length:Int))) ((kx.f n a0 a1 bT.1).bind fun fq=>br fq.1 (some (bT.1,())) (oa (ag (bT.1+1),()))) (some (-1,()))) (0,())
def ry.ae (n:Nat):ar:=⟨[.val bZ,.val dk],[.val I],fun x=>ry.f n x.1 x.2.1⟩
theorem ry.ok (n:Nat):aH 136 (ry.ae n):=aJ n [(3,⟨[(9,.int .i64)],[],[2,3,8],[]⟩)] [] (ai (kx.ok n) aC) aD func136
def nothing.la:LA:=⟨[],[],[],[]⟩
def nothing.lb:LA:=⟨[],[],[],[]⟩
def nothing.f (n:Nat)  : Option (Unit):=some ()
def nothing.ae (n:Nat):cM:=⟨nothing.la,nothing.lb,fun x=>nothing.f n ⟩
theorem nothing.ok (n:Nat):ks 227 (nothing.ae n):=lj n [] [] aC aD func227
def turns.la:LA:=⟨[(0,.bt 0 0),(1,.int .i64),(2,.fn 227 [])],[(0,.cells [true,true,false,false,false,false,false,false,true] [.sh bp,.sh bJ,.own 1 a_,.own 2 IS,.own 3 IS,.int .i64,.own 4 IS,.own 5 IS,.dn I]),(1,.row true a_),(2,.row true IS),(3,.row true IS),(4,.row true IS),(5,.row true IS)],[],[]⟩
def turns.lb:LA:=⟨[],[(0,.cells [true,true,false,false,false,false,false,false,true] [.sh bp,.sh bJ,.own 1 a_,.own 2 IS,.own 3 IS,.int .i64,.own 4 IS,.own 5 IS,.dn I]),(1,.row true a_),(2,.row true IS),(3,.row true IS),(4,.row true IS),(5,.row true IS)],[],[]⟩
def turns.f (n:Nat) (a0:Int) (a1:List Program) (a2:List aK) (a3:Int) (a4:Option (List Int)) (a5:List aY) (a6 a7:List (List Int)) (a8 a9:List (List Int)):Option (List Program×List aK×Int×Option (List Int)×List aY×List (List Int)×List (List Int)×List (List Int)×List (List Int)×Unit):=iter n (fun aeU kS=>br kS.2.1 (iter n (fun Wj di=>br (decide (di.2.2.1<(kS.2.2.1.length:Int))) (br (decide (a0≤di.1)) (some (di.2.2.2.1,di.2.2.2.2.1,di.2.2.2.2.2.1,di.2.2.2.2.2.2.1,di.2.2.2.2.2.2.2.1,di.2.2.2.2.2.2.2.2.1,di.2.2.2.2.2.2.2.2.2.1,di.2.2.2.2.2.2.2.2.2.2.1,di.2.2.2.2.2.2.2.2.2.2.2.1,())) ((may.f n ((di.2.2.2.1,di.2.2.2.2.1),(di.2.2.2.2.2.2.2.1,di.2.2.2.2.2.2.2.2.1,di.2.2.2.2.2.2.2.2.2.1,di.2.2.2.2.2.1),di.2.2.2.2.2.2.2.2.2.2.1,di.2.2.2.2.2.2.2.2.2.2.2.1,di.2.2.2.2.2.2.1) di.2.2.1).bind fun xu=>br xu.1 ((lq.f n di.2.2.1 di.2.2.2.1 di.2.2.2.2.1 di.2.2.2.2.2.1 di.2.2.2.2.2.2.1 di.2.2.2.2.2.2.2.1 di.2.2.2.2.2.2.2.2.1 di.2.2.2.2.2.2.2.2.2.1 di.2.2.2.2.2.2.2.2.2.2.1 di.2.2.2.2.2.2.2.2.2.2.2.1).bind fun nk=>(nothing.f n ).bind fun J8=>Wj (ag (di.1+1),true,ag (di.2.2.1+1),nk.1,nk.2.1,nk.2.2.1,nk.2.2.2.1,nk.2.2.2.2.1,nk.2.2.2.2.2.1,nk.2.2.2.2.2.2.1,nk.2.2.2.2.2.2.2.1,nk.2.2.2.2.2.2.2.2.1,())) (Wj (di.1,di.2.1,ag (di.2.2.1+1),di.2.2.2.1,di.2.2.2.2.1,di.2.2.2.2.2.1,di.2.2.2.2.2.2.1,di.2.2.2.2.2.2.2.1,di.2.2.2.2.2.2.2.2.1,di.2.2.2.2.2.2.2.2.2.1,di.2.2.2.2.2.2.2.2.2.2.1,di.2.2.2.2.2.2.2.2.2.2.2.1,())))) (aeU (di.1,di.2.1,di.2.2.2.1,di.2.2.2.2.1,di.2.2.2.2.2.1,di.2.2.2.2.2.2.1,di.2.2.2.2.2.2.2.1,di.2.2.2.2.2.2.2.2.1,di.2.2.2.2.2.2.2.2.2.1,di.2.2.2.2.2.2.2.2.2.2.1,di.2.2.2.2.2.2.2.2.2.2.2.1,()))) (kS.1,false,0,kS.2.2.1,kS.2.2.2.1,kS.2.2.2.2.1,kS.2.2.2.2.2.1,kS.2.2.2.2.2.2.1,kS.2.2.2.2.2.2.2.1,kS.2.2.2.2.2.2.2.2.1,kS.2.2.2.2.2.2.2.2.2.1,kS.2.2.2.2.2.2.2.2.2.2.1,())) (some (kS.2.2.1,kS.2.2.2.1,kS.2.2.2.2.1,kS.2.2.2.2.2.1,kS.2.2.2.2.2.2.1,kS.2.2.2.2.2.2.2.1,kS.2.2.2.2.2.2.2.2.1,kS.2.2.2.2.2.2.2.2.2.1,kS.2.2.2.2.2.2.2.2.2.2.1,()))) (0,true,a1,a2,a3,a4,a5,a6,a7,a8,a9,())
def turns.ae (n:Nat):cM:=⟨turns.la,turns.lb,fun x=>turns.f n x.1 x.2.1 x.2.2.1 x.2.2.2.1 x.2.2.2.2.1 x.2.2.2.2.2.1 x.2.2.2.2.2.2.1 x.2.2.2.2.2.2.2.1 x.2.2.2.2.2.2.2.2.1 x.2.2.2.2.2.2.2.2.2.1⟩
theorem turns.ok (n:Nat):ks 226 (turns.ae n):=lj n [(3,⟨[(0,.bt 0 0),(6,.int .i64),(7,.bool)],[(0,.cells [true,true,false,false,false,false,false,false,true] [.sh bp,.sh bJ,.own 1 a_,.own 2 IS,.own 3 IS,.int .i64,.own 4 IS,.own 5 IS,.dn I]),(1,.row true a_),(2,.row true IS),(3,.row true IS),(4,.row true IS),(5,.row true IS)],[1,2],[]⟩),(10,⟨[(0,.bt 0 0),(6,.int .i64),(7,.bool),(16,.int .i64)],[(0,.cells [true,true,false,false,false,false,false,false,true] [.sh bp,.sh bJ,.own 1 a_,.own 2 IS,.own 3 IS,.int .i64,.own 4 IS,.own 5 IS,.dn I]),(1,.row true a_),(2,.row true IS),(3,.row true IS),(4,.row true IS),(5,.row true IS)],[1,2,15],[]⟩)] [] (ai (may.ok n) aC) (dI (lq.ok n) (dI (nothing.ok n) aD)) func226
end Go.AmT
namespace Go.AmT
variable {nt:ak} {most:Int} {s:State}
def JS (nt:ak) (x:Int×State):Prop:=bU nt x.2∧0≤x.1∧x.1≤x.2.2.2.2
def xN (x:Int×State):Nat:=(20000-x.2.2.2.2).toNat
theorem Pm {x:Int×State} (h:JS nt x):xN x≤20000:=by have:=h.1.steps;unfold xN; omega
theorem JS.le {x:Int×State} (h:JS nt x):0≤x.1∧x.1≤20000:=by have:=h.1.steps;have:=h.2;omega
theorem Ek {g:State→Nat→Bool} (hg:∀ s k,g s k=true→dw nt s k=true):Good g (eY nt) most nt.1.length (JS nt) xN:=by
 rintro ⟨m,s⟩ k ⟨o,h0,h1⟩ hk hm hgk;have hc:=hg _ _ hgk;obtain ⟨-,wZ,-,-⟩:=xM hc;have hs:=o.steps;have h0:0≤m:=h0;have h1:m≤s.2.2.2:=h1;have wZ:s.2.2.2<20000:=wZ;refine ⟨⟨Ej o hk hc,?_,?_⟩,?_⟩
 ·omega
 ·show m+1≤s.2.2.2+1;omega
 show (20000-(s.2.2.2+1)).toNat<(20000-s.2.2.2).toNat;omega
theorem aeV : Good (dw nt) (eY nt) most nt.1.length (JS nt) xN:=Ek (fun _ _ h=>h)
theorem Wk {caps:List Int} {k:Nat} (h:nn nt s caps k=true):dw nt s k=true:=by
 unfold nn at h
 grind
def ub (nt:ak) (c:Option (List Int)) (s:State) (k:Nat):Bool:=match c with | none=>dw nt s k | some caps=>nn nt s caps k
theorem Cf {c:Option (List Int)} {k:Nat} (h:ub nt c s k=true):dw nt s k=true:=by
 cases c with
 | none=>exact h
 | some caps=>exact Wk h
theorem aeW {n:Nat} {r:oe} (R:kQ nt s r) (o:bU nt s) (hc:∀ caps,r.2.2.2.2=some caps→caps.length=nt.2.length) {k:Nat} (hk:k<nt.1.length):may.f n r (k:Int)=some (ub nt r.2.2.2.2 s k,()):=by
 cases e:r.2.2.2.2 with
 | none=>
  unfold may.f;rw [Ef R o hk,e];show _=some (dw nt s k,());cases dw nt s k<;>rfl
 | some caps=>exact Pf R o (hc _ e) e hk
def runT (nt:ak) (c:Option (List Int)) (most:Int) (s:State):State:=(oi (ub nt c) (eY nt) most nt.1.length (0,s)).2
theorem Kn {c:Option (List Int)} (o:bU nt s):bU nt (runT nt c most s):=
 (We (Ek (fun _ _=>Cf)) (J:=JS nt) (x:=(0,s)) ⟨o,Int.le_refl _,o.steps.1⟩).1
theorem Wl {n:Nat} {to fr:List (List Int)} {c:Option (List Int)} (R:kQ nt s (nt,s,to,fr,c)) (o:bU nt s) (hc:∀ caps,c=some caps→caps.length=nt.2.length) (hn:1048576<n) :
  turns.f n most nt.1 nt.2 s.2.2.2 c s.1 s.2.1 s.2.2.1 to fr =
   some (nt.1,nt.2,(runT nt c most s).2.2.2,c,(runT nt c most s).1,(runT nt c most s).2.1,(runT nt c most s).2.2.1,to,fr,()):=by
 have hp:=o.cb.dZ;unfold turns.f runT;refine aeT (g:=ub nt c) (st:=eY nt) (most:=most) (K:=nt.1.length) (J:=JS nt) (μ:=xN) (Ek (fun _ _=>Cf)) (fun _=>Pm)
  (fun made again s=>(made,again,nt.1,nt.2,s.2.2.2,c,s.1,s.2.1,s.2.2.1,to,fr,())) (fun made again k s=>(made,again,(k:Int),nt.1,nt.2,s.2.2.2,c,s.1,s.2.1,s.2.2.1,to,fr,()))
  (G:=fun s=>some (nt.1,nt.2,s.2.2.2,c,s.1,s.2.1,s.2.2.1,to,fr,())) (fun ih made s h=>⟨_,ax,fun ij made again k s h hk=>?_,fun ij made again s h=>?_⟩) (fun ih made s h=>aw) (by omega) (by omega) (x:=(0,s)) ⟨o,Int.le_refl _,o.steps.1⟩
 ·have c1:(k:Int)<(nt.1.length:Int):=by omega
  have R':kQ nt s (nt,s,to,fr,c):=R.step;have hm:may.f n ((nt.1,nt.2),(s.1,s.2.1,s.2.2.1,s.2.2.2),to,fr,c) (k:Int)=some (ub nt c s k,()):=aeW R' h.1 hc hk;have hle:=h.le;simp only [aM c1,hm,aA,iN];split
  ·rfl
  rename_i Km;cases hg:ub nt c s k
  ·simp only [aw,Bool.false_eq_true,if_false];rw [ba (by omega)]
  simp only [ax,if_true];have hs:=Pa (n:=n) R' h.1 (my h.1) hk (Cf hg) hn;simp only at hs;rw [hs];simp only [aA];rw [ba (by omega),bM (n:=made+1) (by omega) (by omega)];rfl
 simp only [au (bH _)]
end Go.AmT
namespace Go.AmT
open Go.Proofs Go.Proofs.Tryz
def uc.f (n:Nat) (a0:ak):Option (List (List Int)×Unit):=iter n (fun fC x6=>br (decide (x6.1<(a0.2.length:Int))) (ab (0≤x6.1∧x6.1<(a0.2.length:Int)) (let v8:=(a0.2.getD x6.1.toNat ay); (gQ.f n v8.2.2.2.2).bind fun r9=>ab ((x6.2.1.length+([r9.1]:List (List Int)).length)*24≤bn) (fC (ag (x6.1+1),x6.2.1++[r9.1],())))) (some (x6.2.1,()))) (0,[],())
def uc.ae (n:Nat):ar:=⟨[.val bZ],[.val (.sl IS)],fun x=>uc.f n x.1⟩
theorem uc.ok (n:Nat):aH 58 (uc.ae n):=aJ n [(4,⟨[(3,.own 1000 IS),(10,.int .i64)],[(1000,.row true IS)],[8,9],[]⟩)] [] (ai (gQ.ok n) aC) aD func58
def zV.f (n:Nat) (a0:Program):Option (aY×Unit):=(jn.f n a0).bind fun r1=>br (!r1.1) (some ((0,[]),())) (some ((0,[0,0,0,0]),()))
def zV.ae (n:Nat):ar:=⟨[.val bp],[.val a_],fun x=>zV.f n x.1⟩
theorem zV.ok (n:Nat):aH 59 (zV.ae n):=aJ n [] [] (ai ⟨jn.sound n,jn.av⟩ aC) aD func59
def vF.f (n:Nat) (a0:ak):Option (State×Unit):=(eO.f n a0).bind fun r1=>br (!r1.1) (some (([],[],[],0),())) ((uc.f n a0).bind fun r2=>(uc.f n a0).bind fun r3=>iter n (fun GR gN=>br (decide (gN.1<(a0.1.length:Int))) (ab (0≤gN.1∧gN.1<(a0.1.length:Int)) (let GS:=(a0.1.getD gN.1.toNat bf); (zV.f n GS).bind fun lr=>ab ((gN.2.2.1.length+([lr.1]:List aY).length)*32≤bn) (GR (ag (gN.1+1),gN.2.1,gN.2.2.1++[lr.1],gN.2.2.2.1,gN.2.2.2.2.1,())))) (some ((gN.2.2.1,gN.2.2.2.1,gN.2.2.2.2.1,gN.2.1),()))) (0,0,[],r2.1,r3.1,()))
def vF.ae (n:Nat):ar:=⟨[.val bZ],[.val dk],fun x=>vF.f n x.1⟩
theorem vF.ok (n:Nat):aH 27 (vF.ae n):=aJ n [(7,⟨[(3,.bt 1000 0),(18,.int .i64)],[(1000,.cells [] [.own 1001 a_,.own 1002 IS,.own 1003 IS,.int .i64]),(1001,.row true a_),(1002,.row true IS),(1003,.row true IS)],[2,16,17],[]⟩)] [] (ai ⟨eO.sound n,eO.av⟩ (ai (uc.ok n) (ai (zV.ok n) aC))) aD func27
def ud.f (n:Nat) (a0:Program):Option (aY×Unit):=(jo.f n a0).bind fun r1=>br (!r1.1) (some ((0,[]),())) (ab (4=4∧0≤4∧4*(8:Int)≤(bn:Int)) (some ((0,List.replicate 4 (0:Int)),())))
def ud.ae (n:Nat):ar:=⟨[.val bp],[.val a_],fun x=>ud.f n x.1⟩
theorem ud.ok (n:Nat):aH 207 (ud.ae n):=aJ n [] [] (ai ⟨jo.sound n,jo.av⟩ aC) aD func207
def Wm.f (n:Nat) (a0:ak):Option (State×Unit):=(dS.f n a0).bind fun r1=>br (!r1.1) (some (([],[],[],0),())) (iter n (fun zW cJ=>br (decide (cJ.1<(a0.1.length:Int))) (ab (0≤cJ.1∧cJ.1<(a0.1.length:Int)) (let xO:=(a0.1.getD cJ.1.toNat bf); (ud.f n xO).bind fun ef=>ab ((cJ.2.2.1.length+([ef.1]:List aY).length)*32≤bn) (zW (ag (cJ.1+1),cJ.2.1,cJ.2.2.1++[ef.1],())))) (iter n (fun Pn gD=>br (decide (gD.1<(a0.2.length:Int))) (ab (0≤gD.1∧gD.1<(a0.2.length:Int)) (let v51:=(a0.2.getD gD.1.toNat ay); (cX.f n v51.2.2.2.2).bind fun pn=>ab ((gD.2.2.2.1.length+([pn.1]:List (List Int)).length)*24≤bn) ((cX.f n v51.2.2.2.2).bind fun G5=>ab ((gD.2.2.2.2.1.length+([G5.1]:List (List Int)).length)*24≤bn) (Pn (ag (gD.1+1),gD.2.1,gD.2.2.1,gD.2.2.2.1++[pn.1],gD.2.2.2.2.1++[G5.1],()))))) (some ((gD.2.2.1,gD.2.2.2.1,gD.2.2.2.2.1,gD.2.1),()))) (0,cJ.2.1,cJ.2.2.1,[],[],()))) (0,0,[],()))
end Go.AmT
namespace Go.AmT
variable {n:Nat} {nt:ak}
theorem Wn (h:cL nt) (hn:1048576<n):uc.f n nt=some (nt.2.map (fun l=>l.2.2.2.2),()):=by
 have hl:=h.dp;unfold uc.f;refine zN nt.2 (fun l=>l.2.2.2.2) (fun i s=>(i,s,())) (R:=fun s=>some (s,())) (fun ih i hi s hs=>?_) (fun ih s=>au (bH _)) (by omega);have c1:(i:Int)<(nt.2.length:Int):=by omega
 have e1:nt.2.getD i ay=nt.2[i]:=aU hi _;show br (decide ((i:Int)<(nt.2.length:Int))) _ _=_;rw [aM c1,af ⟨zT i,c1⟩];simp only [az,e1];rw [xK (h.link _ (bV hi)).tokens,aA,dD (by grind),ba (by omega)]
theorem aeX {n:Nat} {p:Program} (hp:jq p) (h:cP p=true) (hn:1048576<n):zV.f n p=some (sg,()):=by
 unfold zV.f
 rw [GK hp hn,h]; rfl
theorem Wo {p:Program} (hp:jq p) (h:cP p=true) (hn:1048576<n):ud.f n p=some (sg,()):=by unfold ud.f;rw [GL hp hn,h];simp only [aA,bo,aw];rw [af (by have:=iR; refine ⟨by trivial,?_⟩; omega)]; rfl
theorem Wp (h:cL nt) (o:cQ nt) (hn:1048576<n):vF.f n nt=some (start nt,()):=by
 have ho:cr nt=true:=by simp [cr,o]
 have hp:=h.dZ;unfold vF.f start;rw [sb h hn,ho,Wn h hn];simp only [aA,bo,aw];generalize nt.2.map (fun l=>l.2.2.2.2)=T;refine zN nt.1 (fun _=>sg) (fun i s=>(i,0,s,T,T,())) (R:=fun s=>some ((s,T,T,0),())) (fun ih i hi s hs=>?_) (fun ih s=>au (bH _)) (by omega);have c1:(i:Int)<(nt.1.length:Int):=by omega
 have e1:nt.1.getD i bf=nt.1[i]:=aU hi _;show br (decide ((i:Int)<(nt.1.length:Int))) _ _=_;rw [aM c1,af ⟨zT i,c1⟩];simp only [az,e1];rw [aeX (h.prog _ (bV hi)) (o.prog i hi) hn,aA,dD (by grind),ba (by omega)]
theorem aeY (h:cL nt) (o:cQ nt) (hn:1048576<n):Wm.f n nt=some (start nt,()):=by
 have ho:cr nt=true:=by simp [cr,o]
 have hp:=h.dZ;have hl:=h.dp;unfold Wm.f start;rw [tW h hn,ho];simp only [aA,bo,aw];refine vz nt.1 (fun _=>sg) (fun i s=>(i,0,s,())) (fun ih i hi s hs=>?_) (fun ih=>?_) (by omega)
 ·have c1:(i:Int)<(nt.1.length:Int):=by omega
  have e1:nt.1.getD i bf=nt.1[i]:=aU hi _;show br (decide ((i:Int)<(nt.1.length:Int))) _ _=_;rw [aM c1,af ⟨zT i,c1⟩];simp only [az,e1];rw [Wo (h.prog _ (bV hi)) (o.prog i hi) hn,aA,dD (by grind),ba (by omega)]
 show br (decide ((nt.1.length:Int)<(nt.1.length:Int))) _ _=_;rw [au (bH _)];generalize (nt.1.map fun _=>sg)=A;have dK:((0:Int),(0:Int),A,([]:List (List Int)),([]:List (List Int)),())=(fun (i:Nat)=>((i:Int),(0:Int),A,(nt.2.take i).map (fun l:aK=>l.2.2.2.2),(nt.2.take i).map (fun l:aK=>l.2.2.2.2),())) 0:=by simp
 show iter n _ ((0:Int),(0:Int),A,([]:List (List Int)),([]:List (List Int)),())=_;rw [dK];refine mu (fun i=>((i:Int),(0:Int),A,(nt.2.take i).map (fun l:aK=>l.2.2.2.2),(nt.2.take i).map (fun l:aK=>l.2.2.2.2),())) nt.2.length (fun ih i hi=>?_) (fun ih=>?_) (by omega)
 ·have c1:(i:Int)<(nt.2.length:Int):=by omega
  have e1:nt.2.getD i ay=nt.2[i]:=aU hi _;show br (decide ((i:Int)<(nt.2.length:Int))) _ _=_;rw [aM c1,af ⟨zT i,c1⟩];simp only [az,e1];rw [xF (h.link _ (bV hi)).tokens,aA,dD (by grind)];simp only [aA];rw [dD (by grind),ba (by omega),List.take_succ_eq_append_getElem hi,List.map_append]; rfl
 show br (decide ((nt.2.length:Int)<(nt.2.length:Int))) _ _=_;rw [au (bH _),List.take_length]
end Go.AmT
