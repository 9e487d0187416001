/- Functions that the law FnDeskKeeps reaches, each as a plain Lean function, and that each does what that says. No condition. -/
import Derived.Test.YtfoamipegmbcgaaGreatDoorMKpF3
import Derived.Test.YtfoamipegmbcgaaGreatDoorAmE
import Derived.Test.YtfoamipegmbcgaaGreatDoorMKpF4
namespace Go.AmT
noncomputable section
open Go Go.Am Go.Proofs
set_option linter.unusedVariables false
set_option maxRecDepth 100000
def oh.f (n:Nat) (a0:ai) (a1:State) (a2:List Int):Option (Bool×Unit):=(jS.f n a0 a1).bind fun r1=>br r1.1 ((qI.f n a0 a2).bind fun r2=>some (r2.1,())) (some (false,()))
def oh.ae (n:Nat):ar:=⟨[.val cD,.val e9,.val IS],[.val .bool],fun x=>oh.f n x.1 x.2.1 x.2.2.1⟩
theorem oh.ok (n:Nat):aN 43 (oh.ae n):=aQ n [] [] (ak (jS.ok n) (ak (qI.ok n) aC)) aD Tryz.func43
def kL.la:LA:=⟨[(0,.agg [.sh bn,.sh cq]),(1,.agg [.sh bu,.sh IS,.sh IS,.int .i64]),(2,.sh I)],[],[],[]⟩
def kL.lb:LA:=⟨[(0,.aJ 1000 0)],[(1000,.cells [] [.sh bn,.sh cq,.own 1001 bu,.own 1002 IS,.own 1003 IS,.int .i64,.own 1004 IS,.own 1005 IS,.cu I]),(1001,.row true bu),(1002,.row true IS),(1003,.row true IS),(1004,.row true IS),(1005,.row true IS)],[],[]⟩
def kL.f (n:Nat) (a0:List Program) (a1:List aG) (a2:List a_) (a3:List (List Int)) (a4:List (List Int)) (a5:Int) (a6:List Int):Option ((List Program)×(List aG)×(Int×(Option (List Int))×(List a_)×(List (List Int))×(List (List Int))×(List (List Int))×(List (List Int))×Unit)):=ab (a6.length*8≤aW) ((iB.f n a0 a1 a2 a3 a4 a5 ((some a6):Option (List Int))).bind fun r1=>some (r1.1,(r1.2.1,(r1.2.2.1,(r1.2.2.2.1,(r1.2.2.2.2.1,(r1.2.2.2.2.2.1,(r1.2.2.2.2.2.2.1,(r1.2.2.2.2.2.2.2.1,(r1.2.2.2.2.2.2.2.2.1,()))))))))))
def kL.ae (n:Nat):bS:=⟨kL.la,kL.lb,fun x=>kL.f n x.1 x.2.1 x.2.2.1 x.2.2.2.1 x.2.2.2.2.1 x.2.2.2.2.2.1 x.2.2.2.2.2.2.1⟩
theorem kL.ok (n:Nat):eP 44 (kL.ae n):=fm n [] [27] aC (bA (iB.ok n) aD) Tryz.func44
end
end Go.AmT
namespace Go.AmT
open Go Go.Am
set_option linter.unusedVariables false
set_option linter.unusedSimpArgs false
theorem sZ {nt:ai} {s:State} (o:bq nt s):fC nt s=true:=decide_eq_true o
theorem Ni {nt:ai} (o:cM nt):cy nt=true:=decide_eq_true o
theorem s_ {nt:ai} {s:State} (h:fC nt s=true):bq nt s:=of_decide_eq_true h
theorem VX {nt:ai} {s:State} (h:fC nt s=true):cy nt=true:=by
 have:=(s_ h).ck
 simp [cy,this]
theorem H3 {n:Nat} {nt:ai} {s:State} {caps:List Int} (h:cL nt) (hs:jt s) (hc:caps.length≤1048576) (hn:1048576<n):oh.f n nt s caps=some (fC nt s&&dY nt.2 caps,()):=by
 unfold oh.f
 rw [zj h hs hn,ML h hc hn]
 cases e:fC nt s
 ·rfl
 ·simp [VX e,br]
theorem s4 {ls:List aG} {caps:List Int} (h:dY ls caps=true):caps.length=ls.length:=by
 unfold dY at h
 simp only [Bool.and_eq_true,decide_eq_true_eq] at h
 exact h.1
def qT (nt:ai) (s:State) (caps:List Int) (k:Nat):Bool:=
 dH nt s k&&(!decide ((bf nt s k).1=3)||(decide ((nt.2.getD (bQ nt s k).toNat aM).2.2.1<0)||decide (((s.2.1.getD (bQ nt s k).toNat []).length:Int)<caps.getD (bQ nt s k).toNat 0)))
theorem H4 {n:Nat} {nt:ai} {s:State} {caps:List Int} (o:bq nt s) (h:jt s) (hc:caps.length≤1048576) (hn:1048576<n) :
  W (kL.f n nt.1 nt.2 s.1 s.2.1 s.2.2.1 s.2.2.2 caps) (fun r=>iU nt s ((r.1,r.2.1),((r.2.2.2.2.1,(r.2.2.2.2.2.1,(r.2.2.2.2.2.2.1,r.2.2.1))),(r.2.2.2.2.2.2.2.1,(r.2.2.2.2.2.2.2.2.1,r.2.2.2.1))))∧r.2.2.2.1=some caps):=by
 unfold kL.f
 rw [bZ (by omega),aB]
 refine au (zl o.ck h hn) (fun r ⟨to,fr,e,T,F⟩=>?_)
 subst e
 rw [aj]
 exact ⟨⟨rfl,rfl,T,F⟩,rfl⟩
theorem H5 {n:Nat} {nt:ai} {s:State} {caps:List Int} {r:kK} (R:iU nt s r) (o:bq nt s) (hc:caps.length=nt.2.length) (e:r.2.2.2.2=some caps) {k:Nat} (hk:k<nt.1.length):may.f n r (k:Int)=some (qT nt s caps k,()):=by
 unfold may.f qT
 rw [zn R o hk,zm R o hk,e,R.st,R.ck]
 simp only [Option.bind_some,Option.isNone_some,Option.getD_some]
 have hq:=o.nq
 cases zv:dH nt s k
 ·rfl
 ·simp only [Bool.not_true,aF,bF,Bool.true_and]
  by_cases c3:(bf nt s k).1=3
  ·obtain ⟨j,hj,e,-⟩:=sU o hk c3
   rw [e]
   simp only [c3,decide_true,Bool.not_true,aF,Int.toNat_natCast,Bool.false_or]
   rw [ah (by omega),ah (by omega),ah (by omega)]
   cases decide ((nt.2.getD j aM).2.2.1<0)<;>rfl
  ·simp [c3,br]
def qU (nt:ai) (s:State) (caps:List Int):Bool:=(List.range nt.1.length).any (qT nt s caps)
end Go.AmT
namespace Go.AmT
open Go Go.Am
set_option linter.unusedVariables false
set_option linter.unusedSimpArgs false
section
variable {σ:Type} (g:σ→Nat→Bool) (st:σ→Nat→σ) (most:Int)
def one (x:Int×σ) (k:Nat):Int×σ:=if x.1<most∧g x.2 k=true then (x.1+1,st x.2 k) else x
def cO (x:Int×σ):Nat→Int×σ
 | 0=>x
 | i+1=>one g st most (cO x i) i
def kM (K:Nat):Nat→Int×σ→Int×σ
 | 0,x=>x
 | m+1,x=>if (List.range K).any (g x.2)=true∧x.1<most then kM K m (cO g st most x K) else x
variable {g st most} {K:Nat} {J:Int×σ→Prop} {μ:Int×σ→Nat}
def Good (g:σ→Nat→Bool) (st:σ→Nat→σ) (most:Int) (K:Nat) (J:Int×σ→Prop) (μ:Int×σ→Nat):Prop:=
 ∀ x k,J x→k<K→x.1<most→g x.2 k=true→J (x.1+1,st x.2 k)∧μ (x.1+1,st x.2 k)<μ x
theorem Nj (hG:Good g st most K J μ) {x:Int×σ} {k:Nat} (hx:J x) (hk:k<K):J (one g st most x k)∧μ (one g st most x k)≤μ x:=by
 unfold one
 split
 ·rename_i h; have:=hG x k hx hk h.1 h.2; exact ⟨this.1,by omega⟩
 ·exact ⟨hx,Nat.le_refl _⟩
theorem s5 (hG:Good g st most K J μ) {x:Int×σ} (hx:J x):∀ i,i≤K→J (cO g st most x i)∧μ (cO g st most x i)≤μ x
 | 0,_=>⟨hx,Nat.le_refl _⟩
 | i+1,hi=>by
  have h1:=s5 hG hx i (by omega)
  have h2:=Nj hG h1.1 (show i<K by omega)
  exact ⟨h2.1,Nat.le_trans h2.2 h1.2⟩
theorem Nk (hG:Good g st most K J μ) {x:Int×σ} (hx:J x):∀ i,i≤K→(cO g st most x i=x∧(x.1<most→∀ j,j<i→g x.2 j=false))∨μ (cO g st most x i)<μ x
 | 0,_=>.inl ⟨rfl,fun _ j hj=>by omega⟩
 | i+1,hi=>by
  have hJ:=s5 hG hx i (by omega)
  rcases Nk hG hx i (by omega) with ⟨h1,h2⟩ | h
  ·show (one g st most (cO g st most x i) i=x∧_)∨_
   by_cases hc:x.1<most∧g x.2 i=true
   ·refine .inr ?_
    show μ (one g st most (cO g st most x i) i)<μ x
    rw [h1]
    unfold one
    rw [if_pos hc]
    exact (hG x i hx (by omega) hc.1 hc.2).2
   ·refine .inl ⟨by rw [h1]; unfold one; rw [if_neg hc],fun hm j hj=>?_⟩
    rcases Nat.lt_or_ge j i with h | h
    ·exact h2 hm j h
    ·rw [show j=i by omega]
     cases hg:g x.2 i
     ·rfl
     ·exact absurd ⟨hm,hg⟩ hc
  ·exact .inr (Nat.lt_of_le_of_lt (Nj hG hJ.1 (show i<K by omega)).2 h)
theorem VY {x:Int×σ} {i:Nat} (h:most≤(cO g st most x i).1):∀ j,i≤j→cO g st most x j=cO g st most x i:=by
 intro j hj
 induction j with
 | zero=>rw [show i=0 by omega]
 | succ j ih=>
  rcases Nat.lt_or_eq_of_le hj with h1 | h1
  ·have:=ih (by omega)
   show one g st most (cO g st most x j) j=_
   rw [this]
   unfold one
   rw [if_neg (by omega)]
  ·rw [h1]
theorem H6 {p:Nat→Bool} {K:Nat} : (List.range K).any p=true↔∃ k,k<K∧p k=true:=by
 simp [List.any_eq_true]
theorem Nl (hG:Good g st most K J μ) {x:Int×σ} (hx:J x) (ha:(List.range K).any (g x.2)=true) (hm:x.1<most):μ (cO g st most x K)<μ x:=by
 rcases Nk hG hx K (Nat.le_refl _) with ⟨-,h⟩ | h
 ·obtain ⟨k,hk,e⟩:=H6.1 ha
  rw [h hm k hk] at e; cases e
 ·exact h
theorem Nn (x:Int×σ) (h:¬ ((List.range K).any (g x.2)=true∧x.1<most)):∀ i,i≤K→cO g st most x i=x
 | 0,_=>rfl
 | i+1,hi=>by
  show one g st most (cO g st most x i) i=x
  rw [Nn x h i (by omega)]
  unfold one
  rw [if_neg]
  rintro ⟨h1,h2⟩
  exact h ⟨H6.2 ⟨i,hi,h2⟩,h1⟩
theorem No (hG:Good g st most K J μ):∀ (m:Nat) (x:Int×σ),J x→μ x<m→kM g st most K (m+1) x=kM g st most K m x
 | 0,x,_,h=>absurd h (Nat.not_lt_zero _)
 | m+1,x,hx,h=>by
  show (if _ then kM g st most K (m+1) (cO g st most x K) else x)=(if _ then kM g st most K m (cO g st most x K) else x)
  split
  ·rename_i hc
   refine No hG m _ (s5 hG hx K (Nat.le_refl _)).1 ?_
   have:=Nl hG hx hc.1 hc.2
   omega
  ·rfl
def oi (g:σ→Nat→Bool) (st:σ→Nat→σ) (most:Int) (K:Nat) (x:Int×σ):Int×σ:=kM g st most K 20001 x
theorem Np (hG:Good g st most K J μ) {x:Int×σ} (hx:J x) (hm:μ x≤20000):oi g st most K x=oi g st most K (cO g st most x K):=by
 by_cases hc:(List.range K).any (g x.2)=true∧x.1<most
 ·unfold oi
  rw [← No hG 20001 x hx (by omega)]
  show (if _ then kM g st most K 20001 (cO g st most x K) else x)=_
  rw [if_pos hc]
 ·rw [Nn x hc K (Nat.le_refl _)]
theorem H7 {x:Int×σ} (hc:¬ ((List.range K).any (g x.2)=true∧x.1<most)):oi g st most K x=x:=by
 show (if _ then kM g st most K 20000 (cO g st most x K) else x)=x
 rw [if_neg hc]
theorem Nq (hG:Good g st most K J μ):∀ (m:Nat) (x:Int×σ),J x→J (kM g st most K m x)∧μ (kM g st most K m x)≤μ x
 | 0,x,hx=>⟨hx,Nat.le_refl _⟩
 | m+1,x,hx=>by
  show J (if _ then kM g st most K m (cO g st most x K) else x)∧μ (if _ then kM g st most K m (cO g st most x K) else x)≤μ x
  split
  ·have h1:=s5 hG hx K (Nat.le_refl _)
   have h2:=Nq hG m _ h1.1
   exact ⟨h2.1,Nat.le_trans h2.2 h1.2⟩
  ·exact ⟨hx,Nat.le_refl _⟩
theorem Nr (hG:Good g st most K J μ) {x:Int×σ} (hx:J x):J (oi g st most K x):=(Nq hG _ x hx).1
variable {γ δ ρ:Type}
theorem VZ (hG:Good g st most K J μ) (H8:∀ x,J x→μ x≤20000) (enc:Int→Bool→σ→γ) (pF:Int→Bool→Nat→σ→δ) {F:(γ→Option ρ)→γ→Option ρ} {G:σ→Option ρ} {n:Nat}
  (hF:∀ ih made s,J (made,s)→∃ Fi:(δ→Option ρ)→δ→Option ρ,F ih (enc made true s)=iter n Fi (pF made false 0 s)∧
   (∀ nC made again k s,J (made,s)→k<K→Fi nC (pF made again k s)=if most≤made then G s else if g s k=true then nC (pF (made+1) true (k+1) (st s k)) else nC (pF made again (k+1) s))∧
   (∀ nC made again s,J (made,s)→Fi nC (pF made again K s)=ih (enc made again s)))
  (V_:∀ ih made s,J (made,s)→F ih (enc made false s)=G s)
  (hK:K<n) (hn:20001<n) {x:Int×σ} (hx:J x):iter n F (enc x.1 true x.2)=G (oi g st most K x).2:=by
 have inner:∀ (ih:γ→Option ρ) (Fi:(δ→Option ρ)→δ→Option ρ),(∀ nC made again k s,J (made,s)→k<K→Fi nC (pF made again k s)=if most≤made then G s else if g s k=true then nC (pF (made+1) true (k+1) (st s k)) else nC (pF made again (k+1) s))→
   (∀ nC made again s,J (made,s)→Fi nC (pF made again K s)=ih (enc made again s))→∀ (x:Int×σ),J x→(∀ again,(again=false→cO g st most x K=x)→(again=true→μ (cO g st most x K)<μ x)→ih (enc (cO g st most x K).1 again (cO g st most x K).2)=G (oi g st most K x).2)→
   iter n Fi (pF x.1 false 0 x.2)=G (oi g st most K x).2:=by
  intro ih Fi hi he x hx V0
  have:∀ m k again,k≤K→K-k<m→(again=false→cO g st most x k=x)→(again=true→μ (cO g st most x k)<μ x)→iter m Fi (pF (cO g st most x k).1 again k (cO g st most x k).2)=G (oi g st most K x).2:=by
   intro m
   induction m with
   | zero=>intro k again hk h; omega
   | succ m IH=>
    intro k again hk hm h0 h1
    have hJ:=(s5 hG hx k hk).1
    show Fi (iter m Fi) _=_
    rcases Nat.lt_or_eq_of_le hk with ao | hE
    ·rw [hi _ _ _ _ _ hJ ao]
     by_cases Ef:most≤(cO g st most x k).1
     ·rw [if_pos Ef,Np hG hx (H8 x hx),VY Ef K hk,H7 (fun h=>by omega)]
     ·rw [if_neg Ef]
      have e:cO g st most x (k+1)=one g st most (cO g st most x k) k:=rfl
      by_cases hg:g (cO g st most x k).2 k=true
      ·rw [if_pos hg]
       have e2:cO g st most x (k+1)=((cO g st most x k).1+1,st (cO g st most x k).2 k):=by
        rw [e]; unfold one; rw [if_pos ⟨by omega,hg⟩]
       have h3:=(hG _ k hJ ao (by omega) hg).2
       have h4:=(s5 hG hx k hk).2
       have h2:=IH (k+1) true (by omega) (by omega) (fun h=>by cases h) (fun _=>by rw [e2]; omega)
       rw [e2] at h2
       exact h2
      ·rw [if_neg hg]
       have e2:cO g st most x (k+1)=cO g st most x k:=by
        rw [e]; unfold one; rw [if_neg (fun h=>hg h.2)]
       have h2:=IH (k+1) again (by omega) (by omega) (by rw [e2]; exact h0) (by rw [e2]; exact h1)
       rw [e2] at h2
       exact h2
    ·subst hE
     rw [he _ _ _ _ hJ]
     exact V0 again h0 h1
  exact this n 0 false (Nat.zero_le _) (by omega) (fun _=>rfl) (fun h=>by cases h)
 have:∀ m (x:Int×σ),J x→μ x+1<m→iter m F (enc x.1 true x.2)=G (oi g st most K x).2:=by
  intro m
  induction m with
  | zero=>intro x _ h; omega
  | succ m IH=>
   intro x hx hm
   show F (iter m F) _=_
   obtain ⟨Fi,e,hi,he⟩:=hF (iter m F) x.1 x.2 hx
   rw [e]
   refine inner _ Fi hi he x hx (fun again h0 h1=>?_)
   have hJ:=(s5 hG hx K (Nat.le_refl _)).1
   cases again
   ·obtain ⟨m',rfl⟩:∃ m',m=m'+1:=⟨m-1,by omega⟩
    show F (iter m' F) _=_
    rw [V_ _ _ _ hJ,h0 rfl]
    have hc:¬ ((List.range K).any (g x.2)=true∧x.1<most):=by
     rintro ⟨h2,h3⟩
     have:=Nl hG hx h2 h3
     rw [h0 rfl] at this
     omega
    rw [H7 hc]
   ·rw [IH _ hJ (by have:=h1 rfl; omega),← Np hG hx (H8 x hx)]
 exact this n x hx (by have:=H8 x hx; omega)
end
section
variable {σ:Type} {g:σ→Nat→Bool} {st:σ→Nat→σ} {m1 m2:Int} {K:Nat} {J:Int×σ→Prop} {μ:Int×σ→Nat}
theorem H9 (hG:Good g st m1 K J μ) (H:∀ x,J x→(x.1<m1↔x.1<m2)∨∀ k,k<K→g x.2 k=false) {x:Int×σ} (hx:J x):∀ i,i≤K→cO g st m1 x i=cO g st m2 x i
 | 0,_=>rfl
 | i+1,hi=>by
  have ih:=H9 hG H hx i (by omega)
  have hJ:=(s5 hG hx i (by omega)).1
  show one g st m1 (cO g st m1 x i) i=one g st m2 (cO g st m2 x i) i
  rw [← ih]
  unfold one
  rcases H _ hJ with h | h
  ·by_cases h1:(cO g st m1 x i).1<m1
   ·by_cases hg:g (cO g st m1 x i).2 i=true
    ·rw [if_pos ⟨h1,hg⟩,if_pos ⟨h.1 h1,hg⟩]
    ·rw [if_neg (fun hh=>hg hh.2),if_neg (fun hh=>hg hh.2)]
   ·rw [if_neg (fun hh=>h1 hh.1),if_neg (fun hh=>h1 (h.2 hh.1))]
  ·have:=h i (by omega)
   rw [if_neg (fun hh=>by rw [this] at hh; exact absurd hh.2 (by simp)),if_neg (fun hh=>by rw [this] at hh; exact absurd hh.2 (by simp))]
theorem Ns (hG:Good g st m1 K J μ) (H:∀ x,J x→(x.1<m1↔x.1<m2)∨∀ k,k<K→g x.2 k=false):∀ (m:Nat) {x:Int×σ},J x→kM g st m1 K m x=kM g st m2 K m x
 | 0,x,_=>rfl
 | m+1,x,hx=>by
  have ih:=Ns hG H m (s5 hG hx K (Nat.le_refl _)).1
  rw [H9 hG H hx K (Nat.le_refl _)] at ih
  show (if _ then kM g st m1 K m (cO g st m1 x K) else x)=(if _ then kM g st m2 K m (cO g st m2 x K) else x)
  rw [H9 hG H hx K (Nat.le_refl _),ih]
  by_cases ha:(List.range K).any (g x.2)=true
  ·rcases H x hx with h | h
   ·by_cases h1:x.1<m1
    ·rw [if_pos ⟨ha,h1⟩,if_pos ⟨ha,h.1 h1⟩]
    ·rw [if_neg (fun hh=>h1 hh.2),if_neg (fun hh=>h1 (h.2 hh.2))]
   ·obtain ⟨k,hk,e⟩:=H6.1 ha
    rw [h k hk] at e; cases e
  ·rw [if_neg (fun hh=>ha hh.1),if_neg (fun hh=>ha hh.1)]
end
section
variable {α γ ρ:Type} (c:α→Bool) (f:α→α)
def jv:Nat→α→α
 | 0,x=>x
 | m+1,x=>if c x=true then jv m (f x) else x
variable {c f}
theorem Nt {J:α→Prop} {μ:α→Nat} (hJ:∀ x,J x→c x=true→J (f x)∧μ (f x)<μ x) (enc:α→γ) {F:(γ→Option ρ)→γ→Option ρ} {G:α→Option ρ}
  (hF:∀ ih x,J x→F ih (enc x)=if c x=true then ih (enc (f x)) else G x):∀ {n m:Nat} {x:α},J x→μ x<n→μ x<m→iter n F (enc x)=G (jv c f m x)
 | 0,m,x,hx,h,_=>absurd h (Nat.not_lt_zero _)
 | n+1,0,x,hx,_,h=>absurd h (Nat.not_lt_zero _)
 | n+1,m+1,x,hx,h1,h2=>by
  show F (iter n F) (enc x)=G (if c x=true then jv c f m (f x) else x)
  rw [hF _ _ hx]
  cases hc:c x
  ·rw [if_neg (by simp),if_neg (by simp)]
  ·rw [if_pos rfl,if_pos rfl]
   have:=hJ x hx hc
   exact Nt hJ enc hF this.1 (by omega) (by omega)
theorem Nu {J:α→Prop} (hJ:∀ x,J x→c x=true→J (f x)):∀ (m:Nat) (x:α),J x→J (jv c f m x)
 | 0,x,hx=>hx
 | m+1,x,hx=>by
  show J (if c x=true then jv c f m (f x) else x)
  split
  ·rename_i h; exact Nu hJ m _ (hJ x hx h)
  ·exact hx
end
end Go.AmT
namespace Go.AmT
noncomputable section
open Go Go.Am Go.Proofs
set_option linter.unusedVariables false
set_option maxRecDepth 100000
def nothing.la:LA:=⟨[],[],[],[]⟩
def nothing.lb:LA:=⟨[],[],[],[]⟩
def nothing.f (n:Nat)  : Option (Unit):=some ()
def nothing.ae (n:Nat):bS:=⟨nothing.la,nothing.lb,fun x=>nothing.f n ⟩
theorem nothing.ok (n:Nat):eP 41 (nothing.ae n):=fm n [] [] aC aD Tryz.func41
def turns.la:LA:=⟨[(0,.aJ 0 0),(1,.int .i64),(2,.fn 41 [])],[(0,.cells [true,true,false,false,false,false,false,false,true] [.sh bn,.sh cq,.own 1 bu,.own 2 IS,.own 3 IS,.int .i64,.own 4 IS,.own 5 IS,.cu I]),(1,.row true bu),(2,.row true IS),(3,.row true IS),(4,.row true IS),(5,.row true IS)],[],[]⟩
def turns.lb:LA:=⟨[],[(0,.cells [true,true,false,false,false,false,false,false,true] [.sh bn,.sh cq,.own 1 bu,.own 2 IS,.own 3 IS,.int .i64,.own 4 IS,.own 5 IS,.cu I]),(1,.row true bu),(2,.row true IS),(3,.row true IS),(4,.row true IS),(5,.row true IS)],[],[]⟩
def turns.f (n:Nat) (a0:Int) (a1:List Program) (a2:List aG) (a3:Int) (a4:Option (List Int)) (a5:List a_) (a6:List (List Int)) (a7:List (List Int)) (a8:List (List Int)) (a9:List (List Int)):Option ((List Program)×(List aG)×(Int×(Option (List Int))×(List a_)×(List (List Int))×(List (List Int))×(List (List Int))×(List (List Int))×Unit)):=iter (α:=(Int×(Bool×(List Program)×(List aG)×(Int×(Option (List Int))×(List a_)×(List (List Int))×(List (List Int))×(List (List Int))×(List (List Int))×Unit)))) n (fun V1 iW=>br iW.2.1 (iter (α:=(Int×(Bool×(Int×(List Program)×(List aG)×(Int×(Option (List Int))×(List a_)×(List (List Int))×(List (List Int))×(List (List Int))×(List (List Int))×Unit))))) n (fun Nv cm=>br (decide (cm.2.2.1<(iW.2.2.1.length:Int))) (br (decide (a0≤cm.1)) (some (cm.2.2.2.1,(cm.2.2.2.2.1,(cm.2.2.2.2.2.1,(cm.2.2.2.2.2.2.1,(cm.2.2.2.2.2.2.2.1,(cm.2.2.2.2.2.2.2.2.1,(cm.2.2.2.2.2.2.2.2.2.1,(cm.2.2.2.2.2.2.2.2.2.2.1,(cm.2.2.2.2.2.2.2.2.2.2.2.1,())))))))))) ((may.f n ((cm.2.2.2.1,cm.2.2.2.2.1),((cm.2.2.2.2.2.2.2.1,(cm.2.2.2.2.2.2.2.2.1,(cm.2.2.2.2.2.2.2.2.2.1,cm.2.2.2.2.2.1))),(cm.2.2.2.2.2.2.2.2.2.2.1,(cm.2.2.2.2.2.2.2.2.2.2.2.1,cm.2.2.2.2.2.2.1)))) cm.2.2.1).bind fun jR=>br jR.1 ((jg.f n cm.2.2.1 cm.2.2.2.1 cm.2.2.2.2.1 cm.2.2.2.2.2.1 cm.2.2.2.2.2.2.1 cm.2.2.2.2.2.2.2.1 cm.2.2.2.2.2.2.2.2.1 cm.2.2.2.2.2.2.2.2.2.1 cm.2.2.2.2.2.2.2.2.2.2.1 cm.2.2.2.2.2.2.2.2.2.2.2.1).bind fun nn=>(nothing.f n ).bind fun D6=>Nv ((ag (cm.1+1)),(true,((ag (cm.2.2.1+1)),(nn.1,(nn.2.1,(nn.2.2.1,(nn.2.2.2.1,(nn.2.2.2.2.1,(nn.2.2.2.2.2.1,(nn.2.2.2.2.2.2.1,(nn.2.2.2.2.2.2.2.1,(nn.2.2.2.2.2.2.2.2.1,()))))))))))))) (Nv (cm.1,(cm.2.1,((ag (cm.2.2.1+1)),(cm.2.2.2.1,(cm.2.2.2.2.1,(cm.2.2.2.2.2.1,(cm.2.2.2.2.2.2.1,(cm.2.2.2.2.2.2.2.1,(cm.2.2.2.2.2.2.2.2.1,(cm.2.2.2.2.2.2.2.2.2.1,(cm.2.2.2.2.2.2.2.2.2.2.1,(cm.2.2.2.2.2.2.2.2.2.2.2.1,()))))))))))))))) (V1 (cm.1,(cm.2.1,(cm.2.2.2.1,(cm.2.2.2.2.1,(cm.2.2.2.2.2.1,(cm.2.2.2.2.2.2.1,(cm.2.2.2.2.2.2.2.1,(cm.2.2.2.2.2.2.2.2.1,(cm.2.2.2.2.2.2.2.2.2.1,(cm.2.2.2.2.2.2.2.2.2.2.1,(cm.2.2.2.2.2.2.2.2.2.2.2.1,()))))))))))))) (iW.1,(false,(0,(iW.2.2.1,(iW.2.2.2.1,(iW.2.2.2.2.1,(iW.2.2.2.2.2.1,(iW.2.2.2.2.2.2.1,(iW.2.2.2.2.2.2.2.1,(iW.2.2.2.2.2.2.2.2.1,(iW.2.2.2.2.2.2.2.2.2.1,(iW.2.2.2.2.2.2.2.2.2.2.1,()))))))))))))) (some (iW.2.2.1,(iW.2.2.2.1,(iW.2.2.2.2.1,(iW.2.2.2.2.2.1,(iW.2.2.2.2.2.2.1,(iW.2.2.2.2.2.2.2.1,(iW.2.2.2.2.2.2.2.2.1,(iW.2.2.2.2.2.2.2.2.2.1,(iW.2.2.2.2.2.2.2.2.2.2.1,()))))))))))) (0,(true,(a1,(a2,(a3,(a4,(a5,(a6,(a7,(a8,(a9,())))))))))))
def turns.ae (n:Nat):bS:=⟨turns.la,turns.lb,fun x=>turns.f n x.1 x.2.1 x.2.2.1 x.2.2.2.1 x.2.2.2.2.1 x.2.2.2.2.2.1 x.2.2.2.2.2.2.1 x.2.2.2.2.2.2.2.1 x.2.2.2.2.2.2.2.2.1 x.2.2.2.2.2.2.2.2.2.1⟩
theorem turns.ok (n:Nat):eP 40 (turns.ae n):=fm n [(3,⟨[(0,.aJ 0 0),(6,.int .i64),(7,.bool)],[(0,.cells [true,true,false,false,false,false,false,false,true] [.sh bn,.sh cq,.own 1 bu,.own 2 IS,.own 3 IS,.int .i64,.own 4 IS,.own 5 IS,.cu I]),(1,.row true bu),(2,.row true IS),(3,.row true IS),(4,.row true IS),(5,.row true IS)],[1,2],[]⟩),(10,⟨[(0,.aJ 0 0),(6,.int .i64),(7,.bool),(16,.int .i64)],[(0,.cells [true,true,false,false,false,false,false,false,true] [.sh bn,.sh cq,.own 1 bu,.own 2 IS,.own 3 IS,.int .i64,.own 4 IS,.own 5 IS,.cu I]),(1,.row true bu),(2,.row true IS),(3,.row true IS),(4,.row true IS),(5,.row true IS)],[1,2,15],[]⟩)] [] (ak (may.ok n) aC) (bA (jg.ok n) (bA (nothing.ok n) aD)) Tryz.func40
end
end Go.AmT
namespace Go.AmT
open Go Go.Am
set_option linter.unusedVariables false
set_option linter.unusedSimpArgs false
def JS (nt:ai) (x:Int×State):Prop:=bq nt x.2∧0≤x.1∧x.1≤x.2.2.2.2
def zw (x:Int×State):Nat:=(20000-x.2.2.2.2).toNat
theorem V2 {nt:ai} {x:Int×State} (h:JS nt x):zw x≤20000:=by
 have:=h.1.steps
 unfold zw; omega
theorem JS.le {nt:ai} {x:Int×State} (h:JS nt x):0≤x.1∧x.1≤20000:=by
 have:=h.1.steps
 have:=h.2
 omega
theorem Eg {nt:ai} {most:Int} {g:State→Nat→Bool} (hg:∀ s k,g s k=true→dH nt s k=true):Good g (cX nt) most nt.1.length (JS nt) zw:=by
 rintro ⟨m,s⟩ k ⟨o,h0,h1⟩ hk hm V3
 have hc:=hg _ _ V3
 obtain ⟨-,qz,-,-⟩:=qS hc
 have hs:=o.steps
 have h0:0≤m:=h0
 have h1:m≤s.2.2.2:=h1
 have qz:s.2.2.2<20000:=qz
 refine ⟨⟨zu o hk hc,?_,?_⟩,?_⟩
 ·show 0≤m+1
  omega
 ·show m+1≤s.2.2.2+1
  omega
 ·show (20000-(s.2.2.2+1)).toNat<(20000-s.2.2.2).toNat
  omega
theorem V4 {nt:ai} {s:State} {caps:List Int} {k:Nat} (h:qT nt s caps k=true):dH nt s k=true:=by
 unfold qT at h
 rw [Bool.and_eq_true] at h
 exact h.1
def s6 (nt:ai) (c:Option (List Int)) (s:State) (k:Nat):Bool:=match c with | none=>dH nt s k | some caps=>qT nt s caps k
theorem zx {nt:ai} {c:Option (List Int)} {s:State} {k:Nat} (h:s6 nt c s k=true):dH nt s k=true:=by
 cases c with
 | none=>exact h
 | some caps=>exact V4 h
theorem V5 {n:Nat} {nt:ai} {s:State} {r:kK} (R:iU nt s r) (o:bq nt s) (hc:∀ caps,r.2.2.2.2=some caps→caps.length=nt.2.length) {k:Nat} (hk:k<nt.1.length):may.f n r (k:Int)=some (s6 nt r.2.2.2.2 s k,()):=by
 cases e:r.2.2.2.2 with
 | none=>
  unfold may.f
  rw [zn R o hk,e]
  show _=some (dH nt s k,())
  cases dH nt s k<;>rfl
 | some caps=>exact H5 R o (hc _ e) e hk
def runT (nt:ai) (c:Option (List Int)) (most:Int) (s:State):State:=(oi (s6 nt c) (cX nt) most nt.1.length (0,s)).2
theorem Eh {nt:ai} {c:Option (List Int)} {most:Int} {s:State} (o:bq nt s):bq nt (runT nt c most s):=
 (Nr (Eg (fun _ _=>zx)) (J:=JS nt) (x:=(0,s)) ⟨o,Int.le_refl _,o.steps.1⟩).1
theorem Nw {n:Nat} {nt:ai} {s:State} {to fr:List (List Int)} {c:Option (List Int)} {most:Int} (R:iU nt s (nt,(s,(to,(fr,c))))) (o:bq nt s) (hc:∀ caps,c=some caps→caps.length=nt.2.length) (hn:1048576<n) :
  turns.f n most nt.1 nt.2 s.2.2.2 c s.1 s.2.1 s.2.2.1 to fr =
   some (nt.1,(nt.2,((runT nt c most s).2.2.2,(c,((runT nt c most s).1,((runT nt c most s).2.1,((runT nt c most s).2.2.1,(to,(fr,()))))))))):=by
 have hp:=o.ck.ew
 unfold turns.f runT
 refine VZ (g:=s6 nt c) (st:=cX nt) (most:=most) (K:=nt.1.length) (J:=JS nt) (μ:=zw) (Eg (fun _ _=>zx)) (fun _=>V2)
  (fun made again s=>(made,(again,(nt.1,(nt.2,(s.2.2.2,(c,(s.1,(s.2.1,(s.2.2.1,(to,(fr,())))))))))))) (fun made again k s=>(made,(again,((k:Int),(nt.1,(nt.2,(s.2.2.2,(c,(s.1,(s.2.1,(s.2.2.1,(to,(fr,())))))))))))))
  (G:=fun s=>some (nt.1,(nt.2,(s.2.2.2,(c,(s.1,(s.2.1,(s.2.2.1,(to,(fr,())))))))))) (fun ih made s h=>⟨_,aL,fun nC made again k s h hk=>?_,fun nC made again s h=>?_⟩) (fun ih made s h=>aF) (by omega) (by omega) (x:=(0,s)) ⟨o,Int.le_refl _,o.steps.1⟩
 ·have c1:(k:Int)<(nt.1.length:Int):=by omega
  have R':iU nt s (nt,(s,(to,(fr,c)))):=R.step
  have hm:may.f n ((nt.1,nt.2),((s.1,(s.2.1,(s.2.2.1,s.2.2.2))),(to,(fr,c)))) (k:Int)=some (s6 nt c s k,()):=V5 R' h.1 hc hk
  have hle:=h.le
  simp only [aZ c1,hm,Option.bind_some,iT]
  split
  ·rfl
  ·rename_i Ef
   cases hg:s6 nt c s k
   ·simp only [aF,Bool.false_eq_true,if_false]
    rw [bm (by omega)]
   ·simp only [aL,if_true]
    have hs:=H_ (n:=n) R' h.1 (nB h.1) hk (zx hg) hn
    simp only at hs
    rw [hs]
    simp only [Option.bind_some]
    rw [bm (by omega),bo (n:=made+1) (by simp only at hle; omega) (by simp only at hle; omega)]
    rfl
 ·simp only [aK (Int.lt_irrefl _)]
end Go.AmT
namespace Go.AmT
noncomputable section
open Go Go.Am Go.Proofs
set_option linter.unusedVariables false
set_option maxRecDepth 100000
def s7.f (n:Nat) (a0:ai):Option ((List (List Int))×Unit):=iter (α:=(Int×(List (List Int))×Unit)) n (fun lA x6=>br (decide (x6.1<(a0.2.length:Int))) (ab (0≤x6.1∧x6.1<(a0.2.length:Int)) (let v8:=(a0.2.getD x6.1.toNat aM); (mA.f n v8.2.2.2.2).bind fun r9=>ab ((x6.2.1.length+([r9.1]:List (List Int)).length)*24≤aW) (lA ((ag (x6.1+1)),((x6.2.1++[r9.1]),()))))) (some (x6.2.1,()))) (0,([],()))
def s7.ae (n:Nat):ar:=⟨[.val cD],[.val (.sl IS)],fun x=>s7.f n x.1⟩
theorem s7.ok (n:Nat):aN 36 (s7.ae n):=aQ n [(4,⟨[(3,.own 1000 IS),(10,.int .i64)],[(1000,.row true IS)],[8,9],[]⟩)] [] (ak (mA.ok n) aC) aD Tryz.func36
def uT.f (n:Nat) (a0:Program):Option (a_×Unit):=(iQ.f n a0).bind fun r1=>br (!r1.1) (some ((0,[]),())) (some ((0,[0,0,0,0]),()))
def uT.ae (n:Nat):ar:=⟨[.val bn],[.val bu],fun x=>uT.f n x.1⟩
theorem uT.ok (n:Nat):aN 37 (uT.ae n):=aQ n [] [] (ak ⟨iQ.sound n,iQ.az⟩ aC) aD Tryz.func37
def uU.f (n:Nat) (a0:ai):Option (State×Unit):=(fo.f n a0).bind fun r1=>br (!r1.1) (some (([],([],([],0))),())) ((s7.f n a0).bind fun r2=>(s7.f n a0).bind fun r3=>iter (α:=(Int×(Int×(List a_)×(List (List Int))×(List (List Int))×Unit))) n (fun uL cj=>br (decide (cj.1<(a0.1.length:Int))) (ab (0≤cj.1∧cj.1<(a0.1.length:Int)) (let HH:=(a0.1.getD cj.1.toNat bp); (uT.f n HH).bind fun iC=>ab ((cj.2.2.1.length+([iC.1]:List a_).length)*32≤aW) (uL ((ag (cj.1+1)),(cj.2.1,((cj.2.2.1++[iC.1]),(cj.2.2.2.1,(cj.2.2.2.2.1,())))))))) (some ((cj.2.2.1,(cj.2.2.2.1,(cj.2.2.2.2.1,cj.2.1))),()))) (0,(0,([],(r2.1,(r3.1,()))))))
def uU.ae (n:Nat):ar:=⟨[.val cD],[.val e9],fun x=>uU.f n x.1⟩
theorem uU.ok (n:Nat):aN 11 (uU.ae n):=aQ n [(7,⟨[(3,.aJ 1000 0),(18,.int .i64)],[(1000,.cells [] [.own 1001 bu,.own 1002 IS,.own 1003 IS,.int .i64]),(1001,.row true bu),(1002,.row true IS),(1003,.row true IS)],[2,16,17],[]⟩)] [] (ak ⟨fo.sound n,fo.az⟩ (ak (s7.ok n) (ak (uT.ok n) aC))) aD Tryz.func11
def qV.f (n:Nat) (a0:Program):Option (a_×Unit):=(gq.f n a0).bind fun r1=>br (!r1.1) (some ((0,[]),())) (ab (4=4∧0≤4∧4*(8:Int)≤(aW:Int)) (some ((0,(List.replicate 4 (0:Int))),())))
def qV.ae (n:Nat):ar:=⟨[.val bn],[.val bu],fun x=>qV.f n x.1⟩
theorem qV.ok (n:Nat):aN 159 (qV.ae n):=aQ n [] [] (ak ⟨gq.sound n,gq.az⟩ aC) aD Tryz.func159
def qW.f (n:Nat) (a0:ai):Option (State×Unit):=(dq.f n a0).bind fun r1=>br (!r1.1) (some (([],([],([],0))),())) (iter (α:=(Int×(Int×(List a_)×Unit))) n (fun zy cz=>br (decide (cz.1<(a0.1.length:Int))) (ab (0≤cz.1∧cz.1<(a0.1.length:Int)) (let s8:=(a0.1.getD cz.1.toNat bp); (qV.f n s8).bind fun di=>ab ((cz.2.2.1.length+([di.1]:List a_).length)*32≤aW) (zy ((ag (cz.1+1)),(cz.2.1,((cz.2.2.1++[di.1]),())))))) (iter (α:=(Int×(Int×(List a_)×(List (List Int))×(List (List Int))×Unit))) n (fun V6 lG=>br (decide (lG.1<(a0.2.length:Int))) (ab (0≤lG.1∧lG.1<(a0.2.length:Int)) (let v51:=(a0.2.getD lG.1.toNat aM); (cd.f n v51.2.2.2.2).bind fun zh=>ab ((lG.2.2.2.1.length+([zh.1]:List (List Int)).length)*24≤aW) ((cd.f n v51.2.2.2.2).bind fun Nx=>ab ((lG.2.2.2.2.1.length+([Nx.1]:List (List Int)).length)*24≤aW) (V6 ((ag (lG.1+1)),(lG.2.1,(lG.2.2.1,((lG.2.2.2.1++[zh.1]),((lG.2.2.2.2.1++[Nx.1]),()))))))))) (some ((lG.2.2.1,(lG.2.2.2.1,(lG.2.2.2.2.1,lG.2.1))),()))) (0,(cz.2.1,(cz.2.2.1,([],([],()))))))) (0,(0,([],()))))
def qW.ae (n:Nat):ar:=⟨[.val cD],[.sh e9],fun x=>qW.f n x.1⟩
theorem qW.ok (n:Nat):aN 114 (qW.ae n):=aQ n [(7,⟨[(3,.aJ 1000 0),(16,.int .i64)],[(1000,.cells [] [.own 1001 bu,.lQ (.nil),.lQ (.nil),.int .i64]),(1001,.row true bu)],[1,2,14,15],[]⟩),(16,⟨[(3,.aJ 1000 0),(31,.int .i64)],[(1000,.cells [] [.own 1001 bu,.own 1002 IS,.own 1003 IS,.int .i64]),(1001,.row true bu),(1002,.row true IS),(1003,.row true IS)],[2,29,30],[]⟩)] [] (ak ⟨dq.sound n,dq.az⟩ (ak (qV.ok n) (ak ⟨cd.sound n,cd.az⟩ aC))) aD Tryz.func114
end
end Go.AmT
namespace Go.AmT
open Go Go.Am
set_option linter.unusedVariables false
set_option linter.unusedSimpArgs false
theorem V7 {n:Nat} {nt:ai} (h:cL nt) (hn:1048576<n):s7.f n nt=some (nt.2.map (fun l=>l.2.2.2.2),()):=by
 have hl:=h.dt
 unfold s7.f
 refine zk nt.2 (fun l=>l.2.2.2.2) (fun i s=>(i,(s,()))) (R:=fun s=>some (s,())) (fun ih i hi s hs=>?_) (fun ih s=>aK (Int.lt_irrefl _)) (by omega)
 have c1:(i:Int)<(nt.2.length:Int):=by omega
 have e1:nt.2.getD i aM=nt.2[i]:=aH hi _
 show br (decide ((i:Int)<(nt.2.length:Int))) _ _=_
 rw [aZ c1,ah ⟨Int.natCast_nonneg i,c1⟩]
 simp only [Int.toNat_natCast,e1]
 rw [Ed (h.link _ (List.getElem_mem hi)).tokens,Option.bind_some,bZ (by simp; omega),bm (by omega)]
theorem V8 {n:Nat} {p:Program} (hp:nZ p) (h:cr p=true) (hn:1048576<n):uT.f n p=some (oe,()):=by
 unfold uT.f
 rw [HD hp hn,h]; rfl
theorem Ny {n:Nat} {p:Program} (hp:nZ p) (h:cr p=true) (hn:1048576<n):qV.f n p=some (oe,()):=by
 unfold qV.f
 rw [BF hp hn,h]
 simp only [Option.bind_some,Bool.not_true,aF]
 rw [ah (by have:=mr; refine ⟨by trivial,?_⟩; omega)]; rfl
theorem V9 {n:Nat} {nt:ai} (h:cL nt) (o:cM nt) (hn:1048576<n):uU.f n nt=some (start nt,()):=by
 have ho:cy nt=true:=by simp [cy,o]
 have hp:=h.ew
 unfold uU.f start
 rw [zf h hn,ho,V7 h hn]
 simp only [Option.bind_some,Bool.not_true,aF]
 generalize nt.2.map (fun l=>l.2.2.2.2)=T
 refine zk nt.1 (fun _=>oe) (fun i s=>(i,(0,(s,(T,(T,())))))) (R:=fun s=>some ((s,(T,(T,0))),())) (fun ih i hi s hs=>?_) (fun ih s=>aK (Int.lt_irrefl _)) (by omega)
 have c1:(i:Int)<(nt.1.length:Int):=by omega
 have e1:nt.1.getD i bp=nt.1[i]:=aH hi _
 show br (decide ((i:Int)<(nt.1.length:Int))) _ _=_
 rw [aZ c1,ah ⟨Int.natCast_nonneg i,c1⟩]
 simp only [Int.toNat_natCast,e1]
 rw [V8 (h.prog _ (List.getElem_mem hi)) (o.prog i hi) hn,Option.bind_some,bZ (by simp; omega),bm (by omega)]
theorem Nz {n:Nat} {nt:ai} (h:cL nt) (o:cM nt) (hn:1048576<n):qW.f n nt=some (start nt,()):=by
 have ho:cy nt=true:=by simp [cy,o]
 have hp:=h.ew
 have hl:=h.dt
 unfold qW.f start
 rw [qH h hn,ho]
 simp only [Option.bind_some,Bool.not_true,aF]
 refine D8 nt.1 (fun _=>oe) (fun i s=>(i,(0,(s,())))) (fun ih i hi s hs=>?_) (fun ih=>?_) (by omega)
 ·have c1:(i:Int)<(nt.1.length:Int):=by omega
  have e1:nt.1.getD i bp=nt.1[i]:=aH hi _
  show br (decide ((i:Int)<(nt.1.length:Int))) _ _=_
  rw [aZ c1,ah ⟨Int.natCast_nonneg i,c1⟩]
  simp only [Int.toNat_natCast,e1]
  rw [Ny (h.prog _ (List.getElem_mem hi)) (o.prog i hi) hn,Option.bind_some,bZ (by simp; omega),bm (by omega)]
 ·show br (decide ((nt.1.length:Int)<(nt.1.length:Int))) _ _=_
  rw [aK (Int.lt_irrefl _)]
  generalize (nt.1.map fun _=>oe)=A
  have cI:((0:Int),((0:Int),(A,(([]:List (List Int)),(([]:List (List Int)),())))))=(fun (i:Nat)=>((i:Int),((0:Int),(A,((nt.2.take i).map (fun l:aG=>l.2.2.2.2),((nt.2.take i).map (fun l:aG=>l.2.2.2.2),())))))) 0:=by simp
  show iter n _ ((0:Int),((0:Int),(A,(([]:List (List Int)),(([]:List (List Int)),())))))=_
  rw [cI]
  refine qM (fun i=>((i:Int),((0:Int),(A,((nt.2.take i).map (fun l:aG=>l.2.2.2.2),((nt.2.take i).map (fun l:aG=>l.2.2.2.2),())))))) nt.2.length (fun ih i hi=>?_) (fun ih=>?_) (by omega)
  ·have c1:(i:Int)<(nt.2.length:Int):=by omega
   have e1:nt.2.getD i aM=nt.2[i]:=aH hi _
   show br (decide ((i:Int)<(nt.2.length:Int))) _ _=_
   rw [aZ c1,ah ⟨Int.natCast_nonneg i,c1⟩]
   simp only [Int.toNat_natCast,e1]
   rw [sT (h.link _ (List.getElem_mem hi)).tokens,Option.bind_some,bZ (by simp; omega)]
   simp only [Option.bind_some]
   rw [bZ (by simp; omega),bm (by omega),List.take_succ_eq_append_getElem hi,List.map_append]; rfl
  ·show br (decide ((nt.2.length:Int)<(nt.2.length:Int))) _ _=_
   rw [aK (Int.lt_irrefl _),List.take_length]
end Go.AmT
namespace Go.AmT
noncomputable section
open Go Go.Am Go.Proofs
set_option linter.unusedVariables false
set_option maxRecDepth 100000
def xd.f (n:Nat) (a0:ai) (a1:Int):Option (Bool×Unit):=br (decide (0≤a1)) (some ((decide (a1<(a0.1.length:Int))),())) (some (false,()))
def xd.ae (n:Nat):ar:=⟨[.val cD,.val I],[.val .bool],fun x=>xd.f n x.1 x.2.1⟩
theorem xd.ok (n:Nat):aN 152 (xd.ae n):=aQ n [] [] aC aD Tryz.func152
end
end Go.AmT
namespace Go.AmT
open Go Go.Am
set_option linter.unusedVariables false
set_option linter.unusedSimpArgs false
theorem Ia {n:Nat} {nt:ai} {s:State} {r:kK} (R:iU nt s r) (o:bq nt s) (hn:1048576<n):quiet.f n r=some (!od nt s,()):=by
 have hp:=o.ck.ew
 unfold quiet.f
 rw [R.ck]
 refine iz.1 (MV nt.1.length (dH nt s) (yes:=fun _=>some (false,())) (fun ih i hi=>?_) (fun ih=>aK (Int.lt_irrefl _)) (by omega) (fun i hi h=>?_) (fun h=>?_))
 ·rw [aZ (by omega),zn R o hi,bm (by omega),Option.bind_some,MY]
 ·rw [aj,od,MW hi h]; rfl
 ·rw [aj,od,MX h]; rfl
end Go.AmT
namespace Go.AmT
noncomputable section
open Go Go.Am Go.Proofs
set_option linter.unusedVariables false
set_option maxRecDepth 100000
def stuck.f (n:Nat) (a0:kK):Option (Bool×Unit):=iter (α:=(Int×Unit)) n (fun gP x5=>br (decide (x5.1<(a0.1.1.length:Int))) ((may.f n a0 x5.1).bind fun r7=>br r7.1 (some (false,())) (gP ((ag (x5.1+1)),()))) (some (true,()))) (0,())
def stuck.ae (n:Nat):ar:=⟨[.ee uF],[.val .bool],fun x=>stuck.f n x.1⟩
theorem stuck.ok (n:Nat):aN 90 (stuck.ae n):=aQ n [(3,⟨[(10,.int .i64)],[],[0,9],[]⟩)] [] (ak (may.ok n) aC) aD Tryz.func90
def uV.f (n:Nat) (a0:ai) (a1:State) (a2:List Int):Option (Bool×Unit):=(oh.f n a0 a1 a2).bind fun r1=>br (!r1.1) (some (false,())) ((kL.f n a0.1 a0.2 a1.1 a1.2.1 a1.2.2.1 a1.2.2.2 a2).bind fun r2=>(stuck.f n ((r2.1,r2.2.1),((r2.2.2.2.2.1,(r2.2.2.2.2.2.1,(r2.2.2.2.2.2.2.1,r2.2.2.1))),(r2.2.2.2.2.2.2.2.1,(r2.2.2.2.2.2.2.2.2.1,r2.2.2.2.1))))).bind fun r3=>br r3.1 ((quiet.f n ((r2.1,r2.2.1),((r2.2.2.2.2.1,(r2.2.2.2.2.2.1,(r2.2.2.2.2.2.2.1,r2.2.2.1))),(r2.2.2.2.2.2.2.2.1,(r2.2.2.2.2.2.2.2.2.1,r2.2.2.2.1))))).bind fun r4=>some ((!r4.1),())) (some (false,())))
def uV.ae (n:Nat):ar:=⟨[.val cD,.val e9,.val IS],[.val .bool],fun x=>uV.f n x.1 x.2.1 x.2.2.1⟩
theorem uV.ok (n:Nat):aN 208 (uV.ae n):=aQ n [] [] (ak (oh.ok n) (ak (stuck.ok n) (ak (quiet.ok n) aC))) (bA (kL.ok n) aD) Tryz.func208
def pG.f (n:Nat) (a0:ai) (a1:State) (a2:List Int):Option ((List Int)×(Int×(Bool×Unit))):=(uV.f n a0 a1 a2).bind fun r1=>br (!r1.1) (some ([],(0,(false,())))) ((kL.f n a0.1 a0.2 a1.1 a1.2.1 a1.2.2.1 a1.2.2.2 a2).bind fun r2=>iter (α:=(Int×(Int×Unit))) n (fun Wa jh=>br (decide (jh.2.1<(a0.2.length:Int))) (iter (α:=(Int×(Int×Unit))) n (fun xe iX=>br (decide (iX.2.1<(a0.1.length:Int))) ((fY.f n ((r2.1,r2.2.1),((r2.2.2.2.2.1,(r2.2.2.2.2.2.1,(r2.2.2.2.2.2.2.1,r2.2.2.1))),(r2.2.2.2.2.2.2.2.1,(r2.2.2.2.2.2.2.2.2.1,r2.2.2.2.1)))) iX.2.1).bind fun oj=>br (decide (oj.1=3)) (br (decide (oj.2.1=jh.2.1)) ((can.f n ((r2.1,r2.2.1),((r2.2.2.2.2.1,(r2.2.2.2.2.2.1,(r2.2.2.2.2.2.2.1,r2.2.2.1))),(r2.2.2.2.2.2.2.2.1,(r2.2.2.2.2.2.2.2.2.1,r2.2.2.2.1)))) iX.2.1).bind fun pE=>br pE.1 ((may.f n ((r2.1,r2.2.1),((r2.2.2.2.2.1,(r2.2.2.2.2.2.1,(r2.2.2.2.2.2.2.1,r2.2.2.1))),(r2.2.2.2.2.2.2.2.1,(r2.2.2.2.2.2.2.2.2.1,r2.2.2.2.1)))) iX.2.1).bind fun uW=>br (!uW.1) (br (decide (iX.1<0)) (xe (jh.2.1,((ag (iX.2.1+1)),()))) (ab (0≤jh.2.1∧jh.2.1<(a2.length:Int)) (let v80:=(a2.getD jh.2.1.toNat 0); ab (0≤iX.1∧iX.1<(a2.length:Int)) (br (decide (v80<(a2.getD iX.1.toNat 0))) (xe (jh.2.1,((ag (iX.2.1+1)),()))) (xe (iX.1,((ag (iX.2.1+1)),()))))))) (xe (iX.1,((ag (iX.2.1+1)),())))) (xe (iX.1,((ag (iX.2.1+1)),())))) (xe (iX.1,((ag (iX.2.1+1)),())))) (xe (iX.1,((ag (iX.2.1+1)),())))) (Wa (iX.1,((ag (jh.2.1+1)),())))) (jh.1,(0,()))) (cut (α:=(Bool×Unit)) (br (decide (jh.1<0)) (some (.inr (true,()))) (ab (0≤jh.1∧jh.1<(a2.length:Int)) (some (.inr ((decide ((a2.getD jh.1.toNat 0)=400)),()))))) fun Wb=>br Wb.1 (some ([],(0,(false,())))) ((cd.f n a2).bind fun Ei=>ab (0≤jh.1∧jh.1<(Ei.1.length:Int)) (ab (0≤jh.1∧jh.1<(Ei.1.length:Int)) (let Wc:=(Ei.1.set jh.1.toNat (ag ((Ei.1.getD jh.1.toNat 0)+1))); some (Wc,(jh.1,(true,())))))))) ((-1),(0,())))
def pG.ae (n:Nat):ar:=⟨[.val cD,.val e9,.val IS],[.val IS,.val I,.val .bool],fun x=>pG.f n x.1 x.2.1 x.2.2.1⟩
theorem pG.ok (n:Nat):aN 175 (pG.ae n):=aQ n [(7,⟨[(10,.int .i64),(28,.int .i64)],[],[2,3,9,27],[]⟩),(14,⟨[(10,.int .i64),(34,.int .i64)],[],[2,3,9,11,27,28,33],[]⟩),(25,⟨[(87,.bool)],[],[2,10],[]⟩)] [] (ak (uV.ok n) (ak (fY.ok n) (ak (can.ok n) (ak (may.ok n) (ak ⟨cd.sound n,cd.az⟩ aC))))) (bA (kL.ok n) aD) Tryz.func175
end
end Go.AmT
