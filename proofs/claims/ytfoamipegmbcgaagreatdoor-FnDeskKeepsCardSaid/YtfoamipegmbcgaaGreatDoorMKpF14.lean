/- How far processes have come, in plain Lean: what a process does hangs on what it reads alone. -/
import Derived.Test.YtfoamipegmbcgaaGreatDoorMKpF4
import Derived.Test.YtfoamipegmbcgaaGreatDoorMKpF9
import Derived.Test.YtfoamipegmbcgaaGreatDoorMKpF13
namespace Go.AmT
open Go Go.Am
set_option linter.unusedVariables false
set_option linter.unusedSimpArgs false
abbrev Lc:Type:=a_×(Nat→List Int)×(Nat→Nat)
def gz {α:Type} (f:Nat→α) (b:Nat) (x:α):Nat→α:=fun c=>if c=b then x else f c
theorem vu {α:Type} {f:Nat→α} {b:Nat} {x:α} : gz f b x b=x:=by simp [gz]
theorem vv {α:Type} {f:Nat→α} {b c:Nat} {x:α} (h:c≠b):gz f b x c=f c:=by simp [gz,h]
def iF (p:Program) (I:Nat→List Int) (c:Lc):Option Lc:=
 if (bT p c.1).1=0 then none
 else if (bT p c.1).1=2 then
  if c.2.2 (bT p c.1).2.toNat<(I (bT p c.1).2.toNat).length then some (iV p c.1 ((I (bT p c.1).2.toNat).getD (c.2.2 (bT p c.1).2.toNat) 0),c.2.1,gz c.2.2 (bT p c.1).2.toNat (c.2.2 (bT p c.1).2.toNat+1)) else none
 else if (bT p c.1).1=3 then some (iV p c.1 0,gz c.2.1 (bT p c.1).2.toNat (c.2.1 (bT p c.1).2.toNat++[ny (ju p c.1) c.1]),c.2.2)
 else some (iV p c.1 0,c.2.1,c.2.2)
def zO (p:Program) (I:Nat→List Int):Nat→Lc→Option Lc
 | 0,c=>some c
 | m+1,c=>(zO p I m c).bind (iF p I)
def Sub (I I':Nat→List Int):Prop:=∀ b,I b <+: I' b
theorem Sub.refl (I:Nat→List Int):Sub I I:=fun _=>List.prefix_rfl
theorem Sub.trans {I J K:Nat→List Int} (h:Sub I J) (h':Sub J K):Sub I K:=fun b=>(h b).trans (h' b)
theorem O_ {p:Program} {I I':Nat→List Int} {c d:Lc} (h:Sub I I') (e:iF p I c=some d):iF p I' c=some d:=by
 unfold iF at e ⊢
 split at e
 ·cases e
 ·rename_i h0
  rw [if_neg h0]
  split at e
  ·rename_i h2
   rw [if_pos h2]
   split at e
   ·rename_i ao
    obtain ⟨h1,h3⟩:=D7.1 (h (bT p c.1).2.toNat)
    rw [if_pos (Nat.lt_of_lt_of_le ao h1),h3 _ ao]
    exact e
   ·cases e
  ·rename_i h2
   rw [if_neg h2]; exact e
theorem O0 {p:Program} {I I':Nat→List Int} (h:Sub I I'):∀ {m:Nat} {c d:Lc},zO p I m c=some d→zO p I' m c=some d
 | 0,c,d,e=>e
 | m+1,c,d,e=>by
  unfold zO at e ⊢
  obtain ⟨x,e1,e2⟩:=Option.bind_eq_some_iff.1 e
  rw [O0 h e1]
  exact O_ h e2
def bW (nt:ai) (j:Nat):aG:=nt.2.getD j aM
def gQ (nt:ai) (j:Nat):List Int:=(bW nt j).2.2.2.2
def queue (s:State) (j:Nat):List Int:=s.2.1.getD j []
def eh (s:State) (j:Nat):List Int:=s.2.2.1.getD j []
def used (s:State) (j:Nat):Nat:=(eh s j).length-(queue s j).length
def eo (nt:ai) (k b:Nat):Nat:=(lx (kI (k:Int) (b:Int)) nt.2).toNat
def pT (nt:ai) (k b:Nat):Nat:=(lx (lD (k:Int) (b:Int)) nt.2).toNat
theorem zP {nt:ai} (o:cM nt) {k b:Nat} (hk:k<nt.1.length) (hb:(b:Int)<(prog nt k).1) :
  eo nt k b<nt.2.length∧(bW nt (eo nt k b)).2.2.1=(k:Int)∧(bW nt (eo nt k b)).2.2.2.1=(b:Int):=by
 unfold prog at hb
 rw [aH hk] at hb
 obtain ⟨j,hj,hf,e⟩:=BO (o.ins k hk b hb)
 unfold kI at hf
 simp only [Bool.and_eq_true,decide_eq_true_eq] at hf
 have e2:eo nt k b=j:=by unfold eo; rw [e]; rfl
 rw [e2]
 unfold bW
 rw [aH hj]
 exact ⟨hj,hf⟩
theorem ED {nt:ai} (o:cM nt) {k b:Nat} (hk:k<nt.1.length) (hb:(b:Int)<(prog nt k).2.1) :
  pT nt k b<nt.2.length∧(bW nt (pT nt k b)).1=(k:Int)∧(bW nt (pT nt k b)).2.1=(b:Int):=by
 unfold prog at hb
 rw [aH hk] at hb
 obtain ⟨j,hj,hf,e⟩:=BO (o.outs k hk b hb)
 unfold lD at hf
 simp only [Bool.and_eq_true,decide_eq_true_eq] at hf
 have e2:pT nt k b=j:=by unfold pT; rw [e]; rfl
 rw [e2]
 unfold bW
 rw [aH hj]
 exact ⟨hj,hf⟩
theorem Yl {nt:ai} (o:cM nt) {j k b:Nat} (hj:j<nt.2.length) (hk:k<nt.1.length) (hb:(b:Int)<(prog nt k).1) (h1:(bW nt j).2.2.1=(k:Int)) (h2:(bW nt j).2.2.2.1=(b:Int)):eo nt k b=j:=by
 unfold prog at hb
 rw [aH hk] at hb
 unfold bW at h1 h2
 rw [aH hj] at h1 h2
 unfold eo
 rw [M4 hj (o.ins k hk b hb) (by simp [kI,h1,h2])]; rfl
def iG (nt:ai) (h:Nat→List Int) (k:Nat):Nat→List Int:=fun b=>if (b:Int)<(prog nt k).1 then h (eo nt k b) else []
def lM (nt:ai) (h:Nat→List Int) (k:Nat):Nat→List Int:=fun b=>if (b:Int)<(prog nt k).2.1 then (h (pT nt k b)).drop (gQ nt (pT nt k b)).length else []
def nH (nt:ai) (u:Nat→Nat) (k:Nat):Nat→Nat:=fun b=>if (b:Int)<(prog nt k).1 then u (eo nt k b) else 0
def lc (nt:ai) (s:State) (k:Nat):Lc:=(lE s k,lM nt (eh s) k,nH nt (used s) k)
theorem O1 {nt:ai} {h h':Nat→List Int} {k:Nat} (S:Sub h h'):Sub (iG nt h k) (iG nt h' k):=by
 intro b
 unfold iG
 split
 ·exact S _
 ·exact List.prefix_rfl
theorem O2 {nt:ai} {s:State} {k:Nat} (hk:k<s.1.length) (j:Nat):lE (cX nt s k) j=if j=k then iV (prog nt k) (lE s k) (qQ nt s k) else lE s j:=by
 show (s.1.set k _).getD j ba=_
 by_cases h:j=k
 ·subst h; rw [lF hk,if_pos rfl]
 ·rw [getD_set_ne (Ne.symm h),if_neg h]; rfl
theorem xz {nt:ai} {s:State} {k:Nat} (o:bq nt s) (hk:k<nt.1.length) (j:Nat):eh (cX nt s k) j=if (bf nt s k).1=3∧j=(bQ nt s k).toNat then eh s j++[qR nt s k] else eh s j:=by
 show (if (bf nt s k).1=3 then s.2.2.1.set (bQ nt s k).toNat (s.2.2.1.getD (bQ nt s k).toNat []++[qR nt s k]) else s.2.2.1).getD j []=_
 by_cases c3:(bf nt s k).1=3
 ·obtain ⟨l,hl,e,-⟩:=sU o hk c3
  rw [if_pos c3,e,Int.toNat_natCast]
  by_cases hj:j=l
  ·subst hj; rw [lF (by rw [o.ns]; exact hl),if_pos ⟨c3,rfl⟩]; rfl
  ·rw [getD_set_ne (Ne.symm hj),if_neg (fun h=>hj h.2)]; rfl
 ·rw [if_neg c3,if_neg (fun h=>c3 h.1)]; rfl
theorem EE {nt:ai} {s:State} {k:Nat} (o:bq nt s) (hk:k<nt.1.length) (hc:dH nt s k=true) (j:Nat):used (cX nt s k) j=if (bf nt s k).1=2∧j=(bQ nt s k).toNat then used s j+1 else used s j:=by
 have hs:=xz o hk j
 have hq:=o.nq
 obtain ⟨w0,Ee,w2,w3⟩:=qS hc
 have sa:queue (cX nt s k) j=if (bf nt s k).1=2∧j=(bQ nt s k).toNat then (queue s j).drop 1 else if (bf nt s k).1=3∧j=(bQ nt s k).toNat then queue s j++[qR nt s k] else queue s j:=by
  show (if (bf nt s k).1=2 then s.2.1.set (bQ nt s k).toNat ((s.2.1.getD (bQ nt s k).toNat []).drop 1) else if (bf nt s k).1=3 then s.2.1.set (bQ nt s k).toNat (s.2.1.getD (bQ nt s k).toNat []++[qR nt s k]) else s.2.1).getD j []=_
  by_cases c2:(bf nt s k).1=2
  ·obtain ⟨l,hl,e,-⟩:=oc o hk c2
   rw [if_pos c2,e,Int.toNat_natCast]
   by_cases hj:j=l
   ·subst hj; rw [lF (by omega),if_pos ⟨c2,rfl⟩]; rfl
   ·rw [getD_set_ne (Ne.symm hj),if_neg (fun h=>hj h.2),if_neg (fun h=>hj h.2)]; rfl
  ·rw [if_neg c2]
   by_cases c3:(bf nt s k).1=3
   ·obtain ⟨l,hl,e,-⟩:=sU o hk c3
    rw [if_pos c3,e,Int.toNat_natCast]
    by_cases hj:j=l
    ·subst hj; rw [lF (by omega),if_neg (fun h=>c2 h.1),if_pos ⟨c3,rfl⟩]; rfl
    ·rw [getD_set_ne (Ne.symm hj),if_neg (fun h=>hj h.2),if_neg (fun h=>hj h.2)]; rfl
   ·rw [if_neg c3,if_neg (fun h=>c2 h.1),if_neg (fun h=>c3 h.1)]; rfl
 unfold used
 rw [hs,sa]
 by_cases hj:j=(bQ nt s k).toNat
 ·by_cases c2:(bf nt s k).1=2
  ·have hlen:=w2 c2
   obtain ⟨l,hl,e,-⟩:=oc o hk c2
   have hle:=(o.bW l hl).zi.length_le
   rw [e,Int.toNat_natCast] at hj
   rw [e,Int.toNat_natCast] at hlen
   subst hj
   rw [if_neg (fun h=>absurd h.1 (by omega)),if_pos ⟨c2,by rw [e]; rfl⟩,if_pos ⟨c2,by rw [e]; rfl⟩,List.length_drop]
   show (eh s j).length-((queue s j).length-1)=_
   have h1:0<(queue s j).length:=hlen
   have h2:(queue s j).length≤(eh s j).length:=hle
   omega
  ·by_cases c3:(bf nt s k).1=3
   ·rw [if_pos ⟨c3,hj⟩,if_neg (fun h=>c2 h.1),if_pos ⟨c3,hj⟩,if_neg (fun h=>c2 h.1),List.length_append,List.length_append]
    omega
   ·rw [if_neg (fun h=>c3 h.1),if_neg (fun h=>c2 h.1),if_neg (fun h=>c3 h.1),if_neg (fun h=>c2 h.1)]
 ·rw [if_neg (fun h=>hj h.2),if_neg (fun h=>hj h.2),if_neg (fun h=>hj h.2),if_neg (fun h=>hj h.2)]
theorem Ym {nt:ai} {s:State} {k:Nat} (o:bq nt s) (hk:k<nt.1.length):Sub (eh s) (eh (cX nt s k)):=by
 intro j
 rw [xz o hk]
 split
 ·exact List.prefix_append _ _
 ·exact List.prefix_rfl
theorem Yn {nt:ai} {s:State} (o:bq nt s) {j:Nat} (hj:j<nt.2.length):gQ nt j <+: eh s j:=(o.bW j hj).pre
theorem Yo {nt:ai} {s:State} (o:bq nt s) {j:Nat} (hj:j<nt.2.length):queue s j=(eh s j).drop (used s j):=List.suffix_iff_eq_drop.1 (o.bW j hj).zi
theorem Yp {nt:ai} {s:State} {k:Nat} (o:bq nt s) (hk:k<nt.1.length) (hc:dH nt s k=true):iF (prog nt k) (iG nt (eh s) k) (lc nt s k)=some (lc nt (cX nt s k) k):=by
 obtain ⟨w0,Ee,w2,w3⟩:=qS hc
 obtain ⟨b,eb,cS,tW⟩:=BP o hk
 have mz:k<s.1.length:=by rw [o.na]; exact hk
 have ep:nt.1[k]=prog nt k:=by unfold prog; rw [aH hk]
 rw [ep] at cS tW
 have hA:=O2 (nt:=nt) mz k
 rw [if_pos rfl] at hA
 have hw:bT (prog nt k) (lc nt s k).1=bf nt s k:=rfl
 unfold iF
 rw [hw,eb,Int.toNat_natCast,if_neg w0]
 by_cases c2:(bf nt s k).1=2
 ·have hb:=cS c2
  obtain ⟨hl,l1,l2⟩:=zP o.ck hk hb
  have e:(bQ nt s k).toNat=eo nt k b:=by unfold bQ eo; rw [if_pos c2,eb]
  have hlen:=w2 c2
  rw [e] at hlen
  have hlen:0<(queue s (eo nt k b)).length:=hlen
  have hq:=Yo o hl
  have hIn:iG nt (eh s) k b=eh s (eo nt k b):=by unfold iG; rw [if_pos hb]
  have hU:(lc nt s k).2.2 b=used s (eo nt k b):=by show nH _ _ _ _=_; unfold nH; rw [if_pos hb]
  have ao:used s (eo nt k b)<(eh s (eo nt k b)).length:=by
   rw [hq,List.length_drop] at hlen; omega
  have EF:qQ nt s k=(eh s (eo nt k b)).getD (used s (eo nt k b)) 0:=by
   unfold qQ
   rw [if_pos c2,e]
   show (queue s (eo nt k b)).getD 0 0=_
   rw [hq,List.getD_eq_getElem?_getD,List.getD_eq_getElem?_getD,List.getElem?_drop,Nat.add_zero]
  rw [if_pos c2,hIn,hU,if_pos ao,← EF]
  have e1:lM nt (eh (cX nt s k)) k=lM nt (eh s) k:=by
   funext c
   unfold lM
   split
   ·rw [xz o hk,if_neg (fun h=>absurd h.1 (by omega))]
   ·rfl
  have e2:nH nt (used (cX nt s k)) k=gz (nH nt (used s) k) b (used s (eo nt k b)+1):=by
   funext c
   by_cases vw:c=b
   ·subst vw
    rw [vu]; unfold nH
    rw [if_pos hb,EE o hk hc,if_pos ⟨c2,e.symm⟩]
   ·rw [vv vw]; unfold nH
    split
    ·rename_i nS
     rw [EE o hk hc,if_neg]
     rintro ⟨-,h⟩
     rw [e] at h
     have:=(zP o.ck hk nS).2.2
     rw [h,l2] at this
     omega
    ·rfl
  unfold lc
  rw [hA,e1,e2]
 ·rw [if_neg c2]
  have EF:qQ nt s k=0:=by unfold qQ; rw [if_neg c2]
  have e2:nH nt (used (cX nt s k)) k=nH nt (used s) k:=by
   funext c
   unfold nH
   split
   ·rw [EE o hk hc,if_neg (fun h=>c2 h.1)]
   ·rfl
  by_cases c3:(bf nt s k).1=3
  ·have hb:=tW c3
   obtain ⟨hl,l1,l2⟩:=ED o.ck hk hb
   have e:(bQ nt s k).toNat=pT nt k b:=by unfold bQ pT; rw [if_neg c2,if_pos c3,eb]
   rw [if_pos c3]
   have e1:lM nt (eh (cX nt s k)) k=gz (lM nt (eh s) k) b (lM nt (eh s) k b++[qR nt s k]):=by
    funext c
    by_cases vw:c=b
    ·subst vw
     rw [vu]; unfold lM
     rw [if_pos hb,if_pos hb,xz o hk,if_pos ⟨c3,e.symm⟩,List.drop_append_of_le_length (Yn o hl).length_le]
    ·rw [vv vw]; unfold lM
     split
     ·rename_i nS
      rw [xz o hk,if_neg]
      rintro ⟨-,h⟩
      rw [e] at h
      have:=(ED o.ck hk nS).2.2
      rw [h,l2] at this
      omega
     ·rfl
   unfold lc
   rw [hA,e1,e2,EF]; rfl
  ·rw [if_neg c3]
   have e1:lM nt (eh (cX nt s k)) k=lM nt (eh s) k:=by
    funext c
    unfold lM
    split
    ·rw [xz o hk,if_neg (fun h=>c3 h.1)]
    ·rfl
   unfold lc
   rw [hA,e1,e2,EF]
theorem Yq {nt:ai} {s:State} {k j:Nat} (o:bq nt s) (hk:k<nt.1.length) (hj:j<nt.1.length) (hc:dH nt s k=true) (Yr:j≠k):lc nt (cX nt s k) j=lc nt s j:=by
 obtain ⟨b,eb,cS,tW⟩:=BP o hk
 have mz:k<s.1.length:=by rw [o.na]; exact hk
 have ep:nt.1[k]=prog nt k:=by unfold prog; rw [aH hk]
 rw [ep] at cS tW
 have hA:=O2 (nt:=nt) mz j
 rw [if_neg Yr] at hA
 have e1:lM nt (eh (cX nt s k)) j=lM nt (eh s) j:=by
  funext c
  unfold lM
  split
  ·rename_i nS
   rw [xz o hk,if_neg]
   rintro ⟨c3,h⟩
   have e:(bQ nt s k).toNat=pT nt k b:=by unfold bQ pT; rw [if_neg (by omega),if_pos c3,eb]
   rw [e] at h
   have h1:=(ED o.ck hj nS).2.1
   rw [h,(ED o.ck hk (tW c3)).2.1] at h1
   omega
  ·rfl
 have e2:nH nt (used (cX nt s k)) j=nH nt (used s) j:=by
  funext c
  unfold nH
  split
  ·rename_i nS
   rw [EE o hk hc,if_neg]
   rintro ⟨c2,h⟩
   have e:(bQ nt s k).toNat=eo nt k b:=by unfold bQ eo; rw [if_pos c2,eb]
   rw [e] at h
   have h1:=(zP o.ck hj nS).2.1
   rw [h,(zP o.ck hk (cS c2)).2.1] at h1
   omega
  ·rfl
 unfold lc
 rw [hA,e1,e2]
end Go.AmT
namespace Go.AmT
open Go Go.Am
set_option linter.unusedVariables false
set_option linter.unusedSimpArgs false
inductive Steps (nt:ai) (g:State→Nat→Bool) (s0:State):State→(Nat→Nat)→Prop
 | refl:Steps nt g s0 s0 (fun _=>0)
 | step {s:State} {m:Nat→Nat} {k:Nat} : Steps nt g s0 s m→k<nt.1.length→g s k=true→dH nt s k=true→Steps nt g s0 (cX nt s k) (gz m k (m k+1))
section
variable {nt:ai} {g:State→Nat→Bool} {s0 s t:State} {m mt:Nat→Nat}
theorem Steps.ok (o:bq nt s0) (S:Steps nt g s0 s m):bq nt s:=by
 induction S with
 | refl=>exact o
 | step _ hk _ hc ih=>exact zu ih hk hc
theorem Steps.run (o:bq nt s0) (S:Steps nt g s0 s m):∀ k,k<nt.1.length→zO (prog nt k) (iG nt (eh s) k) (m k) (lc nt s0 k)=some (lc nt s k):=by
 induction S with
 | refl=>intro k hk; rfl
 | @step s m k S hk _ hc ih=>
  intro j hj
  have os:=S.ok o
  have hg:=Ym os hk
  have h1:=O0 (O1 (nt:=nt) (k:=j) hg) (ih j hj)
  by_cases h:j=k
  ·subst h
   rw [vu]
   show (zO _ _ _ _).bind _=_
   rw [h1]
   exact O_ (O1 hg) (Yp os hj hc)
  ·rw [vv h,Yq os hk hj hc h]
   exact h1
def total (m:Nat→Nat):Nat→Nat
 | 0=>0
 | K+1=>total m K+m K
theorem O3 {m:Nat→Nat} {k:Nat} : ∀ {K:Nat},total (gz m k (m k+1)) K=total m K+if k<K then 1 else 0
 | 0=>by simp [total]
 | K+1=>by
  show total _ K+gz m k (m k+1) K=total m K+m K+_
  rw [O3]
  by_cases h:K=k
  ·subst h; rw [vu]
   simp; omega
  ·rw [vv h]
   by_cases h1:k<K
   ·rw [if_pos h1,if_pos (by omega)]; omega
   ·rw [if_neg h1,if_neg (by omega)]; omega
theorem Steps.count (S:Steps nt g s0 s m):s.2.2.2=s0.2.2.2+(total m nt.1.length:Int):=by
 induction S with
 | refl=>
  have:∀ K,total (fun _=>0) K=0:=by
   intro K
   induction K with
   | zero=>rfl
   | succ K ih=>show total (fun _=>0) K+0=0; omega
  rw [this]; simp
 | @step s m k S hk _ hc ih=>
  rw [O3,if_pos hk]
  show s.2.2.2+1=_
  rw [ih]; omega
theorem Steps.mono {g':State→Nat→Bool} (h:∀ s k,g s k=true→g' s k=true) (S:Steps nt g s0 s m):Steps nt g' s0 s m:=by
 induction S with
 | refl=>exact .refl
 | step S hk hg hc ih=>exact .step ih hk (h _ _ hg) hc
theorem Steps.trans (A:Steps nt g s0 s m) (B:Steps nt g s t mt):Steps nt g s0 t (fun k=>m k+mt k):=by
 induction B with
 | refl=>exact A
 | @step u mu k B hk hg hc ih=>
  have:=Steps.step ih hk hg hc
  have e:gz (fun j=>m j+mu j) k ((fun j=>m j+mu j) k+1)=fun j=>m j+gz mu k (mu k+1) j:=by
   funext j
   by_cases h:j=k
   ·subst h; rw [vu,vu]; simp only; omega
   ·rw [vv h,vv h]
  rw [e] at this
  exact this
end
end Go.AmT
namespace Go.AmT
open Go Go.Am
set_option linter.unusedVariables false
set_option linter.unusedSimpArgs false
def c0:Lc:=(oe,fun _=>[],fun _=>0)
theorem Ys (nt:ai) (j:Nat):eh (start nt) j=gQ nt j:=by
 unfold eh gQ bW start
 rcases Nat.lt_or_ge j nt.2.length with h | h
 ·simp [h]
 ·simp only [List.getD_eq_getElem?_getD,List.getElem?_map,List.getElem?_eq_none h]; rfl
def vz (p:Program) (I:Nat→List Int) (c:Lc):Bool:=
 decide ((bT p c.1).1=0)||(decide ((bT p c.1).1=2)&&decide (c.2.2 (bT p c.1).2.toNat=(I (bT p c.1).2.toNat).length))||(decide ((bT p c.1).1=3)&&decide ((c.2.1 (bT p c.1).2.toNat).length=400))
def al (p:Program) (I:Nat→List Int):Nat→Lc→Lc×Int×Int
 | 0,c=>if vz p I c=true then (c,bT p c.1) else (c,1,0)
 | f+1,c=>if vz p I c=true then (c,bT p c.1) else al p I f ((iF p I c).getD c)
structure Wf (I:Nat→List Int) (c:Lc):Prop where
 rd:∀ b,c.2.2 b≤(I b).length
 wr:∀ b,(c.2.1 b).length≤400
theorem O4 (I:Nat→List Int):Wf I c0:=⟨fun _=>Nat.zero_le _,fun _=>by show ([]:List Int).length≤400; simp⟩
theorem O5 {p:Program} {I:Nat→List Int} {c:Lc} (w:Wf I c) (h:vz p I c=false):∃ d,iF p I c=some d∧Wf I d:=by
 unfold vz at h
 simp only [Bool.or_eq_false_iff,Bool.and_eq_false_iff,decide_eq_false_iff_not] at h
 obtain ⟨⟨h0,h2⟩,h3⟩:=h
 unfold iF
 rw [if_neg h0]
 by_cases c2:(bT p c.1).1=2
 ·have h2:¬ c.2.2 (bT p c.1).2.toNat=(I (bT p c.1).2.toNat).length:=by
   rcases h2 with h | h
   ·exact absurd c2 h
   ·exact h
  have ao:c.2.2 (bT p c.1).2.toNat<(I (bT p c.1).2.toNat).length:=by have:=w.rd (bT p c.1).2.toNat; omega
  rw [if_pos c2,if_pos ao]
  refine ⟨_,rfl,fun b=>?_,w.wr⟩
  show gz _ _ _ b≤_
  by_cases hb:b=(bT p c.1).2.toNat
  ·subst hb; rw [vu]; omega
  ·rw [vv hb]; exact w.rd b
 ·rw [if_neg c2]
  by_cases c3:(bT p c.1).1=3
  ·have h3:¬ (c.2.1 (bT p c.1).2.toNat).length=400:=by
    rcases h3 with h | h
    ·exact absurd c3 h
    ·exact h
   rw [if_pos c3]
   refine ⟨_,rfl,w.rd,fun b=>?_⟩
   show List.length (gz _ _ _ b)≤400
   by_cases hb:b=(bT p c.1).2.toNat
   ·subst hb; rw [vu,List.length_append,List.length_singleton]
    have:=w.wr (bT p c.1).2.toNat; omega
   ·rw [vv hb]; exact w.wr b
  ·rw [if_neg c3]
   exact ⟨_,rfl,w.rd,w.wr⟩
def bg (h:List (List Int)) (j:Nat):List Int:=h.getD j []
def runK (nt:ai) (h:Nat→List Int) (k:Nat):Lc×Int×Int:=al (prog nt k) (iG nt h k) 3000 c0
def kR (nt:ai) (h:Nat→List Int) (j:Nat):List Int:=gQ nt j++if 0≤(bW nt j).1 then (runK nt h (bW nt j).1.toNat).1.2.1 (bW nt j).2.1.toNat else []
def Cg (nt:ai) (h:Nat→List Int):Bool:=((List.range nt.1.length).all fun k=>decide ((runK nt h k).2.1≠1)&&decide ((runK nt h k).2.1≠3))&&(List.range nt.2.length).all fun j=>bG (kR nt h j)
def mK (nt:ai) (h:List (List Int)):Option (List (List Int)):=if Cg nt (bg h)=true then some ((List.range nt.2.length).map (kR nt (bg h))) else none
def xA (nt:ai):Nat→Int→List (List Int)→Option (List (List Int)×Int)
 | 0,_,_=>none
 | m+1,r,h=>match mK nt h with | none=>none | some g=>if g=h then some (h,r) else xA nt m (r+1) g
def vA (nt:ai):List (List Int):=nt.2.map (fun l=>l.2.2.2.2)
def EG (nt:ai):Option (List (List Int)×Int):=xA nt 300 1 (vA nt)
section
variable {nt:ai}
theorem Yt (j:Nat):bg (vA nt) j=gQ nt j:=Ys nt j
theorem O6 {h:Nat→List Int} (ok:Cg nt h=true) {j:Nat} (hj:j<nt.2.length):bG (kR nt h j)=true:=by
 unfold Cg at ok
 simp only [Bool.and_eq_true,List.all_eq_true,List.mem_range,decide_eq_true_eq] at ok
 exact ok.2 j hj
theorem IM {h g:List (List Int)} (e:mK nt h=some g):Cg nt (bg h)=true∧g=(List.range nt.2.length).map (kR nt (bg h)):=by
 unfold mK at e
 split at e
 ·rename_i h1; cases e; exact ⟨h1,rfl⟩
 ·cases e
theorem O7 {f:Nat→List Int} {L j:Nat} (hj:j<L):bg ((List.range L).map f) j=f j:=by
 unfold bg; simp [hj]
theorem O8 {f:Nat→List Int} {L j:Nat} (hj:L≤j):bg ((List.range L).map f) j=[]:=by
 unfold bg
 rw [List.getD_eq_getElem?_getD,List.getElem?_eq_none (by simpa using hj)]; rfl
inductive zQ (nt:ai):Nat→List (List Int)→Prop
 | zero:zQ nt 0 (vA nt)
 | succ {i:Nat} {h g:List (List Int)} : zQ nt i h→mK nt h=some g→zQ nt (i+1) g
theorem O9:∀ {m:Nat} {r:Int} {h g:List (List Int)} {r':Int} {i:Nat},zQ nt i h→xA nt m r h=some (g,r')→∃ j,i≤j∧j<i+m∧r'=r+((j-i:Nat):Int)∧zQ nt j g∧mK nt g=some g
 | 0,r,h,g,r',i,C,e=>by cases e
 | m+1,r,h,g,r',i,C,e=>by
  unfold xA at e
  cases h1:mK nt h with
  | none=>rw [h1] at e; cases e
  | some x=>
   rw [h1] at e
   simp only at e
   split at e
   ·rename_i hx
    cases e
    subst hx
    exact ⟨i,Nat.le_refl _,by omega,by simp,C,h1⟩
   ·obtain ⟨j,a1,a2,a3,a4,a5⟩:=O9 (.succ C h1) e
    exact ⟨j,by omega,by omega,by omega,a4,a5⟩
theorem Pa {h:List (List Int)} {r:Int} (e:EG nt=some (h,r)):∃ j:Nat,j<300∧r=(j:Int)+1∧zQ nt j h∧mK nt h=some h:=by
 obtain ⟨j,-,a2,a3,a4,a5⟩:=O9 .zero e
 exact ⟨j,by omega,by omega,a4,a5⟩
theorem Yu {h:List (List Int)} {r:Int} (e:EG nt=some (h,r)):h.length=nt.2.length:=by
 obtain ⟨j,-,-,-,e2⟩:=Pa e
 have:=(IM e2).2
 rw [this]; simp
theorem Yv {h:List (List Int)} {r:Int} (e:EG nt=some (h,r)) {j:Nat} (hj:j<nt.2.length):bG (bg h j)=true:=by
 obtain ⟨i,-,-,-,e2⟩:=Pa e
 obtain ⟨ok,e3⟩:=IM e2
 rw [e3,O7 hj]
 exact O6 ok hj
variable {g:State→Nat→Bool} {s0 s:State} {m:Nat→Nat} {h:Nat→List Int}
end
end Go.AmT
namespace Go.AmT
noncomputable section
open Go Go.Am Go.Proofs
set_option linter.unusedVariables false
set_option maxRecDepth 100000
def vB.f (n:Nat) (a0:List (List Int)) (a1:List (List Int)) (a2:(Unit)):Option (Bool×Unit):=br (!decide ((a0.length:Int)=(a1.length:Int))) (some (false,())) (iter (α:=(Int×Unit)) n (fun lA x6=>br (decide (x6.1<(a0.length:Int))) (ab (0≤x6.1∧x6.1<(a0.length:Int)) (ab (0≤x6.1∧x6.1<(a1.length:Int)) ((np.f n (a0.getD x6.1.toNat []) (a1.getD x6.1.toNat [])).bind fun r8=>br (!r8.1) (some (false,())) (lA ((ag (x6.1+1)),()))))) (some (true,()))) (0,()))
def vB.ae (n:Nat):ar:=⟨[.val (.sl IS),.val (.sl IS),.gB 86 []],[.val .bool],fun x=>vB.f n x.1 x.2.1 x.2.2.1⟩
theorem vB.ok (n:Nat):aN 211 (vB.ae n):=aQ n [(6,⟨[(17,.int .i64)],[],[1,2,15,16],[]⟩)] [] (ak (np.ok n) aC) aD Tryz.func211
def vC.f (n:Nat) (a0:List (List Int)) (a1:List (List Int)):Option (Bool×Unit):=(vB.f n a0 a1 ()).bind fun r1=>some (r1.1,())
def vC.ae (n:Nat):ar:=⟨[.val (.sl IS),.val (.sl IS)],[.val .bool],fun x=>vC.f n x.1 x.2.1⟩
theorem vC.ok (n:Nat):aN 177 (vC.ae n):=aQ n [] [] (ak (vB.ok n) aC) aD Tryz.func177
def vD.f (n:Nat) (a0:ai) (a1:List (List Int)) (a2:Int):Option ((List (List Int))×Unit):=ab (0≤a2∧a2<(a0.1.length:Int)) (let v1:=(a0.1.getD a2.toNat bp); ab (v1.1=v1.1∧0≤v1.1∧v1.1*(24:Int)≤(aW:Int)) (iter (α:=(Int×(List (List Int))×Unit)) n (fun qJ x9=>br (decide (x9.1<(a0.2.length:Int))) (ab (0≤x9.1∧x9.1<(a0.2.length:Int)) (let v11:=(a0.2.getD x9.1.toNat aM); br (decide (v11.2.2.1=a2)) (ab (0≤x9.1∧x9.1<(a1.length:Int)) (ab (0≤v11.2.2.2.1∧v11.2.2.2.1<(x9.2.1.length:Int)) (let v12:=(x9.2.1.set v11.2.2.2.1.toNat (a1.getD x9.1.toNat [])); qJ ((ag (x9.1+1)),(v12,()))))) (qJ ((ag (x9.1+1)),(x9.2.1,()))))) (some (x9.2.1,()))) (0,((List.replicate v1.1.toNat ([]:List Int)),()))))
def vD.ae (n:Nat):ar:=⟨[.val cD,.val (.sl IS),.val I],[.sh (.sl IS)],fun x=>vD.f n x.1 x.2.1 x.2.2.1⟩
theorem vD.ok (n:Nat):aN 210 (vD.ae n):=aQ n [(4,⟨[(7,.own 1000 IS),(20,.int .i64)],[(1000,.row false IS)],[1,2,18,19],[]⟩)] [28] aC aD Tryz.func210
def nI.la:LA:=⟨[(0,.agg [.int .i64,.int .i64,.sh df]),(1,.aJ 0 0),(2,.int .i64)],[(0,.cells [false,false] [.int .i64,.own 1 I]),(1,.row true I)],[],[]⟩
def nI.lb:LA:=⟨[(0,.int .i64)],[(0,.cells [false,false] [.int .i64,.own 1 I]),(1,.row true I)],[],[]⟩
def nI.f (n:Nat) (a0:Int) (a1:Int) (a2:List Instr) (a3:Int) (a4:Int) (a5:List Int):Option (Int×(Int×(List Int)×Unit)):=ab (0≤a4∧a4<(a2.length:Int)) (let v1:=(a2.getD a4.toNat je); br (decide (v1.1=1)) (ab (0≤v1.2.1∧v1.2.1<(a5.length:Int)) (some (0,((ag (a4+1)),((a5.set v1.2.1.toNat a3),()))))) (br (decide (v1.1=2)) (ab (0≤v1.2.1∧v1.2.1<(a5.length:Int)) (some ((a5.getD v1.2.1.toNat 0),((ag (a4+1)),(a5,()))))) (br (decide (v1.1=3)) (ab (0≤v1.2.1∧v1.2.1<(a5.length:Int)) (let v2:=(a5.set v1.2.1.toNat v1.2.2.1); some (0,((ag (a4+1)),(v2,()))))) (br (decide (v1.1=4)) (ab (0≤v1.2.2.1∧v1.2.2.1<(a5.length:Int)) (ab (0≤v1.2.2.2∧v1.2.2.2<(a5.length:Int)) ((mB.f n (ag ((a5.getD v1.2.2.1.toNat 0)+(a5.getD v1.2.2.2.toNat 0)))).bind fun r3=>ab (0≤v1.2.1∧v1.2.1<(a5.length:Int)) (let v4:=(a5.set v1.2.1.toNat r3.1); some (0,((ag (a4+1)),(v4,()))))))) (br (decide (v1.1=5)) (ab (0≤v1.2.2.1∧v1.2.2.1<(a5.length:Int)) (ab (0≤v1.2.2.2∧v1.2.2.2<(a5.length:Int)) ((mB.f n (ag ((a5.getD v1.2.2.1.toNat 0)-(a5.getD v1.2.2.2.toNat 0)))).bind fun r5=>ab (0≤v1.2.1∧v1.2.1<(a5.length:Int)) (let v6:=(a5.set v1.2.1.toNat r5.1); some (0,((ag (a4+1)),(v6,()))))))) (br (decide (v1.1=6)) (ab (0≤v1.2.2.1∧v1.2.2.1<(a5.length:Int)) (ab (0≤v1.2.2.2∧v1.2.2.2<(a5.length:Int)) ((mB.f n (ag ((a5.getD v1.2.2.1.toNat 0)*(a5.getD v1.2.2.2.toNat 0)))).bind fun r7=>ab (0≤v1.2.1∧v1.2.1<(a5.length:Int)) (let v8:=(a5.set v1.2.1.toNat r7.1); some (0,((ag (a4+1)),(v8,()))))))) (br (decide (v1.1=7)) (ab (0≤v1.2.2.1∧v1.2.2.1<(a5.length:Int)) (ab (0≤v1.2.2.2∧v1.2.2.2<(a5.length:Int)) ((qP.f n (a5.getD v1.2.2.1.toNat 0) (a5.getD v1.2.2.2.toNat 0)).bind fun r9=>ab (0≤v1.2.1∧v1.2.1<(a5.length:Int)) (let v10:=(a5.set v1.2.1.toNat r9.1); some (0,((ag (a4+1)),(v10,()))))))) (br (decide (v1.1=8)) (some (0,(v1.2.2.1,(a5,())))) (br (decide (v1.1=9)) (ab (0≤v1.2.1∧v1.2.1<(a5.length:Int)) (br (decide ((a5.getD v1.2.1.toNat 0)=0)) (some (0,(v1.2.2.1,(a5,())))) (some (0,((ag (a4+1)),(a5,())))))) (br (decide (v1.1=10)) (ab (0≤v1.2.1∧v1.2.1<(a5.length:Int)) (br (decide ((a5.getD v1.2.1.toNat 0)<0)) (some (0,(v1.2.2.1,(a5,())))) (some (0,((ag (a4+1)),(a5,())))))) (some (0,((ag (a4+1)),(a5,()))))))))))))))
def nI.ae (n:Nat):bS:=⟨nI.la,nI.lb,fun x=>nI.f n x.1 x.2.1 x.2.2.1 x.2.2.2.1 x.2.2.2.2.1 x.2.2.2.2.2.1⟩
theorem nI.ok (n:Nat):eP 142 (nI.ae n):=fm n [] [] (ak (mB.ok n) (ak (qP.ok n) aC)) aD Tryz.func142
def alone.f (n:Nat) (a0:Program) (a1:List (List Int)) (a2:Int):Option ((List (List Int))×(List Int)×(Int×(Int×Unit))):=(qV.f n a0).bind fun r1=>ab (a0.2.1=a0.2.1∧0≤a0.2.1∧a0.2.1*(24:Int)≤(aW:Int)) (ab (a0.1=a0.1∧0≤a0.1∧a0.1*(8:Int)≤(aW:Int)) (iter (α:=(Int×(Int×(List Int)×(List (List Int))×(List Int)×Unit))) n (fun zy cz=>(want.f n a0 (cz.2.1,cz.2.2.1)).bind fun cN=>cut (α:=(Bool×Unit)) (br (decide (cN.1=0)) (some (.inr (true,()))) (br (decide (cN.1=2)) (ab (0≤cN.2.1∧cN.2.1<(cz.2.2.2.2.1.length:Int)) (ab (0≤cN.2.1∧cN.2.1<(a1.length:Int)) (let v30:=(a1.getD cN.2.1.toNat []); br (decide ((cz.2.2.2.2.1.getD cN.2.1.toNat 0)=(v30.length:Int))) (some (.inr (true,()))) (br (decide (cN.1=3)) (ab (0≤cN.2.1∧cN.2.1<(cz.2.2.2.1.length:Int)) (some (.inr ((decide (((cz.2.2.2.1.getD cN.2.1.toNat []).length:Int)=400)),())))) (some (.inr (false,()))))))) (br (decide (cN.1=3)) (ab (0≤cN.2.1∧cN.2.1<(cz.2.2.2.1.length:Int)) (some (.inr ((decide (((cz.2.2.2.1.getD cN.2.1.toNat []).length:Int)=400)),())))) (some (.inr (false,())))))) fun Yw=>br Yw.1 (some (cz.2.2.2.1,(cz.2.2.2.2.1,(cN.1,(cN.2.1,()))))) (br (decide (cz.1=a2)) (some (cz.2.2.2.1,(cz.2.2.2.2.1,(1,(0,()))))) (cut (α:=(Int×(List Int)×Unit)) (br (decide (cN.1=2)) (ab (0≤cN.2.1∧cN.2.1<(a1.length:Int)) (let fQ:=(a1.getD cN.2.1.toNat []); ab (0≤cN.2.1∧cN.2.1<(cz.2.2.2.2.1.length:Int)) (ab (0≤(cz.2.2.2.2.1.getD cN.2.1.toNat 0)∧(cz.2.2.2.2.1.getD cN.2.1.toNat 0)<(fQ.length:Int)) (let IK:=(fQ.getD (cz.2.2.2.2.1.getD cN.2.1.toNat 0).toNat 0); ab (0≤cN.2.1∧cN.2.1<(cz.2.2.2.2.1.length:Int)) (ab (0≤cN.2.1∧cN.2.1<(cz.2.2.2.2.1.length:Int)) (let v37:=(cz.2.2.2.2.1.set cN.2.1.toNat (ag ((cz.2.2.2.2.1.getD cN.2.1.toNat 0)+1))); some (.inr (IK,(v37,()))))))))) (some (.inr (0,(cz.2.2.2.2.1,()))))) fun Cd=>(nI.f n a0.1 a0.2.1 a0.2.2 Cd.1 cz.2.1 cz.2.2.1).bind fun jY=>br (decide (cN.1=3)) (ab (0≤cN.2.1∧cN.2.1<(cz.2.2.2.1.length:Int)) (ab (((cz.2.2.2.1.getD cN.2.1.toNat []).length+([jY.1]:List Int).length)*8≤aW) (ab (0≤cN.2.1∧cN.2.1<(cz.2.2.2.1.length:Int)) (ab (cN.2.1.toNat=cN.2.1.toNat) (let pU:=(cz.2.2.2.1.set cN.2.1.toNat ((cz.2.2.2.1.getD cN.2.1.toNat [])++[jY.1])); zy ((ag (cz.1+1)),(jY.2.1,(jY.2.2.1,(pU,(Cd.2.1,())))))))))) (zy ((ag (cz.1+1)),(jY.2.1,(jY.2.2.1,(cz.2.2.2.1,(Cd.2.1,()))))))))) (0,(r1.1.1,(r1.1.2,((List.replicate a0.2.1.toNat ([]:List Int)),((List.replicate a0.1.toNat (0:Int)),())))))))
def alone.ae (n:Nat):ar:=⟨[.val bn,.val (.sl IS),.val I],[.val (.sl IS),.val IS,.val I,.val I],fun x=>alone.f n x.1 x.2.1 x.2.2.1⟩
theorem alone.ok (n:Nat):aN 209 (alone.ae n):=aQ n [(4,⟨[(10,.aJ 1000 0),(11,.own 1002 IS),(12,.own 1003 I),(13,.int .i64)],[(1000,.cells [] [.int .i64,.own 1001 I]),(1001,.row true I),(1002,.row true IS),(1003,.row true I)],[1,2,3],[]⟩),(7,⟨[(63,.bool)],[],[1,2,3,10,11,12,13,14,15],[]⟩),(15,⟨[(12,.own 1000 I),(16,.int .i64)],[(1000,.row true I)],[1,2,3,10,11,13,14,15],[]⟩)] [] (ak (qV.ok n) (ak (want.ok n) aC)) (bA (nI.ok n) aD) Tryz.func209
def vE.f (n:Nat) (a0:ai) (a1:List (List Int)):Option ((List (List Int))×(Bool×Unit)):=iter (α:=(Int×(List (List (List Int)))×Unit)) n (fun Yx oN=>br (decide (oN.1<(a0.1.length:Int))) (ab (0≤oN.1∧oN.1<(a0.1.length:Int)) (let v20:=(a0.1.getD oN.1.toNat bp); (vD.f n a0 a1 oN.1).bind fun fa=>(alone.f n v20 fa.1 3000).bind fun fq=>cut (α:=(Bool×Unit)) (br (decide (fq.2.2.1=1)) (some (.inr (true,()))) (some (.inr ((decide (fq.2.2.1=3)),())))) fun xh=>br xh.1 (some ([],(false,()))) (ab ((oN.2.1.length+([fq.1]:List (List (List Int))).length)*24≤aW) (Yx ((ag (oN.1+1)),((oN.2.1++[fq.1]),())))))) (iter (α:=(Int×(List (List Int))×Unit)) n (fun HP ei=>br (decide (ei.1<(a0.2.length:Int))) (ab (0≤ei.1∧ei.1<(a0.2.length:Int)) (let fQ:=(a0.2.getD ei.1.toNat aM); (cd.f n fQ.2.2.2.2).bind fun oF=>cut (α:=((List Int)×Unit)) (br (decide (0≤fQ.1)) (ab (0≤fQ.1∧fQ.1<(oN.2.1.length:Int)) (ab (0≤fQ.2.1∧fQ.2.1<((oN.2.1.getD fQ.1.toNat []).length:Int)) (ab ((oF.1.length+((oN.2.1.getD fQ.1.toNat []).getD fQ.2.1.toNat []).length)*8≤aW) (some (.inr ((oF.1++((oN.2.1.getD fQ.1.toNat []).getD fQ.2.1.toNat [])),())))))) (some (.inr (oF.1,())))) fun IN=>(dG.f n IN.1).bind fun jY=>br (!jY.1) (some ([],(false,()))) (ab ((ei.2.1.length+([IN.1]:List (List Int)).length)*24≤aW) (HP ((ag (ei.1+1)),((ei.2.1++[IN.1]),())))))) (some (ei.2.1,(true,())))) (0,([],())))) (0,([],()))
def vE.ae (n:Nat):ar:=⟨[.val cD,.val (.sl IS)],[.val (.sl IS),.val .bool],fun x=>vE.f n x.1 x.2.1⟩
theorem vE.ok (n:Nat):aN 176 (vE.ae n):=aQ n [(4,⟨[(6,.own 1000 (.sl IS)),(21,.int .i64)],[(1000,.row true (.sl IS))],[1,2,19,20],[]⟩),(10,⟨[(42,.bool)],[],[1,2,6,9,19,20,21],[]⟩),(18,⟨[(13,.own 1000 IS),(52,.int .i64)],[(1000,.row true IS)],[6,50,51],[]⟩),(25,⟨[(16,.own 1000 I)],[(1000,.row true I)],[6,13,50,51,52],[]⟩)] [] (ak (vD.ok n) (ak (alone.ok n) (ak ⟨cd.sound n,cd.az⟩ (ak ⟨dG.sound n,dG.az⟩ aC)))) aD Tryz.func176
def tr.f (n:Nat) (a0:ai):Option ((List (List Int))×(Int×(Bool×Unit))):=(dq.f n a0).bind fun r1=>br (!r1.1) (some ([],(0,(false,())))) (iter (α:=(Int×(List (List Int))×Unit)) n (fun Hx mj=>br (decide (mj.1<(a0.2.length:Int))) (ab (0≤mj.1∧mj.1<(a0.2.length:Int)) (let sD:=(a0.2.getD mj.1.toNat aM); (cd.f n sD.2.2.2.2).bind fun fN=>ab ((mj.2.1.length+([fN.1]:List (List Int)).length)*24≤aW) (Hx ((ag (mj.1+1)),((mj.2.1++[fN.1]),()))))) (iter (α:=(Int×(List (List Int))×Unit)) n (fun uL cj=>br (decide (cj.1≤300)) ((vE.f n a0 cj.2.1).bind fun eS=>br (!eS.2.1) (some ([],(0,(false,())))) ((vC.f n eS.1 cj.2.1).bind fun iC=>br iC.1 (some (cj.2.1,(cj.1,(true,())))) (uL ((ag (cj.1+1)),(eS.1,()))))) (some ([],(0,(false,()))))) (1,(mj.2.1,())))) (0,([],())))
def tr.ae (n:Nat):ar:=⟨[.val cD],[.val (.sl IS),.val I,.val .bool],fun x=>tr.f n x.1⟩
theorem tr.ok (n:Nat):aN 131 (tr.ae n):=aQ n [(7,⟨[(5,.own 1000 IS),(18,.int .i64)],[(1000,.row true IS)],[1,16,17],[]⟩),(16,⟨[(5,.own 1000 IS),(8,.int .i64)],[(1000,.row true IS)],[1],[]⟩)] [] (ak ⟨dq.sound n,dq.az⟩ (ak ⟨cd.sound n,cd.az⟩ (ak (vE.ok n) (ak (vC.ok n) aC)))) aD Tryz.func131
end
end Go.AmT
