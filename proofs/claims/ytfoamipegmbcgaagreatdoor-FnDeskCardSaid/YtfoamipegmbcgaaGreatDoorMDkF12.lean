/- How far processes have come, in plain Lean: what a process does hangs on what it reads alone. -/
import Derived.Test.YtfoamipegmbcgaaGreatDoorMDkF4
import Derived.Test.YtfoamipegmbcgaaGreatDoorMDkF7
import Derived.Test.YtfoamipegmbcgaaGreatDoorMDkF11
namespace Go.AmT
open Go Go.Am
set_option linter.unusedVariables false
set_option linter.unusedSimpArgs false
abbrev Lc:Type:=Actor×(Nat→List Int)×(Nat→Nat)
def upd {α:Type} (f:Nat→α) (b:Nat) (x:α):Nat→α:=fun c=>if c=b then x else f c
theorem upd_same {α:Type} {f:Nat→α} {b:Nat} {x:α} : upd f b x b=x:=by simp [upd]
theorem upd_ne {α:Type} {f:Nat→α} {b c:Nat} {x:α} (h:c≠b):upd f b x c=f c:=by simp [upd,h]
def lstep (p:Program) (I:Nat→List Int) (c:Lc):Option Lc:=
 if (wantP p c.1).1=0 then none
 else if (wantP p c.1).1=2 then
  if c.2.2 (wantP p c.1).2.toNat<(I (wantP p c.1).2.toNat).length then some (stepA p c.1 ((I (wantP p c.1).2.toNat).getD (c.2.2 (wantP p c.1).2.toNat) 0),c.2.1,upd c.2.2 (wantP p c.1).2.toNat (c.2.2 (wantP p c.1).2.toNat+1)) else none
 else if (wantP p c.1).1=3 then some (stepA p c.1 0,upd c.2.1 (wantP p c.1).2.toNat (c.2.1 (wantP p c.1).2.toNat++[outP (instrP p c.1) c.1]),c.2.2)
 else some (stepA p c.1 0,c.2.1,c.2.2)
def lrun (p:Program) (I:Nat→List Int):Nat→Lc→Option Lc
 | 0,c=>some c
 | m+1,c=>(lrun p I m c).bind (lstep p I)
def Sub (I I':Nat→List Int):Prop:=∀ b,I b <+: I' b
theorem Sub.refl (I:Nat→List Int):Sub I I:=fun _=>List.prefix_rfl
theorem Sub.trans {I J K:Nat→List Int} (h:Sub I J) (h':Sub J K):Sub I K:=fun b=>(h b).trans (h' b)
theorem lstep_mono {p:Program} {I I':Nat→List Int} {c d:Lc} (h:Sub I I') (e:lstep p I c=some d):lstep p I' c=some d:=by
 unfold lstep at e ⊢
 split at e
 ·cases e
 ·rename_i h0
  rw [if_neg h0]
  split at e
  ·rename_i h2
   rw [if_pos h2]
   split at e
   ·rename_i hlt
    obtain ⟨h1,h3⟩:=prefix_getD.1 (h (wantP p c.1).2.toNat)
    rw [if_pos (Nat.lt_of_lt_of_le hlt h1),h3 _ hlt]
    exact e
   ·cases e
  ·rename_i h2
   rw [if_neg h2]; exact e
theorem lrun_mono {p:Program} {I I':Nat→List Int} (h:Sub I I'):∀ {m:Nat} {c d:Lc},lrun p I m c=some d→lrun p I' m c=some d
 | 0,c,d,e=>e
 | m+1,c,d,e=>by
  unfold lrun at e ⊢
  obtain ⟨x,e1,e2⟩:=Option.bind_eq_some_iff.1 e
  rw [lrun_mono h e1]
  exact lstep_mono h e2
def lnk (nt:Network) (j:Nat):Link:=nt.2.getD j zLink
def toks (nt:Network) (j:Nat):List Int:=(lnk nt j).2.2.2.2
def queue (s:State) (j:Nat):List Int:=s.2.1.getD j []
def sent (s:State) (j:Nat):List Int:=s.2.2.1.getD j []
def used (s:State) (j:Nat):Nat:=(sent s j).length-(queue s j).length
def lto (nt:Network) (k b:Nat):Nat:=(onlyIx (isTo (k:Int) (b:Int)) nt.2).toNat
def lfr (nt:Network) (k b:Nat):Nat:=(onlyIx (isFrom (k:Int) (b:Int)) nt.2).toNat
theorem lto_spec {nt:Network} (o:OkN nt) {k b:Nat} (hk:k<nt.1.length) (hb:(b:Int)<(prog nt k).1) :
  lto nt k b<nt.2.length∧(lnk nt (lto nt k b)).2.2.1=(k:Int)∧(lnk nt (lto nt k b)).2.2.2.1=(b:Int):=by
 unfold prog at hb
 rw [getD_lt hk] at hb
 obtain ⟨j,hj,hf,e⟩:=onlyIx_ex (o.ins k hk b hb)
 unfold isTo at hf
 simp only [Bool.and_eq_true,decide_eq_true_eq] at hf
 have e2:lto nt k b=j:=by unfold lto; rw [e]; rfl
 rw [e2]
 unfold lnk
 rw [getD_lt hj]
 exact ⟨hj,hf⟩
theorem lfr_spec {nt:Network} (o:OkN nt) {k b:Nat} (hk:k<nt.1.length) (hb:(b:Int)<(prog nt k).2.1) :
  lfr nt k b<nt.2.length∧(lnk nt (lfr nt k b)).1=(k:Int)∧(lnk nt (lfr nt k b)).2.1=(b:Int):=by
 unfold prog at hb
 rw [getD_lt hk] at hb
 obtain ⟨j,hj,hf,e⟩:=onlyIx_ex (o.outs k hk b hb)
 unfold isFrom at hf
 simp only [Bool.and_eq_true,decide_eq_true_eq] at hf
 have e2:lfr nt k b=j:=by unfold lfr; rw [e]; rfl
 rw [e2]
 unfold lnk
 rw [getD_lt hj]
 exact ⟨hj,hf⟩
theorem lto_uniq {nt:Network} (o:OkN nt) {j k b:Nat} (hj:j<nt.2.length) (hk:k<nt.1.length) (hb:(b:Int)<(prog nt k).1) (h1:(lnk nt j).2.2.1=(k:Int)) (h2:(lnk nt j).2.2.2.1=(b:Int)):lto nt k b=j:=by
 unfold prog at hb
 rw [getD_lt hk] at hb
 unfold lnk at h1 h2
 rw [getD_lt hj] at h1 h2
 unfold lto
 rw [onlyIx_at hj (o.ins k hk b hb) (by simp [isTo,h1,h2])]; rfl
def inF (nt:Network) (h:Nat→List Int) (k:Nat):Nat→List Int:=fun b=>if (b:Int)<(prog nt k).1 then h (lto nt k b) else []
def outF (nt:Network) (h:Nat→List Int) (k:Nat):Nat→List Int:=fun b=>if (b:Int)<(prog nt k).2.1 then (h (lfr nt k b)).drop (toks nt (lfr nt k b)).length else []
def useF (nt:Network) (u:Nat→Nat) (k:Nat):Nat→Nat:=fun b=>if (b:Int)<(prog nt k).1 then u (lto nt k b) else 0
def lc (nt:Network) (s:State) (k:Nat):Lc:=(actor s k,outF nt (sent s) k,useF nt (used s) k)
theorem inF_mono {nt:Network} {h h':Nat→List Int} {k:Nat} (S:Sub h h'):Sub (inF nt h k) (inF nt h' k):=by
 intro b
 unfold inF
 split
 ·exact S _
 ·exact List.prefix_rfl
theorem step_actor {nt:Network} {s:State} {k:Nat} (hk:k<s.1.length) (j:Nat):actor (stepP nt s k) j=if j=k then stepA (prog nt k) (actor s k) (tokenOf nt s k) else actor s j:=by
 show (s.1.set k _).getD j zActor=_
 by_cases h:j=k
 ·subst h; rw [getD_set_same hk,if_pos rfl]
 ·rw [getD_set_ne (Ne.symm h),if_neg h]; rfl
theorem step_sent {nt:Network} {s:State} {k:Nat} (o:OkSt nt s) (hk:k<nt.1.length) (j:Nat):sent (stepP nt s k) j=if (wantOf nt s k).1=3∧j=(linkOf nt s k).toNat then sent s j++[outOf nt s k] else sent s j:=by
 show (if (wantOf nt s k).1=3 then s.2.2.1.set (linkOf nt s k).toNat (s.2.2.1.getD (linkOf nt s k).toNat []++[outOf nt s k]) else s.2.2.1).getD j []=_
 by_cases c3:(wantOf nt s k).1=3
 ·obtain ⟨l,hl,e,-⟩:=linkOf_from o hk c3
  rw [if_pos c3,e,Int.toNat_natCast]
  by_cases hj:j=l
  ·subst hj; rw [getD_set_same (by rw [o.ns]; exact hl),if_pos ⟨c3,rfl⟩]; rfl
  ·rw [getD_set_ne (Ne.symm hj),if_neg (fun h=>hj h.2)]; rfl
 ·rw [if_neg c3,if_neg (fun h=>c3 h.1)]; rfl
theorem step_used {nt:Network} {s:State} {k:Nat} (o:OkSt nt s) (hk:k<nt.1.length) (hc:canP nt s k=true) (j:Nat):used (stepP nt s k) j=if (wantOf nt s k).1=2∧j=(linkOf nt s k).toNat then used s j+1 else used s j:=by
 have hs:=step_sent o hk j
 have hq:=o.nq
 obtain ⟨w0,w20,w2,w3⟩:=canP_facts hc
 have hqe:queue (stepP nt s k) j=if (wantOf nt s k).1=2∧j=(linkOf nt s k).toNat then (queue s j).drop 1 else if (wantOf nt s k).1=3∧j=(linkOf nt s k).toNat then queue s j++[outOf nt s k] else queue s j:=by
  show (if (wantOf nt s k).1=2 then s.2.1.set (linkOf nt s k).toNat ((s.2.1.getD (linkOf nt s k).toNat []).drop 1) else if (wantOf nt s k).1=3 then s.2.1.set (linkOf nt s k).toNat (s.2.1.getD (linkOf nt s k).toNat []++[outOf nt s k]) else s.2.1).getD j []=_
  by_cases c2:(wantOf nt s k).1=2
  ·obtain ⟨l,hl,e,-⟩:=linkOf_to o hk c2
   rw [if_pos c2,e,Int.toNat_natCast]
   by_cases hj:j=l
   ·subst hj; rw [getD_set_same (by omega),if_pos ⟨c2,rfl⟩]; rfl
   ·rw [getD_set_ne (Ne.symm hj),if_neg (fun h=>hj h.2),if_neg (fun h=>hj h.2)]; rfl
  ·rw [if_neg c2]
   by_cases c3:(wantOf nt s k).1=3
   ·obtain ⟨l,hl,e,-⟩:=linkOf_from o hk c3
    rw [if_pos c3,e,Int.toNat_natCast]
    by_cases hj:j=l
    ·subst hj; rw [getD_set_same (by omega),if_neg (fun h=>c2 h.1),if_pos ⟨c3,rfl⟩]; rfl
    ·rw [getD_set_ne (Ne.symm hj),if_neg (fun h=>hj h.2),if_neg (fun h=>hj h.2)]; rfl
   ·rw [if_neg c3,if_neg (fun h=>c2 h.1),if_neg (fun h=>c3 h.1)]; rfl
 unfold used
 rw [hs,hqe]
 by_cases hj:j=(linkOf nt s k).toNat
 ·by_cases c2:(wantOf nt s k).1=2
  ·have hlen:=w2 c2
   obtain ⟨l,hl,e,-⟩:=linkOf_to o hk c2
   have hle:=(o.lnk l hl).suf.length_le
   rw [e,Int.toNat_natCast] at hj
   rw [e,Int.toNat_natCast] at hlen
   subst hj
   rw [if_neg (fun h=>absurd h.1 (by omega)),if_pos ⟨c2,by rw [e]; rfl⟩,if_pos ⟨c2,by rw [e]; rfl⟩,List.length_drop]
   show (sent s j).length-((queue s j).length-1)=_
   have h1:0<(queue s j).length:=hlen
   have h2:(queue s j).length≤(sent s j).length:=hle
   omega
  ·by_cases c3:(wantOf nt s k).1=3
   ·rw [if_pos ⟨c3,hj⟩,if_neg (fun h=>c2 h.1),if_pos ⟨c3,hj⟩,if_neg (fun h=>c2 h.1),List.length_append,List.length_append]
    omega
   ·rw [if_neg (fun h=>c3 h.1),if_neg (fun h=>c2 h.1),if_neg (fun h=>c3 h.1),if_neg (fun h=>c2 h.1)]
 ·rw [if_neg (fun h=>hj h.2),if_neg (fun h=>hj h.2),if_neg (fun h=>hj h.2),if_neg (fun h=>hj h.2)]
theorem sent_grows {nt:Network} {s:State} {k:Nat} (o:OkSt nt s) (hk:k<nt.1.length):Sub (sent s) (sent (stepP nt s k)):=by
 intro j
 rw [step_sent o hk]
 split
 ·exact List.prefix_append _ _
 ·exact List.prefix_rfl
theorem toks_le {nt:Network} {s:State} (o:OkSt nt s) {j:Nat} (hj:j<nt.2.length):toks nt j <+: sent s j:=(o.lnk j hj).pre
theorem queue_suf {nt:Network} {s:State} (o:OkSt nt s) {j:Nat} (hj:j<nt.2.length):queue s j=(sent s j).drop (used s j):=List.suffix_iff_eq_drop.1 (o.lnk j hj).suf
theorem step_own {nt:Network} {s:State} {k:Nat} (o:OkSt nt s) (hk:k<nt.1.length) (hc:canP nt s k=true):lstep (prog nt k) (inF nt (sent s) k) (lc nt s k)=some (lc nt (stepP nt s k) k):=by
 obtain ⟨w0,w20,w2,w3⟩:=canP_facts hc
 obtain ⟨b,eb,hb2,hb3⟩:=port_nat o hk
 have hks:k<s.1.length:=by rw [o.na]; exact hk
 have ep:nt.1[k]=prog nt k:=by unfold prog; rw [getD_lt hk]
 rw [ep] at hb2 hb3
 have hA:=step_actor (nt:=nt) hks k
 rw [if_pos rfl] at hA
 have hw:wantP (prog nt k) (lc nt s k).1=wantOf nt s k:=rfl
 unfold lstep
 rw [hw,eb,Int.toNat_natCast,if_neg w0]
 by_cases c2:(wantOf nt s k).1=2
 ·have hb:=hb2 c2
  obtain ⟨hl,l1,l2⟩:=lto_spec o.net hk hb
  have e:(linkOf nt s k).toNat=lto nt k b:=by unfold linkOf lto; rw [if_pos c2,eb]
  have hlen:=w2 c2
  rw [e] at hlen
  have hlen:0<(queue s (lto nt k b)).length:=hlen
  have hq:=queue_suf o hl
  have hIn:inF nt (sent s) k b=sent s (lto nt k b):=by unfold inF; rw [if_pos hb]
  have hU:(lc nt s k).2.2 b=used s (lto nt k b):=by show useF _ _ _ _=_; unfold useF; rw [if_pos hb]
  have hlt:used s (lto nt k b)<(sent s (lto nt k b)).length:=by
   rw [hq,List.length_drop] at hlen; omega
  have htok:tokenOf nt s k=(sent s (lto nt k b)).getD (used s (lto nt k b)) 0:=by
   unfold tokenOf
   rw [if_pos c2,e]
   show (queue s (lto nt k b)).getD 0 0=_
   rw [hq,List.getD_eq_getElem?_getD,List.getD_eq_getElem?_getD,List.getElem?_drop,Nat.add_zero]
  rw [if_pos c2,hIn,hU,if_pos hlt,← htok]
  have e1:outF nt (sent (stepP nt s k)) k=outF nt (sent s) k:=by
   funext c
   unfold outF
   split
   ·rw [step_sent o hk,if_neg (fun h=>absurd h.1 (by omega))]
   ·rfl
  have e2:useF nt (used (stepP nt s k)) k=upd (useF nt (used s) k) b (used s (lto nt k b)+1):=by
   funext c
   by_cases hcb:c=b
   ·subst hcb
    rw [upd_same]; unfold useF
    rw [if_pos hb,step_used o hk hc,if_pos ⟨c2,e.symm⟩]
   ·rw [upd_ne hcb]; unfold useF
    split
    ·rename_i hcp
     rw [step_used o hk hc,if_neg]
     rintro ⟨-,h⟩
     rw [e] at h
     have:=(lto_spec o.net hk hcp).2.2
     rw [h,l2] at this
     omega
    ·rfl
  unfold lc
  rw [hA,e1,e2]
 ·rw [if_neg c2]
  have htok:tokenOf nt s k=0:=by unfold tokenOf; rw [if_neg c2]
  have e2:useF nt (used (stepP nt s k)) k=useF nt (used s) k:=by
   funext c
   unfold useF
   split
   ·rw [step_used o hk hc,if_neg (fun h=>c2 h.1)]
   ·rfl
  by_cases c3:(wantOf nt s k).1=3
  ·have hb:=hb3 c3
   obtain ⟨hl,l1,l2⟩:=lfr_spec o.net hk hb
   have e:(linkOf nt s k).toNat=lfr nt k b:=by unfold linkOf lfr; rw [if_neg c2,if_pos c3,eb]
   rw [if_pos c3]
   have e1:outF nt (sent (stepP nt s k)) k=upd (outF nt (sent s) k) b (outF nt (sent s) k b++[outOf nt s k]):=by
    funext c
    by_cases hcb:c=b
    ·subst hcb
     rw [upd_same]; unfold outF
     rw [if_pos hb,if_pos hb,step_sent o hk,if_pos ⟨c3,e.symm⟩,List.drop_append_of_le_length (toks_le o hl).length_le]
    ·rw [upd_ne hcb]; unfold outF
     split
     ·rename_i hcp
      rw [step_sent o hk,if_neg]
      rintro ⟨-,h⟩
      rw [e] at h
      have:=(lfr_spec o.net hk hcp).2.2
      rw [h,l2] at this
      omega
     ·rfl
   unfold lc
   rw [hA,e1,e2,htok]; rfl
  ·rw [if_neg c3]
   have e1:outF nt (sent (stepP nt s k)) k=outF nt (sent s) k:=by
    funext c
    unfold outF
    split
    ·rw [step_sent o hk,if_neg (fun h=>c3 h.1)]
    ·rfl
   unfold lc
   rw [hA,e1,e2,htok]
theorem step_other {nt:Network} {s:State} {k j:Nat} (o:OkSt nt s) (hk:k<nt.1.length) (hj:j<nt.1.length) (hc:canP nt s k=true) (hjk:j≠k):lc nt (stepP nt s k) j=lc nt s j:=by
 obtain ⟨b,eb,hb2,hb3⟩:=port_nat o hk
 have hks:k<s.1.length:=by rw [o.na]; exact hk
 have ep:nt.1[k]=prog nt k:=by unfold prog; rw [getD_lt hk]
 rw [ep] at hb2 hb3
 have hA:=step_actor (nt:=nt) hks j
 rw [if_neg hjk] at hA
 have e1:outF nt (sent (stepP nt s k)) j=outF nt (sent s) j:=by
  funext c
  unfold outF
  split
  ·rename_i hcp
   rw [step_sent o hk,if_neg]
   rintro ⟨c3,h⟩
   have e:(linkOf nt s k).toNat=lfr nt k b:=by unfold linkOf lfr; rw [if_neg (by omega),if_pos c3,eb]
   rw [e] at h
   have h1:=(lfr_spec o.net hj hcp).2.1
   rw [h,(lfr_spec o.net hk (hb3 c3)).2.1] at h1
   omega
  ·rfl
 have e2:useF nt (used (stepP nt s k)) j=useF nt (used s) j:=by
  funext c
  unfold useF
  split
  ·rename_i hcp
   rw [step_used o hk hc,if_neg]
   rintro ⟨c2,h⟩
   have e:(linkOf nt s k).toNat=lto nt k b:=by unfold linkOf lto; rw [if_pos c2,eb]
   rw [e] at h
   have h1:=(lto_spec o.net hj hcp).2.1
   rw [h,(lto_spec o.net hk (hb2 c2)).2.1] at h1
   omega
  ·rfl
 unfold lc
 rw [hA,e1,e2]
end Go.AmT
namespace Go.AmT
open Go Go.Am
set_option linter.unusedVariables false
set_option linter.unusedSimpArgs false
inductive Steps (nt:Network) (g:State→Nat→Bool) (s0:State):State→(Nat→Nat)→Prop
 | refl:Steps nt g s0 s0 (fun _=>0)
 | step {s:State} {m:Nat→Nat} {k:Nat} : Steps nt g s0 s m→k<nt.1.length→g s k=true→canP nt s k=true→Steps nt g s0 (stepP nt s k) (upd m k (m k+1))
section
variable {nt:Network} {g:State→Nat→Bool} {s0 s t:State} {m mt:Nat→Nat}
theorem Steps.ok (o:OkSt nt s0) (S:Steps nt g s0 s m):OkSt nt s:=by
 induction S with
 | refl=>exact o
 | step _ hk _ hc ih=>exact stepP_ok ih hk hc
theorem Steps.run (o:OkSt nt s0) (S:Steps nt g s0 s m):∀ k,k<nt.1.length→lrun (prog nt k) (inF nt (sent s) k) (m k) (lc nt s0 k)=some (lc nt s k):=by
 induction S with
 | refl=>intro k hk; rfl
 | @step s m k S hk _ hc ih=>
  intro j hj
  have os:=S.ok o
  have hg:=sent_grows os hk
  have h1:=lrun_mono (inF_mono (nt:=nt) (k:=j) hg) (ih j hj)
  by_cases h:j=k
  ·subst h
   rw [upd_same]
   show (lrun _ _ _ _).bind _=_
   rw [h1]
   exact lstep_mono (inF_mono hg) (step_own os hj hc)
  ·rw [upd_ne h,step_other os hk hj hc h]
   exact h1
def total (m:Nat→Nat):Nat→Nat
 | 0=>0
 | K+1=>total m K+m K
theorem total_upd {m:Nat→Nat} {k:Nat} : ∀ {K:Nat},total (upd m k (m k+1)) K=total m K+if k<K then 1 else 0
 | 0=>by simp [total]
 | K+1=>by
  show total _ K+upd m k (m k+1) K=total m K+m K+_
  rw [total_upd]
  by_cases h:K=k
  ·subst h; rw [upd_same]
   simp; omega
  ·rw [upd_ne h]
   by_cases h1:k<K
   ·rw [if_pos h1,if_pos (by omega)]; omega
   ·rw [if_neg h1,if_neg (by omega)]; omega
theorem Steps.count (S:Steps nt g s0 s m):s.2.2.2=s0.2.2.2+(total m nt.1.length:Int):=by
 induction S with
 | refl=>
  have:∀ K,total (fun _=>0) K=0:=by
   intro K
   induction K with
   | zero=>rfl
   | succ K ih=>show total (fun _=>0) K+0=0; omega
  rw [this]; simp
 | @step s m k S hk _ hc ih=>
  rw [total_upd,if_pos hk]
  show s.2.2.2+1=_
  rw [ih]; omega
theorem Steps.mono {g':State→Nat→Bool} (h:∀ s k,g s k=true→g' s k=true) (S:Steps nt g s0 s m):Steps nt g' s0 s m:=by
 induction S with
 | refl=>exact .refl
 | step S hk hg hc ih=>exact .step ih hk (h _ _ hg) hc
theorem Steps.trans (A:Steps nt g s0 s m) (B:Steps nt g s t mt):Steps nt g s0 t (fun k=>m k+mt k):=by
 induction B with
 | refl=>exact A
 | @step u mu k B hk hg hc ih=>
  have:=Steps.step ih hk hg hc
  have e:upd (fun j=>m j+mu j) k ((fun j=>m j+mu j) k+1)=fun j=>m j+upd mu k (mu k+1) j:=by
   funext j
   by_cases h:j=k
   ·subst h; rw [upd_same,upd_same]; simp only; omega
   ·rw [upd_ne h,upd_ne h]
  rw [e] at this
  exact this
end
end Go.AmT
namespace Go.AmT
open Go Go.Am
set_option linter.unusedVariables false
set_option linter.unusedSimpArgs false
def c0:Lc:=(newA,fun _=>[],fun _=>0)
theorem sent_start (nt:Network) (j:Nat):sent (start nt) j=toks nt j:=by
 unfold sent toks lnk start
 rcases Nat.lt_or_ge j nt.2.length with h | h
 ·simp [h]
 ·simp only [List.getD_eq_getElem?_getD,List.getElem?_map,List.getElem?_eq_none h]; rfl
def stopB (p:Program) (I:Nat→List Int) (c:Lc):Bool:=
 decide ((wantP p c.1).1=0)||(decide ((wantP p c.1).1=2)&&decide (c.2.2 (wantP p c.1).2.toNat=(I (wantP p c.1).2.toNat).length))||(decide ((wantP p c.1).1=3)&&decide ((c.2.1 (wantP p c.1).2.toNat).length=400))
def al (p:Program) (I:Nat→List Int):Nat→Lc→Lc×Int×Int
 | 0,c=>if stopB p I c=true then (c,wantP p c.1) else (c,1,0)
 | f+1,c=>if stopB p I c=true then (c,wantP p c.1) else al p I f ((lstep p I c).getD c)
structure Wf (I:Nat→List Int) (c:Lc):Prop where
 rd:∀ b,c.2.2 b≤(I b).length
 wr:∀ b,(c.2.1 b).length≤400
theorem wf_c0 (I:Nat→List Int):Wf I c0:=⟨fun _=>Nat.zero_le _,fun _=>by show ([]:List Int).length≤400; simp⟩
theorem lstep_stop {p:Program} {I:Nat→List Int} {c:Lc} (w:Wf I c) (h:stopB p I c=false):∃ d,lstep p I c=some d∧Wf I d:=by
 unfold stopB at h
 simp only [Bool.or_eq_false_iff,Bool.and_eq_false_iff,decide_eq_false_iff_not] at h
 obtain ⟨⟨h0,h2⟩,h3⟩:=h
 unfold lstep
 rw [if_neg h0]
 by_cases c2:(wantP p c.1).1=2
 ·have h2:¬ c.2.2 (wantP p c.1).2.toNat=(I (wantP p c.1).2.toNat).length:=by
   rcases h2 with h | h
   ·exact absurd c2 h
   ·exact h
  have hlt:c.2.2 (wantP p c.1).2.toNat<(I (wantP p c.1).2.toNat).length:=by have:=w.rd (wantP p c.1).2.toNat; omega
  rw [if_pos c2,if_pos hlt]
  refine ⟨_,rfl,fun b=>?_,w.wr⟩
  show upd _ _ _ b≤_
  by_cases hb:b=(wantP p c.1).2.toNat
  ·subst hb; rw [upd_same]; omega
  ·rw [upd_ne hb]; exact w.rd b
 ·rw [if_neg c2]
  by_cases c3:(wantP p c.1).1=3
  ·have h3:¬ (c.2.1 (wantP p c.1).2.toNat).length=400:=by
    rcases h3 with h | h
    ·exact absurd c3 h
    ·exact h
   rw [if_pos c3]
   refine ⟨_,rfl,w.rd,fun b=>?_⟩
   show List.length (upd _ _ _ b)≤400
   by_cases hb:b=(wantP p c.1).2.toNat
   ·subst hb; rw [upd_same,List.length_append,List.length_singleton]
    have:=w.wr (wantP p c.1).2.toNat; omega
   ·rw [upd_ne hb]; exact w.wr b
  ·rw [if_neg c3]
   exact ⟨_,rfl,w.rd,w.wr⟩
def atL (h:List (List Int)) (j:Nat):List Int:=h.getD j []
def runK (nt:Network) (h:Nat→List Int) (k:Nat):Lc×Int×Int:=al (prog nt k) (inF nt h k) 3000 c0
def newS (nt:Network) (h:Nat→List Int) (j:Nat):List Int:=toks nt j++if 0≤(lnk nt j).1 then (runK nt h (lnk nt j).1.toNat).1.2.1 (lnk nt j).2.1.toNat else []
def rndOk (nt:Network) (h:Nat→List Int):Bool:=((List.range nt.1.length).all fun k=>decide ((runK nt h k).2.1≠1)&&decide ((runK nt h k).2.1≠3))&&(List.range nt.2.length).all fun j=>okS (newS nt h j)
def rndP (nt:Network) (h:List (List Int)):Option (List (List Int)):=if rndOk nt (atL h)=true then some ((List.range nt.2.length).map (newS nt (atL h))) else none
def leastF (nt:Network):Nat→Int→List (List Int)→Option (List (List Int)×Int)
 | 0,_,_=>none
 | m+1,r,h=>match rndP nt h with | none=>none | some g=>if g=h then some (h,r) else leastF nt m (r+1) g
def tokL (nt:Network):List (List Int):=nt.2.map (fun l=>l.2.2.2.2)
def leastP (nt:Network):Option (List (List Int)×Int):=leastF nt 300 1 (tokL nt)
section
variable {nt:Network}
theorem atL_tokL (j:Nat):atL (tokL nt) j=toks nt j:=sent_start nt j
theorem rnd_ok {h:Nat→List Int} (ok:rndOk nt h=true) {j:Nat} (hj:j<nt.2.length):okS (newS nt h j)=true:=by
 unfold rndOk at ok
 simp only [Bool.and_eq_true,List.all_eq_true,List.mem_range,decide_eq_true_eq] at ok
 exact ok.2 j hj
theorem rndP_some {h g:List (List Int)} (e:rndP nt h=some g):rndOk nt (atL h)=true∧g=(List.range nt.2.length).map (newS nt (atL h)):=by
 unfold rndP at e
 split at e
 ·rename_i h1; cases e; exact ⟨h1,rfl⟩
 ·cases e
theorem atL_map {f:Nat→List Int} {L j:Nat} (hj:j<L):atL ((List.range L).map f) j=f j:=by
 unfold atL; simp [hj]
theorem atL_big {f:Nat→List Int} {L j:Nat} (hj:L≤j):atL ((List.range L).map f) j=[]:=by
 unfold atL
 rw [List.getD_eq_getElem?_getD,List.getElem?_eq_none (by simpa using hj)]; rfl
inductive Chain (nt:Network):Nat→List (List Int)→Prop
 | zero:Chain nt 0 (tokL nt)
 | succ {i:Nat} {h g:List (List Int)} : Chain nt i h→rndP nt h=some g→Chain nt (i+1) g
theorem leastF_chain:∀ {m:Nat} {r:Int} {h g:List (List Int)} {r':Int} {i:Nat},Chain nt i h→leastF nt m r h=some (g,r')→∃ j,i≤j∧j<i+m∧r'=r+((j-i:Nat):Int)∧Chain nt j g∧rndP nt g=some g
 | 0,r,h,g,r',i,C,e=>by cases e
 | m+1,r,h,g,r',i,C,e=>by
  unfold leastF at e
  cases h1:rndP nt h with
  | none=>rw [h1] at e; cases e
  | some x=>
   rw [h1] at e
   simp only at e
   split at e
   ·rename_i hx
    cases e
    subst hx
    exact ⟨i,Nat.le_refl _,by omega,by simp,C,h1⟩
   ·obtain ⟨j,a1,a2,a3,a4,a5⟩:=leastF_chain (.succ C h1) e
    exact ⟨j,by omega,by omega,by omega,a4,a5⟩
theorem leastP_chain {h:List (List Int)} {r:Int} (e:leastP nt=some (h,r)):∃ j:Nat,j<300∧r=(j:Int)+1∧Chain nt j h∧rndP nt h=some h:=by
 obtain ⟨j,-,a2,a3,a4,a5⟩:=leastF_chain .zero e
 exact ⟨j,by omega,by omega,a4,a5⟩
theorem least_len {h:List (List Int)} {r:Int} (e:leastP nt=some (h,r)):h.length=nt.2.length:=by
 obtain ⟨j,-,-,-,e2⟩:=leastP_chain e
 have:=(rndP_some e2).2
 rw [this]; simp
theorem least_okS {h:List (List Int)} {r:Int} (e:leastP nt=some (h,r)) {j:Nat} (hj:j<nt.2.length):okS (atL h j)=true:=by
 obtain ⟨i,-,-,-,e2⟩:=leastP_chain e
 obtain ⟨ok,e3⟩:=rndP_some e2
 rw [e3,atL_map hj]
 exact rnd_ok ok hj
variable {g:State→Nat→Bool} {s0 s:State} {m:Nat→Nat} {h:Nat→List Int}
end
end Go.AmT
namespace Go.AmT
open Go Go.Am Go.Proofs
set_option linter.unusedVariables false
set_option maxRecDepth 100000
def tys27:List (Nat×TInfo):=[(3,⟨false,1,8,[.int .i64 0],.int .i64,0,some I,[],false⟩),
 (23,⟨false,1,24,[.nil],.slice,68,some (.sl tProgram),[],false⟩),
 (24,⟨false,1,24,[.nil],.slice,71,some (.sl tLink),[],false⟩),
 (26,⟨true,2,48,[.nil,.nil],.struct,0,some tNetwork,[(0,23),(1,24)],false⟩),
 (29,⟨false,1,24,[.nil],.slice,32,some (.sl IS),[],false⟩),
 (32,⟨false,1,24,[.nil],.slice,3,some IS,[],false⟩),
 (66,⟨false,1,24,[.nil],.slice,122,some (.sl tInstr),[],false⟩),
 (68,⟨true,3,40,[.int .i64 0,.int .i64 0,.nil],.struct,0,some tProgram,[(0,3),(1,3),(2,66)],false⟩),
 (71,⟨true,5,56,[.int .i64 0,.int .i64 0,.int .i64 0,.int .i64 0,.nil],.struct,0,some tLink,[(0,3),(1,3),(2,3),(3,3),(4,32)],false⟩),
 (75,⟨true,2,32,[.int .i64 0,.nil],.struct,0,some tActor,[(0,3),(1,32)],false⟩),
 (122,⟨true,4,32,[.int .i64 0,.int .i64 0,.int .i64 0,.int .i64 0],.struct,0,some tInstr,[(0,3),(1,3),(2,3),(3,3)],false⟩),
 (127,⟨false,1,24,[.nil],.slice,29,some (.sl (.sl IS)),[],false⟩)]
theorem tys27_ok:(tys27.all fun p=>tokB Tryz.prog p.1 p.2)=true:=by kernel_rfl
def eqFuncSS.las:List (Nat×LA):=[(6,⟨[(17,.int .i64)],[],[1,2,15,16],[]⟩)]
noncomputable def eqFuncSS.f (n:Nat) (a0:List (List Int)) (a1:List (List Int)) (a2:(Unit)):Option (Bool×Unit):=br (!decide ((a0.length:Int)=(a1.length:Int))) (some (false,())) (iter (α:=(Int×Unit)) n (fun ih7 x6=>br (decide (x6.1<(a0.length:Int))) (chk (0≤x6.1∧x6.1<(a0.length:Int)) (chk (0≤x6.1∧x6.1<(a1.length:Int)) ((equalI.f n (a0.getD x6.1.toNat []) (a1.getD x6.1.toNat [])).bind fun r8=>br (!r8.1) (some (false,())) (ih7 ((w64 (x6.1+1)),()))))) (some (true,()))) (0,()))
noncomputable def eqFuncSS.mng (n:Nat):Mng:=⟨[.val (.sl IS),.val (.sl IS),.fnc 86 []],[.val .bool],fun x=>eqFuncSS.f n x.1 x.2.1 x.2.2.1⟩
noncomputable def eqFuncSS.cfg (n:Nat):Cfg:=⟨tys27,[(86,equalI.mng n)],[],[]⟩
theorem eqFuncSS.gof:GoF Tryz.prog 211:=⟨_,Tryz.func211,by kernel_rfl,by kernel_rfl⟩
theorem eqFuncSS.sound (n:Nat):Sound Tryz.prog 211 (eqFuncSS.mng n):=sndF (c:=eqFuncSS.cfg n) (n:=n) (an:=annOf Tryz.f211 eqFuncSS.las) ⟨⟨equalI.sound n,equalI.gof⟩,trivial⟩ trivial (tysOK tys27_ok) Tryz.func211 (fun x=>by kernel_rfl)
def equalStreams.las:List (Nat×LA):=[]
noncomputable def equalStreams.f (n:Nat) (a0:List (List Int)) (a1:List (List Int)):Option (Bool×Unit):=(eqFuncSS.f n a0 a1 ()).bind fun r1=>some (r1.1,())
noncomputable def equalStreams.mng (n:Nat):Mng:=⟨[.val (.sl IS),.val (.sl IS)],[.val .bool],fun x=>equalStreams.f n x.1 x.2.1⟩
noncomputable def equalStreams.cfg (n:Nat):Cfg:=⟨tys27,[(211,eqFuncSS.mng n)],[],[]⟩
theorem equalStreams.gof:GoF Tryz.prog 177:=⟨_,Tryz.func177,by kernel_rfl,by kernel_rfl⟩
theorem equalStreams.sound (n:Nat):Sound Tryz.prog 177 (equalStreams.mng n):=sndF (c:=equalStreams.cfg n) (n:=n) (an:=annOf Tryz.f177 equalStreams.las) ⟨⟨eqFuncSS.sound n,eqFuncSS.gof⟩,trivial⟩ trivial (tysOK tys27_ok) Tryz.func177 (fun x=>by kernel_rfl)
def inputsFor.las:List (Nat×LA):=[(4,⟨[(7,.own 1000 IS),(20,.int .i64)],[(1000,.row false IS)],[1,2,18,19],[]⟩)]
noncomputable def inputsFor.f (n:Nat) (a0:Network) (a1:List (List Int)) (a2:Int):Option ((List (List Int))×Unit):=chk (0≤a2∧a2<(a0.1.length:Int)) (let v1:=(a0.1.getD a2.toNat zProgram); chk (v1.1=v1.1∧0≤v1.1∧v1.1*(24:Int)≤(maxB:Int)) (iter (α:=(Int×(List (List Int))×Unit)) n (fun ih10 x9=>br (decide (x9.1<(a0.2.length:Int))) (chk (0≤x9.1∧x9.1<(a0.2.length:Int)) (let v11:=(a0.2.getD x9.1.toNat zLink); br (decide (v11.2.2.1=a2)) (chk (0≤x9.1∧x9.1<(a1.length:Int)) (chk (0≤v11.2.2.2.1∧v11.2.2.2.1<(x9.2.1.length:Int)) (let v12:=(x9.2.1.set v11.2.2.2.1.toNat (a1.getD x9.1.toNat [])); ih10 ((w64 (x9.1+1)),(v12,()))))) (ih10 ((w64 (x9.1+1)),(x9.2.1,()))))) (some (x9.2.1,()))) (0,((List.replicate v1.1.toNat ([]:List Int)),()))))
noncomputable def inputsFor.mng (n:Nat):Mng:=⟨[.val tNetwork,.val (.sl IS),.val I],[.sh (.sl IS)],fun x=>inputsFor.f n x.1 x.2.1 x.2.2.1⟩
noncomputable def inputsFor.cfg (n:Nat):Cfg:=⟨tys27,[],[],[28]⟩
theorem inputsFor.gof:GoF Tryz.prog 210:=⟨_,Tryz.func210,by kernel_rfl,by kernel_rfl⟩
theorem inputsFor.sound (n:Nat):Sound Tryz.prog 210 (inputsFor.mng n):=sndF (c:=inputsFor.cfg n) (n:=n) (an:=annOf Tryz.f210 inputsFor.las) trivial trivial (tysOK tys27_ok) Tryz.func210 (fun x=>by kernel_rfl)
def stepV.las:List (Nat×LA):=[]
def stepV.la:LA:=⟨[(0,.agg [.int .i64,.int .i64,.sh tInstr]),(1,.vptr 0 0),(2,.int .i64)],[(0,.cells [false,false] [.int .i64,.own 1 I]),(1,.row true I)],[],[]⟩
def stepV.lb:LA:=⟨[(0,.int .i64)],[(0,.cells [false,false] [.int .i64,.own 1 I]),(1,.row true I)],[],[]⟩
noncomputable def stepV.f (n:Nat) (a0:Int) (a1:Int) (a2:List Instr) (a3:Int) (a4:Int) (a5:List Int):Option (Int×(Int×(List Int)×Unit)):=chk (0≤a4∧a4<(a2.length:Int)) (let v1:=(a2.getD a4.toNat zInstr); br (decide (v1.1=1)) (chk (0≤v1.2.1∧v1.2.1<(a5.length:Int)) (some (0,((w64 (a4+1)),((a5.set v1.2.1.toNat a3),()))))) (br (decide (v1.1=2)) (chk (0≤v1.2.1∧v1.2.1<(a5.length:Int)) (some ((a5.getD v1.2.1.toNat 0),((w64 (a4+1)),(a5,()))))) (br (decide (v1.1=3)) (chk (0≤v1.2.1∧v1.2.1<(a5.length:Int)) (let v2:=(a5.set v1.2.1.toNat v1.2.2.1); some (0,((w64 (a4+1)),(v2,()))))) (br (decide (v1.1=4)) (chk (0≤v1.2.2.1∧v1.2.2.1<(a5.length:Int)) (chk (0≤v1.2.2.2∧v1.2.2.2<(a5.length:Int)) ((iWrap.f n (w64 ((a5.getD v1.2.2.1.toNat 0)+(a5.getD v1.2.2.2.toNat 0)))).bind fun r3=>chk (0≤v1.2.1∧v1.2.1<(a5.length:Int)) (let v4:=(a5.set v1.2.1.toNat r3.1); some (0,((w64 (a4+1)),(v4,()))))))) (br (decide (v1.1=5)) (chk (0≤v1.2.2.1∧v1.2.2.1<(a5.length:Int)) (chk (0≤v1.2.2.2∧v1.2.2.2<(a5.length:Int)) ((iWrap.f n (w64 ((a5.getD v1.2.2.1.toNat 0)-(a5.getD v1.2.2.2.toNat 0)))).bind fun r5=>chk (0≤v1.2.1∧v1.2.1<(a5.length:Int)) (let v6:=(a5.set v1.2.1.toNat r5.1); some (0,((w64 (a4+1)),(v6,()))))))) (br (decide (v1.1=6)) (chk (0≤v1.2.2.1∧v1.2.2.1<(a5.length:Int)) (chk (0≤v1.2.2.2∧v1.2.2.2<(a5.length:Int)) ((iWrap.f n (w64 ((a5.getD v1.2.2.1.toNat 0)*(a5.getD v1.2.2.2.toNat 0)))).bind fun r7=>chk (0≤v1.2.1∧v1.2.1<(a5.length:Int)) (let v8:=(a5.set v1.2.1.toNat r7.1); some (0,((w64 (a4+1)),(v8,()))))))) (br (decide (v1.1=7)) (chk (0≤v1.2.2.1∧v1.2.2.1<(a5.length:Int)) (chk (0≤v1.2.2.2∧v1.2.2.2<(a5.length:Int)) ((iRest.f n (a5.getD v1.2.2.1.toNat 0) (a5.getD v1.2.2.2.toNat 0)).bind fun r9=>chk (0≤v1.2.1∧v1.2.1<(a5.length:Int)) (let v10:=(a5.set v1.2.1.toNat r9.1); some (0,((w64 (a4+1)),(v10,()))))))) (br (decide (v1.1=8)) (some (0,(v1.2.2.1,(a5,())))) (br (decide (v1.1=9)) (chk (0≤v1.2.1∧v1.2.1<(a5.length:Int)) (br (decide ((a5.getD v1.2.1.toNat 0)=0)) (some (0,(v1.2.2.1,(a5,())))) (some (0,((w64 (a4+1)),(a5,())))))) (br (decide (v1.1=10)) (chk (0≤v1.2.1∧v1.2.1<(a5.length:Int)) (br (decide ((a5.getD v1.2.1.toNat 0)<0)) (some (0,(v1.2.2.1,(a5,())))) (some (0,((w64 (a4+1)),(a5,())))))) (some (0,((w64 (a4+1)),(a5,()))))))))))))))
noncomputable def stepV.mng (n:Nat):LMng:=⟨stepV.la,stepV.lb,fun x=>stepV.f n x.1 x.2.1 x.2.2.1 x.2.2.2.1 x.2.2.2.2.1 x.2.2.2.2.2.1⟩
noncomputable def stepV.cfg (n:Nat):Cfg:=⟨tys27,[(180,iWrap.mng n),(181,iRest.mng n)],[],[]⟩
theorem stepV.gof:GoF Tryz.prog 142:=⟨_,Tryz.func142,by kernel_rfl,by kernel_rfl⟩
theorem stepV.sound (n:Nat):LSound Tryz.prog 142 (stepV.mng n):=sndL (c:=stepV.cfg n) (n:=n) (an:=annOf Tryz.f142 stepV.las) ⟨⟨iWrap.sound n,iWrap.gof⟩,⟨⟨iRest.sound n,iRest.gof⟩,trivial⟩⟩ trivial (tysOK tys27_ok) Tryz.func142 (fun x=>by kernel_rfl)
def alone.las:List (Nat×LA):=[(4,⟨[(10,.vptr 1000 0),(11,.own 1002 IS),(12,.own 1003 I),(13,.int .i64)],[(1000,.cells [] [.int .i64,.own 1001 I]),(1001,.row true I),(1002,.row true IS),(1003,.row true I)],[1,2,3],[]⟩),(7,⟨[(63,.bool)],[],[1,2,3,10,11,12,13,14,15],[]⟩),(15,⟨[(12,.own 1000 I),(16,.int .i64)],[(1000,.row true I)],[1,2,3,10,11,13,14,15],[]⟩)]
noncomputable def alone.f (n:Nat) (a0:Program) (a1:List (List Int)) (a2:Int):Option ((List (List Int))×(List Int)×(Int×(Int×Unit))):=(iNewActor.f n a0).bind fun r1=>chk (a0.2.1=a0.2.1∧0≤a0.2.1∧a0.2.1*(24:Int)≤(maxB:Int)) (chk (a0.1=a0.1∧0≤a0.1∧a0.1*(8:Int)≤(maxB:Int)) (iter (α:=(Int×(Int×(List Int)×(List (List Int))×(List Int)×Unit))) n (fun ih26 x25=>(want.f n a0 (x25.2.1,x25.2.2.1)).bind fun r27=>cut (α:=(Bool×Unit)) (br (decide (r27.1=0)) (some (.inr (true,()))) (br (decide (r27.1=2)) (chk (0≤r27.2.1∧r27.2.1<(x25.2.2.2.2.1.length:Int)) (chk (0≤r27.2.1∧r27.2.1<(a1.length:Int)) (let v30:=(a1.getD r27.2.1.toNat []); br (decide ((x25.2.2.2.2.1.getD r27.2.1.toNat 0)=(v30.length:Int))) (some (.inr (true,()))) (br (decide (r27.1=3)) (chk (0≤r27.2.1∧r27.2.1<(x25.2.2.2.1.length:Int)) (some (.inr ((decide (((x25.2.2.2.1.getD r27.2.1.toNat []).length:Int)=400)),())))) (some (.inr (false,()))))))) (br (decide (r27.1=3)) (chk (0≤r27.2.1∧r27.2.1<(x25.2.2.2.1.length:Int)) (some (.inr ((decide (((x25.2.2.2.1.getD r27.2.1.toNat []).length:Int)=400)),())))) (some (.inr (false,())))))) fun y29=>br y29.1 (some (x25.2.2.2.1,(x25.2.2.2.2.1,(r27.1,(r27.2.1,()))))) (br (decide (x25.1=a2)) (some (x25.2.2.2.1,(x25.2.2.2.2.1,(1,(0,()))))) (cut (α:=(Int×(List Int)×Unit)) (br (decide (r27.1=2)) (chk (0≤r27.2.1∧r27.2.1<(a1.length:Int)) (let v35:=(a1.getD r27.2.1.toNat []); chk (0≤r27.2.1∧r27.2.1<(x25.2.2.2.2.1.length:Int)) (chk (0≤(x25.2.2.2.2.1.getD r27.2.1.toNat 0)∧(x25.2.2.2.2.1.getD r27.2.1.toNat 0)<(v35.length:Int)) (let v36:=(v35.getD (x25.2.2.2.2.1.getD r27.2.1.toNat 0).toNat 0); chk (0≤r27.2.1∧r27.2.1<(x25.2.2.2.2.1.length:Int)) (chk (0≤r27.2.1∧r27.2.1<(x25.2.2.2.2.1.length:Int)) (let v37:=(x25.2.2.2.2.1.set r27.2.1.toNat (w64 ((x25.2.2.2.2.1.getD r27.2.1.toNat 0)+1))); some (.inr (v36,(v37,()))))))))) (some (.inr (0,(x25.2.2.2.2.1,()))))) fun y34=>(stepV.f n a0.1 a0.2.1 a0.2.2 y34.1 x25.2.1 x25.2.2.1).bind fun r38=>br (decide (r27.1=3)) (chk (0≤r27.2.1∧r27.2.1<(x25.2.2.2.1.length:Int)) (chk (((x25.2.2.2.1.getD r27.2.1.toNat []).length+([r38.1]:List Int).length)*8≤maxB) (chk (0≤r27.2.1∧r27.2.1<(x25.2.2.2.1.length:Int)) (chk (r27.2.1.toNat=r27.2.1.toNat) (let v39:=(x25.2.2.2.1.set r27.2.1.toNat ((x25.2.2.2.1.getD r27.2.1.toNat [])++[r38.1])); ih26 ((w64 (x25.1+1)),(r38.2.1,(r38.2.2.1,(v39,(y34.2.1,())))))))))) (ih26 ((w64 (x25.1+1)),(r38.2.1,(r38.2.2.1,(x25.2.2.2.1,(y34.2.1,()))))))))) (0,(r1.1.1,(r1.1.2,((List.replicate a0.2.1.toNat ([]:List Int)),((List.replicate a0.1.toNat (0:Int)),())))))))
noncomputable def alone.mng (n:Nat):Mng:=⟨[.val tProgram,.val (.sl IS),.val I],[.val (.sl IS),.val IS,.val I,.val I],fun x=>alone.f n x.1 x.2.1 x.2.2.1⟩
noncomputable def alone.cfg (n:Nat):Cfg:=⟨tys27,[(159,iNewActor.mng n),(179,want.mng n)],[(142,stepV.mng n)],[]⟩
theorem alone.gof:GoF Tryz.prog 209:=⟨_,Tryz.func209,by kernel_rfl,by kernel_rfl⟩
theorem alone.sound (n:Nat):Sound Tryz.prog 209 (alone.mng n):=sndF (c:=alone.cfg n) (n:=n) (an:=annOf Tryz.f209 alone.las) ⟨⟨iNewActor.sound n,iNewActor.gof⟩,⟨⟨want.sound n,want.gof⟩,trivial⟩⟩ ⟨⟨stepV.sound n,stepV.gof⟩,trivial⟩ (tysOK tys27_ok) Tryz.func209 (fun x=>by kernel_rfl)
def iRound.las:List (Nat×LA):=[(4,⟨[(6,.own 1000 (.sl IS)),(21,.int .i64)],[(1000,.row true (.sl IS))],[1,2,19,20],[]⟩),(10,⟨[(42,.bool)],[],[1,2,6,9,19,20,21],[]⟩),(18,⟨[(13,.own 1000 IS),(52,.int .i64)],[(1000,.row true IS)],[6,50,51],[]⟩),(25,⟨[(16,.own 1000 I)],[(1000,.row true I)],[6,13,50,51,52],[]⟩)]
noncomputable def iRound.f (n:Nat) (a0:Network) (a1:List (List Int)):Option ((List (List Int))×(Bool×Unit)):=iter (α:=(Int×(List (List (List Int)))×Unit)) n (fun ih19 x18=>br (decide (x18.1<(a0.1.length:Int))) (chk (0≤x18.1∧x18.1<(a0.1.length:Int)) (let v20:=(a0.1.getD x18.1.toNat zProgram); (inputsFor.f n a0 a1 x18.1).bind fun r21=>(alone.f n v20 r21.1 3000).bind fun r22=>cut (α:=(Bool×Unit)) (br (decide (r22.2.2.1=1)) (some (.inr (true,()))) (some (.inr ((decide (r22.2.2.1=3)),())))) fun y23=>br y23.1 (some ([],(false,()))) (chk ((x18.2.1.length+([r22.1]:List (List (List Int))).length)*24≤maxB) (ih19 ((w64 (x18.1+1)),((x18.2.1++[r22.1]),())))))) (iter (α:=(Int×(List (List Int))×Unit)) n (fun ih34 x33=>br (decide (x33.1<(a0.2.length:Int))) (chk (0≤x33.1∧x33.1<(a0.2.length:Int)) (let v35:=(a0.2.getD x33.1.toNat zLink); (cloneI.f n v35.2.2.2.2).bind fun r36=>cut (α:=((List Int)×Unit)) (br (decide (0≤v35.1)) (chk (0≤v35.1∧v35.1<(x18.2.1.length:Int)) (chk (0≤v35.2.1∧v35.2.1<((x18.2.1.getD v35.1.toNat []).length:Int)) (chk ((r36.1.length+((x18.2.1.getD v35.1.toNat []).getD v35.2.1.toNat []).length)*8≤maxB) (some (.inr ((r36.1++((x18.2.1.getD v35.1.toNat []).getD v35.2.1.toNat [])),())))))) (some (.inr (r36.1,())))) fun y37=>(iIsStream.f n y37.1).bind fun r38=>br (!r38.1) (some ([],(false,()))) (chk ((x33.2.1.length+([y37.1]:List (List Int)).length)*24≤maxB) (ih34 ((w64 (x33.1+1)),((x33.2.1++[y37.1]),())))))) (some (x33.2.1,(true,())))) (0,([],())))) (0,([],()))
noncomputable def iRound.mng (n:Nat):Mng:=⟨[.val tNetwork,.val (.sl IS)],[.val (.sl IS),.val .bool],fun x=>iRound.f n x.1 x.2.1⟩
noncomputable def iRound.cfg (n:Nat):Cfg:=⟨tys27,[(210,inputsFor.mng n),(209,alone.mng n),(64,cloneI.mng n),(49,iIsStream.mng n)],[],[]⟩
theorem iRound.gof:GoF Tryz.prog 176:=⟨_,Tryz.func176,by kernel_rfl,by kernel_rfl⟩
theorem iRound.sound (n:Nat):Sound Tryz.prog 176 (iRound.mng n):=sndF (c:=iRound.cfg n) (n:=n) (an:=annOf Tryz.f176 iRound.las) ⟨⟨inputsFor.sound n,inputsFor.gof⟩,⟨⟨alone.sound n,alone.gof⟩,⟨⟨cloneI.sound n,cloneI.gof⟩,⟨⟨iIsStream.sound n,iIsStream.gof⟩,trivial⟩⟩⟩⟩ trivial (tysOK tys27_ok) Tryz.func176 (fun x=>by kernel_rfl)
def iLeast.las:List (Nat×LA):=[(7,⟨[(5,.own 1000 IS),(18,.int .i64)],[(1000,.row true IS)],[1,16,17],[]⟩),(16,⟨[(5,.own 1000 IS),(8,.int .i64)],[(1000,.row true IS)],[1],[]⟩)]
noncomputable def iLeast.f (n:Nat) (a0:Network):Option ((List (List Int))×(Int×(Bool×Unit))):=(iIsNetwork.f n a0).bind fun r1=>br (!r1.1) (some ([],(0,(false,())))) (iter (α:=(Int×(List (List Int))×Unit)) n (fun ih14 x13=>br (decide (x13.1<(a0.2.length:Int))) (chk (0≤x13.1∧x13.1<(a0.2.length:Int)) (let v15:=(a0.2.getD x13.1.toNat zLink); (cloneI.f n v15.2.2.2.2).bind fun r16=>chk ((x13.2.1.length+([r16.1]:List (List Int)).length)*24≤maxB) (ih14 ((w64 (x13.1+1)),((x13.2.1++[r16.1]),()))))) (iter (α:=(Int×(List (List Int))×Unit)) n (fun ih24 x23=>br (decide (x23.1≤300)) ((iRound.f n a0 x23.2.1).bind fun r25=>br (!r25.2.1) (some ([],(0,(false,())))) ((equalStreams.f n r25.1 x23.2.1).bind fun r26=>br r26.1 (some (x23.2.1,(x23.1,(true,())))) (ih24 ((w64 (x23.1+1)),(r25.1,()))))) (some ([],(0,(false,()))))) (1,(x13.2.1,())))) (0,([],())))
noncomputable def iLeast.mng (n:Nat):Mng:=⟨[.val tNetwork],[.val (.sl IS),.val I,.val .bool],fun x=>iLeast.f n x.1⟩
noncomputable def iLeast.cfg (n:Nat):Cfg:=⟨tys27,[(46,iIsNetwork.mng n),(64,cloneI.mng n),(176,iRound.mng n),(177,equalStreams.mng n)],[],[]⟩
theorem iLeast.gof:GoF Tryz.prog 131:=⟨_,Tryz.func131,by kernel_rfl,by kernel_rfl⟩
theorem iLeast.sound (n:Nat):Sound Tryz.prog 131 (iLeast.mng n):=sndF (c:=iLeast.cfg n) (n:=n) (an:=annOf Tryz.f131 iLeast.las) ⟨⟨iIsNetwork.sound n,iIsNetwork.gof⟩,⟨⟨cloneI.sound n,cloneI.gof⟩,⟨⟨iRound.sound n,iRound.gof⟩,⟨⟨equalStreams.sound n,equalStreams.gof⟩,trivial⟩⟩⟩⟩ trivial (tysOK tys27_ok) Tryz.func131 (fun x=>by kernel_rfl)
def sL4Inputs.las:List (Nat×LA):=[(4,⟨[(7,.own 1000 IS),(8,.int .i64)],[(1000,.row false IS)],[1,2,3],[]⟩)]
noncomputable def sL4Inputs.f (n:Nat) (a0:Network) (a1:List (List Int)) (a2:Int):Option ((List (List Int))×Unit):=iter (α:=(Int×(List (List Int))×Unit)) n (fun ih18 x17=>chk (0≤a2∧a2<(a0.1.length:Int)) (let v19:=(a0.1.getD a2.toNat zProgram); br (decide (x17.1<v19.1)) ((sL3To.f n a0 a2 x17.1).bind fun r20=>chk (0≤r20.1∧r20.1<(a1.length:Int)) (chk ((x17.2.1.length+([(a1.getD r20.1.toNat [])]:List (List Int)).length)*24≤maxB) (ih18 ((w64 (x17.1+1)),((x17.2.1++[(a1.getD r20.1.toNat [])]),()))))) (some (x17.2.1,())))) (0,([],()))
noncomputable def sL4Inputs.mng (n:Nat):Mng:=⟨[.val tNetwork,.val (.sl IS),.val I],[.sh (.sl IS)],fun x=>sL4Inputs.f n x.1 x.2.1 x.2.2.1⟩
noncomputable def sL4Inputs.cfg (n:Nat):Cfg:=⟨tys27,[(79,sL3To.mng n)],[],[]⟩
theorem sL4Inputs.gof:GoF Tryz.prog 93:=⟨_,Tryz.func93,by kernel_rfl,by kernel_rfl⟩
theorem sL4Inputs.sound (n:Nat):Sound Tryz.prog 93 (sL4Inputs.mng n):=sndF (c:=sL4Inputs.cfg n) (n:=n) (an:=annOf Tryz.f93 sL4Inputs.las) ⟨⟨sL3To.sound n,sL3To.gof⟩,trivial⟩ trivial (tysOK tys27_ok) Tryz.func93 (fun x=>by kernel_rfl)
def sL2Run.las:List (Nat×LA):=[(5,⟨[(11,.own 1000 IS),(12,.int .i64)],[(1000,.row true IS)],[1,2,3,10],[]⟩),(13,⟨[(2,.int .i64),(10,.vptr 1000 0),(11,.own 1002 IS),(13,.own 1003 I)],[(1000,.cells [] [.int .i64,.own 1001 I]),(1001,.row true I),(1002,.row true IS),(1003,.row true I)],[1,3],[]⟩),(18,⟨[(16,.int .i64)],[],[1,2,3,10,11,13,14,15],[]⟩),(40,⟨[(13,.own 1000 I)],[(1000,.row true I)],[1,2,3,10,11,14,15,18],[]⟩)]
noncomputable def sL2Run.f (n:Nat) (a0:Program) (a1:List (List Int)) (a2:Int):Option ((List (List Int))×(List Int)×(Int×(Int×Unit))):=iter (α:=(Int×(List (List Int))×Unit)) n (fun ih16 x15=>br (decide (x15.1<a0.2.1)) (chk ((x15.2.1.length+([[]]:List (List Int)).length)*24≤maxB) (ih16 ((w64 (x15.1+1)),((x15.2.1++[[]]),())))) (chk (a0.1=a0.1∧0≤a0.1∧a0.1*(8:Int)≤(maxB:Int)) (iter (α:=(Int×(Int×(List Int)×(List (List Int))×(List Int)×Unit))) n (fun ih65 x64=>(sL2Want.f n a0 (x64.2.1,x64.2.2.1)).bind fun r66=>cut (α:=(Int×Unit)) (br (decide (r66.1=0)) (some (.inl (x64.2.2.2.1,(x64.2.2.2.2.1,(r66.1,(r66.2.1,())))))) (br (decide (r66.1=2)) (chk (0≤r66.2.1∧r66.2.1<(x64.2.2.2.2.1.length:Int)) (chk (0≤r66.2.1∧r66.2.1<(a1.length:Int)) (let v71:=(a1.getD r66.2.1.toNat []); br (decide ((x64.2.2.2.2.1.getD r66.2.1.toNat 0)=(v71.length:Int))) (some (.inl (x64.2.2.2.1,(x64.2.2.2.2.1,(r66.1,(r66.2.1,())))))) (chk (0≤r66.2.1∧r66.2.1<(a1.length:Int)) (let v72:=(a1.getD r66.2.1.toNat []); chk (0≤r66.2.1∧r66.2.1<(x64.2.2.2.2.1.length:Int)) (chk (0≤(x64.2.2.2.2.1.getD r66.2.1.toNat 0)∧(x64.2.2.2.2.1.getD r66.2.1.toNat 0)<(v72.length:Int)) (let v73:=(v72.getD (x64.2.2.2.2.1.getD r66.2.1.toNat 0).toNat 0); some (.inr (v73,()))))))))) (br (decide (r66.1=3)) (chk (0≤r66.2.1∧r66.2.1<(x64.2.2.2.1.length:Int)) (br (decide (((x64.2.2.2.1.getD r66.2.1.toNat []).length:Int)=400)) (some (.inl (x64.2.2.2.1,(x64.2.2.2.2.1,(r66.1,(r66.2.1,())))))) (some (.inr (0,()))))) (some (.inr (0,())))))) fun y70=>br (decide (x64.1=0)) (some (x64.2.2.2.1,(x64.2.2.2.2.1,(1,(0,()))))) ((sL2Step.f n a0 (x64.2.1,x64.2.2.1) y70.1).bind fun r74=>cut (α:=((List Int)×Unit)) (br (decide (r66.1=2)) (chk (0≤r66.2.1∧r66.2.1<(x64.2.2.2.2.1.length:Int)) (chk (0≤r66.2.1∧r66.2.1<(x64.2.2.2.2.1.length:Int)) (let v77:=(x64.2.2.2.2.1.set r66.2.1.toNat (w64 ((x64.2.2.2.2.1.getD r66.2.1.toNat 0)+1))); some (.inr (v77,()))))) (some (.inr (x64.2.2.2.2.1,())))) fun y76=>br (decide (r66.1=3)) (chk (0≤r66.2.1∧r66.2.1<(x64.2.2.2.1.length:Int)) (chk (((x64.2.2.2.1.getD r66.2.1.toNat []).length+([r74.2.1]:List Int).length)*8≤maxB) (chk (0≤r66.2.1∧r66.2.1<(x64.2.2.2.1.length:Int)) (chk (r66.2.1.toNat=r66.2.1.toNat) (let v78:=(x64.2.2.2.1.set r66.2.1.toNat ((x64.2.2.2.1.getD r66.2.1.toNat [])++[r74.2.1])); ih65 ((w64 (x64.1-1)),(r74.1.1,(r74.1.2,(v78,(y76.1,())))))))))) (ih65 ((w64 (x64.1-1)),(r74.1.1,(r74.1.2,(x64.2.2.2.1,(y76.1,())))))))) (a2,(0,([0,0,0,0],(x15.2.1,((List.replicate a0.1.toNat (0:Int)),())))))))) (0,([],()))
noncomputable def sL2Run.mng (n:Nat):Mng:=⟨[.val tProgram,.val (.sl IS),.val I],[.val (.sl IS),.val IS,.val I,.val I],fun x=>sL2Run.f n x.1 x.2.1 x.2.2.1⟩
noncomputable def sL2Run.cfg (n:Nat):Cfg:=⟨tys27,[(146,sL2Want.mng n),(147,sL2Step.mng n)],[],[]⟩
theorem sL2Run.gof:GoF Tryz.prog 92:=⟨_,Tryz.func92,by kernel_rfl,by kernel_rfl⟩
theorem sL2Run.sound (n:Nat):Sound Tryz.prog 92 (sL2Run.mng n):=sndF (c:=sL2Run.cfg n) (n:=n) (an:=annOf Tryz.f92 sL2Run.las) ⟨⟨sL2Want.sound n,sL2Want.gof⟩,⟨⟨sL2Step.sound n,sL2Step.gof⟩,trivial⟩⟩ trivial (tysOK tys27_ok) Tryz.func92 (fun x=>by kernel_rfl)
def sL4Round.las:List (Nat×LA):=[(4,⟨[(6,.own 1000 (.sl IS)),(21,.int .i64)],[(1000,.row true (.sl IS))],[1,2,19,20],[]⟩),(10,⟨[(42,.bool)],[],[1,2,6,9,19,20,21],[]⟩),(18,⟨[(13,.own 1000 IS),(52,.int .i64)],[(1000,.row true IS)],[6,50,51],[]⟩),(25,⟨[(16,.own 1000 I)],[(1000,.row true I)],[6,13,50,51,52],[]⟩)]
noncomputable def sL4Round.f (n:Nat) (a0:Network) (a1:List (List Int)):Option ((List (List Int))×(Bool×Unit)):=iter (α:=(Int×(List (List (List Int)))×Unit)) n (fun ih19 x18=>br (decide (x18.1<(a0.1.length:Int))) (chk (0≤x18.1∧x18.1<(a0.1.length:Int)) (let v20:=(a0.1.getD x18.1.toNat zProgram); (sL4Inputs.f n a0 a1 x18.1).bind fun r21=>(sL2Run.f n v20 r21.1 3000).bind fun r22=>cut (α:=(Bool×Unit)) (br (decide (r22.2.2.1=1)) (some (.inr (true,()))) (some (.inr ((decide (r22.2.2.1=3)),())))) fun y23=>br y23.1 (some ([],(false,()))) (chk ((x18.2.1.length+([r22.1]:List (List (List Int))).length)*24≤maxB) (ih19 ((w64 (x18.1+1)),((x18.2.1++[r22.1]),())))))) (iter (α:=(Int×(List (List Int))×Unit)) n (fun ih34 x33=>br (decide (x33.1<(a0.2.length:Int))) (chk (0≤x33.1∧x33.1<(a0.2.length:Int)) (let v35:=(a0.2.getD x33.1.toNat zLink); (sL1Copy.f n v35.2.2.2.2).bind fun r36=>cut (α:=((List Int)×Unit)) (br (decide (0≤v35.1)) (chk (0≤v35.1∧v35.1<(x18.2.1.length:Int)) (chk (0≤v35.2.1∧v35.2.1<((x18.2.1.getD v35.1.toNat []).length:Int)) (chk ((r36.1.length+((x18.2.1.getD v35.1.toNat []).getD v35.2.1.toNat []).length)*8≤maxB) (some (.inr ((r36.1++((x18.2.1.getD v35.1.toNat []).getD v35.2.1.toNat [])),())))))) (some (.inr (r36.1,())))) fun y37=>(sIsStream.f n y37.1).bind fun r38=>br (!r38.1) (some ([],(false,()))) (chk ((x33.2.1.length+([y37.1]:List (List Int)).length)*24≤maxB) (ih34 ((w64 (x33.1+1)),((x33.2.1++[y37.1]),())))))) (some (x33.2.1,(true,())))) (0,([],())))) (0,([],()))
noncomputable def sL4Round.mng (n:Nat):Mng:=⟨[.val tNetwork,.val (.sl IS)],[.val (.sl IS),.val .bool],fun x=>sL4Round.f n x.1 x.2.1⟩
noncomputable def sL4Round.cfg (n:Nat):Cfg:=⟨tys27,[(93,sL4Inputs.mng n),(92,sL2Run.mng n),(83,sL1Copy.mng n),(78,sIsStream.mng n)],[],[]⟩
theorem sL4Round.gof:GoF Tryz.prog 47:=⟨_,Tryz.func47,by kernel_rfl,by kernel_rfl⟩
theorem sL4Round.sound (n:Nat):Sound Tryz.prog 47 (sL4Round.mng n):=sndF (c:=sL4Round.cfg n) (n:=n) (an:=annOf Tryz.f47 sL4Round.las) ⟨⟨sL4Inputs.sound n,sL4Inputs.gof⟩,⟨⟨sL2Run.sound n,sL2Run.gof⟩,⟨⟨sL1Copy.sound n,sL1Copy.gof⟩,⟨⟨sIsStream.sound n,sIsStream.gof⟩,trivial⟩⟩⟩⟩ trivial (tysOK tys27_ok) Tryz.func47 (fun x=>by kernel_rfl)
def sL4Same.las:List (Nat×LA):=[(6,⟨[(14,.int .i64)],[],[1,12,13],[]⟩)]
noncomputable def sL4Same.f (n:Nat) (a0:List (List Int)) (a1:List (List Int)):Option (Bool×Unit):=br (!decide ((a0.length:Int)=(a1.length:Int))) (some (false,())) (iter (α:=(Int×Unit)) n (fun ih7 x6=>br (decide (x6.1<(a0.length:Int))) (chk (0≤x6.1∧x6.1<(a0.length:Int)) (chk (0≤x6.1∧x6.1<(a1.length:Int)) (br (!decide (((a0.getD x6.1.toNat []).length:Int)=((a1.getD x6.1.toNat []).length:Int))) (some (false,())) (chk (0≤x6.1∧x6.1<(a1.length:Int)) ((sL1Begins.f n (a0.getD x6.1.toNat []) (a1.getD x6.1.toNat [])).bind fun r8=>br (!r8.1) (some (false,())) (ih7 ((w64 (x6.1+1)),()))))))) (some (true,()))) (0,()))
noncomputable def sL4Same.mng (n:Nat):Mng:=⟨[.val (.sl IS),.val (.sl IS)],[.val .bool],fun x=>sL4Same.f n x.1 x.2.1⟩
noncomputable def sL4Same.cfg (n:Nat):Cfg:=⟨tys27,[(94,sL1Begins.mng n)],[],[]⟩
theorem sL4Same.gof:GoF Tryz.prog 48:=⟨_,Tryz.func48,by kernel_rfl,by kernel_rfl⟩
theorem sL4Same.sound (n:Nat):Sound Tryz.prog 48 (sL4Same.mng n):=sndF (c:=sL4Same.cfg n) (n:=n) (an:=annOf Tryz.f48 sL4Same.las) ⟨⟨sL1Begins.sound n,sL1Begins.gof⟩,trivial⟩ trivial (tysOK tys27_ok) Tryz.func48 (fun x=>by kernel_rfl)
def sLeast.las:List (Nat×LA):=[(7,⟨[(5,.own 1000 IS),(6,.int .i64)],[(1000,.row true IS)],[1],[]⟩)]
noncomputable def sLeast.f (n:Nat) (a0:Network):Option ((List (List Int))×(Int×(Bool×Unit))):=(sIsNetwork.f n a0).bind fun r1=>br (!r1.1) (some ([],(0,(false,())))) ((sL4Tokens.f n a0).bind fun r2=>iter (α:=(Int×(List (List Int))×Unit)) n (fun ih10 x9=>br (decide (x9.1≤300)) ((sL4Round.f n a0 x9.2.1).bind fun r11=>br (!r11.2.1) (some ([],(0,(false,())))) ((sL4Same.f n r11.1 x9.2.1).bind fun r12=>br r12.1 (some (x9.2.1,(x9.1,(true,())))) (ih10 ((w64 (x9.1+1)),(r11.1,()))))) (some ([],(0,(false,()))))) (1,(r2.1,())))
noncomputable def sLeast.mng (n:Nat):Mng:=⟨[.val tNetwork],[.val (.sl IS),.val I,.val .bool],fun x=>sLeast.f n x.1⟩
noncomputable def sLeast.cfg (n:Nat):Cfg:=⟨tys27,[(31,sIsNetwork.mng n),(36,sL4Tokens.mng n),(47,sL4Round.mng n),(48,sL4Same.mng n)],[],[]⟩
theorem sLeast.gof:GoF Tryz.prog 17:=⟨_,Tryz.func17,by kernel_rfl,by kernel_rfl⟩
theorem sLeast.sound (n:Nat):Sound Tryz.prog 17 (sLeast.mng n):=sndF (c:=sLeast.cfg n) (n:=n) (an:=annOf Tryz.f17 sLeast.las) ⟨⟨sIsNetwork.sound n,sIsNetwork.gof⟩,⟨⟨sL4Tokens.sound n,sL4Tokens.gof⟩,⟨⟨sL4Round.sound n,sL4Round.gof⟩,⟨⟨sL4Same.sound n,sL4Same.gof⟩,trivial⟩⟩⟩⟩ trivial (tysOK tys27_ok) Tryz.func17 (fun x=>by kernel_rfl)
end Go.AmT
