/- How far processes have come, in plain Lean: what a process does hangs on what it reads alone. -/
import Derived.Test.YtkgknijpmcagmaaGreatMGrow4
namespace Go.AmT
open Go Go.Am
set_option linter.unusedVariables false
set_option linter.unusedSimpArgs false
abbrev Lc:Type:=Actor×(Nat→List Int)×(Nat→Nat)
def upd {α:Type} (f:Nat→α) (b:Nat) (x:α):Nat→α:=fun c=>if c=b then x else f c
theorem upd_same {α:Type} {f:Nat→α} {b:Nat} {x:α} : upd f b x b=x:=by simp [upd]
theorem upd_ne {α:Type} {f:Nat→α} {b c:Nat} {x:α} (h:c≠b):upd f b x c=f c:=by simp [upd,h]
def lstep (p:Program) (I:Nat→List Int) (c:Lc):Option Lc:=
 if (wantP p c.1).1=0 then none
 else if (wantP p c.1).1=2 then
  if c.2.2 (wantP p c.1).2.toNat<(I (wantP p c.1).2.toNat).length then some (stepA p c.1 ((I (wantP p c.1).2.toNat).getD (c.2.2 (wantP p c.1).2.toNat) 0),c.2.1,upd c.2.2 (wantP p c.1).2.toNat (c.2.2 (wantP p c.1).2.toNat+1)) else none
 else if (wantP p c.1).1=3 then some (stepA p c.1 0,upd c.2.1 (wantP p c.1).2.toNat (c.2.1 (wantP p c.1).2.toNat++[outP (instrP p c.1) c.1]),c.2.2)
 else some (stepA p c.1 0,c.2.1,c.2.2)
def lrun (p:Program) (I:Nat→List Int):Nat→Lc→Option Lc
 | 0,c=>some c
 | m+1,c=>(lrun p I m c).bind (lstep p I)
def Sub (I I':Nat→List Int):Prop:=∀ b,I b <+: I' b
theorem Sub.refl (I:Nat→List Int):Sub I I:=fun _=>List.prefix_rfl
theorem Sub.trans {I J K:Nat→List Int} (h:Sub I J) (h':Sub J K):Sub I K:=fun b=>(h b).trans (h' b)
theorem lstep_mono {p:Program} {I I':Nat→List Int} {c d:Lc} (h:Sub I I') (e:lstep p I c=some d):lstep p I' c=some d:=by
 unfold lstep at e ⊢
 split at e
 ·cases e
 ·rename_i h0
  rw [if_neg h0]
  split at e
  ·rename_i h2
   rw [if_pos h2]
   split at e
   ·rename_i hlt
    obtain ⟨h1,h3⟩:=prefix_getD.1 (h (wantP p c.1).2.toNat)
    rw [if_pos (Nat.lt_of_lt_of_le hlt h1),h3 _ hlt]
    exact e
   ·cases e
  ·rename_i h2
   rw [if_neg h2]; exact e
theorem lrun_mono {p:Program} {I I':Nat→List Int} (h:Sub I I'):∀ {m:Nat} {c d:Lc},lrun p I m c=some d→lrun p I' m c=some d
 | 0,c,d,e=>e
 | m+1,c,d,e=>by
  unfold lrun at e ⊢
  obtain ⟨x,e1,e2⟩:=Option.bind_eq_some_iff.1 e
  rw [lrun_mono h e1]
  exact lstep_mono h e2
theorem lrun_add {p:Program} {I:Nat→List Int} (a:Nat):∀ (b:Nat) (c:Lc),lrun p I (a+b) c=(lrun p I a c).bind (lrun p I b)
 | 0,c=>by
  show lrun p I a c=(lrun p I a c).bind some
  cases lrun p I a c<;>rfl
 | b+1,c=>by
  show (lrun p I (a+b) c).bind (lstep p I)=(lrun p I a c).bind (fun d=>(lrun p I b d).bind (lstep p I))
  rw [lrun_add a b c]
  cases lrun p I a c<;>rfl
theorem lstep_outs {p:Program} {I:Nat→List Int} {c d:Lc} (e:lstep p I c=some d) (b:Nat):c.2.1 b <+: d.2.1 b:=by
 unfold lstep at e
 split at e
 ·cases e
 ·split at e
  ·split at e
   ·cases e; exact List.prefix_rfl
   ·cases e
  ·split at e
   ·cases e
    show c.2.1 b <+: upd c.2.1 _ _ b
    by_cases hb:b=(wantP p c.1).2.toNat
    ·subst hb; rw [upd_same]; exact List.prefix_append _ _
    ·rw [upd_ne hb]; exact List.prefix_rfl
   ·cases e; exact List.prefix_rfl
theorem lrun_outs {p:Program} {I:Nat→List Int} : ∀ {m:Nat} {c d:Lc},lrun p I m c=some d→∀ b,c.2.1 b <+: d.2.1 b
 | 0,c,d,e,b=>by cases e; exact List.prefix_rfl
 | m+1,c,d,e,b=>by
  unfold lrun at e
  obtain ⟨x,e1,e2⟩:=Option.bind_eq_some_iff.1 e
  exact (lrun_outs e1 b).trans (lstep_outs e2 b)
def Full (p:Program) (I:Nat→List Int) (c:Lc) (M:Nat) (d:Lc):Prop:=lrun p I M c=some d∧lstep p I d=none
theorem full_le {p:Program} {I I':Nat→List Int} {c d e:Lc} {M m:Nat} (F:Full p I c M d) (h:lrun p I' m c=some e) (S:Sub I' I):m≤M∧lrun p I (M-m) e=some d∧∀ b,e.2.1 b <+: d.2.1 b:=by
 have h:=lrun_mono S h
 have hle:m≤M:=by
  rcases Nat.lt_or_ge M m with hlt | hge
  ·have e1:lrun p I (M+1+(m-M-1)) c=some e:=by rw [show M+1+(m-M-1)=m by omega]; exact h
   rw [lrun_add] at e1
   obtain ⟨x,e2,-⟩:=Option.bind_eq_some_iff.1 e1
   unfold lrun at e2
   rw [F.1,Option.bind_some,F.2] at e2
   cases e2
  ·exact hge
 have e1:lrun p I (m+(M-m)) c=some d:=by rw [show m+(M-m)=M by omega]; exact F.1
 rw [lrun_add,h,Option.bind_some] at e1
 exact ⟨hle,e1,lrun_outs e1⟩
theorem full_uniq {p:Program} {I:Nat→List Int} {c d e:Lc} {M m:Nat} (F:Full p I c M d) (G:Full p I c m e):M=m∧d=e:=by
 have h1:=full_le F G.1 (Sub.refl I)
 have h2:=full_le G F.1 (Sub.refl I)
 have hm:M=m:=by omega
 subst hm
 have:=F.1.symm.trans G.1
 exact ⟨rfl,by cases this; rfl⟩
def lnk (nt:Network) (j:Nat):Link:=nt.2.getD j zLink
def toks (nt:Network) (j:Nat):List Int:=(lnk nt j).2.2.2.2
def queue (s:State) (j:Nat):List Int:=s.2.1.getD j []
def sent (s:State) (j:Nat):List Int:=s.2.2.1.getD j []
def used (s:State) (j:Nat):Nat:=(sent s j).length-(queue s j).length
def lto (nt:Network) (k b:Nat):Nat:=(onlyIx (isTo (k:Int) (b:Int)) nt.2).toNat
def lfr (nt:Network) (k b:Nat):Nat:=(onlyIx (isFrom (k:Int) (b:Int)) nt.2).toNat
theorem lto_spec {nt:Network} (o:OkN nt) {k b:Nat} (hk:k<nt.1.length) (hb:(b:Int)<(prog nt k).1) :
  lto nt k b<nt.2.length∧(lnk nt (lto nt k b)).2.2.1=(k:Int)∧(lnk nt (lto nt k b)).2.2.2.1=(b:Int):=by
 unfold prog at hb
 rw [getD_lt hk] at hb
 obtain ⟨j,hj,hf,e⟩:=onlyIx_ex (o.ins k hk b hb)
 unfold isTo at hf
 simp only [Bool.and_eq_true,decide_eq_true_eq] at hf
 have e2:lto nt k b=j:=by unfold lto; rw [e]; rfl
 rw [e2]
 unfold lnk
 rw [getD_lt hj]
 exact ⟨hj,hf⟩
theorem lfr_spec {nt:Network} (o:OkN nt) {k b:Nat} (hk:k<nt.1.length) (hb:(b:Int)<(prog nt k).2.1) :
  lfr nt k b<nt.2.length∧(lnk nt (lfr nt k b)).1=(k:Int)∧(lnk nt (lfr nt k b)).2.1=(b:Int):=by
 unfold prog at hb
 rw [getD_lt hk] at hb
 obtain ⟨j,hj,hf,e⟩:=onlyIx_ex (o.outs k hk b hb)
 unfold isFrom at hf
 simp only [Bool.and_eq_true,decide_eq_true_eq] at hf
 have e2:lfr nt k b=j:=by unfold lfr; rw [e]; rfl
 rw [e2]
 unfold lnk
 rw [getD_lt hj]
 exact ⟨hj,hf⟩
theorem lto_uniq {nt:Network} (o:OkN nt) {j k b:Nat} (hj:j<nt.2.length) (hk:k<nt.1.length) (hb:(b:Int)<(prog nt k).1) (h1:(lnk nt j).2.2.1=(k:Int)) (h2:(lnk nt j).2.2.2.1=(b:Int)):lto nt k b=j:=by
 unfold prog at hb
 rw [getD_lt hk] at hb
 unfold lnk at h1 h2
 rw [getD_lt hj] at h1 h2
 unfold lto
 rw [onlyIx_at hj (o.ins k hk b hb) (by simp [isTo,h1,h2])]; rfl
theorem lfr_uniq {nt:Network} (o:OkN nt) {j k b:Nat} (hj:j<nt.2.length) (hk:k<nt.1.length) (hb:(b:Int)<(prog nt k).2.1) (h1:(lnk nt j).1=(k:Int)) (h2:(lnk nt j).2.1=(b:Int)):lfr nt k b=j:=by
 unfold prog at hb
 rw [getD_lt hk] at hb
 unfold lnk at h1 h2
 rw [getD_lt hj] at h1 h2
 unfold lfr
 rw [onlyIx_at hj (o.outs k hk b hb) (by simp [isFrom,h1,h2])]; rfl
def inF (nt:Network) (h:Nat→List Int) (k:Nat):Nat→List Int:=fun b=>if (b:Int)<(prog nt k).1 then h (lto nt k b) else []
def outF (nt:Network) (h:Nat→List Int) (k:Nat):Nat→List Int:=fun b=>if (b:Int)<(prog nt k).2.1 then (h (lfr nt k b)).drop (toks nt (lfr nt k b)).length else []
def useF (nt:Network) (u:Nat→Nat) (k:Nat):Nat→Nat:=fun b=>if (b:Int)<(prog nt k).1 then u (lto nt k b) else 0
def lc (nt:Network) (s:State) (k:Nat):Lc:=(actor s k,outF nt (sent s) k,useF nt (used s) k)
theorem inF_mono {nt:Network} {h h':Nat→List Int} {k:Nat} (S:Sub h h'):Sub (inF nt h k) (inF nt h' k):=by
 intro b
 unfold inF
 split
 ·exact S _
 ·exact List.prefix_rfl
theorem step_actor {nt:Network} {s:State} {k:Nat} (hk:k<s.1.length) (j:Nat):actor (stepP nt s k) j=if j=k then stepA (prog nt k) (actor s k) (tokenOf nt s k) else actor s j:=by
 show (s.1.set k _).getD j zActor=_
 by_cases h:j=k
 ·subst h; rw [getD_set_same hk,if_pos rfl]
 ·rw [getD_set_ne (Ne.symm h),if_neg h]; rfl
theorem step_sent {nt:Network} {s:State} {k:Nat} (o:OkSt nt s) (hk:k<nt.1.length) (j:Nat):sent (stepP nt s k) j=if (wantOf nt s k).1=3∧j=(linkOf nt s k).toNat then sent s j++[outOf nt s k] else sent s j:=by
 show (if (wantOf nt s k).1=3 then s.2.2.1.set (linkOf nt s k).toNat (s.2.2.1.getD (linkOf nt s k).toNat []++[outOf nt s k]) else s.2.2.1).getD j []=_
 by_cases c3:(wantOf nt s k).1=3
 ·obtain ⟨l,hl,e,-⟩:=linkOf_from o hk c3
  rw [if_pos c3,e,Int.toNat_natCast]
  by_cases hj:j=l
  ·subst hj; rw [getD_set_same (by rw [o.ns]; exact hl),if_pos ⟨c3,rfl⟩]; rfl
  ·rw [getD_set_ne (Ne.symm hj),if_neg (fun h=>hj h.2)]; rfl
 ·rw [if_neg c3,if_neg (fun h=>c3 h.1)]; rfl
theorem step_used {nt:Network} {s:State} {k:Nat} (o:OkSt nt s) (hk:k<nt.1.length) (hc:canP nt s k=true) (j:Nat):used (stepP nt s k) j=if (wantOf nt s k).1=2∧j=(linkOf nt s k).toNat then used s j+1 else used s j:=by
 have hs:=step_sent o hk j
 have hq:=o.nq
 obtain ⟨w0,w20,w2,w3⟩:=canP_facts hc
 have hqe:queue (stepP nt s k) j=if (wantOf nt s k).1=2∧j=(linkOf nt s k).toNat then (queue s j).drop 1 else if (wantOf nt s k).1=3∧j=(linkOf nt s k).toNat then queue s j++[outOf nt s k] else queue s j:=by
  show (if (wantOf nt s k).1=2 then s.2.1.set (linkOf nt s k).toNat ((s.2.1.getD (linkOf nt s k).toNat []).drop 1) else if (wantOf nt s k).1=3 then s.2.1.set (linkOf nt s k).toNat (s.2.1.getD (linkOf nt s k).toNat []++[outOf nt s k]) else s.2.1).getD j []=_
  by_cases c2:(wantOf nt s k).1=2
  ·obtain ⟨l,hl,e,-⟩:=linkOf_to o hk c2
   rw [if_pos c2,e,Int.toNat_natCast]
   by_cases hj:j=l
   ·subst hj; rw [getD_set_same (by omega),if_pos ⟨c2,rfl⟩]; rfl
   ·rw [getD_set_ne (Ne.symm hj),if_neg (fun h=>hj h.2),if_neg (fun h=>hj h.2)]; rfl
  ·rw [if_neg c2]
   by_cases c3:(wantOf nt s k).1=3
   ·obtain ⟨l,hl,e,-⟩:=linkOf_from o hk c3
    rw [if_pos c3,e,Int.toNat_natCast]
    by_cases hj:j=l
    ·subst hj; rw [getD_set_same (by omega),if_neg (fun h=>c2 h.1),if_pos ⟨c3,rfl⟩]; rfl
    ·rw [getD_set_ne (Ne.symm hj),if_neg (fun h=>hj h.2),if_neg (fun h=>hj h.2)]; rfl
   ·rw [if_neg c3,if_neg (fun h=>c2 h.1),if_neg (fun h=>c3 h.1)]; rfl
 unfold used
 rw [hs,hqe]
 by_cases hj:j=(linkOf nt s k).toNat
 ·by_cases c2:(wantOf nt s k).1=2
  ·have hlen:=w2 c2
   obtain ⟨l,hl,e,-⟩:=linkOf_to o hk c2
   have hle:=(o.lnk l hl).suf.length_le
   rw [e,Int.toNat_natCast] at hj
   rw [e,Int.toNat_natCast] at hlen
   subst hj
   rw [if_neg (fun h=>absurd h.1 (by omega)),if_pos ⟨c2,by rw [e]; rfl⟩,if_pos ⟨c2,by rw [e]; rfl⟩,List.length_drop]
   show (sent s j).length-((queue s j).length-1)=_
   have h1:0<(queue s j).length:=hlen
   have h2:(queue s j).length≤(sent s j).length:=hle
   omega
  ·by_cases c3:(wantOf nt s k).1=3
   ·rw [if_pos ⟨c3,hj⟩,if_neg (fun h=>c2 h.1),if_pos ⟨c3,hj⟩,if_neg (fun h=>c2 h.1),List.length_append,List.length_append]
    omega
   ·rw [if_neg (fun h=>c3 h.1),if_neg (fun h=>c2 h.1),if_neg (fun h=>c3 h.1),if_neg (fun h=>c2 h.1)]
 ·rw [if_neg (fun h=>hj h.2),if_neg (fun h=>hj h.2),if_neg (fun h=>hj h.2),if_neg (fun h=>hj h.2)]
theorem sent_grows {nt:Network} {s:State} {k:Nat} (o:OkSt nt s) (hk:k<nt.1.length):Sub (sent s) (sent (stepP nt s k)):=by
 intro j
 rw [step_sent o hk]
 split
 ·exact List.prefix_append _ _
 ·exact List.prefix_rfl
theorem toks_le {nt:Network} {s:State} (o:OkSt nt s) {j:Nat} (hj:j<nt.2.length):toks nt j <+: sent s j:=(o.lnk j hj).pre
theorem queue_suf {nt:Network} {s:State} (o:OkSt nt s) {j:Nat} (hj:j<nt.2.length):queue s j=(sent s j).drop (used s j):=List.suffix_iff_eq_drop.1 (o.lnk j hj).suf
theorem step_own {nt:Network} {s:State} {k:Nat} (o:OkSt nt s) (hk:k<nt.1.length) (hc:canP nt s k=true):lstep (prog nt k) (inF nt (sent s) k) (lc nt s k)=some (lc nt (stepP nt s k) k):=by
 obtain ⟨w0,w20,w2,w3⟩:=canP_facts hc
 obtain ⟨b,eb,hb2,hb3⟩:=port_nat o hk
 have hks:k<s.1.length:=by rw [o.na]; exact hk
 have ep:nt.1[k]=prog nt k:=by unfold prog; rw [getD_lt hk]
 rw [ep] at hb2 hb3
 have hA:=step_actor (nt:=nt) hks k
 rw [if_pos rfl] at hA
 have hw:wantP (prog nt k) (lc nt s k).1=wantOf nt s k:=rfl
 unfold lstep
 rw [hw,eb,Int.toNat_natCast,if_neg w0]
 by_cases c2:(wantOf nt s k).1=2
 ·have hb:=hb2 c2
  obtain ⟨hl,l1,l2⟩:=lto_spec o.net hk hb
  have e:(linkOf nt s k).toNat=lto nt k b:=by unfold linkOf lto; rw [if_pos c2,eb]
  have hlen:=w2 c2
  rw [e] at hlen
  have hlen:0<(queue s (lto nt k b)).length:=hlen
  have hq:=queue_suf o hl
  have hIn:inF nt (sent s) k b=sent s (lto nt k b):=by unfold inF; rw [if_pos hb]
  have hU:(lc nt s k).2.2 b=used s (lto nt k b):=by show useF _ _ _ _=_; unfold useF; rw [if_pos hb]
  have hlt:used s (lto nt k b)<(sent s (lto nt k b)).length:=by
   rw [hq,List.length_drop] at hlen; omega
  have htok:tokenOf nt s k=(sent s (lto nt k b)).getD (used s (lto nt k b)) 0:=by
   unfold tokenOf
   rw [if_pos c2,e]
   show (queue s (lto nt k b)).getD 0 0=_
   rw [hq,List.getD_eq_getElem?_getD,List.getD_eq_getElem?_getD,List.getElem?_drop,Nat.add_zero]
  rw [if_pos c2,hIn,hU,if_pos hlt,← htok]
  have e1:outF nt (sent (stepP nt s k)) k=outF nt (sent s) k:=by
   funext c
   unfold outF
   split
   ·rw [step_sent o hk,if_neg (fun h=>absurd h.1 (by omega))]
   ·rfl
  have e2:useF nt (used (stepP nt s k)) k=upd (useF nt (used s) k) b (used s (lto nt k b)+1):=by
   funext c
   by_cases hcb:c=b
   ·subst hcb
    rw [upd_same]; unfold useF
    rw [if_pos hb,step_used o hk hc,if_pos ⟨c2,e.symm⟩]
   ·rw [upd_ne hcb]; unfold useF
    split
    ·rename_i hcp
     rw [step_used o hk hc,if_neg]
     rintro ⟨-,h⟩
     rw [e] at h
     have:=(lto_spec o.net hk hcp).2.2
     rw [h,l2] at this
     omega
    ·rfl
  unfold lc
  rw [hA,e1,e2]
 ·rw [if_neg c2]
  have htok:tokenOf nt s k=0:=by unfold tokenOf; rw [if_neg c2]
  have e2:useF nt (used (stepP nt s k)) k=useF nt (used s) k:=by
   funext c
   unfold useF
   split
   ·rw [step_used o hk hc,if_neg (fun h=>c2 h.1)]
   ·rfl
  by_cases c3:(wantOf nt s k).1=3
  ·have hb:=hb3 c3
   obtain ⟨hl,l1,l2⟩:=lfr_spec o.net hk hb
   have e:(linkOf nt s k).toNat=lfr nt k b:=by unfold linkOf lfr; rw [if_neg c2,if_pos c3,eb]
   rw [if_pos c3]
   have e1:outF nt (sent (stepP nt s k)) k=upd (outF nt (sent s) k) b (outF nt (sent s) k b++[outOf nt s k]):=by
    funext c
    by_cases hcb:c=b
    ·subst hcb
     rw [upd_same]; unfold outF
     rw [if_pos hb,if_pos hb,step_sent o hk,if_pos ⟨c3,e.symm⟩,List.drop_append_of_le_length (toks_le o hl).length_le]
    ·rw [upd_ne hcb]; unfold outF
     split
     ·rename_i hcp
      rw [step_sent o hk,if_neg]
      rintro ⟨-,h⟩
      rw [e] at h
      have:=(lfr_spec o.net hk hcp).2.2
      rw [h,l2] at this
      omega
     ·rfl
   unfold lc
   rw [hA,e1,e2,htok]; rfl
  ·rw [if_neg c3]
   have e1:outF nt (sent (stepP nt s k)) k=outF nt (sent s) k:=by
    funext c
    unfold outF
    split
    ·rw [step_sent o hk,if_neg (fun h=>c3 h.1)]
    ·rfl
   unfold lc
   rw [hA,e1,e2,htok]
theorem step_other {nt:Network} {s:State} {k j:Nat} (o:OkSt nt s) (hk:k<nt.1.length) (hj:j<nt.1.length) (hc:canP nt s k=true) (hjk:j≠k):lc nt (stepP nt s k) j=lc nt s j:=by
 obtain ⟨b,eb,hb2,hb3⟩:=port_nat o hk
 have hks:k<s.1.length:=by rw [o.na]; exact hk
 have ep:nt.1[k]=prog nt k:=by unfold prog; rw [getD_lt hk]
 rw [ep] at hb2 hb3
 have hA:=step_actor (nt:=nt) hks j
 rw [if_neg hjk] at hA
 have e1:outF nt (sent (stepP nt s k)) j=outF nt (sent s) j:=by
  funext c
  unfold outF
  split
  ·rename_i hcp
   rw [step_sent o hk,if_neg]
   rintro ⟨c3,h⟩
   have e:(linkOf nt s k).toNat=lfr nt k b:=by unfold linkOf lfr; rw [if_neg (by omega),if_pos c3,eb]
   rw [e] at h
   have h1:=(lfr_spec o.net hj hcp).2.1
   rw [h,(lfr_spec o.net hk (hb3 c3)).2.1] at h1
   omega
  ·rfl
 have e2:useF nt (used (stepP nt s k)) j=useF nt (used s) j:=by
  funext c
  unfold useF
  split
  ·rename_i hcp
   rw [step_used o hk hc,if_neg]
   rintro ⟨c2,h⟩
   have e:(linkOf nt s k).toNat=lto nt k b:=by unfold linkOf lto; rw [if_pos c2,eb]
   rw [e] at h
   have h1:=(lto_spec o.net hj hcp).2.1
   rw [h,(lto_spec o.net hk (hb2 c2)).2.1] at h1
   omega
  ·rfl
 unfold lc
 rw [hA,e1,e2]
end Go.AmT
namespace Go.AmT
open Go Go.Am
set_option linter.unusedVariables false
set_option linter.unusedSimpArgs false
inductive Steps (nt:Network) (g:State→Nat→Bool) (s0:State):State→(Nat→Nat)→Prop
 | refl:Steps nt g s0 s0 (fun _=>0)
 | step {s:State} {m:Nat→Nat} {k:Nat} : Steps nt g s0 s m→k<nt.1.length→g s k=true→canP nt s k=true→Steps nt g s0 (stepP nt s k) (upd m k (m k+1))
section
variable {nt:Network} {g:State→Nat→Bool} {s0 s t:State} {m mt:Nat→Nat}
theorem Steps.ok (o:OkSt nt s0) (S:Steps nt g s0 s m):OkSt nt s:=by
 induction S with
 | refl=>exact o
 | step _ hk _ hc ih=>exact stepP_ok ih hk hc
theorem Steps.sub (o:OkSt nt s0) (S:Steps nt g s0 s m):Sub (sent s0) (sent s):=by
 induction S with
 | refl=>exact Sub.refl _
 | step S hk _ hc ih=>exact ih.trans (sent_grows (S.ok o) hk)
theorem Steps.run (o:OkSt nt s0) (S:Steps nt g s0 s m):∀ k,k<nt.1.length→lrun (prog nt k) (inF nt (sent s) k) (m k) (lc nt s0 k)=some (lc nt s k):=by
 induction S with
 | refl=>intro k hk; rfl
 | @step s m k S hk _ hc ih=>
  intro j hj
  have os:=S.ok o
  have hg:=sent_grows os hk
  have h1:=lrun_mono (inF_mono (nt:=nt) (k:=j) hg) (ih j hj)
  by_cases h:j=k
  ·subst h
   rw [upd_same]
   show (lrun _ _ _ _).bind _=_
   rw [h1]
   exact lstep_mono (inF_mono hg) (step_own os hj hc)
  ·rw [upd_ne h,step_other os hk hj hc h]
   exact h1
def total (m:Nat→Nat):Nat→Nat
 | 0=>0
 | K+1=>total m K+m K
theorem total_upd {m:Nat→Nat} {k:Nat} : ∀ {K:Nat},total (upd m k (m k+1)) K=total m K+if k<K then 1 else 0
 | 0=>by simp [total]
 | K+1=>by
  show total _ K+upd m k (m k+1) K=total m K+m K+_
  rw [total_upd]
  by_cases h:K=k
  ·subst h; rw [upd_same]
   simp; omega
  ·rw [upd_ne h]
   by_cases h1:k<K
   ·rw [if_pos h1,if_pos (by omega)]; omega
   ·rw [if_neg h1,if_neg (by omega)]; omega
theorem Steps.count (S:Steps nt g s0 s m):s.2.2.2=s0.2.2.2+(total m nt.1.length:Int):=by
 induction S with
 | refl=>
  have:∀ K,total (fun _=>0) K=0:=by
   intro K
   induction K with
   | zero=>rfl
   | succ K ih=>show total (fun _=>0) K+0=0; omega
  rw [this]; simp
 | @step s m k S hk _ hc ih=>
  rw [total_upd,if_pos hk]
  show s.2.2.2+1=_
  rw [ih]; omega
theorem Steps.mono {g':State→Nat→Bool} (h:∀ s k,g s k=true→g' s k=true) (S:Steps nt g s0 s m):Steps nt g' s0 s m:=by
 induction S with
 | refl=>exact .refl
 | step S hk hg hc ih=>exact .step ih hk (h _ _ hg) hc
theorem Steps.trans (A:Steps nt g s0 s m) (B:Steps nt g s t mt):Steps nt g s0 t (fun k=>m k+mt k):=by
 induction B with
 | refl=>exact A
 | @step u mu k B hk hg hc ih=>
  have:=Steps.step ih hk hg hc
  have e:upd (fun j=>m j+mu j) k ((fun j=>m j+mu j) k+1)=fun j=>m j+upd mu k (mu k+1) j:=by
   funext j
   by_cases h:j=k
   ·subst h; rw [upd_same,upd_same]; simp only; omega
   ·rw [upd_ne h,upd_ne h]
  rw [e] at this
  exact this
theorem link_cases (o:OkN nt) {j:Nat} (hj:j<nt.2.length):(lnk nt j).1 = -1∨∃ k b:Nat,k<nt.1.length∧(b:Int)<(prog nt k).2.1∧lfr nt k b=j:=by
 have E:=(o.ends j hj).out
 have e:lnk nt j=nt.2[j]:=by unfold lnk; rw [getD_lt hj]
 rw [e]
 rcases E with h | ⟨h1,h2,h3,h4⟩
 ·exact .inl h.1
 ·refine .inr ⟨nt.2[j].1.toNat,nt.2[j].2.1.toNat,by omega,?_,?_⟩
  ·unfold prog; omega
  ·refine lfr_uniq o hj (by omega) (by unfold prog; omega) ?_ ?_
   ·rw [e]; omega
   ·rw [e]; omega
theorem sent_in (o:OkSt nt s) {j:Nat} (hj:j<nt.2.length) (h:(lnk nt j).1 = -1):sent s j=toks nt j:=
 ((toks_le o hj).eq_of_length ((o.lnk j hj).inp h).symm).symm
theorem sent_from (o:OkSt nt s) {k b:Nat} (hk:k<nt.1.length) (hb:(b:Int)<(prog nt k).2.1):sent s (lfr nt k b)=toks nt (lfr nt k b)++(lc nt s k).2.1 b:=by
 have hj:=(lfr_spec o.net hk hb).1
 show _=_++outF nt (sent s) k b
 unfold outF
 rw [if_pos hb]
 obtain ⟨r,e⟩:=toks_le o hj
 rw [← e,List.drop_left]
theorem used_to (o:OkSt nt s) {k b:Nat} (hk:k<nt.1.length) (hb:(b:Int)<(prog nt k).1):used s (lto nt k b)=(lc nt s k).2.2 b:=by
 show _=useF nt (used s) k b
 unfold useF
 rw [if_pos hb]
theorem sent_big (o:OkSt nt s) {j:Nat} (hj:nt.2.length≤j):sent s j=[]:=by
 unfold sent
 rw [List.getD_eq_getElem?_getD,List.getElem?_eq_none (by rw [o.ns]; exact hj)]; rfl
theorem sub_of_outs (o:OkSt nt s) {h:Nat→List Int} (hi:∀ j,j<nt.2.length→(lnk nt j).1 = -1→toks nt j <+: h j) (hh:∀ k b:Nat,k<nt.1.length→(b:Int)<(prog nt k).2.1→toks nt (lfr nt k b)++(lc nt s k).2.1 b <+: h (lfr nt k b)):Sub (sent s) h:=by
 intro j
 rcases Nat.lt_or_ge j nt.2.length with hj | hj
 ·rcases link_cases o.net hj with h1 | ⟨k,b,hk,hb,rfl⟩
  ·rw [sent_in o hj h1]; exact hi j hj h1
  ·rw [sent_from o hk hb]; exact hh k b hk hb
 ·rw [sent_big o hj]; exact List.nil_prefix
theorem can_iff (o:OkSt nt s) {k:Nat} (hk:k<nt.1.length):canP nt s k=true↔(wantOf nt s k).1≠0∧s.2.2.2<20000∧
  ((wantOf nt s k).1=2→used s (lto nt k (wantOf nt s k).2.toNat)<(sent s (lto nt k (wantOf nt s k).2.toNat)).length)∧((wantOf nt s k).1=3→(sent s (lfr nt k (wantOf nt s k).2.toNat)).length<400):=by
 obtain ⟨b,eb,hb2,hb3⟩:=port_nat o hk
 have ep:nt.1[k]=prog nt k:=by unfold prog; rw [getD_lt hk]
 rw [ep] at hb2 hb3
 have hlink2:(wantOf nt s k).1=2→(linkOf nt s k).toNat=lto nt k b:=fun c2=>by unfold linkOf lto; rw [if_pos c2,eb]
 have hlink3:(wantOf nt s k).1=3→(linkOf nt s k).toNat=lfr nt k b:=fun c3=>by unfold linkOf lfr; rw [if_neg (by omega),if_pos c3,eb]
 rw [eb,Int.toNat_natCast]
 have hq2:(wantOf nt s k).1=2→(used s (lto nt k b)<(sent s (lto nt k b)).length↔0<(s.2.1.getD (lto nt k b) []).length):=fun c2=>by
  have hl:=(lto_spec o.net hk (hb2 c2)).1
  have h1:=queue_suf o hl
  have h2:=congrArg List.length h1
  rw [List.length_drop] at h2
  have h3:=(o.lnk _ hl).suf.length_le
  show _↔0<(queue s (lto nt k b)).length
  omega
 constructor
 ·intro h
  obtain ⟨w0,w20,w2,w3⟩:=canP_facts h
  refine ⟨w0,w20,fun c2=>?_,fun c3=>?_⟩
  ·have:=w2 c2
   rw [hlink2 c2] at this
   exact (hq2 c2).2 this
  ·have:=w3 c3
   rw [hlink3 c3] at this
   exact this
 ·rintro ⟨w0,w20,w2,w3⟩
  unfold canP
  rw [if_neg (by rintro (h | h); exact w0 h; omega)]
  split
  ·rename_i c2
   have:=(hq2 c2).1 (w2 c2)
   rw [hlink2 c2,decide_eq_true_eq]; omega
  ·split
   ·rename_i c3
    have:=w3 c3
    rw [hlink3 c3,decide_eq_true_eq]
    have:(s.2.2.1.getD (lfr nt k b) []).length<400:=this
    omega
   ·rfl
end
end Go.AmT
namespace Go.AmT
open Go Go.Am
set_option linter.unusedVariables false
set_option linter.unusedSimpArgs false
def c0:Lc:=(newA,fun _=>[],fun _=>0)
theorem sent_start (nt:Network) (j:Nat):sent (start nt) j=toks nt j:=by
 unfold sent toks lnk start
 rcases Nat.lt_or_ge j nt.2.length with h | h
 ·simp [h]
 ·simp only [List.getD_eq_getElem?_getD,List.getElem?_map,List.getElem?_eq_none h]; rfl
theorem used_start (nt:Network) (j:Nat):used (start nt) j=0:=by
 unfold used queue sent start
 simp
theorem lc_start {nt:Network} {k:Nat} (hk:k<nt.1.length):lc nt (start nt) k=c0:=by
 have e1:actor (start nt) k=newA:=by unfold actor start; simp [hk]
 have e2:outF nt (sent (start nt)) k=fun _=>[]:=by
  funext b; unfold outF; rw [sent_start]; simp
 have e3:useF nt (used (start nt)) k=fun _=>0:=by
  funext b; unfold useF; rw [used_start]; simp
 unfold lc c0
 rw [e1,e2,e3]
def stopB (p:Program) (I:Nat→List Int) (c:Lc):Bool:=
 decide ((wantP p c.1).1=0)||(decide ((wantP p c.1).1=2)&&decide (c.2.2 (wantP p c.1).2.toNat=(I (wantP p c.1).2.toNat).length))||(decide ((wantP p c.1).1=3)&&decide ((c.2.1 (wantP p c.1).2.toNat).length=400))
def al (p:Program) (I:Nat→List Int):Nat→Lc→Lc×Int×Int
 | 0,c=>if stopB p I c=true then (c,wantP p c.1) else (c,1,0)
 | f+1,c=>if stopB p I c=true then (c,wantP p c.1) else al p I f ((lstep p I c).getD c)
theorem lrun_succ {p:Program} {I:Nat→List Int} (m:Nat) (c:Lc):lrun p I (m+1) c=(lstep p I c).bind (lrun p I m):=by
 rw [Nat.add_comm,lrun_add]
 show ((some c).bind _).bind _=_
 rw [Option.bind_some]
structure Wf (I:Nat→List Int) (c:Lc):Prop where
 rd:∀ b,c.2.2 b≤(I b).length
 wr:∀ b,(c.2.1 b).length≤400
theorem wf_c0 (I:Nat→List Int):Wf I c0:=⟨fun _=>Nat.zero_le _,fun _=>by show ([]:List Int).length≤400; simp⟩
theorem lstep_stop {p:Program} {I:Nat→List Int} {c:Lc} (w:Wf I c) (h:stopB p I c=false):∃ d,lstep p I c=some d∧Wf I d:=by
 unfold stopB at h
 simp only [Bool.or_eq_false_iff,Bool.and_eq_false_iff,decide_eq_false_iff_not] at h
 obtain ⟨⟨h0,h2⟩,h3⟩:=h
 unfold lstep
 rw [if_neg h0]
 by_cases c2:(wantP p c.1).1=2
 ·have h2:¬ c.2.2 (wantP p c.1).2.toNat=(I (wantP p c.1).2.toNat).length:=by
   rcases h2 with h | h
   ·exact absurd c2 h
   ·exact h
  have hlt:c.2.2 (wantP p c.1).2.toNat<(I (wantP p c.1).2.toNat).length:=by have:=w.rd (wantP p c.1).2.toNat; omega
  rw [if_pos c2,if_pos hlt]
  refine ⟨_,rfl,fun b=>?_,w.wr⟩
  show upd _ _ _ b≤_
  by_cases hb:b=(wantP p c.1).2.toNat
  ·subst hb; rw [upd_same]; omega
  ·rw [upd_ne hb]; exact w.rd b
 ·rw [if_neg c2]
  by_cases c3:(wantP p c.1).1=3
  ·have h3:¬ (c.2.1 (wantP p c.1).2.toNat).length=400:=by
    rcases h3 with h | h
    ·exact absurd c3 h
    ·exact h
   rw [if_pos c3]
   refine ⟨_,rfl,w.rd,fun b=>?_⟩
   show List.length (upd _ _ _ b)≤400
   by_cases hb:b=(wantP p c.1).2.toNat
   ·subst hb; rw [upd_same,List.length_append,List.length_singleton]
    have:=w.wr (wantP p c.1).2.toNat; omega
   ·rw [upd_ne hb]; exact w.wr b
  ·rw [if_neg c3]
   exact ⟨_,rfl,w.rd,w.wr⟩
theorem al_full {p:Program} {I:Nat→List Int} : ∀ {f:Nat} {c:Lc},Wf I c→(al p I f c).2.1≠1→(al p I f c).2.1≠3→∃ M,M≤f∧Full p I c M (al p I f c).1∧Wf I (al p I f c).1
 | f,c,w,h1,h3=>by
  cases hs:stopB p I c
  ·cases f with
   | zero=>simp [al,hs] at h1
   | succ f=>
    obtain ⟨d,e,wd⟩:=lstep_stop w hs
    have ea:al p I (f+1) c=al p I f d:=by
     show (if stopB p I c=true then _ else al p I f ((lstep p I c).getD c))=_
     rw [hs,e]; rfl
    rw [ea] at h1 h3 ⊢
    obtain ⟨M,hM,F,W⟩:=al_full wd h1 h3
    exact ⟨M+1,by omega,⟨by rw [lrun_succ,e,Option.bind_some]; exact F.1,F.2⟩,W⟩
  ·have ea:al p I f c=(c,wantP p c.1):=by cases f<;>simp [al,hs]
   rw [ea] at h1 h3 ⊢
   refine ⟨0,Nat.zero_le _,⟨rfl,?_⟩,w⟩
   have h3:(wantP p c.1).1≠3:=h3
   have h1:(wantP p c.1).1≠1:=h1
   unfold stopB at hs
   simp only [Bool.or_eq_true,Bool.and_eq_true,decide_eq_true_eq] at hs
   show lstep p I c=none
   unfold lstep
   rcases hs with (h | h) | h
   ·rw [if_pos h]
   ·rw [if_neg (by omega),if_pos h.1,if_neg (by omega)]
   ·exact absurd h.1 h3
def atL (h:List (List Int)) (j:Nat):List Int:=h.getD j []
def runK (nt:Network) (h:Nat→List Int) (k:Nat):Lc×Int×Int:=al (prog nt k) (inF nt h k) 3000 c0
def newS (nt:Network) (h:Nat→List Int) (j:Nat):List Int:=toks nt j++if 0≤(lnk nt j).1 then (runK nt h (lnk nt j).1.toNat).1.2.1 (lnk nt j).2.1.toNat else []
def rndOk (nt:Network) (h:Nat→List Int):Bool:=((List.range nt.1.length).all fun k=>decide ((runK nt h k).2.1≠1)&&decide ((runK nt h k).2.1≠3))&&(List.range nt.2.length).all fun j=>okS (newS nt h j)
def rndP (nt:Network) (h:List (List Int)):Option (List (List Int)):=if rndOk nt (atL h)=true then some ((List.range nt.2.length).map (newS nt (atL h))) else none
def leastF (nt:Network):Nat→Int→List (List Int)→Option (List (List Int)×Int)
 | 0,_,_=>none
 | m+1,r,h=>match rndP nt h with | none=>none | some g=>if g=h then some (h,r) else leastF nt m (r+1) g
def tokL (nt:Network):List (List Int):=nt.2.map (fun l=>l.2.2.2.2)
def leastP (nt:Network):Option (List (List Int)×Int):=leastF nt 300 1 (tokL nt)
section
variable {nt:Network}
theorem atL_tokL (j:Nat):atL (tokL nt) j=toks nt j:=sent_start nt j
structure Fix (nt:Network) (B:Nat→Lc) (h:Nat→List Int):Prop where
 inp:∀ j,j<nt.2.length→(lnk nt j).1 = -1→h j=toks nt j
 run:∀ k,k<nt.1.length→∃ M d,Full (prog nt k) (inF nt h k) (B k) M d∧∀ b:Nat,(b:Int)<(prog nt k).2.1→h (lfr nt k b)=toks nt (lfr nt k b)++d.2.1 b
theorem newS_in {h:Nat→List Int} {j:Nat} (h1:(lnk nt j).1 = -1):newS nt h j=toks nt j:=by
 unfold newS
 rw [if_neg (by omega),List.append_nil]
theorem newS_from (o:OkN nt) {h:Nat→List Int} {k b:Nat} (hk:k<nt.1.length) (hb:(b:Int)<(prog nt k).2.1):newS nt h (lfr nt k b)=toks nt (lfr nt k b)++(runK nt h k).1.2.1 b:=by
 obtain ⟨hl,l1,l2⟩:=lfr_spec o hk hb
 unfold newS
 rw [l1,l2,if_pos (Int.natCast_nonneg k)]; rfl
theorem rnd_run {h:Nat→List Int} (ok:rndOk nt h=true) {k:Nat} (hk:k<nt.1.length):∃ M,M≤3000∧Full (prog nt k) (inF nt h k) c0 M (runK nt h k).1∧Wf (inF nt h k) (runK nt h k).1:=by
 unfold rndOk at ok
 simp only [Bool.and_eq_true,List.all_eq_true,List.mem_range,decide_eq_true_eq] at ok
 exact al_full (wf_c0 _) (ok.1 k hk).1 (ok.1 k hk).2
theorem rnd_ok {h:Nat→List Int} (ok:rndOk nt h=true) {j:Nat} (hj:j<nt.2.length):okS (newS nt h j)=true:=by
 unfold rndOk at ok
 simp only [Bool.and_eq_true,List.all_eq_true,List.mem_range,decide_eq_true_eq] at ok
 exact ok.2 j hj
theorem rnd_le (o:OkN nt) {h F:Nat→List Int} (ok:rndOk nt h=true) (hF:Fix nt (fun _=>c0) F) (S:Sub h F) {j:Nat} (hj:j<nt.2.length):newS nt h j <+: F j:=by
 rcases link_cases o hj with h1 | ⟨k,b,hk,hb,rfl⟩
 ·rw [newS_in h1,hF.inp j hj h1]; exact List.prefix_rfl
 ·obtain ⟨M,d,e1,e2⟩:=hF.run k hk
  obtain ⟨M',-,F',-⟩:=rnd_run ok hk
  rw [newS_from o hk hb,e2 b hb,List.prefix_append_right_inj]
  exact (full_le e1 F'.1 (inF_mono S)).2.2 b
theorem rndP_some {h g:List (List Int)} (e:rndP nt h=some g):rndOk nt (atL h)=true∧g=(List.range nt.2.length).map (newS nt (atL h)):=by
 unfold rndP at e
 split at e
 ·rename_i h1; cases e; exact ⟨h1,rfl⟩
 ·cases e
theorem atL_map {f:Nat→List Int} {L j:Nat} (hj:j<L):atL ((List.range L).map f) j=f j:=by
 unfold atL; simp [hj]
theorem atL_big {f:Nat→List Int} {L j:Nat} (hj:L≤j):atL ((List.range L).map f) j=[]:=by
 unfold atL
 rw [List.getD_eq_getElem?_getD,List.getElem?_eq_none (by simpa using hj)]; rfl
inductive Chain (nt:Network):Nat→List (List Int)→Prop
 | zero:Chain nt 0 (tokL nt)
 | succ {i:Nat} {h g:List (List Int)} : Chain nt i h→rndP nt h=some g→Chain nt (i+1) g
theorem leastF_chain:∀ {m:Nat} {r:Int} {h g:List (List Int)} {r':Int} {i:Nat},Chain nt i h→leastF nt m r h=some (g,r')→∃ j,i≤j∧j<i+m∧r'=r+((j-i:Nat):Int)∧Chain nt j g∧rndP nt g=some g
 | 0,r,h,g,r',i,C,e=>by cases e
 | m+1,r,h,g,r',i,C,e=>by
  unfold leastF at e
  cases h1:rndP nt h with
  | none=>rw [h1] at e; cases e
  | some x=>
   rw [h1] at e
   simp only at e
   split at e
   ·rename_i hx
    cases e
    subst hx
    exact ⟨i,Nat.le_refl _,by omega,by simp,C,h1⟩
   ·obtain ⟨j,a1,a2,a3,a4,a5⟩:=leastF_chain (.succ C h1) e
    exact ⟨j,by omega,by omega,by omega,a4,a5⟩
theorem leastP_chain {h:List (List Int)} {r:Int} (e:leastP nt=some (h,r)):∃ j:Nat,j<300∧r=(j:Int)+1∧Chain nt j h∧rndP nt h=some h:=by
 obtain ⟨j,-,a2,a3,a4,a5⟩:=leastF_chain .zero e
 exact ⟨j,by omega,by omega,a4,a5⟩
theorem Chain.sub (o:OkN nt) {F:Nat→List Int} (hF:Fix nt (fun _=>c0) F) (h0:∀ j,toks nt j <+: F j) {i:Nat} {h:List (List Int)} (C:Chain nt i h):Sub (atL h) F:=by
 induction C with
 | zero=>intro j; rw [atL_tokL]; exact h0 j
 | succ C e ih=>
  obtain ⟨ok,rfl⟩:=rndP_some e
  intro j
  rcases Nat.lt_or_ge j nt.2.length with hj | hj
  ·rw [atL_map hj]; exact rnd_le o ok hF ih hj
  ·rw [atL_big hj]; exact List.nil_prefix
theorem fix_toks (o:OkN nt) {F:Nat→List Int} (hF:Fix nt (fun _=>c0) F) (j:Nat):toks nt j <+: F j:=by
 rcases Nat.lt_or_ge j nt.2.length with hj | hj
 ·rcases link_cases o hj with h1 | ⟨k,b,hk,hb,rfl⟩
  ·rw [hF.inp j hj h1]; exact List.prefix_rfl
  ·obtain ⟨M,d,e1,e2⟩:=hF.run k hk
   rw [e2 b hb]; exact List.prefix_append _ _
 ·have:toks nt j=[]:=by unfold toks lnk; rw [List.getD_eq_getElem?_getD,List.getElem?_eq_none hj]; rfl
  rw [this]; exact List.nil_prefix
theorem rnd_fix (o:OkN nt) {h:List (List Int)} (e:rndP nt h=some h):Fix nt (fun _=>c0) (atL h):=by
 obtain ⟨ok,e2⟩:=rndP_some e
 have hn:∀ j,j<nt.2.length→atL h j=newS nt (atL h) j:=fun j hj=>by
  conv=>lhs; rw [e2]
  exact atL_map hj
 refine ⟨fun j hj h1=>by rw [hn j hj,newS_in h1],fun k hk=>?_⟩
 obtain ⟨M,-,F,-⟩:=rnd_run ok hk
 refine ⟨M,_,F,fun b hb=>?_⟩
 rw [hn _ (lfr_spec o hk hb).1,newS_from o hk hb]
theorem least_fix (o:OkN nt) {h:List (List Int)} {r:Int} (e:leastP nt=some (h,r)):Fix nt (fun _=>c0) (atL h):=by
 obtain ⟨j,-,-,-,e2⟩:=leastP_chain e
 exact rnd_fix o e2
theorem least_le (o:OkN nt) {h:List (List Int)} {r:Int} (e:leastP nt=some (h,r)) {F:Nat→List Int} (hF:Fix nt (fun _=>c0) F):Sub (atL h) F:=by
 obtain ⟨j,-,-,C,-⟩:=leastP_chain e
 exact C.sub o hF (fix_toks o hF)
theorem least_len {h:List (List Int)} {r:Int} (e:leastP nt=some (h,r)):h.length=nt.2.length:=by
 obtain ⟨j,-,-,-,e2⟩:=leastP_chain e
 have:=(rndP_some e2).2
 rw [this]; simp
theorem least_okS {h:List (List Int)} {r:Int} (e:leastP nt=some (h,r)) {j:Nat} (hj:j<nt.2.length):okS (atL h j)=true:=by
 obtain ⟨i,-,-,-,e2⟩:=leastP_chain e
 obtain ⟨ok,e3⟩:=rndP_some e2
 rw [e3,atL_map hj]
 exact rnd_ok ok hj
variable {g:State→Nat→Bool} {s0 s:State} {m:Nat→Nat} {h:Nat→List Int}
theorem Steps.under (o:OkSt nt s0) (F:Fix nt (lc nt s0) h) (h0:Sub (sent s0) h) (S:Steps nt g s0 s m):Sub (sent s) h:=by
 induction S with
 | refl=>exact h0
 | @step s m k S hk hg hc ih=>
  have os:=S.ok o
  refine sub_of_outs (stepP_ok os hk hc) (fun j hj h1=>by rw [F.inp j hj h1]; exact List.prefix_rfl) (fun j b hj hb=>?_)
  obtain ⟨M,d,e1,e2⟩:=F.run j hj
  rw [e2 b hb,List.prefix_append_right_inj]
  have S':=Steps.step S hk hg hc
  by_cases hjk:j=k
  ·subst hjk
   have h1:=S.run o j hj
   have h2:lrun (prog nt j) (inF nt (sent s) j) (m j+1) (lc nt s0 j)=some (lc nt (stepP nt s j) j):=by
    show (lrun _ _ _ _).bind _=_
    rw [h1]; exact step_own os hj hc
   exact (full_le e1 h2 (inF_mono ih)).2.2 b
  ·rw [step_other os hk hj hc hjk]
   exact (full_le e1 (S.run o j hj) (inF_mono ih)).2.2 b
theorem Steps.quiet_fix (o:OkSt nt s0) (F:Fix nt (lc nt s0) h) (hh:∀ j,j<nt.2.length→(h j).length≤400) (h0:Sub (sent s0) h) (S:Steps nt g s0 s m) (hq:anyCan nt s=false) (ht:s.2.2.2<20000) :
  ∀ k,k<nt.1.length→Full (prog nt k) (inF nt (sent s) k) (lc nt s0 k) (m k) (lc nt s k):=by
 intro k hk
 have os:=S.ok o
 have hB:=S.under o F h0
 refine ⟨S.run o k hk,?_⟩
 have hc:canP nt s k=false:=by
  cases h:canP nt s k
  ·rfl
  ·have:anyCan nt s=true:=any_of hk h
   rw [hq] at this; cases this
 obtain ⟨b,eb,hb2,hb3⟩:=port_nat os hk
 have ep:nt.1[k]=prog nt k:=by unfold prog; rw [getD_lt hk]
 rw [ep] at hb2 hb3
 have hw:wantP (prog nt k) (lc nt s k).1=wantOf nt s k:=rfl
 have hnc:¬ ((wantOf nt s k).1≠0∧s.2.2.2<20000∧((wantOf nt s k).1=2→used s (lto nt k b)<(sent s (lto nt k b)).length)∧((wantOf nt s k).1=3→(sent s (lfr nt k b)).length<400)):=by
  have:=mt (can_iff os hk).2 (by rw [hc]; simp)
  rw [eb,Int.toNat_natCast] at this
  exact this
 cases hl:lstep (prog nt k) (inF nt (sent s) k) (lc nt s k) with
 | none=>rfl
 | some e=>
  exfalso
  apply hnc
  have hl':=hl
  unfold lstep at hl
  rw [hw,eb,Int.toNat_natCast] at hl
  by_cases w0:(wantOf nt s k).1=0
  ·rw [if_pos w0] at hl; cases hl
  ·refine ⟨w0,ht,fun c2=>?_,fun c3=>?_⟩
   ·have hb:=hb2 c2
    rw [if_neg w0,if_pos c2] at hl
    split at hl
    ·rename_i hlt
     rw [← used_to os hk hb] at hlt
     unfold inF at hlt
     rw [if_pos hb] at hlt
     exact hlt
    ·cases hl
   ·have hb:=hb3 c3
    rw [if_neg w0,if_neg (by omega),if_pos c3] at hl
    obtain ⟨M,d,e1,e2⟩:=F.run k hk
    have h1:lrun (prog nt k) (inF nt (sent s) k) (m k+1) (lc nt s0 k)=some e:=by
     show (lrun _ _ _ _).bind _=_
     rw [S.run o k hk]; exact hl'
    have h2:=((full_le e1 h1 (inF_mono hB)).2.2 b).length_le
    have h3:=hh _ (lfr_spec os.net hk hb).1
    rw [e2 b hb,List.length_append] at h3
    cases hl
    have h4:(upd (lc nt s k).2.1 b ((lc nt s k).2.1 b++[outP (instrP (prog nt k) (lc nt s k).1) (lc nt s k).1]) b).length≤(d.2.1 b).length:=h2
    rw [upd_same,List.length_append,List.length_singleton] at h4
    rw [sent_from os hk hb,List.length_append]
    omega
theorem Steps.quiet_eq (o:OkN nt) {hL:List (List Int)} {r:Int} (e:leastP nt=some (hL,r)) (S:Steps nt g (start nt) s m):Sub (sent s) (atL hL)∧(anyCan nt s=false→s.2.2.2<20000→∀ j,sent s j=atL hL j):=by
 have o0:=start_ok o
 have hF:=least_fix o e
 have F:Fix nt (lc nt (start nt)) (atL hL):=⟨hF.inp,fun k hk=>by rw [lc_start hk]; exact hF.run k hk⟩
 have h0:Sub (sent (start nt)) (atL hL):=fun j=>by rw [sent_start]; exact fix_toks o hF j
 refine ⟨S.under o0 F h0,fun hq ht=>?_⟩
 have os:=S.ok o0
 have hfull:=S.quiet_fix o0 F (fun j hj=>(okS_len (least_okS e hj)).1) h0 hq ht
 have hS:Fix nt (fun _=>c0) (sent s):=⟨fun j hj h1=>sent_in os hj h1,fun k hk=>⟨m k,lc nt s k,by rw [← lc_start hk]; exact hfull k hk,fun b hb=>sent_from os hk hb⟩⟩
 have h1:=least_le o e hS
 have h2:=S.under o0 F h0
 intro j
 exact (h2 j).eq_of_length (Nat.le_antisymm (h2 j).length_le (h1 j).length_le)
end
end Go.AmT
namespace Go.AmT
open Go Go.Am
set_option linter.unusedVariables false
set_option linter.unusedSimpArgs false
def JK (nt:Network) (c:Option (List Int)) (s0:State) (most:Int) (x:Int×State):Prop:=JS nt x∧(x.1=x.2.2.2.2-s0.2.2.2∧x.1≤max 0 most)∧∃ m,Steps nt (mayO nt c) s0 x.2 m
theorem good_k {nt:Network} {c:Option (List Int)} {s0:State} {most:Int} : Good (mayO nt c) (stepP nt) most nt.1.length (JK nt c s0 most) muS:=by
 intro x k hx hk hlt hg
 obtain ⟨h1,⟨h2,h3⟩,m,S⟩:=hx
 obtain ⟨g1,g2⟩:=good_of (nt:=nt) (most:=most) (g:=mayO nt c) (fun _ _=>mayO_can) x k h1 hk hlt hg
 exact ⟨⟨g1,⟨by show x.1+1=x.2.2.2.2+1-s0.2.2.2; omega,by show x.1+1≤max 0 most; omega⟩,_,S.step hk hg (mayO_can hg)⟩,g2⟩
theorem JK.start {nt:Network} {c:Option (List Int)} {s0:State} {most:Int} (o:OkSt nt s0):JK nt c s0 most (0,s0):=⟨⟨o,Int.le_refl _,o.steps.1⟩,⟨by show (0:Int)=s0.2.2.2-s0.2.2.2; omega,by show (0:Int)≤max 0 most; omega⟩,_,.refl⟩
theorem runT_steps {nt:Network} {c:Option (List Int)} {most:Int} {s0:State} (o:OkSt nt s0):∃ m,Steps nt (mayO nt c) s0 (runT nt c most s0) m:=
 (turnsP_good good_k (J:=JK nt c s0 most) (x:=(0,s0)) (.start o)).2.2
theorem runT_end {nt:Network} {c:Option (List Int)} {most:Int} {s0:State} (o:OkSt nt s0):¬ ((List.range nt.1.length).any (mayO nt c (runT nt c most s0))=true∧(runT nt c most s0).2.2.2-s0.2.2.2<most):=by
 have h:=turnsP_stop (good_k (nt:=nt) (c:=c) (s0:=s0) (most:=most)) (x:=(0,s0)) (.start o) (muS_le (nt:=nt) ⟨o,Int.le_refl _,o.steps.1⟩)
 have e:=(turnsP_good good_k (J:=JK nt c s0 most) (most:=most) (x:=(0,s0)) (.start o)).2.1.1
 intro ⟨a,b⟩
 exact h ⟨a,by rw [e]; exact b⟩
end Go.AmT
