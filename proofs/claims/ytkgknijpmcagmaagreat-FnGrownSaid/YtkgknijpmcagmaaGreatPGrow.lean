/- A process that grows: the law. -/
import Derived.Test.YtkgknijpmcagmaaGreatMGrow15
import Derived.Test.YtkgknijpmcagmaaGreatMGrow11
import Derived.Test.YtkgknijpmcagmaaGreatMGrow5
namespace Go.AmT
open Go Go.Am
set_option linter.unusedVariables false
set_option linter.unusedSimpArgs false
theorem sExpandStateL_spec {n:Nat} {nt m:Network} {s:State} {k:Int} (h:SmallN nt) (hs:SmallSt s) (h':SmallN m) (hn:1048576<n) :
  sExpandStateL.f n nt.1 nt.2 s.1 s.2.1 s.2.2.1 s.2.2.2 k m.1 m.2=some ((expS nt s k m).1.2.2.2,((expS nt s k m).2.1,((expS nt s k m).1.1,((expS nt s k m).1.2.1,((expS nt s k m).1.2.2.1,(m.1,(m.2,()))))))):=by
 unfold sExpandStateL.f expS
 have e0:sExpandNetwork.f n (nt.1,nt.2) k (m.1,m.2)=some (expd nt k m):=sExpandNetwork_spec h h' hn
 rw [e0]
 have hu:∀ {ρ:Type} (x:Network×Bool×Unit),∀ f:(Network×Bool×Unit)→Option ρ,(some x).bind f=f x:=fun _ _=>rfl
 rw [hu]
 cases h1:(expd nt k m).2.1
 ·rw [if_neg (by simp)]; rfl
 ·obtain ⟨k,rfl,T⟩:=expd_tm h1
  simp only [Bool.not_true,br_false]
  have e1:sIsState.f n (nt.1,nt.2) (s.1,(s.2.1,(s.2.2.1,s.2.2.2)))=some (okSt nt s,()):=sIsState_spec h hs hn
  rw [e1]
  cases h2:okSt nt s
  ·rw [if_neg (by simp)]; rfl
  ·have o:OkSt nt s:=of_decide_eq_true h2
   have hk:=T.lt
   have hna:=o.na
   have ha4:(s.1.getD k zActor).2.length=4:=by
    have:=o.act k hk
    unfold okA at this
    simp only [Bool.and_eq_true,decide_eq_true_eq] at this
    omega
   simp only [Option.bind_some,Bool.not_true,br_false,Int.toNat_natCast]
   rw [chk_true (by omega),sL8New_spec ha4 hn]
   by_cases h3:s.1.getD k zActor=nA
   rotate_left
   ·rw [if_neg (fun h=>h3 h.2.2),decide_eq_false h3]; rfl
   ·rw [if_pos ⟨trivial,trivial,h3⟩,decide_eq_true h3]
    simp only [Option.bind_some,Bool.not_true,cut_inr,br_false]
    rw [sL5CopyF_spec hs hn]
    simp only [Option.bind_some]
    have hp:=T.net.progs
    have hl:=T.net.links
    have hp':=T.tn.progs
    have hl':=T.tn.links
    have hst:((0:Int),(s.2.2.2,(([]:List Actor),(s.2.1,(s.2.2.1,())))))=(fun (i:Nat)=>((i:Int),(s.2.2.2,(rem k (s.1.take i),(s.2.1,(s.2.2.1,())))))) 0:=by simp [rem]
    rw [hst]
    refine iter_line (fun i=>((i:Int),(s.2.2.2,(rem k (s.1.take i),(s.2.1,(s.2.2.1,())))))) s.1.length (fun ih i hi=>?_) (fun ih=>?_) (by omega)
    ·have c1:(i:Int)<(s.1.length:Int):=by omega
     have e1:s.1.getD i zActor=s.1[i]:=getD_lt hi _
     have e2:(s.1.take i).length=i:=by simp; omega
     have hr:(rem k (s.1.take i)).length≤24:=by simp [rem]; omega
     show br (decide ((i:Int)<(s.1.length:Int))) _ _=_
     rw [br_yes c1,chk_true ⟨by omega,c1⟩]
     simp only [Int.toNat_natCast,e1]
     rw [w64_succ (by omega),List.take_succ_eq_append_getElem hi,rem_snoc,e2]
     by_cases hik:i=k
     ·subst hik; simp [br]
     ·rw [if_neg hik,show decide ((i:Int)=(k:Int))=false from decide_eq_false (by omega)]
      simp only [Bool.not_false,br_true]
      rw [small_chk (by simp; omega)]
    ·show br (decide ((s.1.length:Int)<(s.1.length:Int))) _ _=_
     rw [br_no (Int.lt_irrefl _),List.take_length]
     have hrl:(rem k s.1).length≤24:=by simp [rem]; omega
     refine push_loopE m.1 (fun _=>nA) (fun i t=>(i,(s.2.2.2,(rem k s.1++t,(s.2.1,(s.2.2.1,())))))) (fun ih i hi t ht=>?_) (fun ih=>?_) (by omega) |> fun e=>Eq.trans (by rw [List.append_nil]) e
     ·have c1:(i:Int)<(m.1.length:Int):=by omega
      have e1:m.1.getD i zProgram=m.1[i]:=getD_lt hi _
      show br (decide ((i:Int)<(m.1.length:Int))) _ _=_
      rw [br_yes c1,chk_true ⟨by omega,c1⟩]
      simp only [Int.toNat_natCast,e1]
      have e3:sNewActor.f n m.1[i]=some (nA,()):=sNewActor_spec (h'.prog _ (List.getElem_mem hi)) (T.tn.prog i hi) hn
      rw [e3,Option.bind_some,small_chk (by simp; omega),w64_succ (by omega),List.append_assoc]
     ·show br (decide ((m.1.length:Int)<(m.1.length:Int))) _ _=_
      rw [br_no (Int.lt_irrefl _)]
      have hnq:=o.nq; have hns:=o.ns
      have hG:=expd_small (k:=(k:Int)) h h'
      have hS:=sIsState_spec (n:=n) hG (grown_small (k:=k) hs o T.tn h') hn
      unfold grown at hS ⊢
      refine Eq.trans (pushif_loop m.2.length (fun i=>innerL (m.2.getD i zLink)) (fun i=>(m.2.getD i zLink).2.2.2.2) (fun (i:Int) (t:List (List Int))=>(i,(s.2.2.2,(rem k s.1++m.1.map (fun _=>nA),(s.2.1++t,(s.2.2.1++t,())))))) (R:=fun t=>(sIsState.f n (expd nt k m).1 (rem k s.1++m.1.map (fun _=>nA),(s.2.1++t,(s.2.2.1++t,s.2.2.2)))).bind fun r80=>br (!r80.1) (some (0,(false,([],([],([],(m.1,(m.2,())))))))) (some (s.2.2.2,(true,(rem k s.1++m.1.map (fun _=>nA),(s.2.1++t,(s.2.2.1++t,(m.1,(m.2,()))))))))) (fun ih i hi t ht=>?_) (fun ih t=>br_no (Int.lt_irrefl _)) (by omega)) ?_ |> fun e=>Eq.trans (by rw [List.append_nil,List.append_nil]) e
      ·have c1:(i:Int)<(m.2.length:Int):=by omega
       have e1:m.2.getD i zLink=m.2[i]:=getD_lt hi _
       have hm:=List.getElem_mem hi
       show br (decide ((i:Int)<(m.2.length:Int))) _ _=_
       rw [br_yes c1,chk_true ⟨by omega,c1⟩]
       simp only [Int.toNat_natCast,e1]
       rw [w64_succ (by omega),sL1Copy_spec (h'.link _ hm).tokens]
       simp only [Option.bind_some,innerL]
       by_cases f1:0≤m.2[i].1
       ·rw [br_yes f1]
        simp only [cut_inr,f1,decide_true,Bool.true_and]
        by_cases f2:0≤m.2[i].2.2.1
        ·rw [br_yes f2,if_pos (decide_eq_true f2),small_chk (by simp; omega),small_chk (by simp; omega),List.append_assoc,List.append_assoc]
        ·rw [br_no f2,if_neg (by simp [f2])]
       ·rw [br_no f1]
        simp only [cut_inr,f1,decide_false,Bool.false_and,br_false]; rfl
      ·rw [range_fm m.2 innerL (fun l=>l.2.2.2.2) zLink]
       unfold innT at hS ⊢
       rw [hS]
       simp only [Option.bind_some]
       cases okSt _ _<;>rfl
theorem i_through {n:Nat} (hn:1048576<n):iSampleProgram.f n ([116,104,114,111,117,103,104]:List UInt8)=some (pThrough,()):=by
 obtain ⟨m,rfl⟩:∃ m,n=m+10:=⟨n-10,by omega⟩
 rfl
theorem i_sums {n:Nat} (hn:1048576<n):iSampleProgram.f n ([115,117,109,115]:List UInt8)=some (pSums,()):=by
 obtain ⟨m,rfl⟩:∃ m,n=m+10:=⟨n-10,by omega⟩
 rfl
theorem i_steps {n:Nat} (hn:1048576<n):iSampleProgram.f n ([115,116,101,112,115]:List UInt8)=some (pSteps,()):=by
 obtain ⟨m,rfl⟩:∃ m,n=m+10:=⟨n-10,by omega⟩
 rfl
structure Cls (ps:List Program):Prop where
 smp:∀ p∈ps,Smp p
 len:1≤ps.length∧ps.length≤3
 un:Undo ps (fnL ps)
 ina:lks (inOut true) (mC ps).2=[(-1,0,0,0,[])]
 outa:lks (inOut false) (mC ps).2=[(((ps.length-1:Nat):Int),0,-1,0,[])]
 inn:(mC ps).2.filter innerL=(List.range (ps.length-1)).map (fun (i:Nat)=>(((i:Int),0,((i+1:Nat):Int),0,[]):Link))
 tk:((ixs (inOut true) (mC ps).2++ixs (inOut false) (mC ps).2).any (fun i=>hasT ((mC ps).2.getD i zLink)))=false
theorem smpT {ps:List Program} (h:∀ i,i<ps.length→ps.getD i zProgram=pThrough∨ps.getD i zProgram=pSums∨ps.getD i zProgram=pSteps):∀ p∈ps,Smp p:=by
 intro p hp
 obtain ⟨i,hi,rfl⟩:=List.mem_iff_getElem.1 hp
 have:=h i hi
 rw [getD_lt hi] at this
 rcases this with e | e | e<;>rw [e]
 ·exact smp_through
 ·exact smp_sums
 ·exact smp_steps
theorem cls1:Cls [pThrough]:=⟨smpT (fun i hi=>by match i,hi with | 0,_=>exact .inl rfl),by decide,undo1,by decide,by decide,by decide,by decide⟩
theorem cls2:Cls [pThrough,pThrough]:=⟨smpT (fun i hi=>by match i,hi with | 0,_=>exact .inl rfl | 1,_=>exact .inl rfl),by decide,undo2,by decide,by decide,by decide,by decide⟩
theorem cls3:Cls [pSums,pSteps]:=⟨smpT (fun i hi=>by match i,hi with | 0,_=>exact .inr (.inl rfl) | 1,_=>exact .inr (.inr rfl)),by decide,undo3,by decide,by decide,by decide,by decide⟩
theorem cls4:Cls [pSteps,pSums]:=⟨smpT (fun i hi=>by match i,hi with | 0,_=>exact .inr (.inr rfl) | 1,_=>exact .inr (.inl rfl)),by decide,undo4,by decide,by decide,by decide,by decide⟩
theorem cls5:Cls [pSums,pThrough,pSteps]:=⟨smpT (fun i hi=>by match i,hi with | 0,_=>exact .inr (.inl rfl) | 1,_=>exact .inl rfl | 2,_=>exact .inr (.inr rfl)),by decide,undo5,by decide,by decide,by decide,by decide⟩
noncomputable def tailR (n:Nat) (a0:List Int) (nt:Network) (k:Int) (ps:List Program):Option (Bool×Unit):=(iChain.f n ps ([]:List Int)).bind fun r31=>cut (α:=(Bool×Unit)) (br (!r31.2.1) (some (.inr (true,()))) ((iIsTemplate.f n nt k r31.1).bind fun r34=>some (.inr ((!r34.1),())))) fun y33=>br y33.1 (some (false,())) ((iExp.f n nt k r31.1).bind fun r35=>(sExpandNetwork.f n nt k r31.1).bind fun r36=>cut (α:=(Bool×Unit)) (br (!decide (r35.2.1=r36.2.1)) (some (.inr (true,()))) (some (.inr ((!r35.2.1),())))) fun y37=>br y37.1 (some ((decide (r35.2.1=r36.2.1)),())) ((sLeast.f n nt).bind fun r38=>(iLeast.f n r35.1).bind fun r39=>(sLeast.f n r35.1).bind fun r40=>cut (α:=(Bool×Unit)) (br (!decide (r39.2.2.1=r40.2.2.1)) (some (.inr (true,()))) (br r39.2.2.1 (br r38.2.2.1 (some (.inr ((decide ((r39.1.length:Int)<(r38.1.length:Int))),()))) (some (.inr (false,())))) (some (.inr (false,()))))) fun y41=>br y41.1 (some (false,())) (cut (α:=(Bool×Unit)) (br (!r38.2.2.1) (some (.inr (true,()))) (some (.inr ((!r39.2.2.1),())))) fun y42=>br y42.1 (some (true,())) ((fresh.f n a0 3).bind fun r43=>(makeState.f n r43.1 nt 40).bind fun r44=>(iExpandState.f n nt r44.1 k r31.1).bind fun r45=>(sExpandStateL.f n nt.1 nt.2 r44.1.1 r44.1.2.1 r44.1.2.2.1 r44.1.2.2.2 k r31.1.1 r31.1.2).bind fun r46=>br (!decide (r45.2.1=r46.2.1)) (some (false,())) (cut (α:=(Unit)) (br r45.2.1 ((iRunTurns.f n r35.1 r45.1 20000).bind fun r50=>br (!r50.2.1) (some (.inl (false,()))) (br (decide ((r50.1.2.2.1.length:Int)<(r38.1.length:Int))) (some (.inl (false,()))) (br (decide (r50.1.2.2.2<20000)) (chk ((0:Int)≤0∧(0:Int)≤(r38.1.length:Int)∧(r38.1.length:Int)≤(r50.1.2.2.1.length:Int)) ((makeEqual.f n ((r50.1.2.2.1.drop 0).take ((r38.1.length:Int).toNat-0)) r38.1).bind fun r51=>br (!r51.1) (some (.inl (false,()))) (some (.inr ())))) (some (.inr ()))))) (some (.inr ()))) fun y49=>chk ((0:Int)≤0∧(0:Int)≤(r38.1.length:Int)∧(r38.1.length:Int)≤(r39.1.length:Int)) ((makeEqual.f n ((r39.1.drop 0).take ((r38.1.length:Int).toNat-0)) r38.1).bind fun r52=>some (r52.1,())))))))
theorem prefix_take {a b:List (List Int)} {L:Nat} (hb:b.length=L) (ha:L≤a.length) (h:∀ j,j<L→atL a j=atL b j):(a.drop 0).take ((L:Int).toNat-0)=b:=by
 rw [List.drop_zero,Int.toNat_natCast,Nat.sub_zero]
 refine eq_of_atL (by simp; omega) (fun j hj=>?_)
 have hj:j<L:=by simp at hj; omega
 rw [← h j hj]
 unfold atL
 rw [getD_lt (by simp; omega),getD_lt (by omega),List.getElem_take]
theorem tail_true {code:List Int} (hl:code.length≤1048576) {nt:Network} (hN:NetSm 5 nt) {k:Nat} (hk:k<nt.1.length) (hp:AmT.prog nt k=pThrough) {ps:List Program} (C:Cls ps):W (tailR 1048577 code nt k ps) (fun x=>x=(true,())):=by
 have hn:1048576<1048577:=by omega
 have hS:=hN.small
 have o:OkN nt:=hN.ok
 have hpr:=o.progs
 have smallp:∀ p∈ps,SmallP p:=fun p hp=>⟨by have:=(C.smp p hp).six; omega⟩
 have oc:OkN (mC ps):=chain_ok C.smp (by have:=C.len; omega) (by have:=C.len; omega) (by decide)
 have sc:SmallN (mC ps):=chain_small smallp (by have:=C.len; omega) (by simp)
 have ht:tmpl nt (k:Int) (mC ps)=true:=by
  unfold tmpl
  have e1:(ixs (inOut true) (mC ps).2).length=1:=by rw [← lks_len,C.ina]; rfl
  have e2:(ixs (inOut false) (mC ps).2).length=1:=by rw [← lks_len,C.outa]; rfl
  have e3:nt.1.getD k zProgram=pThrough:=hp
  rw [okN_true o,okN_true oc,e1,e2,C.tk,Int.toNat_natCast,e3,decide_eq_true (show 0≤(k:Int) by omega),decide_eq_true (show (k:Int)<(nt.1.length:Int) by omega)]
  rfl
 unfold tailR
 rw [iChain_spec smallp (fun p hp=>⟨(C.smp p hp).ins,(C.smp p hp).outs⟩) (by have:=C.len; omega) (by have:=C.len; omega) (by simp) oc hn,bind_unit]
 dsimp only
 rw [iIsTemplate_spec hS sc hn,ht]
 simp only [Bool.not_true,br_false,Option.bind_some,cut_inr]
 rw [iExp_spec hS sc hn,sExpandNetwork_spec hS sc hn]
 have hu:∀ {ρ:Type} (x:Network×Bool×Unit),∀ f:(Network×Bool×Unit)→Option ρ,(some x).bind f=f x:=fun _ _=>rfl
 rw [hu,hu]
 have eD:expd nt (k:Int) (mC ps)=if okN (gG nt k ps)=true then (gG nt k ps,(true,())) else (([],[]),(false,())):=by
  unfold expd
  rw [if_pos ht]; rfl
 by_cases hG:okN (gG nt k ps)=true
 rotate_left
 ·rw [eD,if_neg hG]; exact W_some.2 rfl
 have og:OkN (gG nt k ps):=of_decide_eq_true hG
 have hSG:SmallN (gG nt k ps):=by have:=expd_small (k:=(k:Int)) hS sc; rw [eD,if_pos hG] at this; exact this
 rw [eD,if_pos hG]
 have Wg:Grw nt k ps:=⟨o,hk,C.len.1,og,by rw [hp]; decide,C.ina,C.outa,C.inn⟩
 simp only [decide_true,Bool.not_true,br_false,cut_inr]
 rw [sLeast_spec hS o hn,bind_unit,iLeast_spec hSG og hn,bind_unit,sLeast_spec hSG og hn,bind_unit]
 unfold leastR
 cases e':leastF (gG nt k ps) 300 1 (tokL (gG nt k ps)) with
 | none=>
  simp only [decide_true,Bool.not_true,br_false,cut_inr]
  cases e:leastF nt 300 1 (tokL nt) with
  | none=>exact W_some.2 rfl
  | some gr=>exact W_some.2 rfl
 | some hr=>
  obtain ⟨h,r'⟩:=hr
  have e':leastP (gG nt k ps)=some (h,r'):=e'
  have lh:=least_len e'
  rw [Wg.nL] at lh
  cases e:leastF nt 300 1 (tokL nt) with
  | none=>
   simp only [decide_true,Bool.not_true,br_false,br_true,cut_inr]
   exact W_some.2 rfl
  | some gr=>
   obtain ⟨g,r⟩:=gr
   have e:leastP nt=some (g,r):=e
   have lg:=least_len e
   have hgs:∀ i,(atL g i).length≤1048576:=fun i=>by
    by_cases hi:i<nt.2.length
    ·have:=(least_okT e hi).2; omega
    ·unfold atL; rw [List.getD_eq_getElem?_getD,List.getElem?_eq_none (by omega)]; simp
   have hge:∀ x:List (List Int),x=g→makeEqual.f 1048577 x g=some (true,()):=fun x hx=>by
    rw [hx,makeEqual_spec (by have:=o.links; omega) hgs hn,decide_eq_true rfl]
   have fin:(chk ((0:Int)≤0∧(0:Int)≤(g.length:Int)∧(g.length:Int)≤(h.length:Int)) ((makeEqual.f 1048577 ((h.drop 0).take ((g.length:Int).toNat-0)) g).bind fun r52=>some (r52.1,())))=some (true,()):=by
    rw [chk_true (by omega),lg,hge _ (prefix_take lg (by omega) (fun j hj=>grow_least Wg C.un hp e e' hj))]; rfl
   simp only [decide_true,Bool.not_true,br_false,br_true,cut_inr]
   rw [decide_eq_false (show ¬ (h.length:Int)<(g.length:Int) by omega)]
   simp only [br_false,cut_inr]
   rw [W_bind]
   refine W_and (fresh_W hl hn) (fun r43 h43=>?_)
   rw [W_bind]
   refine W_and (makeState_W (most:=40) h43 hS o hn) (fun r44 h44=>?_)
   obtain ⟨s,⟨⟩⟩:=r44
   obtain ⟨hR,-,-⟩:=h44
   have os:OkSt nt s:=hR.ok o
   have hs:=small_of_ok os
   dsimp only at hR os hs ⊢
   have eX:=iExpandState_spec (n:=1048577) (k:=(k:Int)) hS hs sc hn
   have eY:=sExpandStateL_spec (n:=1048577) (k:=(k:Int)) hS hs sc hn
   have hv:∀ {ρ:Type} (x:State×Bool×Unit),∀ f:(State×Bool×Unit)→Option ρ,(some x).bind f=f x:=fun _ _=>rfl
   rw [eX,hv,eY]
   simp only [Option.bind_some,decide_true,Bool.not_true,br_false]
   cases hb:(expS nt s (k:Int) (mC ps)).2.1
   ·simp only [br_false,cut_inr]
    rw [fin]; exact W_some.2 rfl
   ·simp only [br_true]
    have hE:s.1.getD k zActor=nA∧okSt (gG nt k ps) (grown s k (mC ps))=true∧(expS nt s (k:Int) (mC ps)).1=grown s k (mC ps):=by
     have hb':=hb
     unfold expS at hb' ⊢
     split at hb'
     ·rename_i hc
      rw [if_pos hc]
      split at hb'
      ·rename_i hd
       rw [if_pos hd]
       rw [eD,if_pos hG] at hd
       exact ⟨hc.2.2,hd,rfl⟩
      ·cases hb'
     ·cases hb'
    obtain ⟨ha,ol,eL⟩:=hE
    have ol:OkSt (gG nt k ps) (lateS s k ps):=okSt_of ol
    rw [eL,iRunTurns_spec hSG (small_of_ok ol) hn]
    have eR:runTurns (gG nt k ps) (grown s k (mC ps)) 20000=(runT (gG nt k ps) none 20000 (lateS s k ps),!anyCan (gG nt k ps) (runT (gG nt k ps) none 20000 (lateS s k ps))):=by
     unfold runTurns
     rw [if_pos (okSt_true ol)]
    rw [eR]
    obtain ⟨m1,S1⟩:=runT_steps (nt:=gG nt k ps) (c:=none) (most:=20000) ol
    have hEnd:=runT_end (nt:=gG nt k ps) (c:=none) (most:=20000) ol
    have ot:=S1.ok ol
    generalize runT (gG nt k ps) none 20000 (lateS s k ps)=t at S1 hEnd ot
    have hq:anyCan (gG nt k ps) t=false:=by
     cases hc:anyCan (gG nt k ps) t
     ·rfl
     ·exfalso
      have h1:(List.range (gG nt k ps).1.length).any (mayO (gG nt k ps) none t)=true:=hc
      have h2:t.2.2.2-(lateS s k ps).2.2.2<20000:=by
       have h3:=ol.steps.1
       unfold anyCan at hc
       obtain ⟨q,hq,hcan⟩:=any_range.1 hc
       have:=(canP_facts hcan).2.1
       omega
      exact hEnd ⟨h1,h2⟩
    simp only [Option.bind_some,hq,Bool.not_false,Bool.not_true,br_false]
    have ln:t.2.2.1.length=nt.2.length+(ps.length-1):=by rw [ot.ns,Wg.nL]
    rw [br_no (show ¬ (t.2.2.1.length:Int)<(g.length:Int) by omega)]
    by_cases hT:t.2.2.2<20000
    ·rw [br_yes hT,chk_true (by omega)]
     obtain ⟨m0,S0⟩:=rch_steps hR
     rw [lg,hge _ (prefix_take lg (by omega) (fun j hj=>grow_run Wg C.un hp e S0 ha ol S1 hq hT hj))]
     simp only [Option.bind_some,Bool.not_true,br_false,cut_inr]
     rw [← lg,fin]; exact W_some.2 rfl
    ·rw [br_no hT]
     simp only [cut_inr]
     rw [fin]; exact W_some.2 rfl
theorem names_loop {ρ:Type} {n:Nat} {F:(Int×(List Program×Unit)→Option ρ)→Int×(List Program×Unit)→Option ρ} {R:List Program→Option ρ} (ps:List Program) (h3:ps.length≤3)
  (hF:∀ ih (i:Nat),i<ps.length→F ih ((i:Int),(ps.take i,()))=ih (((i+1:Nat):Int),(ps.take i++[ps.getD i zProgram],()))) (hE:∀ ih,F ih ((ps.length:Int),(ps,()))=R ps) (hn:1048576<n):iter n F (0,([],()))=R ps:=by
 refine iter_line (fun i=>((i:Int),(ps.take i,()))) ps.length (fun ih i hi=>?_) (fun ih=>?_) (by omega)
 ·rw [hF ih i hi,List.take_succ_eq_append_getElem hi,getD_lt hi]
 ·simp only [List.take_length]; exact hE ih
theorem law_true (code:List Int) (hcode:InR (.sl U8) code):∃ n,law.f n code=some (true,()):=by
 refine ⟨1048577,?_⟩
 have hn:1048576<1048577:=by omega
 unfold law.f
 by_cases hl:code.length≤1048576
 rotate_left
 ·rw [br_yes (by omega)]
 rw [br_no (show ¬ (1048576<(code.length:Int)) by omega)]
 refine W_eq.1 ?_
 rw [W_bind]
 refine W_and (makeNetwork_W (m:=5) hl (by omega) hn) (fun r1 hN=>?_)
 obtain ⟨nt,⟨⟩⟩:=r1
 have hN:NetSm 5 nt:=hN
 have hpr:nt.1.length≤5:=hN.progs
 rw [W_bind]
 refine W_and (lawAt_W hl hcode (by omega)) (fun r2 h2=>?_)
 dsimp only
 rw [w64_id (n:=(nt.1.length:Int)+1) (by omega) (by omega),if_neg (by omega)]
 have k1:=Int.tmod_nonneg (a:=r2.1) ((nt.1.length:Int)+1) h2.1
 have k2:=Int.tmod_lt_of_pos r2.1 (b:=((nt.1.length:Int)+1)) (by omega)
 generalize r2.1.tmod ((nt.1.length:Int)+1)=k0 at k1 k2
 rw [W_brd]
 refine ⟨fun _=>W_some.2 rfl,fun hne=>?_⟩
 obtain ⟨k,rfl⟩:∃ l:Nat,k0=(l:Int):=⟨k0.toNat,by omega⟩
 have hk:k<nt.1.length:=by omega
 rw [s_through hn,bind_unit,chk_true (by omega)]
 dsimp only
 have hS:=hN.small
 have eP:nt.1.getD (k:Int).toNat zProgram=nt.1[k]:=by rw [Int.toNat_natCast,getD_lt hk]
 have oP:okP nt.1[k]=true:=hN.ok.prog k hk
 rw [eP,fmtProgram_spec (hS.prog _ (List.getElem_mem hk)) hn,bind_unit,fmtProgram_spec ⟨by decide⟩ hn,bind_unit]
 dsimp only
 by_cases hf:fmtP nt.1[k]=fmtP pThrough
 rotate_left
 ·rw [decide_eq_false hf]; exact W_some.2 rfl
 rw [decide_eq_true hf]
 simp only [Bool.not_true,br_false]
 have hp:AmT.prog nt k=pThrough:=by
  unfold AmT.prog
  rw [getD_lt hk]; exact fmtP_inj oP smp_through.ok hf
 rw [W_bind]
 refine W_and (lawAt_W hl hcode (by omega)) (fun r7 h7=>?_)
 have u1:=Int.tmod_nonneg (a:=r7.1) (5:Int) h7.1
 have u2:=Int.tmod_lt_of_pos r7.1 (b:=(5:Int)) (by omega)
 generalize r7.1.tmod 5=v at u1 u2
 by_cases v4:v=4
 ·rw [br_yes v4]
  rw [names_loop (R:=tailR 1048577 code nt k) [pSums,pThrough,pSteps] (by decide) (fun ih i hi=>?_) (fun ih=>br_no (by decide)) hn]
  ·exact tail_true hl hN hk hp cls5
  ·match i,hi with
   | 0,_=>rw [br_yes (show ((0:Nat):Int)<3 by decide),br_no (show ¬ ((0:Nat):Int)=2 by decide),br_no (show ¬ ((0:Nat):Int)=1 by decide),br_yes (show ((0:Nat):Int)=0 by decide),i_sums hn,bind_unit,small_chk (by decide),w64_succ (by omega)]; rfl
   | 1,_=>rw [br_yes (show ((1:Nat):Int)<3 by decide),br_no (show ¬ ((1:Nat):Int)=2 by decide),br_yes (show ((1:Nat):Int)=1 by decide),i_through hn,bind_unit,small_chk (by decide),w64_succ (by omega)]; rfl
   | 2,_=>rw [br_yes (show ((2:Nat):Int)<3 by decide),br_yes (show ((2:Nat):Int)=2 by decide),i_steps hn,bind_unit,small_chk (by decide),w64_succ (by omega)]; rfl
 ·rw [br_no v4]
  by_cases v3:v=3
  ·rw [br_yes v3]
   rw [names_loop (R:=tailR 1048577 code nt k) [pSteps,pSums] (by decide) (fun ih i hi=>?_) (fun ih=>br_no (by decide)) hn]
   ·exact tail_true hl hN hk hp cls4
   ·match i,hi with
    | 0,_=>rw [br_yes (show ((0:Nat):Int)<2 by decide),br_no (show ¬ ((0:Nat):Int)=1 by decide),br_yes (show ((0:Nat):Int)=0 by decide),i_steps hn,bind_unit,small_chk (by decide),w64_succ (by omega)]; rfl
    | 1,_=>rw [br_yes (show ((1:Nat):Int)<2 by decide),br_yes (show ((1:Nat):Int)=1 by decide),i_sums hn,bind_unit,small_chk (by decide),w64_succ (by omega)]; rfl
  ·rw [br_no v3]
   by_cases v2:v=2
   ·rw [br_yes v2]
    rw [names_loop (R:=tailR 1048577 code nt k) [pSums,pSteps] (by decide) (fun ih i hi=>?_) (fun ih=>br_no (by decide)) hn]
    ·exact tail_true hl hN hk hp cls3
    ·match i,hi with
     | 0,_=>rw [br_yes (show ((0:Nat):Int)<2 by decide),br_no (show ¬ ((0:Nat):Int)=1 by decide),br_yes (show ((0:Nat):Int)=0 by decide),i_sums hn,bind_unit,small_chk (by decide),w64_succ (by omega)]; rfl
     | 1,_=>rw [br_yes (show ((1:Nat):Int)<2 by decide),br_yes (show ((1:Nat):Int)=1 by decide),i_steps hn,bind_unit,small_chk (by decide),w64_succ (by omega)]; rfl
   ·rw [br_no v2]
    by_cases v1:v=1
    ·rw [br_yes v1]
     rw [names_loop (R:=tailR 1048577 code nt k) [pThrough,pThrough] (by decide) (fun ih i hi=>?_) (fun ih=>br_no (by decide)) hn]
     ·exact tail_true hl hN hk hp cls2
     ·match i,hi with
      | 0,_=>rw [br_yes (show ((0:Nat):Int)<2 by decide),br_no (show ¬ ((0:Nat):Int)=1 by decide),br_yes (show ((0:Nat):Int)=0 by decide),i_through hn,bind_unit,small_chk (by decide),w64_succ (by omega)]; rfl
      | 1,_=>rw [br_yes (show ((1:Nat):Int)<2 by decide),br_yes (show ((1:Nat):Int)=1 by decide),i_through hn,bind_unit,small_chk (by decide),w64_succ (by omega)]; rfl
    ·rw [br_no v1,br_yes (show v=0 by omega)]
     rw [names_loop (R:=tailR 1048577 code nt k) [pThrough] (by decide) (fun ih i hi=>?_) (fun ih=>br_no (by decide)) hn]
     ·exact tail_true hl hN hk hp cls1
     ·match i,hi with
      | 0,_=>rw [br_yes (show ((0:Nat):Int)<1 by decide),br_yes (show ((0:Nat):Int)=0 by decide),i_through hn,bind_unit,small_chk (by decide),w64_succ (by omega)]; rfl
end Go.AmT
