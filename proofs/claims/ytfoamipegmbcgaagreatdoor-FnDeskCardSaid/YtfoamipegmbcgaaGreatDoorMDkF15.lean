/- Functions that the law FnDesk reaches, each as a plain Lean function, and that each does what that says. No condition. -/
import Derived.Test.YtfoamipegmbcgaaGreatDoorMDkF14
import Derived.Test.YtfoamipegmbcgaaGreatDoorMDkF7
namespace Go.AmT
open Go Go.Am Go.Proofs
set_option linter.unusedVariables false
set_option maxRecDepth 100000
def tys31:List (Nat×TInfo):=[(3,⟨false,1,8,[.int .i64 0],.int .i64,0,some I,[],false⟩),
 (4,⟨false,1,1,[.bool false],.bool,0,some .bool,[],false⟩),
 (5,⟨false,1,1,[.int .u8 0],.int .u8,0,some U8,[],false⟩),
 (9,⟨false,1,16,[.str []],.str,0,some .str,[],false⟩),
 (22,⟨false,1,24,[.nil],.slice,5,some (.sl U8),[],false⟩),
 (24,⟨false,1,24,[.nil],.slice,71,some (.sl tLink),[],false⟩),
 (26,⟨true,2,48,[.nil,.nil],.struct,0,some tNetwork,[(0,23),(1,24)],false⟩),
 (29,⟨false,1,24,[.nil],.slice,32,some (.sl IS),[],false⟩),
 (31,⟨true,4,80,[.nil,.nil,.nil,.int .i64 0],.struct,0,some tState,[(0,28),(1,29),(2,29),(3,3)],false⟩),
 (32,⟨false,1,24,[.nil],.slice,3,some IS,[],false⟩),
 (34,⟨true,7,152,[.nil,.nil,.nil,.nil,.nil,.int .i64 0,.nil],.struct,0,some tDesk,[(0,26),(2,31),(6,32)],false⟩),
 (48,⟨false,1,24,[.nil],.slice,9,some (.sl .str),[],false⟩)]
theorem tys31_ok:(tys31.all fun p=>tokB Tryz.prog p.1 p.2)=true:=by kernel_rfl
def sLoad.las:List (Nat×LA):=[(5,⟨[(3,.str),(5,.int .i64)],[],[4],[]⟩)]
noncomputable def sLoad.f (n:Nat) (a0:Network):Option ((List UInt8)×Unit):=(fmtNetwork.f n a0).bind fun r1=>iter (α:=((List UInt8)×(Int×Unit))) n (fun ih6 x5=>br (decide (x5.2.1<(r1.1.length:Int))) (chk (0≤x5.2.1∧x5.2.1<(r1.1.length:Int)) (br (decide (((r1.1.getD x5.2.1.toNat 0).toNat:Int)=10)) (chk (x5.1.length+([124]:List UInt8).length<maxS) (ih6 ((x5.1++([124]:List UInt8)),((w64 (x5.2.1+1)),())))) (chk (0≤x5.2.1∧x5.2.1≤(w64 (x5.2.1+1))∧(w64 (x5.2.1+1))≤(r1.1.length:Int)) (chk (x5.1.length+((r1.1.take (w64 (x5.2.1+1)).toNat).drop x5.2.1.toNat).length<maxS) (ih6 ((x5.1++((r1.1.take (w64 (x5.2.1+1)).toNat).drop x5.2.1.toNat)),((w64 (x5.2.1+1)),()))))))) (some (x5.1,()))) ([108,111,97,100,32],(0,()))
noncomputable def sLoad.mng (n:Nat):Mng:=⟨[.val tNetwork],[.val .str],fun x=>sLoad.f n x.1⟩
noncomputable def sLoad.cfg (n:Nat):Cfg:=⟨tys31,[(9,fmtNetwork.mng n)],[],[]⟩
theorem sLoad.gof:GoF Tryz.prog 30:=⟨_,Tryz.func30,by kernel_rfl,by kernel_rfl⟩
theorem sLoad.sound (n:Nat):Sound Tryz.prog 30 (sLoad.mng n):=sndF (c:=sLoad.cfg n) (n:=n) (an:=annOf Tryz.f30 sLoad.las) ⟨⟨fmtNetwork.sound n,fmtNetwork.gof⟩,trivial⟩ trivial (tysOK tys31_ok) Tryz.func30 (fun x=>by kernel_rfl)
def makeLoad.las:List (Nat×LA):=[]
noncomputable def makeLoad.f (n:Nat) (a0:Network):Option ((List UInt8)×Unit):=(sLoad.f n a0).bind fun r1=>some (r1.1,())
noncomputable def makeLoad.mng (n:Nat):Mng:=⟨[.val tNetwork],[.val .str],fun x=>makeLoad.f n x.1⟩
noncomputable def makeLoad.cfg (n:Nat):Cfg:=⟨tys31,[(30,sLoad.mng n)],[],[]⟩
theorem makeLoad.gof:GoF Tryz.prog 8:=⟨_,Tryz.func8,by kernel_rfl,by kernel_rfl⟩
theorem makeLoad.sound (n:Nat):Sound Tryz.prog 8 (makeLoad.mng n):=sndF (c:=makeLoad.cfg n) (n:=n) (an:=annOf Tryz.f8 makeLoad.las) ⟨⟨sLoad.sound n,sLoad.gof⟩,trivial⟩ trivial (tysOK tys31_ok) Tryz.func8 (fun x=>by kernel_rfl)
def makeNumber.las:List (Nat×LA):=[]
noncomputable def makeNumber.f (n:Nat) (a0:Int):Option ((List UInt8)×Unit):=(l1Number.f n a0).bind fun r1=>some (r1.1,())
noncomputable def makeNumber.mng (n:Nat):Mng:=⟨[.val I],[.val .str],fun x=>makeNumber.f n x.1⟩
noncomputable def makeNumber.cfg (n:Nat):Cfg:=⟨tys31,[],[(33,l1Number.mng n)],[]⟩
theorem makeNumber.gof:GoF Tryz.prog 13:=⟨_,Tryz.func13,by kernel_rfl,by kernel_rfl⟩
theorem makeNumber.sound (n:Nat):Sound Tryz.prog 13 (makeNumber.mng n):=sndF (c:=makeNumber.cfg n) (n:=n) (an:=annOf Tryz.f13 makeNumber.las) trivial ⟨⟨l1Number.sound n,l1Number.gof⟩,trivial⟩ (tysOK tys31_ok) Tryz.func13 (fun x=>by kernel_rfl)
def statesB.las:List (Nat×LA):=[]
noncomputable def statesB.f (n:Nat) (a0:Network) (a1:State) (a2:State):Option (Bool×Unit):=(fmtState.f n a0 a1).bind fun r1=>br (!decide (r1.1=([]:List UInt8))) ((fmtState.f n a0 a2).bind fun r2=>some ((decide (r1.1=r2.1)),())) (some (false,()))
noncomputable def statesB.mng (n:Nat):Mng:=⟨[.val tNetwork,.val tState,.val tState],[.val .bool],fun x=>statesB.f n x.1 x.2.1 x.2.2.1⟩
noncomputable def statesB.cfg (n:Nat):Cfg:=⟨tys31,[(35,fmtState.mng n)],[],[]⟩
theorem statesB.gof:GoF Tryz.prog 10:=⟨_,Tryz.func10,by kernel_rfl,by kernel_rfl⟩
theorem statesB.sound (n:Nat):Sound Tryz.prog 10 (statesB.mng n):=sndF (c:=statesB.cfg n) (n:=n) (an:=annOf Tryz.f10 statesB.las) ⟨⟨fmtState.sound n,fmtState.gof⟩,trivial⟩ trivial (tysOK tys31_ok) Tryz.func10 (fun x=>by kernel_rfl)
def law.las:List (Nat×LA):=[(6,⟨[(56,.bool)],[],[0,3,4],[]⟩),(12,⟨[(92,.bool)],[],[0,3,4,7,9],[]⟩),(19,⟨[(146,.bool)],[],[3,4,7,9],[]⟩),(25,⟨[(156,.int .i64)],[],[4,7,9,18,20,155],[]⟩),(31,⟨[(184,.bool)],[],[4,7,9,18,20,21,155,156],[]⟩)]
noncomputable def law.f (n:Nat) (a0:List Int):Option (Bool×Unit):=br (decide (1048576<(a0.length:Int))) (some (true,())) ((makeNetwork.f n a0 5).bind fun r1=>(iNewDesk.f n ).bind fun r2=>(makeLoad.f n r1.1).bind fun r3=>(iExec.f n r2.1 r3.1).bind fun r4=>cut (α:=(Bool×Unit)) (br (!decide (r4.2.1=([111,107]:List UInt8))) (some (.inr (true,()))) ((fmtNetwork.f n r4.1.1).bind fun r10=>(fmtNetwork.f n r1.1).bind fun r11=>br (!decide (r10.1=r11.1)) (some (.inr (true,()))) ((sStartState.f n r1.1).bind fun r12=>(statesB.f n r1.1 r4.1.2.1 r12.1).bind fun r13=>some (.inr ((!r13.1),()))))) fun y9=>br y9.1 (some (false,())) ((lawAt.f n a0 1).bind fun r14=>(makeNumber.f n r14.1).bind fun r15=>chk (([116,117,114,110,115,32]:List UInt8).length+r15.1.length<maxS) ((iExec.f n r4.1 (([116,117,114,110,115,32]:List UInt8)++r15.1)).bind fun r16=>(sStartState.f n r1.1).bind fun r17=>(iRunTurns.f n r1.1 r17.1 r14.1).bind fun r18=>cut (α:=(Bool×Unit)) (br (!decide (r18.2.1=(decide (r16.2.1=([113,117,105,101,116]:List UInt8))))) (some (.inr (true,()))) (br (decide (r18.2.1=(decide (r16.2.1=([98,117,115,121]:List UInt8))))) (some (.inr (true,()))) ((statesB.f n r1.1 r16.1.2.1 r18.1).bind fun r21=>some (.inr ((!r21.1),()))))) fun y20=>br y20.1 (some (false,())) ((lawAt.f n a0 2).bind fun r22=>(makeNumber.f n (r22.1.tmod 5)).bind fun r23=>chk (([99,97,112,115,32]:List UInt8).length+r23.1.length<maxS) ((iExec.f n r4.1 (([99,97,112,115,32]:List UInt8)++r23.1)).bind fun r24=>(iExec.f n r24.1 ([98,111,117,110,100,101,100,32,51,48,48]:List UInt8)).bind fun r25=>(sStartState.f n r1.1).bind fun r26=>(lawAt.f n a0 2).bind fun r27=>(iUni.f n r1.1 (r27.1.tmod 5)).bind fun r28=>(iRunBounded.f n r1.1 r26.1 r28.1 300).bind fun r29=>cut (α:=(Bool×Unit)) (br (!decide (r24.2.1=([111,107]:List UInt8))) (some (.inr (true,()))) (br (decide (r29.2.1<1)) (some (.inr (true,()))) (br (decide (3<r29.2.1)) (some (.inr (true,()))) (br (decide (r29.2.1=3)) (br (!decide (r25.2.1=([98,117,115,121]:List UInt8))) (some (.inr (true,()))) ((statesB.f n r1.1 r25.1.2.1 r29.1).bind fun r35=>some (.inr ((!r35.1),())))) (br (decide (r29.2.1=2)) (br (!decide (r25.2.1=([106,97,109,109,101,100]:List UInt8))) (some (.inr (true,()))) ((statesB.f n r1.1 r25.1.2.1 r29.1).bind fun r36=>some (.inr ((!r36.1),())))) (br (decide (r29.2.1=1)) (br (!decide (r25.2.1=([113,117,105,101,116]:List UInt8))) (some (.inr (true,()))) ((statesB.f n r1.1 r25.1.2.1 r29.1).bind fun r37=>some (.inr ((!r37.1),())))) (br (decide (r29.2.1=0)) (br (!decide (r25.2.1=([110,111]:List UInt8))) (some (.inr (true,()))) ((statesB.f n r1.1 r25.1.2.1 r29.1).bind fun r38=>some (.inr ((!r38.1),())))) (none)))))))) fun y34=>br y34.1 (some (false,())) ((sLeast.f n r1.1).bind fun r39=>iter (α:=(Int×Unit)) n (fun ih71 x70=>br (decide (x70.1<(r1.1.2.length:Int))) ((makeNumber.f n x70.1).bind fun r72=>chk (([108,101,97,115,116,32]:List UInt8).length+r72.1.length<maxS) ((iExec.f n r4.1 (([108,101,97,115,116,32]:List UInt8)++r72.1)).bind fun r73=>cut (α:=(Bool×Unit)) (br r39.2.2.1 (chk (0≤x70.1∧x70.1<(r39.1.length:Int)) ((iFmtStream.f n (r39.1.getD x70.1.toNat [])).bind fun r76=>br (!decide (r73.2.1=r76.1)) (some (.inr (true,()))) (br (!r39.2.2.1) (some (.inr ((!decide (r73.2.1=([110,111]:List UInt8))),()))) (some (.inr (false,())))))) (br (!r39.2.2.1) (some (.inr ((!decide (r73.2.1=([110,111]:List UInt8))),()))) (some (.inr (false,()))))) fun y75=>br y75.1 (some (false,())) ((makeNumber.f n x70.1).bind fun r77=>chk (([115,101,110,116,32]:List UInt8).length+r77.1.length<maxS) ((iExec.f n r16.1 (([115,101,110,116,32]:List UInt8)++r77.1)).bind fun r78=>br (decide ((r18.1.2.2.1.length:Int)≤x70.1)) (some (false,())) (chk (0≤x70.1∧x70.1<(r18.1.2.2.1.length:Int)) ((iFmtStream.f n (r18.1.2.2.1.getD x70.1.toNat [])).bind fun r79=>br (!decide (r78.2.1=r79.1)) (some (false,())) (ih71 ((w64 (x70.1+1)),())))))))) (some (true,()))) (0,())))))))
noncomputable def law.mng (n:Nat):Mng:=⟨[.val (.sl U8)],[.val .bool],fun x=>law.f n x.1⟩
noncomputable def law.cfg (n:Nat):Cfg:=⟨tys31,[(5,makeNetwork.mng n),(7,iNewDesk.mng n),(8,makeLoad.mng n),(6,iExec.mng n),(9,fmtNetwork.mng n),(11,sStartState.mng n),(10,statesB.mng n),(12,lawAt.mng n),(13,makeNumber.mng n),(14,iRunTurns.mng n),(16,iUni.mng n),(15,iRunBounded.mng n),(17,sLeast.mng n),(18,iFmtStream.mng n)],[],[2000123]⟩
theorem law.sound (n:Nat):Sound Tryz.prog 3 (law.mng n):=sndF (c:=law.cfg n) (n:=n) (an:=annOf Tryz.f3 law.las) ⟨⟨makeNetwork.sound n,makeNetwork.gof⟩,⟨⟨iNewDesk.sound n,iNewDesk.gof⟩,⟨⟨makeLoad.sound n,makeLoad.gof⟩,⟨⟨iExec.sound n,iExec.gof⟩,⟨⟨fmtNetwork.sound n,fmtNetwork.gof⟩,⟨⟨sStartState.sound n,sStartState.gof⟩,⟨⟨statesB.sound n,statesB.gof⟩,⟨⟨lawAt.sound n,lawAt.gof⟩,⟨⟨makeNumber.sound n,makeNumber.gof⟩,⟨⟨iRunTurns.sound n,iRunTurns.gof⟩,⟨⟨iUni.sound n,iUni.gof⟩,⟨⟨iRunBounded.sound n,iRunBounded.gof⟩,⟨⟨sLeast.sound n,sLeast.gof⟩,⟨⟨iFmtStream.sound n,iFmtStream.gof⟩,trivial⟩⟩⟩⟩⟩⟩⟩⟩⟩⟩⟩⟩⟩⟩ trivial (tysOK tys31_ok) Tryz.func3 (fun x=>by kernel_rfl)
end Go.AmT
namespace Go.AmT
open Go Go.Am
set_option linter.unusedVariables false
set_option linter.unusedSimpArgs false
theorem makeNumber_spec {n:Nat} {x:Int} (hn:1048576<n) (h0 : -1000000≤x) (h1:x≤1000000):makeNumber.f n x=some (Lib.itoa x,()):=by
 unfold makeNumber.f
 rw [number_spec hn h0 h1,bind_unit]
theorem makeLoad_spec {n:Nat} {nt:Network} (o:OkN nt) (hS:SmallN nt) (hn:1048576<n):makeLoad.f n nt=some (txtLoad nt,()):=by
 have hl:=txtN_len o
 have ef:fmtN nt=txtN nt:=by unfold fmtN; rw [if_pos (okN_true o)]
 unfold makeLoad.f sLoad.f
 rw [fmtNetwork_spec hS hn,bind_unit,ef]
 dsimp only
 have key:iter n (fun (ih6:(List UInt8)×(Int×Unit)→Option (List UInt8×Unit)) x5=>br (decide (x5.2.1<((txtN nt).length:Int))) (chk (0≤x5.2.1∧x5.2.1<((txtN nt).length:Int)) (br (decide ((((txtN nt).getD x5.2.1.toNat 0).toNat:Int)=10)) (chk (x5.1.length+([124]:List UInt8).length<maxS) (ih6 ((x5.1++([124]:List UInt8)),((w64 (x5.2.1+1)),())))) (chk (0≤x5.2.1∧x5.2.1≤(w64 (x5.2.1+1))∧(w64 (x5.2.1+1))≤((txtN nt).length:Int)) (chk (x5.1.length+(((txtN nt).take (w64 (x5.2.1+1)).toNat).drop x5.2.1.toNat).length<maxS) (ih6 ((x5.1++(((txtN nt).take (w64 (x5.2.1+1)).toNat).drop x5.2.1.toNat)),((w64 (x5.2.1+1)),()))))))) (some (x5.1,()))) ([108,111,97,100,32],(0,()))=some (txtLoad nt,()):=by
  have hst:(([108,111,97,100,32]:List UInt8),((0:Int),()))=(fun (i:Nat)=>(([108,111,97,100,32]:List UInt8)++sub1 10 124 ((txtN nt).take i),((i:Int),()))) 0:=by simp [sub1]
  rw [hst]
  refine iter_line (fun i=>(([108,111,97,100,32]:List UInt8)++sub1 10 124 ((txtN nt).take i),((i:Int),()))) (txtN nt).length (fun ih i hi=>?_) (fun ih=>?_) (by omega)
  ·have e1:(txtN nt).getD i 0=(txtN nt)[i]:=getD_lt hi _
   have hlen:(([108,111,97,100,32]:List UInt8)++sub1 10 124 ((txtN nt).take i)).length≤200000:=by
    rw [List.length_append,sub1_len,List.length_take]; simp; omega
   have es:sub1 10 124 ((txtN nt).take (i+1))=sub1 10 124 ((txtN nt).take i)++[if (txtN nt)[i]=10 then 124 else (txtN nt)[i]]:=by
    unfold sub1
    rw [List.take_succ_eq_append_getElem hi,List.map_append]; rfl
   simp only [br_yes (show (i:Int)<((txtN nt).length:Int) by omega),Int.toNat_natCast,e1]
   rw [chk_true (by omega),w64_succ (by omega),Int.toNat_natCast]
   by_cases h10:(txtN nt)[i]=10
   ·rw [br_yes (by rw [h10]; rfl),chk_true (by unfold maxS; simp only [List.length_singleton]; omega),es,if_pos h10,List.append_assoc]
   ·have hne:¬ (((txtN nt)[i].toNat:Int)=10):=fun h=>h10 (by
     have h:(txtN nt)[i].toNat=10:=by omega
     exact UInt8.toNat_inj.1 (by rw [h]; rfl))
    have ed:((txtN nt).take (i+1)).drop i=[(txtN nt)[i]]:=by
     rw [List.take_succ_eq_append_getElem hi]
     have:((txtN nt).take i).length=i:=by simp; omega
     rw [List.drop_append_of_le_length (by omega),List.drop_of_length_le (by omega),List.nil_append]
    rw [br_no hne,chk_true (by omega),chk_true (show (([108,111,97,100,32]:List UInt8)++sub1 10 124 ((txtN nt).take i)).length+(((txtN nt).take (i+1)).drop i).length<maxS by rw [ed]; unfold maxS; simp only [List.length_singleton]; omega),ed,es,if_neg h10,List.append_assoc]
  ·simp only [List.take_length]
   exact br_no (Int.lt_irrefl _)
 rw [key,bind_unit]
theorem txtSt_ne (s:State):txtSt s≠[]:=by unfold txtSt; simp
theorem states_same {n:Nat} {nt:Network} {s:State} (h:SmallN nt) (o:OkSt nt s) (hn:1048576<n):statesB.f n nt s s=some (true,()):=by
 unfold statesB.f
 rw [fmtState_spec h (small_of_ok o) hn,bind_unit]
 dsimp only
 have e:fmtSt nt s≠[]:=by unfold fmtSt; rw [if_pos (okSt_true o)]; exact txtSt_ne s
 rw [decide_eq_false e]
 simp [br]
theorem lineW_eq (w:List UInt8) (x:Int):(w++[32])++Lib.itoa x=lineW w x:=by unfold lineW; simp
theorem law_true (code:List Int) (hcode:InR (.sl U8) code):∃ n,law.f n code=some (true,()):=by
 refine ⟨1048578,?_⟩
 have hn:1048576<1048578:=by omega
 have hn':1048577<1048578:=by omega
 unfold law.f
 by_cases hl:code.length≤1048576
 rotate_left
 ·rw [br_yes (by omega)]
 rw [br_no (show ¬ (1048576<(code.length:Int)) by omega)]
 refine W_eq.1 ?_
 rw [W_bind]
 refine W_and (makeNetwork_W (m:=5) hl (by omega) hn) (fun r1 hN=>?_)
 obtain ⟨nt,⟨⟩⟩:=r1
 have hN:NetSm 5 nt:=hN
 have hS:=hN.small
 have o:OkN nt:=hN.ok
 have hli:=o.links
 have so:=start_ok o
 have O0:=okD_new o hS (c:=0) (by omega) (by omega)
 dsimp only
 have eNew:iNewDesk.f 1048578=some (zD,()):=rfl
 rw [eNew,bind_unit,makeLoad_spec o hS hn,bind_unit]
 dsimp only
 rw [exec_load o hS hn',bind_unit]
 dsimp only
 rw [decide_eq_true (show ([111,107]:List UInt8)=[111,107] from rfl)]
 simp only [Bool.not_true,br_false]
 rw [fmtNetwork_spec hS hn,bind_unit,bind_unit]
 dsimp only
 rw [decide_eq_true rfl]
 simp only [Bool.not_true,br_false]
 rw [sStartState_spec hS o hn,bind_unit]
 dsimp only
 rw [states_same hS so hn,bind_unit]
 simp only [Bool.not_true,cut_inr,br_false]
 rw [W_bind]
 refine W_and (lawAt_W hl hcode (by omega)) (fun r14 h14=>?_)
 generalize r14.1=most at h14
 rw [makeNumber_spec hn (by omega) (by omega),bind_unit]
 dsimp only
 have li:=fun (x:Int) (h0:0≤x) (h1:x≤1000000)=>itoa_len (x:=x) (by omega) h1
 rw [chk_true (by have:=li most (by omega) (by omega); unfold maxS; simp only [List.length_cons,List.length_nil]; omega)]
 have eT:iExec.f 1048578 (nt,(start nt,uni nt 0)) ([116,117,114,110,115,32]++Lib.itoa most)=some ((nt,((runTurns nt (start nt) most).1,uni nt 0)),(if (runTurns nt (start nt) most).2=true then [113,117,105,101,116] else [98,117,115,121],())):=by
  have:=exec_one O0 (w:=wTurns) (x:=most) (by decide) (by decide) (by show [116,117,114,110,115]≠_; decide) (by omega) (by omega) hn' (one_turns O0 (by omega) hn)
  rw [← lineW_eq] at this
  exact this
 rw [eT,bind_unit]
 dsimp only
 rw [bind_unit]
 dsimp only
 rw [iRunTurns_spec hS (small_of_ok so) hn,bind_unit]
 dsimp only
 have eR:(runTurns nt (start nt) most).1=runT nt none most (start nt):=by unfold runTurns; rw [if_pos (okSt_true so)]
 have oR:OkSt nt (runTurns nt (start nt) most).1:=by rw [eR]; exact runT_ok so
 generalize hrt:runTurns nt (start nt) most=rt at oR
 obtain ⟨s1,q1⟩:=rt
 dsimp only at oR ⊢
 have c1:decide (q1=decide ((if q1=true then ([113,117,105,101,116]:List UInt8) else [98,117,115,121])=[113,117,105,101,116]))=true:=by cases q1<;>decide
 have c2:decide (q1=decide ((if q1=true then ([113,117,105,101,116]:List UInt8) else [98,117,115,121])=[98,117,115,121]))=false:=by cases q1<;>decide
 rw [c1,c2]
 simp only [Bool.not_true,br_false]
 rw [states_same hS oR hn,bind_unit]
 simp only [Bool.not_true,cut_inr,br_false]
 rw [W_bind]
 have hat:=lawAt_W (n:=1048578) (i:=2) hl hcode (by omega)
 obtain ⟨r22,e22,h22⟩:∃ r,lawAt.f 1048578 code 2=some r∧0≤r.1∧r.1≤255:=by
  cases e:lawAt.f 1048578 code 2 with
  | none=>rw [e] at hat; exact absurd hat (by simp [W])
  | some r=>rw [e,W_some] at hat; exact ⟨r,rfl,hat⟩
 rw [e22]
 refine W_some.2 ?_
 have u1:=Int.tmod_nonneg (a:=r22.1) (5:Int) h22.1
 have u2:=Int.tmod_lt_of_pos r22.1 (b:=(5:Int)) (by omega)
 generalize hc5:r22.1.tmod 5=c at u1 u2
 have Oc:=okD_new o hS (c:=c) (by omega) (by omega)
 rw [makeNumber_spec hn (by omega) (by omega),bind_unit]
 dsimp only
 rw [chk_true (by have:=li c (by omega) (by omega); unfold maxS; simp only [List.length_cons,List.length_nil]; omega)]
 have eC:iExec.f 1048578 (nt,(start nt,uni nt 0)) ([99,97,112,115,32]++Lib.itoa c)=some ((nt,(start nt,uni nt c)),([111,107],())):=by
  have:=exec_one O0 (w:=wCaps) (x:=c) (by decide) (by decide) (by show ([99,97,112,115,32]:List UInt8)≠_; decide) (by omega) (by omega) hn' (one_caps O0 (by omega) (by omega) hn)
  rw [← lineW_eq] at this
  exact this
 rw [eC,bind_unit]
 dsimp only
 have e300:([98,111,117,110,100,101,100,32,51,48,48]:List UInt8)=lineW wBound 300:=by
  have:Lib.itoa 300=[51,48,48]:=by
   have d1:Lib.decDigits 3=[51]:=Lib.decDigits_one (by omega)
   have d2:Lib.decDigits 30=[51,48]:=by rw [dd_big (by omega)]; show Lib.decDigits 3++_=_; rw [d1]; rfl
   have d3:Lib.decDigits 300=[51,48,48]:=by rw [dd_big (by omega)]; show Lib.decDigits 30++_=_; rw [d2]; rfl
   exact d3
  unfold lineW
  rw [this]; rfl
 have eB:iExec.f 1048578 (nt,(start nt,uni nt c)) [98,111,117,110,100,101,100,32,51,48,48]=some ((nt,((runBounded nt (start nt) (uni nt c) 300).1,uni nt c)),(boundT (runBounded nt (start nt) (uni nt c) 300).2,())):=by
  rw [e300]
  exact exec_one Oc (w:=wBound) (x:=300) (by decide) (by decide) (by show ([98,111,117,110,100]:List UInt8)≠_; decide) (by omega) (by omega) hn' (one_bound Oc (by omega) hn)
 rw [eB,bind_unit,bind_unit,bind_unit]
 dsimp only
 rw [hc5]
 rw [iUni_spec hS hn,bind_unit]
 dsimp only
 rw [iRunBounded_spec hS (small_of_ok so) (uni_len hS) hn,bind_unit]
 dsimp only
 have eRB:runBounded nt (start nt) (uni nt c) 300=runB nt (start nt) (uni nt c) 300:=by
  unfold runBounded
  rw [okSt_true so,uni_ok o u1 (by omega)]; rfl
 have oB:OkSt nt (runBounded nt (start nt) (uni nt c) 300).1:=by rw [eRB]; exact runB_ok so
 have hB:(runBounded nt (start nt) (uni nt c) 300).2=1∨(runBounded nt (start nt) (uni nt c) 300).2=2∨(runBounded nt (start nt) (uni nt c) 300).2=3:=by
  rw [eRB]
  show bndW _ _ _=1∨bndW _ _ _=2∨bndW _ _ _=3
  unfold bndW
  split
  ·split
   ·exact .inr (.inr rfl)
   ·exact .inr (.inl rfl)
  ·exact .inl rfl
 generalize runBounded nt (start nt) (uni nt c) 300=rb at oB hB
 obtain ⟨s2,q2⟩:=rb
 dsimp only at oB hB ⊢
 rw [decide_eq_true (show ([111,107]:List UInt8)=[111,107] from rfl)]
 simp only [Bool.not_true,br_false]
 have fin:W ((sLeast.f 1048578 nt).bind fun r39=>iter (α:=(Int×Unit)) 1048578 (fun ih71 x70=>br (decide (x70.1<(nt.2.length:Int))) ((makeNumber.f 1048578 x70.1).bind fun r72=>chk (([108,101,97,115,116,32]:List UInt8).length+r72.1.length<maxS) ((iExec.f 1048578 (nt,(start nt,uni nt 0)) (([108,101,97,115,116,32]:List UInt8)++r72.1)).bind fun r73=>cut (α:=(Bool×Unit)) (br r39.2.2.1 (chk (0≤x70.1∧x70.1<(r39.1.length:Int)) ((iFmtStream.f 1048578 (r39.1.getD x70.1.toNat [])).bind fun r76=>br (!decide (r73.2.1=r76.1)) (some (.inr (true,()))) (br (!r39.2.2.1) (some (.inr ((!decide (r73.2.1=([110,111]:List UInt8))),()))) (some (.inr (false,())))))) (br (!r39.2.2.1) (some (.inr ((!decide (r73.2.1=([110,111]:List UInt8))),()))) (some (.inr (false,()))))) fun y75=>br y75.1 (some (false,())) ((makeNumber.f 1048578 x70.1).bind fun r77=>chk (([115,101,110,116,32]:List UInt8).length+r77.1.length<maxS) ((iExec.f 1048578 (nt,(s1,uni nt 0)) (([115,101,110,116,32]:List UInt8)++r77.1)).bind fun r78=>br (decide ((s1.2.2.1.length:Int)≤x70.1)) (some (false,())) (chk (0≤x70.1∧x70.1<(s1.2.2.1.length:Int)) ((iFmtStream.f 1048578 (s1.2.2.1.getD x70.1.toNat [])).bind fun r79=>br (!decide (r78.2.1=r79.1)) (some (false,())) (ih71 ((w64 (x70.1+1)),())))))))) (some (true,()))) (0,())) (fun x=>x=(true,())):=by
  have O1:OkD (nt,(s1,uni nt 0)):=⟨oR,uni_ok o (by omega) (by omega),hS⟩
  rw [sLeast_spec hS o hn,bind_unit]
  refine W_eq.2 ?_
  refine iter_line (fun i=>((i:Int),())) nt.2.length (fun ih i hi=>?_) (fun ih=>br_no (Int.lt_irrefl _)) (by omega)
  have lx:=li (i:Int) (by omega) (by omega)
  simp only [br_yes (show (i:Int)<(nt.2.length:Int) by omega)]
  rw [makeNumber_spec hn (by omega) (by omega),bind_unit]
  dsimp only
  rw [chk_true (by unfold maxS; simp only [List.length_cons,List.length_nil]; omega)]
  have eL0:([108,101,97,115,116,32]:List UInt8)++Lib.itoa (i:Int)=lineW wLeast (i:Int):=lineW_eq wLeast _
  have eS0:([115,101,110,116,32]:List UInt8)++Lib.itoa (i:Int)=lineW wSent (i:Int):=lineW_eq wSent _
  rw [eL0]
  have exS:iExec.f 1048578 (nt,(s1,uni nt 0)) (lineW wSent (i:Int))=some ((nt,(s1,uni nt 0)),(fmtS (s1.2.2.1.getD i []),())):=
   exec_one O1 (w:=wSent) (x:=(i:Int)) (by decide) (by decide) (by show ([115,101,110,116,32]:List UInt8)≠_; decide) (by omega) (by omega) hn' (one_sent O1 hi hn)
  have hs1:=oR.ns
  have hq1:=(okS_len (oR.lnk i hi).hs).1
  have rest:∀ {F:Unit→Option (Bool×Unit)},(((some (Lib.itoa (i:Int),())):Option (List UInt8×Unit)).bind fun r77=>chk (([115,101,110,116,32]:List UInt8).length+r77.1.length<maxS) ((iExec.f 1048578 (nt,(s1,uni nt 0)) (([115,101,110,116,32]:List UInt8)++r77.1)).bind fun r78=>br (decide ((s1.2.2.1.length:Int)≤(i:Int))) (some (false,())) (chk (0≤(i:Int)∧(i:Int)<(s1.2.2.1.length:Int)) ((iFmtStream.f 1048578 (s1.2.2.1.getD (i:Int).toNat [])).bind fun r79=>br (!decide (r78.2.1=r79.1)) (some (false,())) (F ())))))=F ():=by
   intro F
   rw [bind_unit]
   dsimp only
   rw [chk_true (by unfold maxS; simp only [List.length_cons,List.length_nil]; omega),eS0,exS,bind_unit]
   dsimp only
   rw [br_no (by omega),chk_true (by omega),Int.toNat_natCast,iFmtStream_spec (by omega) hn,bind_unit]
   dsimp only
   rw [decide_eq_true rfl]; rfl
  have exL:∀ {r:Desk×(List UInt8×(Bool×Unit))},iOne.f 1048578 (nt,(start nt,uni nt 0)) wLeast (i:Int)=some r→iExec.f 1048578 (nt,(start nt,uni nt 0)) (lineW wLeast (i:Int))=some (if r.2.2.1=true then (r.1,(r.2.1,())) else ((nt,(start nt,uni nt 0)),([110,111],()))):=
   fun e=>exec_one O0 (w:=wLeast) (x:=(i:Int)) (by decide) (by decide) (by show ([108,101,97,115,116]:List UInt8)≠_; decide) (by omega) (by omega) hn' e
  have oL:=one_least (n:=1048578) O0 hi hn
  unfold leastR
  cases e:leastF nt 300 1 (tokL nt) with
  | none=>
   have e':leastP nt=none:=e
   rw [e'] at oL
   rw [exL oL,bind_unit]
   simp only [Bool.false_eq_true,if_false,decide_true,Bool.not_true,Bool.not_false,br_false,br_true,cut_inr]
   have:=rest (F:=fun _=>ih ((w64 ((i:Int)+1)),()))
   rw [w64_succ (by omega)] at this ⊢
   exact this
  | some gr=>
   obtain ⟨g,r⟩:=gr
   have e':leastP nt=some (g,r):=e
   rw [e'] at oL
   have lg:=least_len e'
   have hgl:(g.getD i []).length≤1048576:=by have:=(okS_len (least_okS e' hi)).1; unfold atL at this; omega
   rw [exL oL,bind_unit]
   simp only [if_true,Bool.not_true,br_false,br_true]
   rw [chk_true (by omega),Int.toNat_natCast,iFmtStream_spec hgl hn,bind_unit]
   dsimp only
   have:atL g i=g.getD i []:=rfl
   rw [this,decide_eq_true rfl]
   simp only [Bool.not_true,br_false,cut_inr]
   have:=rest (F:=fun _=>ih ((w64 ((i:Int)+1)),()))
   rw [w64_succ (by omega)] at this ⊢
   exact this
 rcases hB with h | h | h
 ·rw [h,br_no (by decide),br_no (by decide),br_no (by decide),br_no (by decide),br_yes rfl,decide_eq_true (show boundT 1=[113,117,105,101,116] from rfl)]
  simp only [Bool.not_true,br_false]
  rw [states_same hS oB hn,bind_unit]
  simp only [Bool.not_true,cut_inr,br_false]
  exact fin
 ·rw [h,br_no (by decide),br_no (by decide),br_no (by decide),br_yes rfl,decide_eq_true (show boundT 2=[106,97,109,109,101,100] from rfl)]
  simp only [Bool.not_true,br_false]
  rw [states_same hS oB hn,bind_unit]
  simp only [Bool.not_true,cut_inr,br_false]
  exact fin
 ·rw [h,br_no (by decide),br_no (by decide),br_yes rfl,decide_eq_true (show boundT 3=[98,117,115,121] from rfl)]
  simp only [Bool.not_true,br_false]
  rw [states_same hS oB hn,bind_unit]
  simp only [Bool.not_true,cut_inr,br_false]
  exact fin
end Go.AmT
