/- Functions that the law FnDesk reaches, each as a plain Lean function, and that each does what that says. No condition. -/
import Derived.Test.YtfoamipegmbcgaaGreatDoorMDkF4
import Derived.Test.YtfoamipegmbcgaaGreatDoorMDkF3
import Derived.Test.YtfoamipegmbcgaaGreatDoorMDkF2
namespace Go.AmT
open Go Go.Am Go.Proofs
set_option linter.unusedVariables false
set_option maxRecDepth 100000
def tys9:List (Nat×TInfo):=[(3,⟨false,1,8,[.int .i64 0],.int .i64,0,some I,[],false⟩),
 (23,⟨false,1,24,[.nil],.slice,68,some (.sl tProgram),[],false⟩),
 (24,⟨false,1,24,[.nil],.slice,71,some (.sl tLink),[],false⟩),
 (26,⟨true,2,48,[.nil,.nil],.struct,0,some tNetwork,[(0,23),(1,24)],false⟩),
 (28,⟨false,1,24,[.nil],.slice,75,some (.sl tActor),[],false⟩),
 (29,⟨false,1,24,[.nil],.slice,32,some (.sl IS),[],false⟩),
 (31,⟨true,4,80,[.nil,.nil,.nil,.int .i64 0],.struct,0,some tState,[(0,28),(1,29),(2,29),(3,3)],false⟩),
 (32,⟨false,1,24,[.nil],.slice,3,some IS,[],false⟩),
 (68,⟨true,3,40,[.int .i64 0,.int .i64 0,.nil],.struct,0,some tProgram,[(0,3),(1,3),(2,66)],false⟩),
 (71,⟨true,5,56,[.int .i64 0,.int .i64 0,.int .i64 0,.int .i64 0,.nil],.struct,0,some tLink,[(0,3),(1,3),(2,3),(3,3),(4,32)],false⟩),
 (75,⟨true,2,32,[.int .i64 0,.nil],.struct,0,some tActor,[(0,3),(1,32)],false⟩)]
theorem tys9_ok:(tys9.all fun p=>tokB Tryz.prog p.1 p.2)=true:=by kernel_rfl
def sL4Tokens.las:List (Nat×LA):=[(4,⟨[(3,.own 1000 IS),(10,.int .i64)],[(1000,.row true IS)],[8,9],[]⟩)]
noncomputable def sL4Tokens.f (n:Nat) (a0:Network):Option ((List (List Int))×Unit):=iter (α:=(Int×(List (List Int))×Unit)) n (fun ih7 x6=>br (decide (x6.1<(a0.2.length:Int))) (chk (0≤x6.1∧x6.1<(a0.2.length:Int)) (let v8:=(a0.2.getD x6.1.toNat zLink); (sL1Copy.f n v8.2.2.2.2).bind fun r9=>chk ((x6.2.1.length+([r9.1]:List (List Int)).length)*24≤maxB) (ih7 ((w64 (x6.1+1)),((x6.2.1++[r9.1]),()))))) (some (x6.2.1,()))) (0,([],()))
noncomputable def sL4Tokens.mng (n:Nat):Mng:=⟨[.val tNetwork],[.val (.sl IS)],fun x=>sL4Tokens.f n x.1⟩
noncomputable def sL4Tokens.cfg (n:Nat):Cfg:=⟨tys9,[(83,sL1Copy.mng n)],[],[]⟩
theorem sL4Tokens.gof:GoF Tryz.prog 36:=⟨_,Tryz.func36,by kernel_rfl,by kernel_rfl⟩
theorem sL4Tokens.sound (n:Nat):Sound Tryz.prog 36 (sL4Tokens.mng n):=sndF (c:=sL4Tokens.cfg n) (n:=n) (an:=annOf Tryz.f36 sL4Tokens.las) ⟨⟨sL1Copy.sound n,sL1Copy.gof⟩,trivial⟩ trivial (tysOK tys9_ok) Tryz.func36 (fun x=>by kernel_rfl)
def sNewActor.las:List (Nat×LA):=[]
noncomputable def sNewActor.f (n:Nat) (a0:Program):Option (Actor×Unit):=(sIsProgram.f n a0).bind fun r1=>br (!r1.1) (some ((0,[]),())) (some ((0,[0,0,0,0]),()))
noncomputable def sNewActor.mng (n:Nat):Mng:=⟨[.val tProgram],[.val tActor],fun x=>sNewActor.f n x.1⟩
noncomputable def sNewActor.cfg (n:Nat):Cfg:=⟨tys9,[(76,sIsProgram.mng n)],[],[]⟩
theorem sNewActor.gof:GoF Tryz.prog 37:=⟨_,Tryz.func37,by kernel_rfl,by kernel_rfl⟩
theorem sNewActor.sound (n:Nat):Sound Tryz.prog 37 (sNewActor.mng n):=sndF (c:=sNewActor.cfg n) (n:=n) (an:=annOf Tryz.f37 sNewActor.las) ⟨⟨sIsProgram.sound n,sIsProgram.gof⟩,trivial⟩ trivial (tysOK tys9_ok) Tryz.func37 (fun x=>by kernel_rfl)
def sStartState.las:List (Nat×LA):=[(7,⟨[(3,.vptr 1000 0),(18,.int .i64)],[(1000,.cells [] [.own 1001 tActor,.own 1002 IS,.own 1003 IS,.int .i64]),(1001,.row true tActor),(1002,.row true IS),(1003,.row true IS)],[2,16,17],[]⟩)]
noncomputable def sStartState.f (n:Nat) (a0:Network):Option (State×Unit):=(sIsNetwork.f n a0).bind fun r1=>br (!r1.1) (some (([],([],([],0))),())) ((sL4Tokens.f n a0).bind fun r2=>(sL4Tokens.f n a0).bind fun r3=>iter (α:=(Int×(Int×(List Actor)×(List (List Int))×(List (List Int))×Unit))) n (fun ih24 x23=>br (decide (x23.1<(a0.1.length:Int))) (chk (0≤x23.1∧x23.1<(a0.1.length:Int)) (let v25:=(a0.1.getD x23.1.toNat zProgram); (sNewActor.f n v25).bind fun r26=>chk ((x23.2.2.1.length+([r26.1]:List Actor).length)*32≤maxB) (ih24 ((w64 (x23.1+1)),(x23.2.1,((x23.2.2.1++[r26.1]),(x23.2.2.2.1,(x23.2.2.2.2.1,())))))))) (some ((x23.2.2.1,(x23.2.2.2.1,(x23.2.2.2.2.1,x23.2.1))),()))) (0,(0,([],(r2.1,(r3.1,()))))))
noncomputable def sStartState.mng (n:Nat):Mng:=⟨[.val tNetwork],[.val tState],fun x=>sStartState.f n x.1⟩
noncomputable def sStartState.cfg (n:Nat):Cfg:=⟨tys9,[(31,sIsNetwork.mng n),(36,sL4Tokens.mng n),(37,sNewActor.mng n)],[],[]⟩
theorem sStartState.gof:GoF Tryz.prog 11:=⟨_,Tryz.func11,by kernel_rfl,by kernel_rfl⟩
theorem sStartState.sound (n:Nat):Sound Tryz.prog 11 (sStartState.mng n):=sndF (c:=sStartState.cfg n) (n:=n) (an:=annOf Tryz.f11 sStartState.las) ⟨⟨sIsNetwork.sound n,sIsNetwork.gof⟩,⟨⟨sL4Tokens.sound n,sL4Tokens.gof⟩,⟨⟨sNewActor.sound n,sNewActor.gof⟩,trivial⟩⟩⟩ trivial (tysOK tys9_ok) Tryz.func11 (fun x=>by kernel_rfl)
def iNewActor.las:List (Nat×LA):=[]
noncomputable def iNewActor.f (n:Nat) (a0:Program):Option (Actor×Unit):=(iIsProgram.f n a0).bind fun r1=>br (!r1.1) (some ((0,[]),())) (chk (4=4∧0≤4∧4*(8:Int)≤(maxB:Int)) (some ((0,(List.replicate 4 (0:Int))),())))
noncomputable def iNewActor.mng (n:Nat):Mng:=⟨[.val tProgram],[.val tActor],fun x=>iNewActor.f n x.1⟩
noncomputable def iNewActor.cfg (n:Nat):Cfg:=⟨tys9,[(91,iIsProgram.mng n)],[],[]⟩
theorem iNewActor.gof:GoF Tryz.prog 159:=⟨_,Tryz.func159,by kernel_rfl,by kernel_rfl⟩
theorem iNewActor.sound (n:Nat):Sound Tryz.prog 159 (iNewActor.mng n):=sndF (c:=iNewActor.cfg n) (n:=n) (an:=annOf Tryz.f159 iNewActor.las) ⟨⟨iIsProgram.sound n,iIsProgram.gof⟩,trivial⟩ trivial (tysOK tys9_ok) Tryz.func159 (fun x=>by kernel_rfl)
def iStartState.las:List (Nat×LA):=[(7,⟨[(3,.vptr 1000 0),(16,.int .i64)],[(1000,.cells [] [.own 1001 tActor,.con (.nil),.con (.nil),.int .i64]),(1001,.row true tActor)],[1,2,14,15],[]⟩),(16,⟨[(3,.vptr 1000 0),(31,.int .i64)],[(1000,.cells [] [.own 1001 tActor,.own 1002 IS,.own 1003 IS,.int .i64]),(1001,.row true tActor),(1002,.row true IS),(1003,.row true IS)],[2,29,30],[]⟩)]
noncomputable def iStartState.f (n:Nat) (a0:Network):Option (State×Unit):=(iIsNetwork.f n a0).bind fun r1=>br (!r1.1) (some (([],([],([],0))),())) (iter (α:=(Int×(Int×(List Actor)×Unit))) n (fun ih26 x25=>br (decide (x25.1<(a0.1.length:Int))) (chk (0≤x25.1∧x25.1<(a0.1.length:Int)) (let v27:=(a0.1.getD x25.1.toNat zProgram); (iNewActor.f n v27).bind fun r28=>chk ((x25.2.2.1.length+([r28.1]:List Actor).length)*32≤maxB) (ih26 ((w64 (x25.1+1)),(x25.2.1,((x25.2.2.1++[r28.1]),())))))) (iter (α:=(Int×(Int×(List Actor)×(List (List Int))×(List (List Int))×Unit))) n (fun ih50 x49=>br (decide (x49.1<(a0.2.length:Int))) (chk (0≤x49.1∧x49.1<(a0.2.length:Int)) (let v51:=(a0.2.getD x49.1.toNat zLink); (cloneI.f n v51.2.2.2.2).bind fun r52=>chk ((x49.2.2.2.1.length+([r52.1]:List (List Int)).length)*24≤maxB) ((cloneI.f n v51.2.2.2.2).bind fun r53=>chk ((x49.2.2.2.2.1.length+([r53.1]:List (List Int)).length)*24≤maxB) (ih50 ((w64 (x49.1+1)),(x49.2.1,(x49.2.2.1,((x49.2.2.2.1++[r52.1]),((x49.2.2.2.2.1++[r53.1]),()))))))))) (some ((x49.2.2.1,(x49.2.2.2.1,(x49.2.2.2.2.1,x49.2.1))),()))) (0,(x25.2.1,(x25.2.2.1,([],([],()))))))) (0,(0,([],()))))
noncomputable def iStartState.mng (n:Nat):Mng:=⟨[.val tNetwork],[.sh tState],fun x=>iStartState.f n x.1⟩
noncomputable def iStartState.cfg (n:Nat):Cfg:=⟨tys9,[(46,iIsNetwork.mng n),(159,iNewActor.mng n),(64,cloneI.mng n)],[],[]⟩
theorem iStartState.gof:GoF Tryz.prog 114:=⟨_,Tryz.func114,by kernel_rfl,by kernel_rfl⟩
theorem iStartState.sound (n:Nat):Sound Tryz.prog 114 (iStartState.mng n):=sndF (c:=iStartState.cfg n) (n:=n) (an:=annOf Tryz.f114 iStartState.las) ⟨⟨iIsNetwork.sound n,iIsNetwork.gof⟩,⟨⟨iNewActor.sound n,iNewActor.gof⟩,⟨⟨cloneI.sound n,cloneI.gof⟩,trivial⟩⟩⟩ trivial (tysOK tys9_ok) Tryz.func114 (fun x=>by kernel_rfl)
end Go.AmT
namespace Go.AmT
open Go Go.Am
set_option linter.unusedVariables false
set_option linter.unusedSimpArgs false
theorem sL4Tokens_spec {n:Nat} {nt:Network} (h:SmallN nt) (hn:1048576<n):sL4Tokens.f n nt=some (nt.2.map (fun l=>l.2.2.2.2),()):=by
 have hl:=h.links
 unfold sL4Tokens.f
 refine push_loop nt.2 (fun l=>l.2.2.2.2) (fun i s=>(i,(s,()))) (R:=fun s=>some (s,())) (fun ih i hi s hs=>?_) (fun ih s=>br_no (Int.lt_irrefl _)) (by omega)
 have c1:(i:Int)<(nt.2.length:Int):=by omega
 have e1:nt.2.getD i zLink=nt.2[i]:=getD_lt hi _
 show br (decide ((i:Int)<(nt.2.length:Int))) _ _=_
 rw [br_yes c1,chk_true ⟨Int.natCast_nonneg i,c1⟩]
 simp only [Int.toNat_natCast,e1]
 rw [sL1Copy_run (h.link _ (List.getElem_mem hi)).tokens,Option.bind_some,small_chk (by simp; omega),w64_succ (by omega)]
theorem sNewActor_spec {n:Nat} {p:Program} (hp:SmallP p) (h:okP p=true) (hn:1048576<n):sNewActor.f n p=some (newA,()):=by
 unfold sNewActor.f
 rw [sIsProgram_spec hp hn,h]; rfl
theorem iNewActor_spec {n:Nat} {p:Program} (hp:SmallP p) (h:okP p=true) (hn:1048576<n):iNewActor.f n p=some (newA,()):=by
 unfold iNewActor.f
 rw [iIsProgram_spec hp hn,h]
 simp only [Option.bind_some,Bool.not_true,br_false]
 rw [chk_true (by have:=maxB_eq; refine ⟨by trivial,?_⟩; omega)]; rfl
theorem sStartState_spec {n:Nat} {nt:Network} (h:SmallN nt) (o:OkN nt) (hn:1048576<n):sStartState.f n nt=some (start nt,()):=by
 have ho:okN nt=true:=by simp [okN,o]
 have hp:=h.progs
 unfold sStartState.f start
 rw [sIsNetwork_spec h hn,ho,sL4Tokens_spec h hn]
 simp only [Option.bind_some,Bool.not_true,br_false]
 generalize nt.2.map (fun l=>l.2.2.2.2)=T
 refine push_loop nt.1 (fun _=>newA) (fun i s=>(i,(0,(s,(T,(T,())))))) (R:=fun s=>some ((s,(T,(T,0))),())) (fun ih i hi s hs=>?_) (fun ih s=>br_no (Int.lt_irrefl _)) (by omega)
 have c1:(i:Int)<(nt.1.length:Int):=by omega
 have e1:nt.1.getD i zProgram=nt.1[i]:=getD_lt hi _
 show br (decide ((i:Int)<(nt.1.length:Int))) _ _=_
 rw [br_yes c1,chk_true ⟨Int.natCast_nonneg i,c1⟩]
 simp only [Int.toNat_natCast,e1]
 rw [sNewActor_spec (h.prog _ (List.getElem_mem hi)) (o.prog i hi) hn,Option.bind_some,small_chk (by simp; omega),w64_succ (by omega)]
theorem iStartState_spec {n:Nat} {nt:Network} (h:SmallN nt) (o:OkN nt) (hn:1048576<n):iStartState.f n nt=some (start nt,()):=by
 have ho:okN nt=true:=by simp [okN,o]
 have hp:=h.progs
 have hl:=h.links
 unfold iStartState.f start
 rw [iIsNetwork_spec h hn,ho]
 simp only [Option.bind_some,Bool.not_true,br_false]
 refine push_loopE nt.1 (fun _=>newA) (fun i s=>(i,(0,(s,())))) (fun ih i hi s hs=>?_) (fun ih=>?_) (by omega)
 ·have c1:(i:Int)<(nt.1.length:Int):=by omega
  have e1:nt.1.getD i zProgram=nt.1[i]:=getD_lt hi _
  show br (decide ((i:Int)<(nt.1.length:Int))) _ _=_
  rw [br_yes c1,chk_true ⟨Int.natCast_nonneg i,c1⟩]
  simp only [Int.toNat_natCast,e1]
  rw [iNewActor_spec (h.prog _ (List.getElem_mem hi)) (o.prog i hi) hn,Option.bind_some,small_chk (by simp; omega),w64_succ (by omega)]
 ·show br (decide ((nt.1.length:Int)<(nt.1.length:Int))) _ _=_
  rw [br_no (Int.lt_irrefl _)]
  generalize (nt.1.map fun _=>newA)=A
  have hst:((0:Int),((0:Int),(A,(([]:List (List Int)),(([]:List (List Int)),())))))=(fun (i:Nat)=>((i:Int),((0:Int),(A,((nt.2.take i).map (fun l:Link=>l.2.2.2.2),((nt.2.take i).map (fun l:Link=>l.2.2.2.2),())))))) 0:=by simp
  show iter n _ ((0:Int),((0:Int),(A,(([]:List (List Int)),(([]:List (List Int)),())))))=_
  rw [hst]
  refine iter_line (fun i=>((i:Int),((0:Int),(A,((nt.2.take i).map (fun l:Link=>l.2.2.2.2),((nt.2.take i).map (fun l:Link=>l.2.2.2.2),())))))) nt.2.length (fun ih i hi=>?_) (fun ih=>?_) (by omega)
  ·have c1:(i:Int)<(nt.2.length:Int):=by omega
   have e1:nt.2.getD i zLink=nt.2[i]:=getD_lt hi _
   show br (decide ((i:Int)<(nt.2.length:Int))) _ _=_
   rw [br_yes c1,chk_true ⟨Int.natCast_nonneg i,c1⟩]
   simp only [Int.toNat_natCast,e1]
   rw [cloneI_run (h.link _ (List.getElem_mem hi)).tokens,Option.bind_some,small_chk (by simp; omega)]
   simp only [Option.bind_some]
   rw [small_chk (by simp; omega),w64_succ (by omega),List.take_succ_eq_append_getElem hi,List.map_append]; rfl
  ·show br (decide ((nt.2.length:Int)<(nt.2.length:Int))) _ _=_
   rw [br_no (Int.lt_irrefl _),List.take_length]
end Go.AmT
namespace Go.AmT
open Go Go.Am Go.Proofs
set_option linter.unusedVariables false
set_option maxRecDepth 100000
end Go.AmT
namespace Go.AmT
open Go Go.Am
set_option linter.unusedVariables false
set_option linter.unusedSimpArgs false
theorem quiet_spec {n:Nat} {nt:Network} {s:State} {r:Run} (R:IsRun nt s r) (o:OkSt nt s) (hn:1048576<n):quiet.f n r=some (!anyCan nt s,()):=by
 have hp:=o.net.progs
 unfold quiet.f
 rw [R.net]
 refine W_eq.1 (any_loop nt.1.length (canP nt s) (yes:=fun _=>some (false,())) (fun ih i hi=>?_) (fun ih=>br_no (Int.lt_irrefl _)) (by omega) (fun i hi h=>?_) (fun h=>?_))
 ·rw [br_yes (by omega),can_spec R o hi,w64_succ (by omega),Option.bind_some,br_ite]
 ·rw [W_some,anyCan,any_of hi h]; rfl
 ·rw [W_some,anyCan,any_no h]; rfl
end Go.AmT
namespace Go.AmT
open Go Go.Am Go.Proofs
set_option linter.unusedVariables false
set_option maxRecDepth 100000
def tys11:List (Nat×TInfo):=[(3,⟨false,1,8,[.int .i64 0],.int .i64,0,some I,[],false⟩),
 (23,⟨false,1,24,[.nil],.slice,68,some (.sl tProgram),[],false⟩),
 (26,⟨true,2,48,[.nil,.nil],.struct,0,some tNetwork,[(0,23),(1,24)],false⟩),
 (82,⟨true,9,200,[.nil,.nil,.nil,.nil,.nil,.int .i64 0,.nil,.nil,.nil],.struct,0,some tRun,[(0,26),(2,31),(6,29),(7,29),(8,32)],false⟩)]
theorem tys11_ok:(tys11.all fun p=>tokB Tryz.prog p.1 p.2)=true:=by kernel_rfl
def stuck.las:List (Nat×LA):=[(3,⟨[(10,.int .i64)],[],[0,9],[]⟩)]
noncomputable def stuck.f (n:Nat) (a0:Run):Option (Bool×Unit):=iter (α:=(Int×Unit)) n (fun ih6 x5=>br (decide (x5.1<(a0.1.1.length:Int))) ((may.f n a0 x5.1).bind fun r7=>br r7.1 (some (false,())) (ih6 ((w64 (x5.1+1)),()))) (some (true,()))) (0,())
noncomputable def stuck.mng (n:Nat):Mng:=⟨[.psh tRun],[.val .bool],fun x=>stuck.f n x.1⟩
noncomputable def stuck.cfg (n:Nat):Cfg:=⟨tys11,[(87,may.mng n)],[],[]⟩
theorem stuck.gof:GoF Tryz.prog 90:=⟨_,Tryz.func90,by kernel_rfl,by kernel_rfl⟩
theorem stuck.sound (n:Nat):Sound Tryz.prog 90 (stuck.mng n):=sndF (c:=stuck.cfg n) (n:=n) (an:=annOf Tryz.f90 stuck.las) ⟨⟨may.sound n,may.gof⟩,trivial⟩ trivial (tysOK tys11_ok) Tryz.func90 (fun x=>by kernel_rfl)
end Go.AmT
namespace Go.AmT
open Go Go.Am
set_option linter.unusedVariables false
set_option linter.unusedSimpArgs false
theorem stuck_spec {n:Nat} {nt:Network} {s:State} {caps:List Int} {r:Run} (R:IsRun nt s r) (o:OkSt nt s) (hc:caps.length=nt.2.length) (e:r.2.2.2.2=some caps) (hn:1048576<n):stuck.f n r=some (!anyMay nt s caps,()):=by
 have hp:=o.net.progs
 unfold stuck.f
 rw [R.net]
 refine W_eq.1 (any_loop nt.1.length (mayP nt s caps) (yes:=fun _=>some (false,())) (fun ih i hi=>?_) (fun ih=>br_no (Int.lt_irrefl _)) (by omega) (fun i hi h=>?_) (fun h=>?_))
 ·rw [br_yes (by omega),may_spec R o hc e hi,w64_succ (by omega),Option.bind_some,br_ite]
 ·rw [W_some,anyMay,any_of hi h]; rfl
 ·rw [W_some,anyMay,any_no h]; rfl
end Go.AmT
namespace Go.AmT
open Go Go.Am Go.Proofs
set_option linter.unusedVariables false
set_option maxRecDepth 100000
def tys12:List (Nat×TInfo):=[(3,⟨false,1,8,[.int .i64 0],.int .i64,0,some I,[],false⟩),
 (26,⟨true,2,48,[.nil,.nil],.struct,0,some tNetwork,[(0,23),(1,24)],false⟩),
 (28,⟨false,1,24,[.nil],.slice,75,some (.sl tActor),[],false⟩),
 (29,⟨false,1,24,[.nil],.slice,32,some (.sl IS),[],false⟩),
 (31,⟨true,4,80,[.nil,.nil,.nil,.int .i64 0],.struct,0,some tState,[(0,28),(1,29),(2,29),(3,3)],false⟩),
 (82,⟨true,9,200,[.nil,.nil,.nil,.nil,.nil,.int .i64 0,.nil,.nil,.nil],.struct,0,some tRun,[(0,26),(2,31),(6,29),(7,29),(8,32)],false⟩)]
theorem tys12_ok:(tys12.all fun p=>tokB Tryz.prog p.1 p.2)=true:=by kernel_rfl
def iBound.las:List (Nat×LA):=[]
noncomputable def iBound.f (n:Nat) (a0:Run):Option (Int×Unit):=(quiet.f n a0).bind fun r1=>br r1.1 (some (1,())) ((stuck.f n a0).bind fun r2=>br r2.1 (some (2,())) (some (3,())))
noncomputable def iBound.mng (n:Nat):Mng:=⟨[.psh tRun],[.val I],fun x=>iBound.f n x.1⟩
noncomputable def iBound.cfg (n:Nat):Cfg:=⟨tys12,[(42,quiet.mng n),(90,stuck.mng n)],[],[]⟩
theorem iBound.gof:GoF Tryz.prog 45:=⟨_,Tryz.func45,by kernel_rfl,by kernel_rfl⟩
theorem iBound.sound (n:Nat):Sound Tryz.prog 45 (iBound.mng n):=sndF (c:=iBound.cfg n) (n:=n) (an:=annOf Tryz.f45 iBound.las) ⟨⟨quiet.sound n,quiet.gof⟩,⟨⟨stuck.sound n,stuck.gof⟩,trivial⟩⟩ trivial (tysOK tys12_ok) Tryz.func45 (fun x=>by kernel_rfl)
def iRunBounded.las:List (Nat×LA):=[]
noncomputable def iRunBounded.f (n:Nat) (a0:Network) (a1:State) (a2:List Int) (a3:Int):Option (State×(Int×Unit)):=(iBounded.f n a0 a1 a2).bind fun r1=>br (!r1.1) (some (([],([],([],0))),(0,()))) ((boundedRun.f n a0.1 a0.2 a1.1 a1.2.1 a1.2.2.1 a1.2.2.2 a2).bind fun r2=>(turns.f n a3 r2.1 r2.2.1 r2.2.2.1 r2.2.2.2.1 r2.2.2.2.2.1 r2.2.2.2.2.2.1 r2.2.2.2.2.2.2.1 r2.2.2.2.2.2.2.2.1 r2.2.2.2.2.2.2.2.2.1).bind fun r3=>(iBound.f n ((r3.1,r3.2.1),((r3.2.2.2.2.1,(r3.2.2.2.2.2.1,(r3.2.2.2.2.2.2.1,r3.2.2.1))),(r3.2.2.2.2.2.2.2.1,(r3.2.2.2.2.2.2.2.2.1,r3.2.2.2.1))))).bind fun r4=>some ((r3.2.2.2.2.1,(r3.2.2.2.2.2.1,(r3.2.2.2.2.2.2.1,r3.2.2.1))),(r4.1,())))
noncomputable def iRunBounded.mng (n:Nat):Mng:=⟨[.val tNetwork,.val tState,.val IS,.val I],[.val tState,.val I],fun x=>iRunBounded.f n x.1 x.2.1 x.2.2.1 x.2.2.2.1⟩
noncomputable def iRunBounded.cfg (n:Nat):Cfg:=⟨tys12,[(43,iBounded.mng n),(45,iBound.mng n)],[(44,boundedRun.mng n),(40,turns.mng n)],[]⟩
theorem iRunBounded.gof:GoF Tryz.prog 15:=⟨_,Tryz.func15,by kernel_rfl,by kernel_rfl⟩
theorem iRunBounded.sound (n:Nat):Sound Tryz.prog 15 (iRunBounded.mng n):=sndF (c:=iRunBounded.cfg n) (n:=n) (an:=annOf Tryz.f15 iRunBounded.las) ⟨⟨iBounded.sound n,iBounded.gof⟩,⟨⟨iBound.sound n,iBound.gof⟩,trivial⟩⟩ ⟨⟨boundedRun.sound n,boundedRun.gof⟩,⟨⟨turns.sound n,turns.gof⟩,trivial⟩⟩ (tysOK tys12_ok) Tryz.func15 (fun x=>by kernel_rfl)
end Go.AmT
namespace Go.AmT
open Go Go.Am
set_option linter.unusedVariables false
set_option linter.unusedSimpArgs false
def bndW (nt:Network) (s:State) (caps:List Int):Int:=if anyCan nt s=true then (if anyMay nt s caps=true then 3 else 2) else 1
def runB (nt:Network) (s:State) (caps:List Int) (most:Int):State×Int:=(runT nt (some caps) most s,bndW nt (runT nt (some caps) most s) caps)
noncomputable def runBounded (nt:Network) (s:State) (caps:List Int) (most:Int):State×Int:=if okSt nt s&&okC nt.2 caps then runB nt s caps most else (([],([],([],0))),0)
theorem iRunBounded_spec {n:Nat} {nt:Network} {s:State} {caps:List Int} {most:Int} (h:SmallN nt) (hs:SmallSt s) (hc:caps.length≤1048576) (hn:1048576<n):iRunBounded.f n nt s caps most=some ((runBounded nt s caps most).1,((runBounded nt s caps most).2,())):=by
 unfold iRunBounded.f runBounded
 rw [iBounded_spec h hs hc hn]
 cases e:okSt nt s&&okC nt.2 caps
 ·rfl
 ·rw [Bool.and_eq_true] at e
  have o:=okSt_of e.1
  have hcl:=okC_len e.2
  simp only [Option.bind_some,Bool.not_true,br_false,if_true]
  refine W_eq.1 (W_bind.2 (W_and (boundedRun_spec o hs hc hn) (fun r ⟨R,e⟩=>W_eq.2 ?_)))
  obtain ⟨r1,r2,r3,r4,r5,r6,r7,r8,r9,⟨⟩⟩:=r
  have e:r4=some caps:=e
  subst e
  obtain ⟨e1,e2,T,F⟩:=R
  have e1:(r1,r2)=nt:=e1
  have e2:(r5,(r6,(r7,r3)))=s:=e2
  subst e1 e2
  have R:IsRun (r1,r2) (r5,(r6,(r7,r3))) ((r1,r2),((r5,(r6,(r7,r3))),(r8,(r9,some caps)))):=⟨rfl,rfl,T,F⟩
  have ht:=turns_spec (n:=n) (most:=most) R o (fun c h=>by cases h; exact hcl) hn
  simp only at ht ⊢
  rw [ht]
  unfold runB
  generalize hr:runT (r1,r2) (some caps) most (r5,(r6,(r7,r3)))=t
  have ot:OkSt (r1,r2) t:=by rw [← hr]; exact runT_ok o
  have R':IsRun (r1,r2) t ((r1,r2),(t,(r8,(r9,some caps)))):=R.step
  have hq:quiet.f n ((r1,r2),((t.1,(t.2.1,(t.2.2.1,t.2.2.2))),(r8,(r9,some caps))))=some (!anyCan (r1,r2) t,()):=quiet_spec R' ot hn
  have hk:stuck.f n ((r1,r2),((t.1,(t.2.1,(t.2.2.1,t.2.2.2))),(r8,(r9,some caps))))=some (!anyMay (r1,r2) t caps,()):=stuck_spec R' ot hcl rfl hn
  simp only [Option.bind_some]
  unfold iBound.f
  rw [hq,hk]
  unfold bndW
  cases anyCan (r1,r2) t
  ·rfl
  ·cases anyMay (r1,r2) t caps<;>rfl
theorem runB_ok {nt:Network} {s:State} {caps:List Int} {most:Int} (o:OkSt nt s):OkSt nt (runB nt s caps most).1:=runT_ok o
end Go.AmT
namespace Go.AmT
open Go Go.Am Go.Proofs
set_option linter.unusedVariables false
set_option maxRecDepth 100000
def tys13:List (Nat×TInfo):=[(3,⟨false,1,8,[.int .i64 0],.int .i64,0,some I,[],false⟩),
 (26,⟨true,2,48,[.nil,.nil],.struct,0,some tNetwork,[(0,23),(1,24)],false⟩),
 (28,⟨false,1,24,[.nil],.slice,75,some (.sl tActor),[],false⟩),
 (29,⟨false,1,24,[.nil],.slice,32,some (.sl IS),[],false⟩),
 (31,⟨true,4,80,[.nil,.nil,.nil,.int .i64 0],.struct,0,some tState,[(0,28),(1,29),(2,29),(3,3)],false⟩),
 (82,⟨true,9,200,[.nil,.nil,.nil,.nil,.nil,.int .i64 0,.nil,.nil,.nil],.struct,0,some tRun,[(0,26),(2,31),(6,29),(7,29),(8,32)],false⟩)]
theorem tys13_ok:(tys13.all fun p=>tokB Tryz.prog p.1 p.2)=true:=by kernel_rfl
def iRunTurns.las:List (Nat×LA):=[]
noncomputable def iRunTurns.f (n:Nat) (a0:Network) (a1:State) (a2:Int):Option (State×(Bool×Unit)):=(iIsState.f n a0 a1).bind fun r1=>br (!r1.1) (some (([],([],([],0))),(false,()))) ((newRun.f n a0.1 a0.2 a1.1 a1.2.1 a1.2.2.1 a1.2.2.2 (none:Option (List Int))).bind fun r2=>(turns.f n a2 r2.1 r2.2.1 r2.2.2.1 r2.2.2.2.1 r2.2.2.2.2.1 r2.2.2.2.2.2.1 r2.2.2.2.2.2.2.1 r2.2.2.2.2.2.2.2.1 r2.2.2.2.2.2.2.2.2.1).bind fun r3=>(quiet.f n ((r3.1,r3.2.1),((r3.2.2.2.2.1,(r3.2.2.2.2.2.1,(r3.2.2.2.2.2.2.1,r3.2.2.1))),(r3.2.2.2.2.2.2.2.1,(r3.2.2.2.2.2.2.2.2.1,r3.2.2.2.1))))).bind fun r4=>some ((r3.2.2.2.2.1,(r3.2.2.2.2.2.1,(r3.2.2.2.2.2.2.1,r3.2.2.1))),(r4.1,())))
noncomputable def iRunTurns.mng (n:Nat):Mng:=⟨[.val tNetwork,.val tState,.val I],[.val tState,.val .bool],fun x=>iRunTurns.f n x.1 x.2.1 x.2.2.1⟩
noncomputable def iRunTurns.cfg (n:Nat):Cfg:=⟨tys13,[(38,iIsState.mng n),(42,quiet.mng n)],[(39,newRun.mng n),(40,turns.mng n)],[]⟩
theorem iRunTurns.gof:GoF Tryz.prog 14:=⟨_,Tryz.func14,by kernel_rfl,by kernel_rfl⟩
theorem iRunTurns.sound (n:Nat):Sound Tryz.prog 14 (iRunTurns.mng n):=sndF (c:=iRunTurns.cfg n) (n:=n) (an:=annOf Tryz.f14 iRunTurns.las) ⟨⟨iIsState.sound n,iIsState.gof⟩,⟨⟨quiet.sound n,quiet.gof⟩,trivial⟩⟩ ⟨⟨newRun.sound n,newRun.gof⟩,⟨⟨turns.sound n,turns.gof⟩,trivial⟩⟩ (tysOK tys13_ok) Tryz.func14 (fun x=>by kernel_rfl)
end Go.AmT
namespace Go.AmT
open Go Go.Am
set_option linter.unusedVariables false
set_option linter.unusedSimpArgs false
noncomputable def runTurns (nt:Network) (s:State) (most:Int):State×Bool:=if okSt nt s=true then (runT nt none most s,!anyCan nt (runT nt none most s)) else (([],([],([],0))),false)
theorem iRunTurns_spec {n:Nat} {nt:Network} {s:State} {most:Int} (h:SmallN nt) (hs:SmallSt s) (hn:1048576<n):iRunTurns.f n nt s most=some ((runTurns nt s most).1,((runTurns nt s most).2,())):=by
 unfold iRunTurns.f runTurns
 rw [iIsState_spec h hs hn]
 cases e1:okSt nt s
 ·rfl
 ·have o:=okSt_of e1
  simp only [Option.bind_some,Bool.not_true,br_false,if_true]
  refine W_eq.1 (W_bind.2 (W_and (newRun_spec (caps:=none) o.net hs hn) (fun r ⟨to,fr,e,T,F⟩=>W_eq.2 ?_)))
  subst e
  have R:IsRun nt s (nt,(s,(to,(fr,none)))):=⟨rfl,rfl,T,F⟩
  simp only
  rw [turns_spec (most:=most) R o (fun _ h=>by cases h) hn]
  simp only [Option.bind_some]
  have hq:quiet.f n ((nt.1,nt.2),(((runT nt none most s).1,((runT nt none most s).2.1,((runT nt none most s).2.2.1,(runT nt none most s).2.2.2))),(to,(fr,none))))=some (!anyCan nt (runT nt none most s),()):=quiet_spec (IsRun.step R) (runT_ok o) hn
  rw [hq]
  rfl
end Go.AmT
namespace Go.AmT
open Go Go.Am Go.Proofs
set_option linter.unusedVariables false
set_option maxRecDepth 100000
def tys14:List (Nat×TInfo):=[(3,⟨false,1,8,[.int .i64 0],.int .i64,0,some I,[],false⟩),
 (24,⟨false,1,24,[.nil],.slice,71,some (.sl tLink),[],false⟩),
 (26,⟨true,2,48,[.nil,.nil],.struct,0,some tNetwork,[(0,23),(1,24)],false⟩),
 (32,⟨false,1,24,[.nil],.slice,3,some IS,[],false⟩),
 (71,⟨true,5,56,[.int .i64 0,.int .i64 0,.int .i64 0,.int .i64 0,.nil],.struct,0,some tLink,[(0,3),(1,3),(2,3),(3,3),(4,32)],false⟩)]
theorem tys14_ok:(tys14.all fun p=>tokB Tryz.prog p.1 p.2)=true:=by kernel_rfl
def iUni.las:List (Nat×LA):=[(1,⟨[(18,.bool)],[],[1,2],[]⟩),(7,⟨[(5,.own 1000 I),(23,.int .i64)],[(1000,.row true I)],[1,21,22],[]⟩)]
noncomputable def iUni.f (n:Nat) (a0:Network) (a1:Int):Option ((List Int)×Unit):=cut (α:=(Bool×Unit)) ((iIsNetwork.f n a0).bind fun r3=>br (!r3.1) (some (.inr (true,()))) (br (decide (a1<0)) (some (.inr (true,()))) (some (.inr ((decide (400<a1)),()))))) fun y2=>br y2.1 (some ([],())) (iter (α:=(Int×(List Int)×Unit)) n (fun ih10 x9=>br (decide (x9.1<(a0.2.length:Int))) (chk (0≤x9.1∧x9.1<(a0.2.length:Int)) (let v11:=(a0.2.getD x9.1.toNat zLink); chk ((x9.2.1.length+([(max a1 (v11.2.2.2.2.length:Int))]:List Int).length)*8≤maxB) (ih10 ((w64 (x9.1+1)),((x9.2.1++[(max a1 (v11.2.2.2.2.length:Int))]),()))))) (some (x9.2.1,()))) (0,([],())))
noncomputable def iUni.mng (n:Nat):Mng:=⟨[.val tNetwork,.val I],[.val IS],fun x=>iUni.f n x.1 x.2.1⟩
noncomputable def iUni.cfg (n:Nat):Cfg:=⟨tys14,[(46,iIsNetwork.mng n)],[],[]⟩
theorem iUni.gof:GoF Tryz.prog 16:=⟨_,Tryz.func16,by kernel_rfl,by kernel_rfl⟩
theorem iUni.sound (n:Nat):Sound Tryz.prog 16 (iUni.mng n):=sndF (c:=iUni.cfg n) (n:=n) (an:=annOf Tryz.f16 iUni.las) ⟨⟨iIsNetwork.sound n,iIsNetwork.gof⟩,trivial⟩ trivial (tysOK tys14_ok) Tryz.func16 (fun x=>by kernel_rfl)
end Go.AmT
namespace Go.AmT
open Go Go.Am
set_option linter.unusedVariables false
set_option linter.unusedSimpArgs false
theorem push_loopU {α β ρ:Type} (l:List α) (g:α→β) {F:(Int×List β×Unit→Option ρ)→Int×List β×Unit→Option ρ} {R:List β→Option ρ}
  (h1:∀ ih i (hi:i<l.length) (s:List β),s.length=i→F ih ((i:Int),(s,()))=ih (((i+1:Nat):Int),(s++[g l[i]],())))
  (h2:∀ ih s,F ih ((l.length:Int),(s,()))=R s) {n:Nat} (hn:l.length<n):iter n F (0,([],()))=R (l.map g):=by
 have:=iter_line (F:=F) (fun i=>((i:Int),((l.take i).map g,()))) l.length (R:=R (l.map g)) (fun ih i hi=>by
  show F ih (((i:Int)),((l.take i).map g,()))=_
  rw [h1 ih i hi _ (by simp; omega),List.take_succ_eq_append_getElem hi,List.map_append]; rfl) (fun ih=>by
  show F ih ((l.length:Int),_)=_
  rw [h2]; simp) hn
 simpa using this
noncomputable def uni (nt:Network) (c:Int):List Int:=if (okN nt&&decide (0≤c∧c≤400))=true then nt.2.map fun l=>max c (l.2.2.2.2.length:Int) else []
theorem uni_len {nt:Network} {c:Int} (h:SmallN nt):(uni nt c).length≤1048576:=by
 unfold uni; split
 ·simpa using h.links
 ·simp
theorem iUni_spec {n:Nat} {nt:Network} {c:Int} (h:SmallN nt) (hn:1048576<n):iUni.f n nt c=some (uni nt c,()):=by
 have hl:=h.links
 unfold iUni.f uni
 rw [iIsNetwork_spec h hn]
 simp only [Option.bind_some]
 have e:cut (α:=(Bool×Unit)) (ρ:=List Int×Unit) (br (!okN nt) (some (.inr (true,()))) (br (decide (c<0)) (some (.inr (true,()))) (some (.inr ((decide (400<c)),())))))=fun f=>f (!(okN nt&&decide (0≤c∧c≤400)),()):=by
  funext f
  by_cases a:c<0<;>by_cases b:400<c<;>cases okN nt<;>simp [a,b,br,cut]<;>(congr 2; simp; omega)
 rw [e]
 simp only
 cases hb:(okN nt&&decide (0≤c∧c≤400))
 ·rfl
 ·simp only [Bool.not_true,br_false,if_true]
  refine push_loopU nt.2 (fun l=>max c (l.2.2.2.2.length:Int)) (R:=fun s=>some (s,())) (fun ih i hi s hs=>?_) (fun ih s=>br_no (Int.lt_irrefl _)) (by omega)
  have c0:0≤(i:Int):=by omega
  have c1:(i:Int)<(nt.2.length:Int):=by omega
  have e1:nt.2.getD i zLink=nt.2[i]:=getD_lt hi _
  simp only [c1,c0,and_self,chk_T,decide_true,br_true,Int.toNat_natCast,e1]
  rw [chk_true (by simp only [List.length_singleton]; simp only [maxB]; omega),w64_succ (by omega)]
end Go.AmT
