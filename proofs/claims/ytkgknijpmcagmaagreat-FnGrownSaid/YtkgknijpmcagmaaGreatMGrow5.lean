/- Functions that the law FnGrown reaches, each as a plain Lean function, and that each does what that says. No condition. -/
import Derived.Test.YtkgknijpmcagmaaGreatMGrow4
namespace Go.AmT
open Go Go.Am Go.Proofs
set_option linter.unusedVariables false
set_option maxRecDepth 100000
def tys9:List (Nat×TInfo):=[(3,⟨false,1,8,[.int .i64 0],.int .i64,0,some I,[],false⟩),
 (27,⟨false,1,24,[.nil],.slice,75,some (.sl IS),[],false⟩),
 (32,⟨false,1,24,[.nil],.slice,77,some (.sl tActor),[],false⟩),
 (34,⟨true,4,80,[.nil,.nil,.nil,.int .i64 0],.struct,0,some tState,[(0,32),(1,27),(2,27),(3,3)],false⟩),
 (37,⟨false,1,24,[.nil],.slice,53,some (.sl tProgram),[],false⟩),
 (38,⟨false,1,24,[.nil],.slice,81,some (.sl tLink),[],false⟩),
 (40,⟨true,2,48,[.nil,.nil],.struct,0,some tNetwork,[(0,37),(1,38)],false⟩),
 (53,⟨true,3,40,[.int .i64 0,.int .i64 0,.nil],.struct,0,some tProgram,[(0,3),(1,3),(2,51)],false⟩),
 (75,⟨false,1,24,[.nil],.slice,3,some IS,[],false⟩),
 (77,⟨true,2,32,[.int .i64 0,.nil],.struct,0,some tActor,[(0,3),(1,75)],false⟩),
 (81,⟨true,5,56,[.int .i64 0,.int .i64 0,.int .i64 0,.int .i64 0,.nil],.struct,0,some tLink,[(0,3),(1,3),(2,3),(3,3),(4,75)],false⟩)]
theorem tys9_ok:(tys9.all fun p=>tokB Tryz.prog p.1 p.2)=true:=by kernel_rfl
def sL4Tokens.las:List (Nat×LA):=[(4,⟨[(3,.own 1000 IS),(10,.int .i64)],[(1000,.row true IS)],[8,9],[]⟩)]
noncomputable def sL4Tokens.f (n:Nat) (a0:Network):Option ((List (List Int))×Unit):=iter (α:=(Int×(List (List Int))×Unit)) n (fun ih7 x6=>br (decide (x6.1<(a0.2.length:Int))) (chk (0≤x6.1∧x6.1<(a0.2.length:Int)) (let v8:=(a0.2.getD x6.1.toNat zLink); (sL1Copy.f n v8.2.2.2.2).bind fun r9=>chk ((x6.2.1.length+([r9.1]:List (List Int)).length)*24≤maxB) (ih7 ((w64 (x6.1+1)),((x6.2.1++[r9.1]),()))))) (some (x6.2.1,()))) (0,([],()))
noncomputable def sL4Tokens.mng (n:Nat):Mng:=⟨[.val tNetwork],[.val (.sl IS)],fun x=>sL4Tokens.f n x.1⟩
noncomputable def sL4Tokens.cfg (n:Nat):Cfg:=⟨tys9,[(39,sL1Copy.mng n)],[],[]⟩
theorem sL4Tokens.eq:∀ (n:Nat) (a0:Network),runF (sL4Tokens.cfg n) n Tryz.f85 (annOf Tryz.f85 sL4Tokens.las) [.val tNetwork] [.val (.sl IS)] (a0,())=sL4Tokens.f n a0:=by
 intros
 kernel_rfl
theorem sL4Tokens.gof:GoF Tryz.prog 85:=⟨_,Tryz.func85,by kernel_rfl,by kernel_rfl⟩
theorem sL4Tokens.sound (n:Nat):Sound Tryz.prog 85 (sL4Tokens.mng n):=runF_sound (fn:=Tryz.f85) (m:=sL4Tokens.mng n) (c:=sL4Tokens.cfg n) (regOK mixed (opOK (.of (c:=sL4Tokens.cfg n) ⟨⟨sL1Copy.sound n,sL1Copy.gof⟩,trivial⟩) (.of (c:=sL4Tokens.cfg n) trivial)) (tysOK tys9_ok)) (tysOK tys9_ok) Tryz.func85 (fun x=>(sL4Tokens.eq n x.1).symm)
def sNewActor.las:List (Nat×LA):=[]
noncomputable def sNewActor.f (n:Nat) (a0:Program):Option (Actor×Unit):=(sIsProgram.f n a0).bind fun r1=>br (!r1.1) (some ((0,[]),())) (some ((0,[0,0,0,0]),()))
noncomputable def sNewActor.mng (n:Nat):Mng:=⟨[.val tProgram],[.val tActor],fun x=>sNewActor.f n x.1⟩
noncomputable def sNewActor.cfg (n:Nat):Cfg:=⟨tys9,[(64,sIsProgram.mng n)],[],[]⟩
theorem sNewActor.eq:∀ (n:Nat) (a0:Program),runF (sNewActor.cfg n) n Tryz.f38 (annOf Tryz.f38 sNewActor.las) [.val tProgram] [.val tActor] (a0,())=sNewActor.f n a0:=by
 intros
 kernel_rfl
theorem sNewActor.gof:GoF Tryz.prog 38:=⟨_,Tryz.func38,by kernel_rfl,by kernel_rfl⟩
theorem sNewActor.sound (n:Nat):Sound Tryz.prog 38 (sNewActor.mng n):=runF_sound (fn:=Tryz.f38) (m:=sNewActor.mng n) (c:=sNewActor.cfg n) (regOK mixed (opOK (.of (c:=sNewActor.cfg n) ⟨⟨sIsProgram.sound n,sIsProgram.gof⟩,trivial⟩) (.of (c:=sNewActor.cfg n) trivial)) (tysOK tys9_ok)) (tysOK tys9_ok) Tryz.func38 (fun x=>(sNewActor.eq n x.1).symm)
def sStartState.las:List (Nat×LA):=[(7,⟨[(3,.vptr 1000 0),(18,.int .i64)],[(1000,.cells [] [.own 1001 tActor,.own 1002 IS,.own 1003 IS,.int .i64]),(1001,.row true tActor),(1002,.row true IS),(1003,.row true IS)],[2,16,17],[]⟩)]
noncomputable def sStartState.f (n:Nat) (a0:Network):Option (State×Unit):=(sIsNetwork.f n a0).bind fun r1=>br (!r1.1) (some (([],([],([],0))),())) ((sL4Tokens.f n a0).bind fun r2=>(sL4Tokens.f n a0).bind fun r3=>iter (α:=(Int×(Int×(List Actor)×(List (List Int))×(List (List Int))×Unit))) n (fun ih24 x23=>br (decide (x23.1<(a0.1.length:Int))) (chk (0≤x23.1∧x23.1<(a0.1.length:Int)) (let v25:=(a0.1.getD x23.1.toNat zProgram); (sNewActor.f n v25).bind fun r26=>chk ((x23.2.2.1.length+([r26.1]:List Actor).length)*32≤maxB) (ih24 ((w64 (x23.1+1)),(x23.2.1,((x23.2.2.1++[r26.1]),(x23.2.2.2.1,(x23.2.2.2.2.1,())))))))) (some ((x23.2.2.1,(x23.2.2.2.1,(x23.2.2.2.2.1,x23.2.1))),()))) (0,(0,([],(r2.1,(r3.1,()))))))
noncomputable def sStartState.mng (n:Nat):Mng:=⟨[.val tNetwork],[.val tState],fun x=>sStartState.f n x.1⟩
noncomputable def sStartState.cfg (n:Nat):Cfg:=⟨tys9,[(84,sIsNetwork.mng n),(85,sL4Tokens.mng n),(38,sNewActor.mng n)],[],[]⟩
theorem sStartState.eq:∀ (n:Nat) (a0:Network),runF (sStartState.cfg n) n Tryz.f90 (annOf Tryz.f90 sStartState.las) [.val tNetwork] [.val tState] (a0,())=sStartState.f n a0:=by
 intros
 kernel_rfl
theorem sStartState.gof:GoF Tryz.prog 90:=⟨_,Tryz.func90,by kernel_rfl,by kernel_rfl⟩
theorem sStartState.sound (n:Nat):Sound Tryz.prog 90 (sStartState.mng n):=runF_sound (fn:=Tryz.f90) (m:=sStartState.mng n) (c:=sStartState.cfg n) (regOK mixed (opOK (.of (c:=sStartState.cfg n) ⟨⟨sIsNetwork.sound n,sIsNetwork.gof⟩,⟨⟨sL4Tokens.sound n,sL4Tokens.gof⟩,⟨⟨sNewActor.sound n,sNewActor.gof⟩,trivial⟩⟩⟩) (.of (c:=sStartState.cfg n) trivial)) (tysOK tys9_ok)) (tysOK tys9_ok) Tryz.func90 (fun x=>(sStartState.eq n x.1).symm)
def iNewActor.las:List (Nat×LA):=[]
noncomputable def iNewActor.f (n:Nat) (a0:Program):Option (Actor×Unit):=(iIsProgram.f n a0).bind fun r1=>br (!r1.1) (some ((0,[]),())) (chk (4=4∧0≤4∧4*(8:Int)≤(maxB:Int)) (some ((0,(List.replicate 4 (0:Int))),())))
noncomputable def iNewActor.mng (n:Nat):Mng:=⟨[.val tProgram],[.val tActor],fun x=>iNewActor.f n x.1⟩
noncomputable def iNewActor.cfg (n:Nat):Cfg:=⟨tys9,[(116,iIsProgram.mng n)],[],[]⟩
theorem iNewActor.eq:∀ (n:Nat) (a0:Program),runF (iNewActor.cfg n) n Tryz.f48 (annOf Tryz.f48 iNewActor.las) [.val tProgram] [.val tActor] (a0,())=iNewActor.f n a0:=by
 intros
 kernel_rfl
theorem iNewActor.gof:GoF Tryz.prog 48:=⟨_,Tryz.func48,by kernel_rfl,by kernel_rfl⟩
theorem iNewActor.sound (n:Nat):Sound Tryz.prog 48 (iNewActor.mng n):=runF_sound (fn:=Tryz.f48) (m:=iNewActor.mng n) (c:=iNewActor.cfg n) (regOK mixed (opOK (.of (c:=iNewActor.cfg n) ⟨⟨iIsProgram.sound n,iIsProgram.gof⟩,trivial⟩) (.of (c:=iNewActor.cfg n) trivial)) (tysOK tys9_ok)) (tysOK tys9_ok) Tryz.func48 (fun x=>(iNewActor.eq n x.1).symm)
end Go.AmT
namespace Go.AmT
open Go Go.Am
set_option linter.unusedVariables false
set_option linter.unusedSimpArgs false
theorem sL4Tokens_spec {n:Nat} {nt:Network} (h:SmallN nt) (hn:1048576<n):sL4Tokens.f n nt=some (nt.2.map (fun l=>l.2.2.2.2),()):=by
 have hl:=h.links
 unfold sL4Tokens.f
 refine push_loop nt.2 (fun l=>l.2.2.2.2) (fun i s=>(i,(s,()))) (R:=fun s=>some (s,())) (fun ih i hi s hs=>?_) (fun ih s=>br_no (Int.lt_irrefl _)) (by omega)
 have c1:(i:Int)<(nt.2.length:Int):=by omega
 have e1:nt.2.getD i zLink=nt.2[i]:=getD_lt hi _
 show br (decide ((i:Int)<(nt.2.length:Int))) _ _=_
 rw [br_yes c1,chk_true ⟨Int.natCast_nonneg i,c1⟩]
 simp only [Int.toNat_natCast,e1]
 rw [sL1Copy_run (h.link _ (List.getElem_mem hi)).tokens,Option.bind_some,small_chk (by simp; omega),w64_succ (by omega)]
theorem sNewActor_spec {n:Nat} {p:Program} (hp:SmallP p) (h:okP p=true) (hn:1048576<n):sNewActor.f n p=some (newA,()):=by
 unfold sNewActor.f
 rw [sIsProgram_spec hp hn,h]; rfl
theorem iNewActor_spec {n:Nat} {p:Program} (hp:SmallP p) (h:okP p=true) (hn:1048576<n):iNewActor.f n p=some (newA,()):=by
 unfold iNewActor.f
 rw [iIsProgram_spec hp hn,h]
 simp only [Option.bind_some,Bool.not_true,br_false]
 rw [chk_true (by have:=maxB_eq; refine ⟨by trivial,?_⟩; omega)]; rfl
theorem sStartState_spec {n:Nat} {nt:Network} (h:SmallN nt) (o:OkN nt) (hn:1048576<n):sStartState.f n nt=some (start nt,()):=by
 have ho:okN nt=true:=by simp [okN,o]
 have hp:=h.progs
 unfold sStartState.f start
 rw [sIsNetwork_spec h hn,ho,sL4Tokens_spec h hn]
 simp only [Option.bind_some,Bool.not_true,br_false]
 generalize nt.2.map (fun l=>l.2.2.2.2)=T
 refine push_loop nt.1 (fun _=>newA) (fun i s=>(i,(0,(s,(T,(T,())))))) (R:=fun s=>some ((s,(T,(T,0))),())) (fun ih i hi s hs=>?_) (fun ih s=>br_no (Int.lt_irrefl _)) (by omega)
 have c1:(i:Int)<(nt.1.length:Int):=by omega
 have e1:nt.1.getD i zProgram=nt.1[i]:=getD_lt hi _
 show br (decide ((i:Int)<(nt.1.length:Int))) _ _=_
 rw [br_yes c1,chk_true ⟨Int.natCast_nonneg i,c1⟩]
 simp only [Int.toNat_natCast,e1]
 rw [sNewActor_spec (h.prog _ (List.getElem_mem hi)) (o.prog i hi) hn,Option.bind_some,small_chk (by simp; omega),w64_succ (by omega)]
end Go.AmT
namespace Go.AmT
open Go Go.Am Go.Proofs
set_option linter.unusedVariables false
set_option maxRecDepth 100000
def tys10:List (Nat×TInfo):=[(3,⟨false,1,8,[.int .i64 0],.int .i64,0,some I,[],false⟩),
 (27,⟨false,1,24,[.nil],.slice,75,some (.sl IS),[],false⟩),
 (32,⟨false,1,24,[.nil],.slice,77,some (.sl tActor),[],false⟩),
 (34,⟨true,4,80,[.nil,.nil,.nil,.int .i64 0],.struct,0,some tState,[(0,32),(1,27),(2,27),(3,3)],false⟩),
 (37,⟨false,1,24,[.nil],.slice,53,some (.sl tProgram),[],false⟩),
 (40,⟨true,2,48,[.nil,.nil],.struct,0,some tNetwork,[(0,37),(1,38)],false⟩),
 (75,⟨false,1,24,[.nil],.slice,3,some IS,[],false⟩),
 (77,⟨true,2,32,[.int .i64 0,.nil],.struct,0,some tActor,[(0,3),(1,75)],false⟩)]
theorem tys10_ok:(tys10.all fun p=>tokB Tryz.prog p.1 p.2)=true:=by kernel_rfl
def sL3Has.las:List (Nat×LA):=[]
noncomputable def sL3Has.f (n:Nat) (a0:Network) (a1:Int):Option (Bool×Unit):=br (decide (0≤a1)) (some ((decide (a1<(a0.1.length:Int))),())) (some (false,()))
noncomputable def sL3Has.mng (n:Nat):Mng:=⟨[.val tNetwork,.val I],[.val .bool],fun x=>sL3Has.f n x.1 x.2.1⟩
noncomputable def sL3Has.cfg (n:Nat):Cfg:=⟨tys10,[],[],[]⟩
theorem sL3Has.eq:∀ (n:Nat) (a0:Network) (a1:Int),runF (sL3Has.cfg n) n Tryz.f92 (annOf Tryz.f92 sL3Has.las) [.val tNetwork,.val I] [.val .bool] (a0,(a1,()))=sL3Has.f n a0 a1:=by
 intros
 kernel_rfl
theorem sL3Has.gof:GoF Tryz.prog 92:=⟨_,Tryz.func92,by kernel_rfl,by kernel_rfl⟩
theorem sL3Has.sound (n:Nat):Sound Tryz.prog 92 (sL3Has.mng n):=runF_sound (fn:=Tryz.f92) (m:=sL3Has.mng n) (c:=sL3Has.cfg n) (regOK mixed (opOK (.of (c:=sL3Has.cfg n) trivial) (.of (c:=sL3Has.cfg n) trivial)) (tysOK tys10_ok)) (tysOK tys10_ok) Tryz.func92 (fun x=>(sL3Has.eq n x.1 x.2.1).symm)
end Go.AmT
namespace Go.AmT
open Go Go.Am
set_option linter.unusedVariables false
set_option linter.unusedSimpArgs false
theorem quiet_spec {n:Nat} {nt:Network} {s:State} {r:Run} (R:IsRun nt s r) (o:OkSt nt s) (hn:1048576<n):quiet.f n r=some (!anyCan nt s,()):=by
 have hp:=o.net.progs
 unfold quiet.f
 rw [R.net]
 refine W_eq.1 (any_loop nt.1.length (canP nt s) (yes:=fun _=>some (false,())) (fun ih i hi=>?_) (fun ih=>br_no (Int.lt_irrefl _)) (by omega) (fun i hi h=>?_) (fun h=>?_))
 ·rw [br_yes (by omega),can_spec R o hi,w64_succ (by omega),Option.bind_some,br_ite]
 ·rw [W_some,anyCan,any_of hi h]; rfl
 ·rw [W_some,anyCan,any_no h]; rfl
end Go.AmT
namespace Go.AmT
open Go Go.Am Go.Proofs
set_option linter.unusedVariables false
set_option maxRecDepth 100000
def tys11:List (Nat×TInfo):=[(3,⟨false,1,8,[.int .i64 0],.int .i64,0,some I,[],false⟩),
 (27,⟨false,1,24,[.nil],.slice,75,some (.sl IS),[],false⟩),
 (32,⟨false,1,24,[.nil],.slice,77,some (.sl tActor),[],false⟩),
 (34,⟨true,4,80,[.nil,.nil,.nil,.int .i64 0],.struct,0,some tState,[(0,32),(1,27),(2,27),(3,3)],false⟩),
 (40,⟨true,2,48,[.nil,.nil],.struct,0,some tNetwork,[(0,37),(1,38)],false⟩),
 (130,⟨true,9,200,[.nil,.nil,.nil,.nil,.nil,.int .i64 0,.nil,.nil,.nil],.struct,0,some tRun,[(0,40),(2,34),(6,27),(7,27),(8,75)],false⟩)]
theorem tys11_ok:(tys11.all fun p=>tokB Tryz.prog p.1 p.2)=true:=by kernel_rfl
def iRunTurns.las:List (Nat×LA):=[]
noncomputable def iRunTurns.f (n:Nat) (a0:Network) (a1:State) (a2:Int):Option (State×(Bool×Unit)):=(iIsState.f n a0 a1).bind fun r1=>br (!r1.1) (some (([],([],([],0))),(false,()))) ((newRun.f n a0.1 a0.2 a1.1 a1.2.1 a1.2.2.1 a1.2.2.2 (none:Option (List Int))).bind fun r2=>(turns.f n a2 r2.1 r2.2.1 r2.2.2.1 r2.2.2.2.1 r2.2.2.2.2.1 r2.2.2.2.2.2.1 r2.2.2.2.2.2.2.1 r2.2.2.2.2.2.2.2.1 r2.2.2.2.2.2.2.2.2.1).bind fun r3=>(quiet.f n ((r3.1,r3.2.1),((r3.2.2.2.2.1,(r3.2.2.2.2.2.1,(r3.2.2.2.2.2.2.1,r3.2.2.1))),(r3.2.2.2.2.2.2.2.1,(r3.2.2.2.2.2.2.2.2.1,r3.2.2.2.1))))).bind fun r4=>some ((r3.2.2.2.2.1,(r3.2.2.2.2.2.1,(r3.2.2.2.2.2.2.1,r3.2.2.1))),(r4.1,())))
noncomputable def iRunTurns.mng (n:Nat):Mng:=⟨[.val tNetwork,.val tState,.val I],[.val tState,.val .bool],fun x=>iRunTurns.f n x.1 x.2.1 x.2.2.1⟩
noncomputable def iRunTurns.cfg (n:Nat):Cfg:=⟨tys11,[(44,iIsState.mng n),(98,quiet.mng n)],[(95,newRun.mng n),(96,turns.mng n)],[]⟩
theorem iRunTurns.eq:∀ (n:Nat) (a0:Network) (a1:State) (a2:Int),runF (iRunTurns.cfg n) n Tryz.f29 (annOf Tryz.f29 iRunTurns.las) [.val tNetwork,.val tState,.val I] [.val tState,.val .bool] (a0,(a1,(a2,())))=iRunTurns.f n a0 a1 a2:=by
 intros
 kernel_rfl
theorem iRunTurns.gof:GoF Tryz.prog 29:=⟨_,Tryz.func29,by kernel_rfl,by kernel_rfl⟩
theorem iRunTurns.sound (n:Nat):Sound Tryz.prog 29 (iRunTurns.mng n):=runF_sound (fn:=Tryz.f29) (m:=iRunTurns.mng n) (c:=iRunTurns.cfg n) (regOK mixed (opOK (.of (c:=iRunTurns.cfg n) ⟨⟨iIsState.sound n,iIsState.gof⟩,⟨⟨quiet.sound n,quiet.gof⟩,trivial⟩⟩) (.of (c:=iRunTurns.cfg n) ⟨⟨newRun.sound n,newRun.gof⟩,⟨⟨turns.sound n,turns.gof⟩,trivial⟩⟩)) (tysOK tys11_ok)) (tysOK tys11_ok) Tryz.func29 (fun x=>(iRunTurns.eq n x.1 x.2.1 x.2.2.1).symm)
end Go.AmT
namespace Go.AmT
open Go Go.Am
set_option linter.unusedVariables false
set_option linter.unusedSimpArgs false
noncomputable def runTurns (nt:Network) (s:State) (most:Int):State×Bool:=if okSt nt s=true then (runT nt none most s,!anyCan nt (runT nt none most s)) else (([],([],([],0))),false)
theorem iRunTurns_spec {n:Nat} {nt:Network} {s:State} {most:Int} (h:SmallN nt) (hs:SmallSt s) (hn:1048576<n):iRunTurns.f n nt s most=some ((runTurns nt s most).1,((runTurns nt s most).2,())):=by
 unfold iRunTurns.f runTurns
 rw [iIsState_spec h hs hn]
 cases e1:okSt nt s
 ·rfl
 ·have o:=okSt_of e1
  simp only [Option.bind_some,Bool.not_true,br_false,if_true]
  refine W_eq.1 (W_bind.2 (W_and (newRun_spec (caps:=none) o.net hs hn) (fun r ⟨to,fr,e,T,F⟩=>W_eq.2 ?_)))
  subst e
  have R:IsRun nt s (nt,(s,(to,(fr,none)))):=⟨rfl,rfl,T,F⟩
  simp only
  rw [turns_spec (most:=most) R o (fun _ h=>by cases h) hn]
  simp only [Option.bind_some]
  have hq:quiet.f n ((nt.1,nt.2),(((runT nt none most s).1,((runT nt none most s).2.1,((runT nt none most s).2.2.1,(runT nt none most s).2.2.2))),(to,(fr,none))))=some (!anyCan nt (runT nt none most s),()):=quiet_spec (IsRun.step R) (runT_ok o) hn
  rw [hq]
  rfl
end Go.AmT
