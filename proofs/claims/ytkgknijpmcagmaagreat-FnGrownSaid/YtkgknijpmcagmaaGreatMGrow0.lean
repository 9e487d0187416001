/- Functions that the law FnGrown reaches, each as a plain Lean function, and that each does what that says. No condition. -/
import Derived.Test.YtkgknijpmcagmaaGreatAmD
import Derived.Test.YtkgknijpmcagmaaGreatProg
namespace Go.AmT
open Go Go.Am Go.Proofs
set_option linter.unusedVariables false
set_option maxRecDepth 100000
abbrev I:Ty:=.int .i64
abbrev U8:Ty:=.int .u8
abbrev IS:Ty:=.sl I
abbrev tInstr:Ty:=(.pair I (.pair I (.pair I I)))
abbrev tLink:Ty:=(.pair I (.pair I (.pair I (.pair I IS))))
abbrev tProgram:Ty:=(.pair I (.pair I (.sl tInstr)))
abbrev tNetwork:Ty:=(.pair (.sl tProgram) (.sl tLink))
abbrev Instr:Type:=Int×(Int×(Int×Int))
def zInstr:Instr:=(0,(0,(0,0)))
abbrev Program:Type:=Int×(Int×List Instr)
def zProgram:Program:=(0,(0,[]))
abbrev Link:Type:=Int×(Int×(Int×(Int×List Int)))
def zLink:Link:=(0,(0,(0,(0,[]))))
abbrev Network:Type:=List Program×List Link
def tys:List (Nat×TInfo):=[(3,⟨false,1,8,[.int .i64 0],.int .i64,0,some I,[],false⟩),
 (22,⟨false,1,24,[.nil],.slice,135,some (.sl tProgram),[],false⟩),
 (23,⟨false,1,24,[.nil],.slice,137,some (.sl tLink),[],false⟩),
 (25,⟨true,2,48,[.nil,.nil],.struct,0,some tNetwork,[(0,22),(1,23)],false⟩),
 (37,⟨false,1,24,[.nil],.slice,53,some (.sl tProgram),[],false⟩),
 (38,⟨false,1,24,[.nil],.slice,81,some (.sl tLink),[],false⟩),
 (40,⟨true,2,48,[.nil,.nil],.struct,0,some tNetwork,[(0,37),(1,38)],false⟩),
 (51,⟨false,1,24,[.nil],.slice,103,some (.sl tInstr),[],false⟩),
 (53,⟨true,3,40,[.int .i64 0,.int .i64 0,.nil],.struct,0,some tProgram,[(0,3),(1,3),(2,51)],false⟩),
 (75,⟨false,1,24,[.nil],.slice,3,some IS,[],false⟩),
 (81,⟨true,5,56,[.int .i64 0,.int .i64 0,.int .i64 0,.int .i64 0,.nil],.struct,0,some tLink,[(0,3),(1,3),(2,3),(3,3),(4,75)],false⟩),
 (103,⟨true,4,32,[.int .i64 0,.int .i64 0,.int .i64 0,.int .i64 0],.struct,0,some tInstr,[(0,3),(1,3),(2,3),(3,3)],true⟩),
 (133,⟨false,1,24,[.nil],.slice,195,some (.sl tInstr),[],false⟩),
 (135,⟨true,3,40,[.int .i64 0,.int .i64 0,.nil],.struct,0,some tProgram,[(0,3),(1,3),(2,133)],false⟩),
 (137,⟨true,5,56,[.int .i64 0,.int .i64 0,.int .i64 0,.int .i64 0,.nil],.struct,0,some tLink,[(0,3),(1,3),(2,3),(3,3),(4,75)],false⟩),
 (195,⟨true,4,32,[.int .i64 0,.int .i64 0,.int .i64 0,.int .i64 0],.struct,0,some tInstr,[(0,3),(1,3),(2,3),(3,3)],false⟩)]
theorem tys_ok:(tys.all fun p=>tokB Tryz.prog p.1 p.2)=true:=by kernel_rfl
theorem mixed:Tryz.prog.follows .mixedOrders=true:=by kernel_rfl
def sL1In.las:List (Nat×LA):=[]
noncomputable def sL1In.f (n:Nat) (a0:Int) (a1:Int) (a2:Int):Option (Bool×Unit):=br (decide (a1≤a0)) (some ((decide (a0≤a2)),())) (some (false,()))
noncomputable def sL1In.mng (n:Nat):Mng:=⟨[.val I,.val I,.val I],[.val .bool],fun x=>sL1In.f n x.1 x.2.1 x.2.2.1⟩
noncomputable def sL1In.cfg (n:Nat):Cfg:=⟨tys,[],[],[]⟩
theorem sL1In.eq:∀ (n:Nat) (a0:Int) (a1:Int) (a2:Int),runF (sL1In.cfg n) n Tryz.f103 (annOf Tryz.f103 sL1In.las) [.val I,.val I,.val I] [.val .bool] (a0,(a1,(a2,())))=sL1In.f n a0 a1 a2:=by
 intros
 kernel_rfl
theorem sL1In.gof:GoF Tryz.prog 103:=⟨_,Tryz.func103,by kernel_rfl,by kernel_rfl⟩
theorem sL1In.sound (n:Nat):Sound Tryz.prog 103 (sL1In.mng n):=runF_sound (fn:=Tryz.f103) (m:=sL1In.mng n) (c:=sL1In.cfg n) (regOK mixed (opOK (.of (c:=sL1In.cfg n) trivial) (.of (c:=sL1In.cfg n) trivial)) (tysOK tys_ok)) (tysOK tys_ok) Tryz.func103 (fun x=>(sL1In.eq n x.1 x.2.1 x.2.2.1).symm)
def sL1Token.las:List (Nat×LA):=[]
noncomputable def sL1Token.f (n:Nat) (a0:Int):Option (Bool×Unit):=(sL1In.f n a0 (-999999) 999999).bind fun r1=>some (r1.1,())
noncomputable def sL1Token.mng (n:Nat):Mng:=⟨[.val I],[.val .bool],fun x=>sL1Token.f n x.1⟩
noncomputable def sL1Token.cfg (n:Nat):Cfg:=⟨tys,[(103,sL1In.mng n)],[],[]⟩
theorem sL1Token.eq:∀ (n:Nat) (a0:Int),runF (sL1Token.cfg n) n Tryz.f155 (annOf Tryz.f155 sL1Token.las) [.val I] [.val .bool] (a0,())=sL1Token.f n a0:=by
 intros
 kernel_rfl
theorem sL1Token.gof:GoF Tryz.prog 155:=⟨_,Tryz.func155,by kernel_rfl,by kernel_rfl⟩
theorem sL1Token.sound (n:Nat):Sound Tryz.prog 155 (sL1Token.mng n):=runF_sound (fn:=Tryz.f155) (m:=sL1Token.mng n) (c:=sL1Token.cfg n) (regOK mixed (opOK (.of (c:=sL1Token.cfg n) ⟨⟨sL1In.sound n,sL1In.gof⟩,trivial⟩) (.of (c:=sL1Token.cfg n) trivial)) (tysOK tys_ok)) (tysOK tys_ok) Tryz.func155 (fun x=>(sL1Token.eq n x.1).symm)
def sL2Operands.las:List (Nat×LA):=[(1,⟨[(5,.bool)],[],[2,3],[]⟩),(2,⟨[(6,.bool)],[],[2,3,5],[]⟩),(15,⟨[(84,.bool)],[],[3,5,6,32],[]⟩),(27,⟨[(98,.bool)],[],[3,6,32],[]⟩)]
noncomputable def sL2Operands.f (n:Nat) (a0:Program) (a1:Instr):Option (Bool×Unit):=cut (α:=(Bool×Unit)) ((sL1In.f n a1.2.1 0 3).bind fun r5=>br r5.1 ((sL1In.f n a1.2.2.1 0 3).bind fun r6=>br r6.1 ((sL1In.f n a1.2.2.2 0 3).bind fun r7=>some (.inr (r7.1,()))) (some (.inr (false,())))) (some (.inr (false,())))) fun y4=>cut (α:=(Bool×Unit)) ((sL1In.f n a1.2.2.1 0 (a0.2.2.length:Int)).bind fun r10=>br r10.1 (some (.inr ((decide (a1.2.2.2=0)),()))) (some (.inr (false,())))) fun y9=>br (decide (a1.1=1)) ((sL1In.f n a1.2.1 0 3).bind fun r11=>br r11.1 ((sL1In.f n a1.2.2.1 0 (w64 (a0.1-1))).bind fun r12=>br r12.1 (some ((decide (a1.2.2.2=0)),())) (some (false,()))) (some (false,()))) (br (decide (a1.1=2)) ((sL1In.f n a1.2.1 0 3).bind fun r13=>br r13.1 ((sL1In.f n a1.2.2.1 0 (w64 (a0.2.1-1))).bind fun r14=>br r14.1 (some ((decide (a1.2.2.2=0)),())) (some (false,()))) (some (false,()))) (br (decide (a1.1=3)) ((sL1In.f n a1.2.1 0 3).bind fun r15=>br r15.1 ((sL1Token.f n a1.2.2.1).bind fun r16=>br r16.1 (some ((decide (a1.2.2.2=0)),())) (some (false,()))) (some (false,()))) (cut (α:=(Bool×Unit)) (br (decide (a1.1=4)) (some (.inr ((decide (a1.1=4)),()))) (br (decide (a1.1=5)) (some (.inr ((decide (a1.1=5)),()))) (br (decide (a1.1=6)) (some (.inr ((decide (a1.1=6)),()))) (some (.inr ((decide (a1.1=7)),())))))) fun y17=>br y17.1 (some (y4.1,())) (br (decide (a1.1=8)) (br (decide (a1.2.1=0)) (some (y9.1,())) (some (false,()))) (cut (α:=(Bool×Unit)) (br (decide (a1.1=9)) (some (.inr ((decide (a1.1=9)),()))) (some (.inr ((decide (a1.1=10)),())))) fun y18=>br y18.1 ((sL1In.f n a1.2.1 0 3).bind fun r19=>br r19.1 (some (y9.1,())) (some (false,()))) (br (decide (a1.1=11)) (br (decide (a1.2.1=0)) (br (decide (a1.2.2.1=0)) (some ((decide (a1.2.2.2=0)),())) (some (false,()))) (some (false,()))) (some (false,()))))))))
noncomputable def sL2Operands.mng (n:Nat):Mng:=⟨[.val tProgram,.val tInstr],[.val .bool],fun x=>sL2Operands.f n x.1 x.2.1⟩
noncomputable def sL2Operands.cfg (n:Nat):Cfg:=⟨tys,[(103,sL1In.mng n),(155,sL1Token.mng n)],[],[]⟩
theorem sL2Operands.eq:∀ (n:Nat) (a0:Program) (a1:Instr),runF (sL2Operands.cfg n) n Tryz.f128 (annOf Tryz.f128 sL2Operands.las) [.val tProgram,.val tInstr] [.val .bool] (a0,(a1,()))=sL2Operands.f n a0 a1:=by
 intros
 kernel_rfl
theorem sL2Operands.gof:GoF Tryz.prog 128:=⟨_,Tryz.func128,by kernel_rfl,by kernel_rfl⟩
theorem sL2Operands.sound (n:Nat):Sound Tryz.prog 128 (sL2Operands.mng n):=runF_sound (fn:=Tryz.f128) (m:=sL2Operands.mng n) (c:=sL2Operands.cfg n) (regOK mixed (opOK (.of (c:=sL2Operands.cfg n) ⟨⟨sL1In.sound n,sL1In.gof⟩,⟨⟨sL1Token.sound n,sL1Token.gof⟩,trivial⟩⟩) (.of (c:=sL2Operands.cfg n) trivial)) (tysOK tys_ok)) (tysOK tys_ok) Tryz.func128 (fun x=>(sL2Operands.eq n x.1 x.2.1).symm)
def sIsProgram.las:List (Nat×LA):=[(1,⟨[(21,.bool)],[],[1],[]⟩),(6,⟨[(25,.int .i64)],[],[1,23,24],[]⟩)]
noncomputable def sIsProgram.f (n:Nat) (a0:Program):Option (Bool×Unit):=cut (α:=(Bool×Unit)) ((sL1In.f n a0.1 0 3).bind fun r5=>br (!r5.1) (some (.inr (true,()))) ((sL1In.f n a0.2.1 0 3).bind fun r6=>br (!r6.1) (some (.inr (true,()))) ((sL1In.f n (a0.2.2.length:Int) 1 24).bind fun r7=>some (.inr ((!r7.1),()))))) fun y4=>br y4.1 (some (false,())) (iter (α:=(Int×Unit)) n (fun ih17 x16=>br (decide (x16.1<(a0.2.2.length:Int))) (chk (0≤x16.1∧x16.1<(a0.2.2.length:Int)) (let v18:=(a0.2.2.getD x16.1.toNat zInstr); (sL2Operands.f n a0 v18).bind fun r19=>br (!r19.1) (some (false,())) (ih17 ((w64 (x16.1+1)),())))) (some (true,()))) (0,()))
noncomputable def sIsProgram.mng (n:Nat):Mng:=⟨[.val tProgram],[.val .bool],fun x=>sIsProgram.f n x.1⟩
noncomputable def sIsProgram.cfg (n:Nat):Cfg:=⟨tys,[(103,sL1In.mng n),(128,sL2Operands.mng n)],[],[]⟩
theorem sIsProgram.eq:∀ (n:Nat) (a0:Program),runF (sIsProgram.cfg n) n Tryz.f64 (annOf Tryz.f64 sIsProgram.las) [.val tProgram] [.val .bool] (a0,())=sIsProgram.f n a0:=by
 intros
 kernel_rfl
theorem sIsProgram.gof:GoF Tryz.prog 64:=⟨_,Tryz.func64,by kernel_rfl,by kernel_rfl⟩
theorem sIsProgram.sound (n:Nat):Sound Tryz.prog 64 (sIsProgram.mng n):=runF_sound (fn:=Tryz.f64) (m:=sIsProgram.mng n) (c:=sIsProgram.cfg n) (regOK mixed (opOK (.of (c:=sIsProgram.cfg n) ⟨⟨sL1In.sound n,sL1In.gof⟩,⟨⟨sL2Operands.sound n,sL2Operands.gof⟩,trivial⟩⟩) (.of (c:=sIsProgram.cfg n) trivial)) (tysOK tys_ok)) (tysOK tys_ok) Tryz.func64 (fun x=>(sIsProgram.eq n x.1).symm)
def sL3Ends.las:List (Nat×LA):=[(1,⟨[(34,.bool)],[],[2,3],[]⟩),(6,⟨[(5,.int .i64)],[],[2,3],[]⟩),(10,⟨[(6,.int .i64)],[],[3,5],[]⟩)]
noncomputable def sL3Ends.f (n:Nat) (a0:Network) (a1:Link):Option (Bool×Unit):=cut (α:=(Bool×Unit)) (br (decide (a1.1=(-1))) (br (decide (a1.2.2.1=(-1))) (some (.inr (true,()))) ((sL1In.f n a1.1 (-1) (w64 ((a0.1.length:Int)-1))).bind fun r6=>br (!r6.1) (some (.inr (true,()))) ((sL1In.f n a1.2.2.1 (-1) (w64 ((a0.1.length:Int)-1))).bind fun r7=>some (.inr ((!r7.1),()))))) ((sL1In.f n a1.1 (-1) (w64 ((a0.1.length:Int)-1))).bind fun r8=>br (!r8.1) (some (.inr (true,()))) ((sL1In.f n a1.2.2.1 (-1) (w64 ((a0.1.length:Int)-1))).bind fun r9=>some (.inr ((!r9.1),()))))) fun y5=>br y5.1 (some (false,())) (cut (α:=(Int×Unit)) (br (decide (0≤a1.1)) (chk (0≤a1.1∧a1.1<(a0.1.length:Int)) (let v12:=(a0.1.getD a1.1.toNat zProgram); some (.inr (v12.2.1,())))) (some (.inr (1,())))) fun y11=>cut (α:=(Int×Unit)) (br (decide (0≤a1.2.2.1)) (chk (0≤a1.2.2.1∧a1.2.2.1<(a0.1.length:Int)) (let v15:=(a0.1.getD a1.2.2.1.toNat zProgram); some (.inr (v15.1,())))) (some (.inr (1,())))) fun y14=>(sL1In.f n a1.2.1 0 (w64 (y11.1-1))).bind fun r16=>br r16.1 ((sL1In.f n a1.2.2.2.1 0 (w64 (y14.1-1))).bind fun r17=>some (r17.1,())) (some (false,())))
noncomputable def sL3Ends.mng (n:Nat):Mng:=⟨[.val tNetwork,.val tLink],[.val .bool],fun x=>sL3Ends.f n x.1 x.2.1⟩
noncomputable def sL3Ends.cfg (n:Nat):Cfg:=⟨tys,[(103,sL1In.mng n)],[],[]⟩
theorem sL3Ends.eq:∀ (n:Nat) (a0:Network) (a1:Link),runF (sL3Ends.cfg n) n Tryz.f139 (annOf Tryz.f139 sL3Ends.las) [.val tNetwork,.val tLink] [.val .bool] (a0,(a1,()))=sL3Ends.f n a0 a1:=by
 intros
 kernel_rfl
theorem sL3Ends.gof:GoF Tryz.prog 139:=⟨_,Tryz.func139,by kernel_rfl,by kernel_rfl⟩
theorem sL3Ends.sound (n:Nat):Sound Tryz.prog 139 (sL3Ends.mng n):=runF_sound (fn:=Tryz.f139) (m:=sL3Ends.mng n) (c:=sL3Ends.cfg n) (regOK mixed (opOK (.of (c:=sL3Ends.cfg n) ⟨⟨sL1In.sound n,sL1In.gof⟩,trivial⟩) (.of (c:=sL3Ends.cfg n) trivial)) (tysOK tys_ok)) (tysOK tys_ok) Tryz.func139 (fun x=>(sL3Ends.eq n x.1 x.2.1).symm)
def sIsStream.las:List (Nat×LA):=[(3,⟨[(7,.int .i64)],[],[0,5,6],[]⟩)]
noncomputable def sIsStream.f (n:Nat) (a0:List Int):Option (Bool×Unit):=iter (α:=(Int×Unit)) n (fun ih7 x6=>br (decide (x6.1<(a0.length:Int))) (chk (0≤x6.1∧x6.1<(a0.length:Int)) ((sL1Token.f n (a0.getD x6.1.toNat 0)).bind fun r8=>br (!r8.1) (some (false,())) (ih7 ((w64 (x6.1+1)),())))) (some ((decide ((a0.length:Int)≤400)),()))) (0,())
noncomputable def sIsStream.mng (n:Nat):Mng:=⟨[.val IS],[.val .bool],fun x=>sIsStream.f n x.1⟩
noncomputable def sIsStream.cfg (n:Nat):Cfg:=⟨tys,[(155,sL1Token.mng n)],[],[]⟩
theorem sIsStream.eq:∀ (n:Nat) (a0:List Int),runF (sIsStream.cfg n) n Tryz.f105 (annOf Tryz.f105 sIsStream.las) [.val IS] [.val .bool] (a0,())=sIsStream.f n a0:=by
 intros
 kernel_rfl
theorem sIsStream.gof:GoF Tryz.prog 105:=⟨_,Tryz.func105,by kernel_rfl,by kernel_rfl⟩
theorem sIsStream.sound (n:Nat):Sound Tryz.prog 105 (sIsStream.mng n):=runF_sound (fn:=Tryz.f105) (m:=sIsStream.mng n) (c:=sIsStream.cfg n) (regOK mixed (opOK (.of (c:=sIsStream.cfg n) ⟨⟨sL1Token.sound n,sL1Token.gof⟩,trivial⟩) (.of (c:=sIsStream.cfg n) trivial)) (tysOK tys_ok)) (tysOK tys_ok) Tryz.func105 (fun x=>(sIsStream.eq n x.1).symm)
def sL3To.las:List (Nat×LA):=[(4,⟨[(7,.int .i64),(13,.int .i64)],[],[1,2,11,12],[]⟩),(9,⟨[(27,.bool)],[],[1,2,7,8,11,12,13],[]⟩)]
noncomputable def sL3To.f (n:Nat) (a0:Network) (a1:Int) (a2:Int):Option (Int×Unit):=iter (α:=(Int×(Int×Unit))) n (fun ih9 x8=>br (decide (x8.2.1<(a0.2.length:Int))) (chk (0≤x8.2.1∧x8.2.1<(a0.2.length:Int)) (let v10:=(a0.2.getD x8.2.1.toNat zLink); cut (α:=(Bool×Unit)) (br (decide (v10.2.2.1=a1)) (some (.inr ((decide (v10.2.2.2.1=a2)),()))) (some (.inr (false,())))) fun y11=>br y11.1 (br (decide (0≤x8.1)) (some ((-2),())) (ih9 (x8.2.1,((w64 (x8.2.1+1)),())))) (ih9 (x8.1,((w64 (x8.2.1+1)),()))))) (some (x8.1,()))) ((-1),(0,()))
noncomputable def sL3To.mng (n:Nat):Mng:=⟨[.val tNetwork,.val I,.val I],[.val I],fun x=>sL3To.f n x.1 x.2.1 x.2.2.1⟩
noncomputable def sL3To.cfg (n:Nat):Cfg:=⟨tys,[],[],[]⟩
theorem sL3To.eq:∀ (n:Nat) (a0:Network) (a1:Int) (a2:Int),runF (sL3To.cfg n) n Tryz.f140 (annOf Tryz.f140 sL3To.las) [.val tNetwork,.val I,.val I] [.val I] (a0,(a1,(a2,())))=sL3To.f n a0 a1 a2:=by
 intros
 kernel_rfl
theorem sL3To.gof:GoF Tryz.prog 140:=⟨_,Tryz.func140,by kernel_rfl,by kernel_rfl⟩
theorem sL3To.sound (n:Nat):Sound Tryz.prog 140 (sL3To.mng n):=runF_sound (fn:=Tryz.f140) (m:=sL3To.mng n) (c:=sL3To.cfg n) (regOK mixed (opOK (.of (c:=sL3To.cfg n) trivial) (.of (c:=sL3To.cfg n) trivial)) (tysOK tys_ok)) (tysOK tys_ok) Tryz.func140 (fun x=>(sL3To.eq n x.1 x.2.1 x.2.2.1).symm)
def sL3From.las:List (Nat×LA):=[(4,⟨[(7,.int .i64),(13,.int .i64)],[],[1,2,11,12],[]⟩),(9,⟨[(27,.bool)],[],[1,2,7,8,11,12,13],[]⟩)]
noncomputable def sL3From.f (n:Nat) (a0:Network) (a1:Int) (a2:Int):Option (Int×Unit):=iter (α:=(Int×(Int×Unit))) n (fun ih9 x8=>br (decide (x8.2.1<(a0.2.length:Int))) (chk (0≤x8.2.1∧x8.2.1<(a0.2.length:Int)) (let v10:=(a0.2.getD x8.2.1.toNat zLink); cut (α:=(Bool×Unit)) (br (decide (v10.1=a1)) (some (.inr ((decide (v10.2.1=a2)),()))) (some (.inr (false,())))) fun y11=>br y11.1 (br (decide (0≤x8.1)) (some ((-2),())) (ih9 (x8.2.1,((w64 (x8.2.1+1)),())))) (ih9 (x8.1,((w64 (x8.2.1+1)),()))))) (some (x8.1,()))) ((-1),(0,()))
noncomputable def sL3From.mng (n:Nat):Mng:=⟨[.val tNetwork,.val I,.val I],[.val I],fun x=>sL3From.f n x.1 x.2.1 x.2.2.1⟩
noncomputable def sL3From.cfg (n:Nat):Cfg:=⟨tys,[],[],[]⟩
theorem sL3From.eq:∀ (n:Nat) (a0:Network) (a1:Int) (a2:Int),runF (sL3From.cfg n) n Tryz.f141 (annOf Tryz.f141 sL3From.las) [.val tNetwork,.val I,.val I] [.val I] (a0,(a1,(a2,())))=sL3From.f n a0 a1 a2:=by
 intros
 kernel_rfl
theorem sL3From.gof:GoF Tryz.prog 141:=⟨_,Tryz.func141,by kernel_rfl,by kernel_rfl⟩
theorem sL3From.sound (n:Nat):Sound Tryz.prog 141 (sL3From.mng n):=runF_sound (fn:=Tryz.f141) (m:=sL3From.mng n) (c:=sL3From.cfg n) (regOK mixed (opOK (.of (c:=sL3From.cfg n) trivial) (.of (c:=sL3From.cfg n) trivial)) (tysOK tys_ok)) (tysOK tys_ok) Tryz.func141 (fun x=>(sL3From.eq n x.1 x.2.1 x.2.2.1).symm)
def sIsNetwork.las:List (Nat×LA):=[(1,⟨[(20,.bool)],[],[1],[]⟩),(6,⟨[(24,.int .i64)],[],[1,22,23],[]⟩),(17,⟨[(35,.int .i64)],[],[1,33,34],[]⟩),(28,⟨[(53,.int .i64)],[],[1,51,52],[]⟩),(35,⟨[(9,.int .i64)],[],[1,7,8,51,52,53],[]⟩),(45,⟨[(10,.int .i64)],[],[1,7,8,51,52,53],[]⟩)]
noncomputable def sIsNetwork.f (n:Nat) (a0:Network):Option (Bool×Unit):=cut (α:=(Bool×Unit)) (br (decide (12<(a0.1.length:Int))) (some (.inr (true,()))) (some (.inr ((decide (30<(a0.2.length:Int))),())))) fun y1=>br y1.1 (some (false,())) (iter (α:=(Int×Unit)) n (fun ih14 x13=>br (decide (x13.1<(a0.1.length:Int))) (chk (0≤x13.1∧x13.1<(a0.1.length:Int)) (let v15:=(a0.1.getD x13.1.toNat zProgram); (sIsProgram.f n v15).bind fun r16=>br (!r16.1) (some (false,())) (ih14 ((w64 (x13.1+1)),())))) (iter (α:=(Int×Unit)) n (fun ih31 x30=>br (decide (x30.1<(a0.2.length:Int))) (chk (0≤x30.1∧x30.1<(a0.2.length:Int)) (let v32:=(a0.2.getD x30.1.toNat zLink); (sL3Ends.f n a0 v32).bind fun r33=>br (!r33.1) (some (false,())) ((sIsStream.f n v32.2.2.2.2).bind fun r34=>br (!r34.1) (some (false,())) (ih31 ((w64 (x30.1+1)),()))))) (iter (α:=(Int×Unit)) n (fun ih73 x72=>br (decide (x72.1<(a0.1.length:Int))) (chk (0≤x72.1∧x72.1<(a0.1.length:Int)) (let v74:=(a0.1.getD x72.1.toNat zProgram); iter (α:=(Int×Unit)) n (fun ih90 x89=>br (decide (x89.1<v74.1)) ((sL3To.f n a0 x72.1 x89.1).bind fun r91=>br (decide (r91.1<0)) (some (false,())) (ih90 ((w64 (x89.1+1)),()))) (iter (α:=(Int×Unit)) n (fun ih104 x103=>br (decide (x103.1<v74.2.1)) ((sL3From.f n a0 x72.1 x103.1).bind fun r105=>br (decide (r105.1<0)) (some (false,())) (ih104 ((w64 (x103.1+1)),()))) (ih73 ((w64 (x72.1+1)),()))) (0,()))) (0,()))) (some (true,()))) (0,()))) (0,()))) (0,()))
noncomputable def sIsNetwork.mng (n:Nat):Mng:=⟨[.val tNetwork],[.val .bool],fun x=>sIsNetwork.f n x.1⟩
noncomputable def sIsNetwork.cfg (n:Nat):Cfg:=⟨tys,[(64,sIsProgram.mng n),(139,sL3Ends.mng n),(105,sIsStream.mng n),(140,sL3To.mng n),(141,sL3From.mng n)],[],[]⟩
theorem sIsNetwork.eq:∀ (n:Nat) (a0:Network),runF (sIsNetwork.cfg n) n Tryz.f84 (annOf Tryz.f84 sIsNetwork.las) [.val tNetwork] [.val .bool] (a0,())=sIsNetwork.f n a0:=by
 intros
 kernel_rfl
theorem sIsNetwork.gof:GoF Tryz.prog 84:=⟨_,Tryz.func84,by kernel_rfl,by kernel_rfl⟩
theorem sIsNetwork.sound (n:Nat):Sound Tryz.prog 84 (sIsNetwork.mng n):=runF_sound (fn:=Tryz.f84) (m:=sIsNetwork.mng n) (c:=sIsNetwork.cfg n) (regOK mixed (opOK (.of (c:=sIsNetwork.cfg n) ⟨⟨sIsProgram.sound n,sIsProgram.gof⟩,⟨⟨sL3Ends.sound n,sL3Ends.gof⟩,⟨⟨sIsStream.sound n,sIsStream.gof⟩,⟨⟨sL3To.sound n,sL3To.gof⟩,⟨⟨sL3From.sound n,sL3From.gof⟩,trivial⟩⟩⟩⟩⟩) (.of (c:=sIsNetwork.cfg n) trivial)) (tysOK tys_ok)) (tysOK tys_ok) Tryz.func84 (fun x=>(sIsNetwork.eq n x.1).symm)
def isReg.las:List (Nat×LA):=[]
noncomputable def isReg.f (n:Nat) (a0:Int):Option (Bool×Unit):=br (decide (0≤a0)) (some ((decide (a0≤3)),())) (some (false,()))
noncomputable def isReg.mng (n:Nat):Mng:=⟨[.val I],[.val .bool],fun x=>isReg.f n x.1⟩
noncomputable def isReg.cfg (n:Nat):Cfg:=⟨tys,[],[],[]⟩
theorem isReg.eq:∀ (n:Nat) (a0:Int),runF (isReg.cfg n) n Tryz.f171 (annOf Tryz.f171 isReg.las) [.val I] [.val .bool] (a0,())=isReg.f n a0:=by
 intros
 kernel_rfl
theorem isReg.gof:GoF Tryz.prog 171:=⟨_,Tryz.func171,by kernel_rfl,by kernel_rfl⟩
theorem isReg.sound (n:Nat):Sound Tryz.prog 171 (isReg.mng n):=runF_sound (fn:=Tryz.f171) (m:=isReg.mng n) (c:=isReg.cfg n) (regOK mixed (opOK (.of (c:=isReg.cfg n) trivial) (.of (c:=isReg.cfg n) trivial)) (tysOK tys_ok)) (tysOK tys_ok) Tryz.func171 (fun x=>(isReg.eq n x.1).symm)
def isToken.las:List (Nat×LA):=[]
noncomputable def isToken.f (n:Nat) (a0:Int):Option (Bool×Unit):=br (decide ((-999999)≤a0)) (some ((decide (a0≤999999)),())) (some (false,()))
noncomputable def isToken.mng (n:Nat):Mng:=⟨[.val I],[.val .bool],fun x=>isToken.f n x.1⟩
noncomputable def isToken.cfg (n:Nat):Cfg:=⟨tys,[],[],[]⟩
theorem isToken.eq:∀ (n:Nat) (a0:Int),runF (isToken.cfg n) n Tryz.f158 (annOf Tryz.f158 isToken.las) [.val I] [.val .bool] (a0,())=isToken.f n a0:=by
 intros
 kernel_rfl
theorem isToken.gof:GoF Tryz.prog 158:=⟨_,Tryz.func158,by kernel_rfl,by kernel_rfl⟩
theorem isToken.sound (n:Nat):Sound Tryz.prog 158 (isToken.mng n):=runF_sound (fn:=Tryz.f158) (m:=isToken.mng n) (c:=isToken.cfg n) (regOK mixed (opOK (.of (c:=isToken.cfg n) trivial) (.of (c:=isToken.cfg n) trivial)) (tysOK tys_ok)) (tysOK tys_ok) Tryz.func158 (fun x=>(isToken.eq n x.1).symm)
def isInstr.las:List (Nat×LA):=[(1,⟨[(9,.bool)],[],[1,2,4],[]⟩),(14,⟨[(83,.bool)],[],[4,9,25],[]⟩),(26,⟨[(109,.bool)],[],[4,9,25],[]⟩)]
noncomputable def isInstr.f (n:Nat) (a0:Instr) (a1:Int) (a2:Int) (a3:Int):Option (Bool×Unit):=cut (α:=(Bool×Unit)) (br (decide (0≤a0.2.2.1)) (br (decide (a0.2.2.1≤a3)) (some (.inr ((decide (a0.2.2.2=0)),()))) (some (.inr (false,())))) (some (.inr (false,())))) fun y1=>br (decide (a0.1=1)) ((isReg.f n a0.2.1).bind fun r2=>br r2.1 (br (decide (0≤a0.2.2.1)) (br (decide (a0.2.2.1<a1)) (some ((decide (a0.2.2.2=0)),())) (some (false,()))) (some (false,()))) (some (false,()))) (br (decide (a0.1=2)) ((isReg.f n a0.2.1).bind fun r3=>br r3.1 (br (decide (0≤a0.2.2.1)) (br (decide (a0.2.2.1<a2)) (some ((decide (a0.2.2.2=0)),())) (some (false,()))) (some (false,()))) (some (false,()))) (br (decide (a0.1=3)) ((isReg.f n a0.2.1).bind fun r4=>br r4.1 ((isToken.f n a0.2.2.1).bind fun r5=>br r5.1 (some ((decide (a0.2.2.2=0)),())) (some (false,()))) (some (false,()))) (cut (α:=(Bool×Unit)) (br (decide (a0.1=4)) (some (.inr ((decide (a0.1=4)),()))) (br (decide (a0.1=5)) (some (.inr ((decide (a0.1=5)),()))) (br (decide (a0.1=6)) (some (.inr ((decide (a0.1=6)),()))) (some (.inr ((decide (a0.1=7)),())))))) fun y6=>br y6.1 ((isReg.f n a0.2.1).bind fun r7=>br r7.1 ((isReg.f n a0.2.2.1).bind fun r8=>br r8.1 ((isReg.f n a0.2.2.2).bind fun r9=>some (r9.1,())) (some (false,()))) (some (false,()))) (br (decide (a0.1=8)) (br (decide (a0.2.1=0)) (some (y1.1,())) (some (false,()))) (cut (α:=(Bool×Unit)) (br (decide (a0.1=9)) (some (.inr ((decide (a0.1=9)),()))) (some (.inr ((decide (a0.1=10)),())))) fun y10=>br y10.1 ((isReg.f n a0.2.1).bind fun r11=>br r11.1 (some (y1.1,())) (some (false,()))) (br (decide (a0.1=11)) (some ((decide (a0.1=11)&&(decide (a0.2.1=0)&&(decide (a0.2.2.1=0)&&(decide (a0.2.2.2=0)&&true)))),())) (some (false,()))))))))
noncomputable def isInstr.mng (n:Nat):Mng:=⟨[.val tInstr,.val I,.val I,.val I],[.val .bool],fun x=>isInstr.f n x.1 x.2.1 x.2.2.1 x.2.2.2.1⟩
noncomputable def isInstr.cfg (n:Nat):Cfg:=⟨tys,[(171,isReg.mng n),(158,isToken.mng n)],[],[]⟩
theorem isInstr.eq:∀ (n:Nat) (a0:Instr) (a1:Int) (a2:Int) (a3:Int),runF (isInstr.cfg n) n Tryz.f161 (annOf Tryz.f161 isInstr.las) [.val tInstr,.val I,.val I,.val I] [.val .bool] (a0,(a1,(a2,(a3,()))))=isInstr.f n a0 a1 a2 a3:=by
 intros
 kernel_rfl
theorem isInstr.gof:GoF Tryz.prog 161:=⟨_,Tryz.func161,by kernel_rfl,by kernel_rfl⟩
theorem isInstr.sound (n:Nat):Sound Tryz.prog 161 (isInstr.mng n):=runF_sound (fn:=Tryz.f161) (m:=isInstr.mng n) (c:=isInstr.cfg n) (regOK mixed (opOK (.of (c:=isInstr.cfg n) ⟨⟨isReg.sound n,isReg.gof⟩,⟨⟨isToken.sound n,isToken.gof⟩,trivial⟩⟩) (.of (c:=isInstr.cfg n) trivial)) (tysOK tys_ok)) (tysOK tys_ok) Tryz.func161 (fun x=>(isInstr.eq n x.1 x.2.1 x.2.2.1 x.2.2.2.1).symm)
def isProgramC.las:List (Nat×LA):=[]
noncomputable def isProgramC.f (n:Nat) (a0:Instr) (a1:Program):Option (Bool×Unit):=(isInstr.f n a0 a1.1 a1.2.1 (a1.2.2.length:Int)).bind fun r1=>some ((!r1.1),())
noncomputable def isProgramC.mng (n:Nat):Mng:=⟨[.val tInstr,.psh tProgram],[.val .bool],fun x=>isProgramC.f n x.1 x.2.1⟩
noncomputable def isProgramC.cfg (n:Nat):Cfg:=⟨tys,[(161,isInstr.mng n)],[],[]⟩
theorem isProgramC.eq:∀ (n:Nat) (a0:Instr) (a1:Program),runF (isProgramC.cfg n) n Tryz.f160 (annOf Tryz.f160 isProgramC.las) [.val tInstr,.psh tProgram] [.val .bool] (a0,(a1,()))=isProgramC.f n a0 a1:=by
 intros
 kernel_rfl
theorem isProgramC.gof:GoF Tryz.prog 160:=⟨_,Tryz.func160,by kernel_rfl,by kernel_rfl⟩
theorem isProgramC.sound (n:Nat):Sound Tryz.prog 160 (isProgramC.mng n):=runF_sound (fn:=Tryz.f160) (m:=isProgramC.mng n) (c:=isProgramC.cfg n) (regOK mixed (opOK (.of (c:=isProgramC.cfg n) ⟨⟨isInstr.sound n,isInstr.gof⟩,trivial⟩) (.of (c:=isProgramC.cfg n) trivial)) (tysOK tys_ok)) (tysOK tys_ok) Tryz.func160 (fun x=>(isProgramC.eq n x.1 x.2.1).symm)
def indexFuncI.las:List (Nat×LA):=[(3,⟨[(8,.int .i64)],[],[0,1,7],[]⟩)]
noncomputable def indexFuncI.f (n:Nat) (a0:List Instr) (a1:(Program×Unit)):Option (Int×Unit):=iter (α:=(Int×Unit)) n (fun ih8 x7=>br (decide (x7.1<(a0.length:Int))) (chk (0≤x7.1∧x7.1<(a0.length:Int)) (let v9:=(a0.getD x7.1.toNat zInstr); (isProgramC.f n v9 a1.1).bind fun r10=>br r10.1 (some (x7.1,())) (ih8 ((w64 (x7.1+1)),())))) (some ((-1),()))) (0,())
noncomputable def indexFuncI.mng (n:Nat):Mng:=⟨[.val (.sl tInstr),.fnc 160 [.psh tProgram]],[.val I],fun x=>indexFuncI.f n x.1 x.2.1⟩
noncomputable def indexFuncI.cfg (n:Nat):Cfg:=⟨tys,[(160,isProgramC.mng n)],[],[]⟩
theorem indexFuncI.eq:∀ (n:Nat) (a0:List Instr) (a1:(Program×Unit)),runF (indexFuncI.cfg n) n Tryz.f170 (annOf Tryz.f170 indexFuncI.las) [.val (.sl tInstr),.fnc 160 [.psh tProgram]] [.val I] (a0,(a1,()))=indexFuncI.f n a0 a1:=by
 intros
 kernel_rfl
theorem indexFuncI.gof:GoF Tryz.prog 170:=⟨_,Tryz.func170,by kernel_rfl,by kernel_rfl⟩
theorem indexFuncI.sound (n:Nat):Sound Tryz.prog 170 (indexFuncI.mng n):=runF_sound (fn:=Tryz.f170) (m:=indexFuncI.mng n) (c:=indexFuncI.cfg n) (regOK mixed (opOK (.of (c:=indexFuncI.cfg n) ⟨⟨isProgramC.sound n,isProgramC.gof⟩,trivial⟩) (.of (c:=indexFuncI.cfg n) trivial)) (tysOK tys_ok)) (tysOK tys_ok) Tryz.func170 (fun x=>(indexFuncI.eq n x.1 x.2.1).symm)
def containsFuncI.las:List (Nat×LA):=[]
noncomputable def containsFuncI.f (n:Nat) (a0:List Instr) (a1:(Program×Unit)):Option (Bool×Unit):=(indexFuncI.f n a0 (a1.1,())).bind fun r1=>some ((decide (0≤r1.1)),())
noncomputable def containsFuncI.mng (n:Nat):Mng:=⟨[.val (.sl tInstr),.fnc 160 [.psh tProgram]],[.val .bool],fun x=>containsFuncI.f n x.1 x.2.1⟩
noncomputable def containsFuncI.cfg (n:Nat):Cfg:=⟨tys,[(170,indexFuncI.mng n)],[],[]⟩
theorem containsFuncI.eq:∀ (n:Nat) (a0:List Instr) (a1:(Program×Unit)),runF (containsFuncI.cfg n) n Tryz.f159 (annOf Tryz.f159 containsFuncI.las) [.val (.sl tInstr),.fnc 160 [.psh tProgram]] [.val .bool] (a0,(a1,()))=containsFuncI.f n a0 a1:=by
 intros
 kernel_rfl
theorem containsFuncI.gof:GoF Tryz.prog 159:=⟨_,Tryz.func159,by kernel_rfl,by kernel_rfl⟩
theorem containsFuncI.sound (n:Nat):Sound Tryz.prog 159 (containsFuncI.mng n):=runF_sound (fn:=Tryz.f159) (m:=containsFuncI.mng n) (c:=containsFuncI.cfg n) (regOK mixed (opOK (.of (c:=containsFuncI.cfg n) ⟨⟨indexFuncI.sound n,indexFuncI.gof⟩,trivial⟩) (.of (c:=containsFuncI.cfg n) trivial)) (tysOK tys_ok)) (tysOK tys_ok) Tryz.func159 (fun x=>(containsFuncI.eq n x.1 x.2.1).symm)
def iIsProgram.las:List (Nat×LA):=[(1,⟨[(32,.bool)],[],[1],[]⟩)]
noncomputable def iIsProgram.f (n:Nat) (a0:Program):Option (Bool×Unit):=cut (α:=(Bool×Unit)) (br (decide (a0.1<0)) (some (.inr (true,()))) (br (decide (3<a0.1)) (some (.inr (true,()))) (br (decide (a0.2.1<0)) (some (.inr (true,()))) (br (decide (3<a0.2.1)) (some (.inr (true,()))) (br (decide ((a0.2.2.length:Int)<1)) (some (.inr (true,()))) (some (.inr ((decide (24<(a0.2.2.length:Int))),())))))))) fun y1=>br y1.1 (some (false,())) ((containsFuncI.f n a0.2.2 (a0,())).bind fun r2=>some ((!r2.1),()))
noncomputable def iIsProgram.mng (n:Nat):Mng:=⟨[.val tProgram],[.val .bool],fun x=>iIsProgram.f n x.1⟩
noncomputable def iIsProgram.cfg (n:Nat):Cfg:=⟨tys,[(159,containsFuncI.mng n)],[],[]⟩
theorem iIsProgram.eq:∀ (n:Nat) (a0:Program),runF (iIsProgram.cfg n) n Tryz.f116 (annOf Tryz.f116 iIsProgram.las) [.val tProgram] [.val .bool] (a0,())=iIsProgram.f n a0:=by
 intros
 kernel_rfl
theorem iIsProgram.gof:GoF Tryz.prog 116:=⟨_,Tryz.func116,by kernel_rfl,by kernel_rfl⟩
theorem iIsProgram.sound (n:Nat):Sound Tryz.prog 116 (iIsProgram.mng n):=runF_sound (fn:=Tryz.f116) (m:=iIsProgram.mng n) (c:=iIsProgram.cfg n) (regOK mixed (opOK (.of (c:=iIsProgram.cfg n) ⟨⟨containsFuncI.sound n,containsFuncI.gof⟩,trivial⟩) (.of (c:=iIsProgram.cfg n) trivial)) (tysOK tys_ok)) (tysOK tys_ok) Tryz.func116 (fun x=>(iIsProgram.eq n x.1).symm)
def isStreamC.las:List (Nat×LA):=[]
noncomputable def isStreamC.f (n:Nat) (a0:Int):Option (Bool×Unit):=(isToken.f n a0).bind fun r1=>some ((!r1.1),())
noncomputable def isStreamC.mng (n:Nat):Mng:=⟨[.val I],[.val .bool],fun x=>isStreamC.f n x.1⟩
noncomputable def isStreamC.cfg (n:Nat):Cfg:=⟨tys,[(158,isToken.mng n)],[],[]⟩
theorem isStreamC.eq:∀ (n:Nat) (a0:Int),runF (isStreamC.cfg n) n Tryz.f157 (annOf Tryz.f157 isStreamC.las) [.val I] [.val .bool] (a0,())=isStreamC.f n a0:=by
 intros
 kernel_rfl
theorem isStreamC.gof:GoF Tryz.prog 157:=⟨_,Tryz.func157,by kernel_rfl,by kernel_rfl⟩
theorem isStreamC.sound (n:Nat):Sound Tryz.prog 157 (isStreamC.mng n):=runF_sound (fn:=Tryz.f157) (m:=isStreamC.mng n) (c:=isStreamC.cfg n) (regOK mixed (opOK (.of (c:=isStreamC.cfg n) ⟨⟨isToken.sound n,isToken.gof⟩,trivial⟩) (.of (c:=isStreamC.cfg n) trivial)) (tysOK tys_ok)) (tysOK tys_ok) Tryz.func157 (fun x=>(isStreamC.eq n x.1).symm)
def indexFuncS.las:List (Nat×LA):=[(3,⟨[(8,.int .i64)],[],[0,1,7],[]⟩)]
noncomputable def indexFuncS.f (n:Nat) (a0:List Int) (a1:(Unit)):Option (Int×Unit):=iter (α:=(Int×Unit)) n (fun ih6 x5=>br (decide (x5.1<(a0.length:Int))) (chk (0≤x5.1∧x5.1<(a0.length:Int)) ((isStreamC.f n (a0.getD x5.1.toNat 0)).bind fun r7=>br r7.1 (some (x5.1,())) (ih6 ((w64 (x5.1+1)),())))) (some ((-1),()))) (0,())
noncomputable def indexFuncS.mng (n:Nat):Mng:=⟨[.val IS,.fnc 157 []],[.val I],fun x=>indexFuncS.f n x.1 x.2.1⟩
noncomputable def indexFuncS.cfg (n:Nat):Cfg:=⟨tys,[(157,isStreamC.mng n)],[],[]⟩
theorem indexFuncS.eq:∀ (n:Nat) (a0:List Int) (a1:(Unit)),runF (indexFuncS.cfg n) n Tryz.f136 (annOf Tryz.f136 indexFuncS.las) [.val IS,.fnc 157 []] [.val I] (a0,(a1,()))=indexFuncS.f n a0 a1:=by
 intros
 kernel_rfl
theorem indexFuncS.gof:GoF Tryz.prog 136:=⟨_,Tryz.func136,by kernel_rfl,by kernel_rfl⟩
theorem indexFuncS.sound (n:Nat):Sound Tryz.prog 136 (indexFuncS.mng n):=runF_sound (fn:=Tryz.f136) (m:=indexFuncS.mng n) (c:=indexFuncS.cfg n) (regOK mixed (opOK (.of (c:=indexFuncS.cfg n) ⟨⟨isStreamC.sound n,isStreamC.gof⟩,trivial⟩) (.of (c:=indexFuncS.cfg n) trivial)) (tysOK tys_ok)) (tysOK tys_ok) Tryz.func136 (fun x=>(indexFuncS.eq n x.1 x.2.1).symm)
def containsFuncS.las:List (Nat×LA):=[]
noncomputable def containsFuncS.f (n:Nat) (a0:List Int) (a1:(Unit)):Option (Bool×Unit):=(indexFuncS.f n a0 ()).bind fun r1=>some ((decide (0≤r1.1)),())
noncomputable def containsFuncS.mng (n:Nat):Mng:=⟨[.val IS,.fnc 157 []],[.val .bool],fun x=>containsFuncS.f n x.1 x.2.1⟩
noncomputable def containsFuncS.cfg (n:Nat):Cfg:=⟨tys,[(136,indexFuncS.mng n)],[],[]⟩
theorem containsFuncS.eq:∀ (n:Nat) (a0:List Int) (a1:(Unit)),runF (containsFuncS.cfg n) n Tryz.f74 (annOf Tryz.f74 containsFuncS.las) [.val IS,.fnc 157 []] [.val .bool] (a0,(a1,()))=containsFuncS.f n a0 a1:=by
 intros
 kernel_rfl
theorem containsFuncS.gof:GoF Tryz.prog 74:=⟨_,Tryz.func74,by kernel_rfl,by kernel_rfl⟩
theorem containsFuncS.sound (n:Nat):Sound Tryz.prog 74 (containsFuncS.mng n):=runF_sound (fn:=Tryz.f74) (m:=containsFuncS.mng n) (c:=containsFuncS.cfg n) (regOK mixed (opOK (.of (c:=containsFuncS.cfg n) ⟨⟨indexFuncS.sound n,indexFuncS.gof⟩,trivial⟩) (.of (c:=containsFuncS.cfg n) trivial)) (tysOK tys_ok)) (tysOK tys_ok) Tryz.func74 (fun x=>(containsFuncS.eq n x.1 x.2.1).symm)
def iIsStream.las:List (Nat×LA):=[]
noncomputable def iIsStream.f (n:Nat) (a0:List Int):Option (Bool×Unit):=br (decide ((a0.length:Int)≤400)) ((containsFuncS.f n a0 ()).bind fun r1=>some ((!r1.1),())) (some (false,()))
noncomputable def iIsStream.mng (n:Nat):Mng:=⟨[.val IS],[.val .bool],fun x=>iIsStream.f n x.1⟩
noncomputable def iIsStream.cfg (n:Nat):Cfg:=⟨tys,[(74,containsFuncS.mng n)],[],[]⟩
theorem iIsStream.eq:∀ (n:Nat) (a0:List Int),runF (iIsStream.cfg n) n Tryz.f113 (annOf Tryz.f113 iIsStream.las) [.val IS] [.val .bool] (a0,())=iIsStream.f n a0:=by
 intros
 kernel_rfl
theorem iIsStream.gof:GoF Tryz.prog 113:=⟨_,Tryz.func113,by kernel_rfl,by kernel_rfl⟩
theorem iIsStream.sound (n:Nat):Sound Tryz.prog 113 (iIsStream.mng n):=runF_sound (fn:=Tryz.f113) (m:=iIsStream.mng n) (c:=iIsStream.cfg n) (regOK mixed (opOK (.of (c:=iIsStream.cfg n) ⟨⟨containsFuncS.sound n,containsFuncS.gof⟩,trivial⟩) (.of (c:=iIsStream.cfg n) trivial)) (tysOK tys_ok)) (tysOK tys_ok) Tryz.func113 (fun x=>(iIsStream.eq n x.1).symm)
def iIsNetwork.las:List (Nat×LA):=[(1,⟨[(22,.bool)],[],[1],[]⟩),(7,⟨[(3,.int .i64),(26,.int .i64)],[],[1,24,25],[]⟩),(20,⟨[(6,.int .i64),(44,.int .i64)],[],[1,3,42,43],[]⟩),(25,⟨[(9,.bool),(10,.bool)],[],[1,3,6,7,8,42,43,44],[]⟩),(26,⟨[(92,.bool)],[],[1,3,6,7,8,9,10,42,43,44],[]⟩),(27,⟨[(6,.int .i64)],[],[1,3,7,8,9,10,42,43,44],[]⟩),(32,⟨[(124,.bool)],[],[1,3,6,7,8,9,10,42,43,44],[]⟩),(33,⟨[(6,.int .i64)],[],[1,3,7,8,9,10,42,43,44],[]⟩),(38,⟨[(138,.bool)],[],[1,3,6,7,8,42,43,44],[]⟩),(43,⟨[(144,.int .i64)],[],[1,3,6,8,42,43,44,142,143],[]⟩)]
noncomputable def iIsNetwork.f (n:Nat) (a0:Network):Option (Bool×Unit):=cut (α:=(Bool×Unit)) (br (decide (12<(a0.1.length:Int))) (some (.inr (true,()))) (some (.inr ((decide (30<(a0.2.length:Int))),())))) fun y1=>br y1.1 (some (false,())) (iter (α:=(Int×(Int×Unit))) n (fun ih15 x14=>br (decide (x14.2.1<(a0.1.length:Int))) (chk (0≤x14.2.1∧x14.2.1<(a0.1.length:Int)) (let v16:=(a0.1.getD x14.2.1.toNat zProgram); (iIsProgram.f n v16).bind fun r17=>br (!r17.1) (some (false,())) (ih15 ((w64 (x14.1+(w64 (v16.1+v16.2.1)))),((w64 (x14.2.1+1)),()))))) (iter (α:=(Int×(Int×Unit))) n (fun ih60 x59=>br (decide (x59.2.1<(a0.2.length:Int))) (chk (0≤x59.2.1∧x59.2.1<(a0.2.length:Int)) (let v61:=(a0.2.getD x59.2.1.toNat zLink); cut (α:=(Bool×(Bool×Unit))) (br (decide (v61.1=(-1))) (br (decide (v61.2.2.1=(-1))) (some (.inr ((decide (v61.2.1=0)),((decide (v61.2.2.2.1=0)),())))) (some (.inr ((decide (v61.2.1=0)),(false,()))))) (br (decide (v61.2.2.1=(-1))) (some (.inr (false,((decide (v61.2.2.2.1=0)),())))) (some (.inr (false,(false,())))))) fun y62=>cut (α:=(Bool×Unit)) (br (decide (0≤v61.1)) (br (decide (v61.1<(a0.1.length:Int))) (br (decide (0≤v61.2.1)) (chk (0≤v61.1∧v61.1<(a0.1.length:Int)) (let v65:=(a0.1.getD v61.1.toNat zProgram); some (.inr ((decide (v61.2.1<v65.2.1)),())))) (some (.inr (false,())))) (some (.inr (false,())))) (some (.inr (false,())))) fun y64=>cut (α:=(Int×Unit)) (br y64.1 (some (.inr ((w64 (x59.1+1)),()))) (br (!y62.1) (some (.inl (false,()))) (some (.inr (x59.1,()))))) fun y66=>cut (α:=(Bool×Unit)) (br (decide (0≤v61.2.2.1)) (br (decide (v61.2.2.1<(a0.1.length:Int))) (br (decide (0≤v61.2.2.2.1)) (chk (0≤v61.2.2.1∧v61.2.2.1<(a0.1.length:Int)) (let v69:=(a0.1.getD v61.2.2.1.toNat zProgram); some (.inr ((decide (v61.2.2.2.1<v69.1)),())))) (some (.inr (false,())))) (some (.inr (false,())))) (some (.inr (false,())))) fun y68=>cut (α:=(Int×Unit)) (br y68.1 (some (.inr ((w64 (y66.1+1)),()))) (br (!y62.2.1) (some (.inl (false,()))) (some (.inr (y66.1,()))))) fun y70=>cut (α:=(Bool×Unit)) (br y62.1 (br y62.2.1 (some (.inr (true,()))) ((iIsStream.f n v61.2.2.2.2).bind fun r74=>some (.inr ((!r74.1),())))) ((iIsStream.f n v61.2.2.2.2).bind fun r75=>some (.inr ((!r75.1),())))) fun y73=>br y73.1 (some (false,())) (chk ((0:Int)≤0∧(0:Int)≤x59.2.1∧x59.2.1≤(a0.2.length:Int)) (iter (α:=(Int×Unit)) n (fun ih93 x92=>br (decide (x92.1<(((a0.2.take x59.2.1.toNat).drop 0).length:Int))) (chk (0≤x92.1∧x92.1<(((a0.2.take x59.2.1.toNat).drop 0).length:Int)) (let v94:=(((a0.2.take x59.2.1.toNat).drop 0).getD x92.1.toNat zLink); br (decide (0≤v61.1)) (br (decide (v94.1=v61.1)) (br (decide (v94.2.1=v61.2.1)) (some (false,())) (br (decide (0≤v61.2.2.1)) (br (decide (v94.2.2.1=v61.2.2.1)) (br (decide (v94.2.2.2.1=v61.2.2.2.1)) (some (false,())) (ih93 ((w64 (x92.1+1)),()))) (ih93 ((w64 (x92.1+1)),()))) (ih93 ((w64 (x92.1+1)),())))) (br (decide (0≤v61.2.2.1)) (br (decide (v94.2.2.1=v61.2.2.1)) (br (decide (v94.2.2.2.1=v61.2.2.2.1)) (some (false,())) (ih93 ((w64 (x92.1+1)),()))) (ih93 ((w64 (x92.1+1)),()))) (ih93 ((w64 (x92.1+1)),())))) (br (decide (0≤v61.2.2.1)) (br (decide (v94.2.2.1=v61.2.2.1)) (br (decide (v94.2.2.2.1=v61.2.2.2.1)) (some (false,())) (ih93 ((w64 (x92.1+1)),()))) (ih93 ((w64 (x92.1+1)),()))) (ih93 ((w64 (x92.1+1)),()))))) (ih60 (y70.1,((w64 (x59.2.1+1)),())))) (0,()))))) (some ((decide (x59.1=x14.1)),()))) (0,(0,())))) (0,(0,())))
noncomputable def iIsNetwork.mng (n:Nat):Mng:=⟨[.val tNetwork],[.val .bool],fun x=>iIsNetwork.f n x.1⟩
noncomputable def iIsNetwork.cfg (n:Nat):Cfg:=⟨tys,[(116,iIsProgram.mng n),(113,iIsStream.mng n)],[],[]⟩
theorem iIsNetwork.eq:∀ (n:Nat) (a0:Network),runF (iIsNetwork.cfg n) n Tryz.f71 (annOf Tryz.f71 iIsNetwork.las) [.val tNetwork] [.val .bool] (a0,())=iIsNetwork.f n a0:=by
 intros
 kernel_rfl
theorem iIsNetwork.gof:GoF Tryz.prog 71:=⟨_,Tryz.func71,by kernel_rfl,by kernel_rfl⟩
theorem iIsNetwork.sound (n:Nat):Sound Tryz.prog 71 (iIsNetwork.mng n):=runF_sound (fn:=Tryz.f71) (m:=iIsNetwork.mng n) (c:=iIsNetwork.cfg n) (regOK mixed (opOK (.of (c:=iIsNetwork.cfg n) ⟨⟨iIsProgram.sound n,iIsProgram.gof⟩,⟨⟨iIsStream.sound n,iIsStream.gof⟩,trivial⟩⟩) (.of (c:=iIsNetwork.cfg n) trivial)) (tysOK tys_ok)) (tysOK tys_ok) Tryz.func71 (fun x=>(iIsNetwork.eq n x.1).symm)
end Go.AmT
namespace Go.AmT
open Go Go.Am
set_option linter.unusedVariables false
set_option linter.unusedSimpArgs false
theorem cut_inr {α ρ:Type} (y:α) (f:α→Option ρ):cut (some (.inr y)) f=f y:=rfl
theorem cut_inl {α ρ:Type} (r:ρ) (f:α→Option ρ):cut (some (.inl r)) f=some r:=rfl
theorem sL1In_spec (n:Nat) (a b c:Int):sL1In.f n a b c=some (decide (b≤a)&&decide (a≤c),()):=by
 unfold sL1In.f
 by_cases h:b≤a<;>simp [h,br]
def small (k:Nat):Prop:=k≤1048576
structure SmallP (p:Program):Prop where
 code:p.2.2.length≤1048576
structure SmallL (l:Link):Prop where
 tokens:l.2.2.2.2.length≤1048576
structure SmallN (nt:Network):Prop where
 progs:nt.1.length≤1048576
 prog:∀ p∈nt.1,SmallP p
 links:nt.2.length≤1048576
 link:∀ l∈nt.2,SmallL l
def Left (left:Int) (o:Option (Int×Unit)) (P:Prop):Prop:=∃ r:Int,o=some (r,())∧r≤left∧(0≤r→P)
def reg (a:Int):Bool:=decide (0≤a)&&decide (a≤3)
def tok (a:Int):Bool:=decide (-999999≤a)&&decide (a≤999999)
def okI (ins outs size:Int) (x:Instr):Bool:=
 if x.1=1 then reg x.2.1&&(decide (0≤x.2.2.1)&&decide (x.2.2.1<ins)&&decide (x.2.2.2=0))
 else if x.1=2 then reg x.2.1&&(decide (0≤x.2.2.1)&&decide (x.2.2.1<outs)&&decide (x.2.2.2=0))
 else if x.1=3 then reg x.2.1&&(tok x.2.2.1&&decide (x.2.2.2=0))
 else if x.1=4∨x.1=5∨x.1=6∨x.1=7 then reg x.2.1&&(reg x.2.2.1&&reg x.2.2.2)
 else if x.1=8 then decide (x.2.1=0)&&(decide (0≤x.2.2.1)&&decide (x.2.2.1≤size)&&decide (x.2.2.2=0))
 else if x.1=9∨x.1=10 then reg x.2.1&&(decide (0≤x.2.2.1)&&decide (x.2.2.1≤size)&&decide (x.2.2.2=0))
 else if x.1=11 then decide (x.2.1=0)&&(decide (x.2.2.1=0)&&decide (x.2.2.2=0))
 else false
def okP (p:Program):Bool:=decide (0≤p.1)&&decide (p.1≤3)&&(decide (0≤p.2.1)&&decide (p.2.1≤3))&&(decide (1≤p.2.2.length)&&decide (p.2.2.length≤24))&&p.2.2.all (okI p.1 p.2.1 (p.2.2.length:Int))
def okS (s:List Int):Bool:=decide (s.length≤400)&&s.all tok
theorem isReg_spec (n:Nat) (a:Int):isReg.f n a=some (reg a,()):=by
 unfold isReg.f reg
 by_cases h:0≤a<;>simp [h,br]
theorem isToken_spec (n:Nat) (a:Int):isToken.f n a=some (tok a,()):=by
 unfold isToken.f tok
 by_cases h : -999999≤a<;>simp [h,br]
theorem sL1Token_spec (n:Nat) (a:Int):sL1Token.f n a=some (tok a,()):=by
 unfold sL1Token.f tok
 rw [sL1In_spec]; rfl
theorem isInstr_spec (n:Nat) (x:Instr) (ins outs size:Int):isInstr.f n x ins outs size=some (okI ins outs size x,()):=by
 have e1:(br (decide (0≤x.2.2.1)) (br (decide (x.2.2.1≤size)) (some (Sum.inr (α:=Bool×Unit) (decide (x.2.2.2=0),()))) (some (.inr (false,())))) (some (.inr (false,()))))=some (.inr ((decide (0≤x.2.2.1)&&decide (x.2.2.1≤size)&&decide (x.2.2.2=0)),())):=by
  cases decide (0≤x.2.2.1)<;>cases decide (x.2.2.1≤size)<;>rfl
 unfold isInstr.f okI
 simp only [e1,cut_inr,isReg_spec,isToken_spec,Option.bind_some]
 by_cases h1:x.1=1
 ·simp only [h1,decide_true,br_true,if_true]
  cases reg x.2.1<;>cases decide (0≤x.2.2.1)<;>cases decide (x.2.2.1<ins)<;>rfl
 by_cases h2:x.1=2
 ·simp only [h2,decide_true,decide_false,br_true,br_false,if_true,show ¬ ((2:Int)=1) by omega,if_false]
  cases reg x.2.1<;>cases decide (0≤x.2.2.1)<;>cases decide (x.2.2.1<outs)<;>rfl
 by_cases h3:x.1=3
 ·simp only [h3,decide_true,decide_false,br_true,br_false,if_true,show ¬ ((3:Int)=1) by omega,show ¬ ((3:Int)=2) by omega,if_false]
  cases reg x.2.1<;>cases tok x.2.2.1<;>rfl
 simp only [h1,h2,h3,decide_false,br_false,if_false]
 by_cases h4:x.1=4∨x.1=5∨x.1=6∨x.1=7
 ·have e2:br (decide (x.1=4)) (some (Sum.inr (α:=Bool×Unit) (decide (x.1=4),()))) (br (decide (x.1=5)) (some (.inr (decide (x.1=5),()))) (br (decide (x.1=6)) (some (.inr (decide (x.1=6),()))) (some (.inr (decide (x.1=7),())))))=some (.inr (true,())):=by
   rcases h4 with h | h | h | h<;>simp [h,br]
  rw [e2]
  simp only [h4,if_true,cut_inr,br_true]
  cases reg x.2.1<;>cases reg x.2.2.1<;>rfl
 ·have e2:br (decide (x.1=4)) (some (Sum.inr (α:=Bool×Unit) (decide (x.1=4),()))) (br (decide (x.1=5)) (some (.inr (decide (x.1=5),()))) (br (decide (x.1=6)) (some (.inr (decide (x.1=6),()))) (some (.inr (decide (x.1=7),())))))=some (.inr (false,())):=by
   simp only [not_or] at h4
   simp [h4,br]
  rw [e2]
  simp only [h4,if_false,cut_inr,br_false]
  by_cases h8:x.1=8
  ·simp only [h8,decide_true,br_true,if_true]
   cases decide (x.2.1=0)<;>rfl
  ·simp only [h8,decide_false,br_false,if_false]
   by_cases h9:x.1=9∨x.1=10
   ·have e3:br (decide (x.1=9)) (some (Sum.inr (α:=Bool×Unit) (decide (x.1=9),()))) (some (.inr (decide (x.1=10),())))=some (.inr (true,())):=by
     rcases h9 with h | h<;>simp [h,br]
    rw [e3]
    simp only [h9,if_true,cut_inr,br_true]
    cases reg x.2.1<;>rfl
   ·have e3:br (decide (x.1=9)) (some (Sum.inr (α:=Bool×Unit) (decide (x.1=9),()))) (some (.inr (decide (x.1=10),())))=some (.inr (false,())):=by
     simp only [not_or] at h9
     simp [h9,br]
    rw [e3]
    simp only [h9,if_false,cut_inr,br_false]
    by_cases h11:x.1=11
    ·simp only [h11,decide_true,br_true,if_true,Bool.and_true,Bool.true_and]
    ·simp only [h11,decide_false,br_false,if_false]
theorem lt_pred (b ins:Int):decide (b≤ins-1)=decide (b<ins):=by
 by_cases h:b<ins
 ·rw [decide_eq_true h,decide_eq_true (by omega)]
 ·rw [decide_eq_false h,decide_eq_false (by omega)]
theorem sL2Operands_spec (n:Nat) (p:Program) (x:Instr) (hi:0≤p.1∧p.1≤3) (ho:0≤p.2.1∧p.2.1≤3):sL2Operands.f n p x=some (okI p.1 p.2.1 (p.2.2.length:Int) x,()):=by
 have w1:w64 (p.1-1)=p.1-1:=w64_id (by omega) (by omega)
 have w2:w64 (p.2.1-1)=p.2.1-1:=w64_id (by omega) (by omega)
 have e0:(br (reg x.2.1) (br (reg x.2.2.1) (some (Sum.inr (α:=Bool×Unit) (reg x.2.2.2,()))) (some (.inr (false,())))) (some (.inr (false,()))))=some (.inr ((reg x.2.1&&(reg x.2.2.1&&reg x.2.2.2)),())):=by
  cases reg x.2.1<;>cases reg x.2.2.1<;>rfl
 have e1:(br (decide (0≤x.2.2.1)&&decide (x.2.2.1≤(p.2.2.length:Int))) (some (Sum.inr (α:=Bool×Unit) (decide (x.2.2.2=0),()))) (some (.inr (false,()))))=some (.inr ((decide (0≤x.2.2.1)&&decide (x.2.2.1≤(p.2.2.length:Int))&&decide (x.2.2.2=0)),())):=by
  cases decide (0≤x.2.2.1)<;>cases decide (x.2.2.1≤(p.2.2.length:Int))<;>rfl
 have hr:∀ a:Int,sL1In.f n a 0 3=some (reg a,()):=fun a=>sL1In_spec n a 0 3
 unfold sL2Operands.f okI
 simp only [hr,Option.bind_some,e0,sL1In_spec,e1,cut_inr,sL1Token_spec,w1,w2,lt_pred]
 by_cases h1:x.1=1
 ·simp only [h1,decide_true,br_true,if_true]
  cases reg x.2.1<;>cases decide (0≤x.2.2.1)<;>cases decide (x.2.2.1<p.1)<;>rfl
 by_cases h2:x.1=2
 ·simp only [h2,decide_true,decide_false,br_true,br_false,if_true,show ¬ ((2:Int)=1) by omega,if_false]
  cases reg x.2.1<;>cases decide (0≤x.2.2.1)<;>cases decide (x.2.2.1<p.2.1)<;>rfl
 by_cases h3:x.1=3
 ·simp only [h3,decide_true,decide_false,br_true,br_false,if_true,show ¬ ((3:Int)=1) by omega,show ¬ ((3:Int)=2) by omega,if_false]
  cases reg x.2.1<;>cases tok x.2.2.1<;>rfl
 simp only [h1,h2,h3,decide_false,br_false,if_false]
 by_cases h4:x.1=4∨x.1=5∨x.1=6∨x.1=7
 ·have e2:br (decide (x.1=4)) (some (Sum.inr (α:=Bool×Unit) (decide (x.1=4),()))) (br (decide (x.1=5)) (some (.inr (decide (x.1=5),()))) (br (decide (x.1=6)) (some (.inr (decide (x.1=6),()))) (some (.inr (decide (x.1=7),())))))=some (.inr (true,())):=by
   rcases h4 with h | h | h | h<;>simp [h,br]
  rw [e2]
  simp only [h4,if_true,cut_inr,br_true]
 ·have e2:br (decide (x.1=4)) (some (Sum.inr (α:=Bool×Unit) (decide (x.1=4),()))) (br (decide (x.1=5)) (some (.inr (decide (x.1=5),()))) (br (decide (x.1=6)) (some (.inr (decide (x.1=6),()))) (some (.inr (decide (x.1=7),())))))=some (.inr (false,())):=by
   simp only [not_or] at h4
   simp [h4,br]
  rw [e2]
  simp only [h4,if_false,cut_inr,br_false]
  by_cases h8:x.1=8
  ·simp only [h8,decide_true,br_true,if_true]
   cases decide (x.2.1=0)<;>rfl
  ·simp only [h8,decide_false,br_false,if_false]
   by_cases h9:x.1=9∨x.1=10
   ·have e3:br (decide (x.1=9)) (some (Sum.inr (α:=Bool×Unit) (decide (x.1=9),()))) (some (.inr (decide (x.1=10),())))=some (.inr (true,())):=by
     rcases h9 with h | h<;>simp [h,br]
    rw [e3]
    simp only [h9,if_true,cut_inr,br_true]
    cases reg x.2.1<;>rfl
   ·have e3:br (decide (x.1=9)) (some (Sum.inr (α:=Bool×Unit) (decide (x.1=9),()))) (some (.inr (decide (x.1=10),())))=some (.inr (false,())):=by
     simp only [not_or] at h9
     simp [h9,br]
    rw [e3]
    simp only [h9,if_false,cut_inr,br_false]
    by_cases h11:x.1=11
    ·simp only [h11,decide_true,br_true,if_true]
     cases decide (x.2.1=0)<;>cases decide (x.2.2.1=0)<;>rfl
    ·simp only [h11,decide_false,br_false,if_false]
theorem sIsProgram_spec {n:Nat} {p:Program} (hp:SmallP p) (hn:1048576<n):sIsProgram.f n p=some (okP p,()):=by
 have hc:=hp.code
 unfold sIsProgram.f okP
 simp only [sL1In_spec,Option.bind_some]
 by_cases h1:0≤p.1∧p.1≤3
 ·by_cases h2:0≤p.2.1∧p.2.1≤3
  ·by_cases h3:1≤p.2.2.length∧p.2.2.length≤24
   ·simp only [h1.1,h1.2,h2.1,h2.2,h3.1,h3.2,show (1:Int)≤(p.2.2.length:Int) by omega,show (p.2.2.length:Int)≤24 by omega,decide_true,Bool.and_self,Bool.not_true,br_false,Bool.true_and,cut_inr]
    refine all_loop p.2.2 (okI p.1 p.2.1 (p.2.2.length:Int)) (fun ih i hi=>?_) (fun ih=>?_) (by omega)
    ·have h4:(i:Int)<(p.2.2.length:Int):=by omega
     simp only [h4,decide_true,br_true,Int.toNat_natCast,getD_lt hi,sL2Operands_spec n p _ h1 h2,Option.bind_some]
     rw [chk_true (by simp),w64_succ (by omega),br_if]
     cases okI p.1 p.2.1 (p.2.2.length:Int) p.2.2[i]<;>rfl
    ·simp [br]
   ·have e1:(decide ((1:Int)≤(p.2.2.length:Int))&&decide ((p.2.2.length:Int)≤24))=false:=by
     rw [← Bool.not_eq_true]; simp only [Bool.and_eq_true,decide_eq_true_eq]; omega
    have e2:(decide (1≤p.2.2.length)&&decide (p.2.2.length≤24))=false:=by
     rw [← Bool.not_eq_true]; simp only [Bool.and_eq_true,decide_eq_true_eq]; omega
    simp [h1,h2,e1,e2,br,cut]
  ·have e2:(decide (0≤p.2.1)&&decide (p.2.1≤3))=false:=by
    rw [← Bool.not_eq_true]; simp only [Bool.and_eq_true,decide_eq_true_eq]; omega
   simp [h1,e2,br,cut]
 ·have e2:(decide (0≤p.1)&&decide (p.1≤3))=false:=by
   rw [← Bool.not_eq_true]; simp only [Bool.and_eq_true,decide_eq_true_eq]; omega
  simp [e2,br,cut]
theorem iIsProgram_spec {n:Nat} {p:Program} (hp:SmallP p) (hn:1048576<n):iIsProgram.f n p=some (okP p,()):=by
 have hc:=hp.code
 unfold iIsProgram.f okP
 by_cases h1:0≤p.1∧p.1≤3
 ·by_cases h2:0≤p.2.1∧p.2.1≤3
  ·by_cases h3:1≤p.2.2.length∧p.2.2.length≤24
   ·have a1:¬ (p.1<0):=by omega
    have a2:¬ (3<p.1):=by omega
    have a3:¬ (p.2.1<0):=by omega
    have a4:¬ (3<p.2.1):=by omega
    have a5:¬ ((p.2.2.length:Int)<1):=by omega
    have a6:¬ (24<(p.2.2.length:Int)):=by omega
    simp only [a1,a2,a3,a4,a5,a6,h1.1,h1.2,h2.1,h2.2,h3.1,h3.2,decide_true,decide_false,br_false,cut_inr,Bool.and_self,Bool.true_and]
    unfold containsFuncI.f indexFuncI.f
    obtain ⟨r,e1,e2⟩:=index_loop p.2.2 (fun x=>!(okI p.1 p.2.1 (p.2.2.length:Int) x)) (n:=n) (F:=fun ih7 x6=>br (decide (x6.1<(p.2.2.length:Int))) (chk (0≤x6.1∧x6.1<(p.2.2.length:Int)) (let v8:=(p.2.2.getD x6.1.toNat zInstr); (isProgramC.f n v8 p).bind fun r9=>br r9.1 (some (x6.1,())) (ih7 ((w64 (x6.1+1)),())))) (some ((-1),())))
     (fun ih i hi=>by
      have h4:(i:Int)<(p.2.2.length:Int):=by omega
      unfold isProgramC.f
      simp only [h4,decide_true,br_true,Int.toNat_natCast,getD_lt hi,isInstr_spec,Option.bind_some]
      rw [chk_true (by simp),w64_succ (by omega),br_if]) (fun ih=>by simp [br]) (by omega)
    rw [e1]
    simp only [Option.bind_some,e2]
    congr 2
    rw [List.any_eq_not_all_not]
    simp
   ·have e2:(decide (1≤p.2.2.length)&&decide (p.2.2.length≤24))=false:=by
     rw [← Bool.not_eq_true]; simp only [Bool.and_eq_true,decide_eq_true_eq]; omega
    have a1:¬ (p.1<0):=by omega
    have a2:¬ (3<p.1):=by omega
    have a3:¬ (p.2.1<0):=by omega
    have a4:¬ (3<p.2.1):=by omega
    by_cases a5:(p.2.2.length:Int)<1
    ·simp [a1,a2,a3,a4,a5,e2,br,cut]
    ·have a6:(24<(p.2.2.length:Int)):=by omega
     simp [a1,a2,a3,a4,a5,a6,e2,br,cut]
  ·have e2:(decide (0≤p.2.1)&&decide (p.2.1≤3))=false:=by
    rw [← Bool.not_eq_true]; simp only [Bool.and_eq_true,decide_eq_true_eq]; omega
   have a1:¬ (p.1<0):=by omega
   have a2:¬ (3<p.1):=by omega
   by_cases a3:p.2.1<0
   ·simp [a1,a2,a3,e2,br,cut]
   ·have a4:(3<p.2.1):=by omega
    simp [a1,a2,a3,a4,e2,br,cut]
 ·have e2:(decide (0≤p.1)&&decide (p.1≤3))=false:=by
   rw [← Bool.not_eq_true]; simp only [Bool.and_eq_true,decide_eq_true_eq]; omega
  by_cases a1:p.1<0
  ·simp [a1,e2,br,cut]
  ·have a2:(3<p.1):=by omega
   simp [a1,a2,e2,br,cut]
theorem sIsStream_spec {n:Nat} {s:List Int} (hs:s.length≤1048576) (hn:1048576<n):sIsStream.f n s=some (okS s,()):=by
 unfold sIsStream.f okS
 have:=chk_loop s.length (fun i=>tok (s.getD i 0)) (some (false,())) (some (decide ((s.length:Int)≤400),())) (n:=n) (F:=fun ih7 x6=>br (decide (x6.1<(s.length:Int))) (chk (0≤x6.1∧x6.1<(s.length:Int)) ((sL1Token.f n (s.getD x6.1.toNat 0)).bind fun r8=>br (!r8.1) (some (false,())) (ih7 ((w64 (x6.1+1)),())))) (some ((decide ((s.length:Int)≤400)),())))
  (fun ih i hi=>by
   have h4:(i:Int)<(s.length:Int):=by omega
   simp only [h4,decide_true,br_true,Int.toNat_natCast,sL1Token_spec,Option.bind_some]
   rw [chk_true (by simp),w64_succ (by omega),br_if]
   cases tok (s.getD i 0)<;>rfl)
  (fun ih=>by simp [br]) (by omega)
 by_cases h:∀ i,i<s.length→tok (s.getD i 0)=true
 ·rw [this.1 h]
  have:s.all tok=true:=by
   rw [List.all_eq_true]
   intro x hx
   obtain ⟨i,hi,rfl⟩:=List.mem_iff_getElem.1 hx
   have:=h i hi
   rwa [getD_lt hi] at this
  rw [this,Bool.and_true]
  congr 2
  by_cases h:s.length≤400
  ·rw [decide_eq_true h,decide_eq_true (by omega)]
  ·rw [decide_eq_false h,decide_eq_false (by omega)]
 ·rw [this.2 h]
  have:s.all tok=false:=by
   rw [← Bool.not_eq_true,List.all_eq_true]
   intro hh
   refine h (fun i hi=>?_)
   rw [getD_lt hi]
   exact hh _ (List.getElem_mem hi)
  rw [this,Bool.and_false]
theorem iIsStream_spec {n:Nat} {s:List Int} (hs:s.length≤1048576) (hn:1048576<n):iIsStream.f n s=some (okS s,()):=by
 unfold iIsStream.f okS containsFuncS.f indexFuncS.f
 by_cases h:s.length≤400
 ·simp only [h,show (s.length:Int)≤400 by omega,decide_true,br_true,Bool.true_and]
  obtain ⟨r,e1,e2⟩:=index_loop s (fun x=>!(tok x)) (n:=n) (F:=fun ih6 x5=>br (decide (x5.1<(s.length:Int))) (chk (0≤x5.1∧x5.1<(s.length:Int)) ((isStreamC.f n (s.getD x5.1.toNat 0)).bind fun r7=>br r7.1 (some (x5.1,())) (ih6 ((w64 (x5.1+1)),())))) (some ((-1),())))
   (fun ih i hi=>by
    have h4:(i:Int)<(s.length:Int):=by omega
    unfold isStreamC.f
    simp only [h4,decide_true,br_true,Int.toNat_natCast,getD_lt hi,isToken_spec,Option.bind_some]
    rw [chk_true (by simp),w64_succ (by omega),br_if]) (fun ih=>by simp [br]) (by omega)
  rw [e1]
  simp only [Option.bind_some,e2]
  congr 2
  rw [List.any_eq_not_all_not]
  simp
 ·have:¬ ((s.length:Int)≤400):=by omega
  simp [h,this,br]
end Go.AmT
