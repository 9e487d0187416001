/- Functions that the law FnDesk reaches, each as a plain Lean function, and that each does what that says. No condition. -/
import Derived.Test.YtfoamipegmbcgaaGreatDoorAmE
import Derived.Test.YtfoamipegmbcgaaGreatDoorProg
namespace Go.AmT
open Go Go.Am Go.Proofs
set_option linter.unusedVariables false
set_option maxRecDepth 100000
abbrev I:Ty:=.int .i64
abbrev U8:Ty:=.int .u8
abbrev IS:Ty:=.sl I
abbrev tInstr:Ty:=(.pair I (.pair I (.pair I I)))
abbrev tLink:Ty:=(.pair I (.pair I (.pair I (.pair I IS))))
abbrev tProgram:Ty:=(.pair I (.pair I (.sl tInstr)))
abbrev tNetwork:Ty:=(.pair (.sl tProgram) (.sl tLink))
abbrev Instr:Type:=Int×(Int×(Int×Int))
def zInstr:Instr:=(0,(0,(0,0)))
abbrev Program:Type:=Int×(Int×List Instr)
def zProgram:Program:=(0,(0,[]))
abbrev Link:Type:=Int×(Int×(Int×(Int×List Int)))
def zLink:Link:=(0,(0,(0,(0,[]))))
abbrev Network:Type:=List Program×List Link
def tys:List (Nat×TInfo):=[(3,⟨false,1,8,[.int .i64 0],.int .i64,0,some I,[],false⟩),
 (23,⟨false,1,24,[.nil],.slice,68,some (.sl tProgram),[],false⟩),
 (24,⟨false,1,24,[.nil],.slice,71,some (.sl tLink),[],false⟩),
 (26,⟨true,2,48,[.nil,.nil],.struct,0,some tNetwork,[(0,23),(1,24)],false⟩),
 (32,⟨false,1,24,[.nil],.slice,3,some IS,[],false⟩),
 (66,⟨false,1,24,[.nil],.slice,122,some (.sl tInstr),[],false⟩),
 (68,⟨true,3,40,[.int .i64 0,.int .i64 0,.nil],.struct,0,some tProgram,[(0,3),(1,3),(2,66)],false⟩),
 (71,⟨true,5,56,[.int .i64 0,.int .i64 0,.int .i64 0,.int .i64 0,.nil],.struct,0,some tLink,[(0,3),(1,3),(2,3),(3,3),(4,32)],false⟩),
 (122,⟨true,4,32,[.int .i64 0,.int .i64 0,.int .i64 0,.int .i64 0],.struct,0,some tInstr,[(0,3),(1,3),(2,3),(3,3)],true⟩)]
theorem tys_ok:(tys.all fun p=>tokB Tryz.prog p.1 p.2)=true:=by kernel_rfl
theorem mixed:Tryz.prog.follows .mixedOrders=true:=by kernel_rfl
theorem sndF {c:Cfg} {n:Nat} {f:FuncId} {fn:Func} {an:Ann} {m:Mng} (A:CallsL Tryz.prog c.calls) (B:LCallsL Tryz.prog c.lcalls) (hc:TysOK Tryz.prog c) (hf:Tryz.prog.funcs[f]? = some fn) (hm:∀ x,m.m x=runF c n fn an m.ps m.rs x) (hp:c.frz.all (fun x=>Nat.blt x 3000000)=true:=by rfl) (h0:mapT c=none:=by rfl):Sound Tryz.prog f m:=runF_sound (regOK mixed (opOK (.of A (ptsAll_none hp)) (.of B)) hc h0) hc hf hm
theorem sndL {c:Cfg} {n:Nat} {f:FuncId} {fn:Func} {an:Ann} {M:LMng} (A:CallsL Tryz.prog c.calls) (B:LCallsL Tryz.prog c.lcalls) (hc:TysOK Tryz.prog c) (hf:Tryz.prog.funcs[f]? = some fn) (hm:∀ x,M.m x=LMng.run c n fn an M.la M.lb x) (hp:c.frz.all (fun x=>Nat.blt x 3000000)=true:=by rfl) (h0:mapT c=none:=by rfl):LSound Tryz.prog f M:=runL_sound (regOK mixed (opOK (.of A (ptsAll_none hp)) (.of B)) hc h0) hc hf hm
def sL1In.las:List (Nat×LA):=[]
noncomputable def sL1In.f (n:Nat) (a0:Int) (a1:Int) (a2:Int):Option (Bool×Unit):=br (decide (a1≤a0)) (some ((decide (a0≤a2)),())) (some (false,()))
noncomputable def sL1In.mng (n:Nat):Mng:=⟨[.val I,.val I,.val I],[.val .bool],fun x=>sL1In.f n x.1 x.2.1 x.2.2.1⟩
noncomputable def sL1In.cfg (n:Nat):Cfg:=⟨tys,[],[],[]⟩
theorem sL1In.gof:GoF Tryz.prog 133:=⟨_,Tryz.func133,by kernel_rfl,by kernel_rfl⟩
theorem sL1In.sound (n:Nat):Sound Tryz.prog 133 (sL1In.mng n):=sndF (c:=sL1In.cfg n) (n:=n) (an:=annOf Tryz.f133 sL1In.las) trivial trivial (tysOK tys_ok) Tryz.func133 (fun x=>by kernel_rfl)
def sL1Token.las:List (Nat×LA):=[]
noncomputable def sL1Token.f (n:Nat) (a0:Int):Option (Bool×Unit):=(sL1In.f n a0 (-999999) 999999).bind fun r1=>some (r1.1,())
noncomputable def sL1Token.mng (n:Nat):Mng:=⟨[.val I],[.val .bool],fun x=>sL1Token.f n x.1⟩
noncomputable def sL1Token.cfg (n:Nat):Cfg:=⟨tys,[(133,sL1In.mng n)],[],[]⟩
theorem sL1Token.gof:GoF Tryz.prog 135:=⟨_,Tryz.func135,by kernel_rfl,by kernel_rfl⟩
theorem sL1Token.sound (n:Nat):Sound Tryz.prog 135 (sL1Token.mng n):=sndF (c:=sL1Token.cfg n) (n:=n) (an:=annOf Tryz.f135 sL1Token.las) ⟨⟨sL1In.sound n,sL1In.gof⟩,trivial⟩ trivial (tysOK tys_ok) Tryz.func135 (fun x=>by kernel_rfl)
def sL2Operands.las:List (Nat×LA):=[(1,⟨[(5,.bool)],[],[2,3],[]⟩),(2,⟨[(6,.bool)],[],[2,3,5],[]⟩),(15,⟨[(84,.bool)],[],[3,5,6,32],[]⟩),(27,⟨[(98,.bool)],[],[3,6,32],[]⟩)]
noncomputable def sL2Operands.f (n:Nat) (a0:Program) (a1:Instr):Option (Bool×Unit):=cut (α:=(Bool×Unit)) ((sL1In.f n a1.2.1 0 3).bind fun r5=>br r5.1 ((sL1In.f n a1.2.2.1 0 3).bind fun r6=>br r6.1 ((sL1In.f n a1.2.2.2 0 3).bind fun r7=>some (.inr (r7.1,()))) (some (.inr (false,())))) (some (.inr (false,())))) fun y4=>cut (α:=(Bool×Unit)) ((sL1In.f n a1.2.2.1 0 (a0.2.2.length:Int)).bind fun r10=>br r10.1 (some (.inr ((decide (a1.2.2.2=0)),()))) (some (.inr (false,())))) fun y9=>br (decide (a1.1=1)) ((sL1In.f n a1.2.1 0 3).bind fun r11=>br r11.1 ((sL1In.f n a1.2.2.1 0 (w64 (a0.1-1))).bind fun r12=>br r12.1 (some ((decide (a1.2.2.2=0)),())) (some (false,()))) (some (false,()))) (br (decide (a1.1=2)) ((sL1In.f n a1.2.1 0 3).bind fun r13=>br r13.1 ((sL1In.f n a1.2.2.1 0 (w64 (a0.2.1-1))).bind fun r14=>br r14.1 (some ((decide (a1.2.2.2=0)),())) (some (false,()))) (some (false,()))) (br (decide (a1.1=3)) ((sL1In.f n a1.2.1 0 3).bind fun r15=>br r15.1 ((sL1Token.f n a1.2.2.1).bind fun r16=>br r16.1 (some ((decide (a1.2.2.2=0)),())) (some (false,()))) (some (false,()))) (cut (α:=(Bool×Unit)) (br (decide (a1.1=4)) (some (.inr ((decide (a1.1=4)),()))) (br (decide (a1.1=5)) (some (.inr ((decide (a1.1=5)),()))) (br (decide (a1.1=6)) (some (.inr ((decide (a1.1=6)),()))) (some (.inr ((decide (a1.1=7)),())))))) fun y17=>br y17.1 (some (y4.1,())) (br (decide (a1.1=8)) (br (decide (a1.2.1=0)) (some (y9.1,())) (some (false,()))) (cut (α:=(Bool×Unit)) (br (decide (a1.1=9)) (some (.inr ((decide (a1.1=9)),()))) (some (.inr ((decide (a1.1=10)),())))) fun y18=>br y18.1 ((sL1In.f n a1.2.1 0 3).bind fun r19=>br r19.1 (some (y9.1,())) (some (false,()))) (br (decide (a1.1=11)) (br (decide (a1.2.1=0)) (br (decide (a1.2.2.1=0)) (some ((decide (a1.2.2.2=0)),())) (some (false,()))) (some (false,()))) (some (false,()))))))))
noncomputable def sL2Operands.mng (n:Nat):Mng:=⟨[.val tProgram,.val tInstr],[.val .bool],fun x=>sL2Operands.f n x.1 x.2.1⟩
noncomputable def sL2Operands.cfg (n:Nat):Cfg:=⟨tys,[(133,sL1In.mng n),(135,sL1Token.mng n)],[],[]⟩
theorem sL2Operands.gof:GoF Tryz.prog 134:=⟨_,Tryz.func134,by kernel_rfl,by kernel_rfl⟩
theorem sL2Operands.sound (n:Nat):Sound Tryz.prog 134 (sL2Operands.mng n):=sndF (c:=sL2Operands.cfg n) (n:=n) (an:=annOf Tryz.f134 sL2Operands.las) ⟨⟨sL1In.sound n,sL1In.gof⟩,⟨⟨sL1Token.sound n,sL1Token.gof⟩,trivial⟩⟩ trivial (tysOK tys_ok) Tryz.func134 (fun x=>by kernel_rfl)
def sIsProgram.las:List (Nat×LA):=[(1,⟨[(21,.bool)],[],[1],[]⟩),(6,⟨[(25,.int .i64)],[],[1,23,24],[]⟩)]
noncomputable def sIsProgram.f (n:Nat) (a0:Program):Option (Bool×Unit):=cut (α:=(Bool×Unit)) ((sL1In.f n a0.1 0 3).bind fun r5=>br (!r5.1) (some (.inr (true,()))) ((sL1In.f n a0.2.1 0 3).bind fun r6=>br (!r6.1) (some (.inr (true,()))) ((sL1In.f n (a0.2.2.length:Int) 1 24).bind fun r7=>some (.inr ((!r7.1),()))))) fun y4=>br y4.1 (some (false,())) (iter (α:=(Int×Unit)) n (fun ih17 x16=>br (decide (x16.1<(a0.2.2.length:Int))) (chk (0≤x16.1∧x16.1<(a0.2.2.length:Int)) (let v18:=(a0.2.2.getD x16.1.toNat zInstr); (sL2Operands.f n a0 v18).bind fun r19=>br (!r19.1) (some (false,())) (ih17 ((w64 (x16.1+1)),())))) (some (true,()))) (0,()))
noncomputable def sIsProgram.mng (n:Nat):Mng:=⟨[.val tProgram],[.val .bool],fun x=>sIsProgram.f n x.1⟩
noncomputable def sIsProgram.cfg (n:Nat):Cfg:=⟨tys,[(133,sL1In.mng n),(134,sL2Operands.mng n)],[],[]⟩
theorem sIsProgram.gof:GoF Tryz.prog 76:=⟨_,Tryz.func76,by kernel_rfl,by kernel_rfl⟩
theorem sIsProgram.sound (n:Nat):Sound Tryz.prog 76 (sIsProgram.mng n):=sndF (c:=sIsProgram.cfg n) (n:=n) (an:=annOf Tryz.f76 sIsProgram.las) ⟨⟨sL1In.sound n,sL1In.gof⟩,⟨⟨sL2Operands.sound n,sL2Operands.gof⟩,trivial⟩⟩ trivial (tysOK tys_ok) Tryz.func76 (fun x=>by kernel_rfl)
def sL3Ends.las:List (Nat×LA):=[(1,⟨[(34,.bool)],[],[2,3],[]⟩),(6,⟨[(5,.int .i64)],[],[2,3],[]⟩),(10,⟨[(6,.int .i64)],[],[3,5],[]⟩)]
noncomputable def sL3Ends.f (n:Nat) (a0:Network) (a1:Link):Option (Bool×Unit):=cut (α:=(Bool×Unit)) (br (decide (a1.1=(-1))) (br (decide (a1.2.2.1=(-1))) (some (.inr (true,()))) ((sL1In.f n a1.1 (-1) (w64 ((a0.1.length:Int)-1))).bind fun r6=>br (!r6.1) (some (.inr (true,()))) ((sL1In.f n a1.2.2.1 (-1) (w64 ((a0.1.length:Int)-1))).bind fun r7=>some (.inr ((!r7.1),()))))) ((sL1In.f n a1.1 (-1) (w64 ((a0.1.length:Int)-1))).bind fun r8=>br (!r8.1) (some (.inr (true,()))) ((sL1In.f n a1.2.2.1 (-1) (w64 ((a0.1.length:Int)-1))).bind fun r9=>some (.inr ((!r9.1),()))))) fun y5=>br y5.1 (some (false,())) (cut (α:=(Int×Unit)) (br (decide (0≤a1.1)) (chk (0≤a1.1∧a1.1<(a0.1.length:Int)) (let v12:=(a0.1.getD a1.1.toNat zProgram); some (.inr (v12.2.1,())))) (some (.inr (1,())))) fun y11=>cut (α:=(Int×Unit)) (br (decide (0≤a1.2.2.1)) (chk (0≤a1.2.2.1∧a1.2.2.1<(a0.1.length:Int)) (let v15:=(a0.1.getD a1.2.2.1.toNat zProgram); some (.inr (v15.1,())))) (some (.inr (1,())))) fun y14=>(sL1In.f n a1.2.1 0 (w64 (y11.1-1))).bind fun r16=>br r16.1 ((sL1In.f n a1.2.2.2.1 0 (w64 (y14.1-1))).bind fun r17=>some (r17.1,())) (some (false,())))
noncomputable def sL3Ends.mng (n:Nat):Mng:=⟨[.val tNetwork,.val tLink],[.val .bool],fun x=>sL3Ends.f n x.1 x.2.1⟩
noncomputable def sL3Ends.cfg (n:Nat):Cfg:=⟨tys,[(133,sL1In.mng n)],[],[]⟩
theorem sL3Ends.gof:GoF Tryz.prog 77:=⟨_,Tryz.func77,by kernel_rfl,by kernel_rfl⟩
theorem sL3Ends.sound (n:Nat):Sound Tryz.prog 77 (sL3Ends.mng n):=sndF (c:=sL3Ends.cfg n) (n:=n) (an:=annOf Tryz.f77 sL3Ends.las) ⟨⟨sL1In.sound n,sL1In.gof⟩,trivial⟩ trivial (tysOK tys_ok) Tryz.func77 (fun x=>by kernel_rfl)
def sIsStream.las:List (Nat×LA):=[(3,⟨[(7,.int .i64)],[],[0,5,6],[]⟩)]
noncomputable def sIsStream.f (n:Nat) (a0:List Int):Option (Bool×Unit):=iter (α:=(Int×Unit)) n (fun ih7 x6=>br (decide (x6.1<(a0.length:Int))) (chk (0≤x6.1∧x6.1<(a0.length:Int)) ((sL1Token.f n (a0.getD x6.1.toNat 0)).bind fun r8=>br (!r8.1) (some (false,())) (ih7 ((w64 (x6.1+1)),())))) (some ((decide ((a0.length:Int)≤400)),()))) (0,())
noncomputable def sIsStream.mng (n:Nat):Mng:=⟨[.val IS],[.val .bool],fun x=>sIsStream.f n x.1⟩
noncomputable def sIsStream.cfg (n:Nat):Cfg:=⟨tys,[(135,sL1Token.mng n)],[],[]⟩
theorem sIsStream.gof:GoF Tryz.prog 78:=⟨_,Tryz.func78,by kernel_rfl,by kernel_rfl⟩
theorem sIsStream.sound (n:Nat):Sound Tryz.prog 78 (sIsStream.mng n):=sndF (c:=sIsStream.cfg n) (n:=n) (an:=annOf Tryz.f78 sIsStream.las) ⟨⟨sL1Token.sound n,sL1Token.gof⟩,trivial⟩ trivial (tysOK tys_ok) Tryz.func78 (fun x=>by kernel_rfl)
def sL3To.las:List (Nat×LA):=[(4,⟨[(7,.int .i64),(13,.int .i64)],[],[1,2,11,12],[]⟩),(9,⟨[(27,.bool)],[],[1,2,7,8,11,12,13],[]⟩)]
noncomputable def sL3To.f (n:Nat) (a0:Network) (a1:Int) (a2:Int):Option (Int×Unit):=iter (α:=(Int×(Int×Unit))) n (fun ih9 x8=>br (decide (x8.2.1<(a0.2.length:Int))) (chk (0≤x8.2.1∧x8.2.1<(a0.2.length:Int)) (let v10:=(a0.2.getD x8.2.1.toNat zLink); cut (α:=(Bool×Unit)) (br (decide (v10.2.2.1=a1)) (some (.inr ((decide (v10.2.2.2.1=a2)),()))) (some (.inr (false,())))) fun y11=>br y11.1 (br (decide (0≤x8.1)) (some ((-2),())) (ih9 (x8.2.1,((w64 (x8.2.1+1)),())))) (ih9 (x8.1,((w64 (x8.2.1+1)),()))))) (some (x8.1,()))) ((-1),(0,()))
noncomputable def sL3To.mng (n:Nat):Mng:=⟨[.val tNetwork,.val I,.val I],[.val I],fun x=>sL3To.f n x.1 x.2.1 x.2.2.1⟩
noncomputable def sL3To.cfg (n:Nat):Cfg:=⟨tys,[],[],[]⟩
theorem sL3To.gof:GoF Tryz.prog 79:=⟨_,Tryz.func79,by kernel_rfl,by kernel_rfl⟩
theorem sL3To.sound (n:Nat):Sound Tryz.prog 79 (sL3To.mng n):=sndF (c:=sL3To.cfg n) (n:=n) (an:=annOf Tryz.f79 sL3To.las) trivial trivial (tysOK tys_ok) Tryz.func79 (fun x=>by kernel_rfl)
def sL3From.las:List (Nat×LA):=[(4,⟨[(7,.int .i64),(13,.int .i64)],[],[1,2,11,12],[]⟩),(9,⟨[(27,.bool)],[],[1,2,7,8,11,12,13],[]⟩)]
noncomputable def sL3From.f (n:Nat) (a0:Network) (a1:Int) (a2:Int):Option (Int×Unit):=iter (α:=(Int×(Int×Unit))) n (fun ih9 x8=>br (decide (x8.2.1<(a0.2.length:Int))) (chk (0≤x8.2.1∧x8.2.1<(a0.2.length:Int)) (let v10:=(a0.2.getD x8.2.1.toNat zLink); cut (α:=(Bool×Unit)) (br (decide (v10.1=a1)) (some (.inr ((decide (v10.2.1=a2)),()))) (some (.inr (false,())))) fun y11=>br y11.1 (br (decide (0≤x8.1)) (some ((-2),())) (ih9 (x8.2.1,((w64 (x8.2.1+1)),())))) (ih9 (x8.1,((w64 (x8.2.1+1)),()))))) (some (x8.1,()))) ((-1),(0,()))
noncomputable def sL3From.mng (n:Nat):Mng:=⟨[.val tNetwork,.val I,.val I],[.val I],fun x=>sL3From.f n x.1 x.2.1 x.2.2.1⟩
noncomputable def sL3From.cfg (n:Nat):Cfg:=⟨tys,[],[],[]⟩
theorem sL3From.gof:GoF Tryz.prog 80:=⟨_,Tryz.func80,by kernel_rfl,by kernel_rfl⟩
theorem sL3From.sound (n:Nat):Sound Tryz.prog 80 (sL3From.mng n):=sndF (c:=sL3From.cfg n) (n:=n) (an:=annOf Tryz.f80 sL3From.las) trivial trivial (tysOK tys_ok) Tryz.func80 (fun x=>by kernel_rfl)
def sIsNetwork.las:List (Nat×LA):=[(1,⟨[(20,.bool)],[],[1],[]⟩),(6,⟨[(24,.int .i64)],[],[1,22,23],[]⟩),(17,⟨[(35,.int .i64)],[],[1,33,34],[]⟩),(28,⟨[(53,.int .i64)],[],[1,51,52],[]⟩),(35,⟨[(9,.int .i64)],[],[1,7,8,51,52,53],[]⟩),(45,⟨[(10,.int .i64)],[],[1,7,8,51,52,53],[]⟩)]
noncomputable def sIsNetwork.f (n:Nat) (a0:Network):Option (Bool×Unit):=cut (α:=(Bool×Unit)) (br (decide (12<(a0.1.length:Int))) (some (.inr (true,()))) (some (.inr ((decide (30<(a0.2.length:Int))),())))) fun y1=>br y1.1 (some (false,())) (iter (α:=(Int×Unit)) n (fun ih14 x13=>br (decide (x13.1<(a0.1.length:Int))) (chk (0≤x13.1∧x13.1<(a0.1.length:Int)) (let v15:=(a0.1.getD x13.1.toNat zProgram); (sIsProgram.f n v15).bind fun r16=>br (!r16.1) (some (false,())) (ih14 ((w64 (x13.1+1)),())))) (iter (α:=(Int×Unit)) n (fun ih31 x30=>br (decide (x30.1<(a0.2.length:Int))) (chk (0≤x30.1∧x30.1<(a0.2.length:Int)) (let v32:=(a0.2.getD x30.1.toNat zLink); (sL3Ends.f n a0 v32).bind fun r33=>br (!r33.1) (some (false,())) ((sIsStream.f n v32.2.2.2.2).bind fun r34=>br (!r34.1) (some (false,())) (ih31 ((w64 (x30.1+1)),()))))) (iter (α:=(Int×Unit)) n (fun ih73 x72=>br (decide (x72.1<(a0.1.length:Int))) (chk (0≤x72.1∧x72.1<(a0.1.length:Int)) (let v74:=(a0.1.getD x72.1.toNat zProgram); iter (α:=(Int×Unit)) n (fun ih90 x89=>br (decide (x89.1<v74.1)) ((sL3To.f n a0 x72.1 x89.1).bind fun r91=>br (decide (r91.1<0)) (some (false,())) (ih90 ((w64 (x89.1+1)),()))) (iter (α:=(Int×Unit)) n (fun ih104 x103=>br (decide (x103.1<v74.2.1)) ((sL3From.f n a0 x72.1 x103.1).bind fun r105=>br (decide (r105.1<0)) (some (false,())) (ih104 ((w64 (x103.1+1)),()))) (ih73 ((w64 (x72.1+1)),()))) (0,()))) (0,()))) (some (true,()))) (0,()))) (0,()))) (0,()))
noncomputable def sIsNetwork.mng (n:Nat):Mng:=⟨[.val tNetwork],[.val .bool],fun x=>sIsNetwork.f n x.1⟩
noncomputable def sIsNetwork.cfg (n:Nat):Cfg:=⟨tys,[(76,sIsProgram.mng n),(77,sL3Ends.mng n),(78,sIsStream.mng n),(79,sL3To.mng n),(80,sL3From.mng n)],[],[]⟩
theorem sIsNetwork.gof:GoF Tryz.prog 31:=⟨_,Tryz.func31,by kernel_rfl,by kernel_rfl⟩
theorem sIsNetwork.sound (n:Nat):Sound Tryz.prog 31 (sIsNetwork.mng n):=sndF (c:=sIsNetwork.cfg n) (n:=n) (an:=annOf Tryz.f31 sIsNetwork.las) ⟨⟨sIsProgram.sound n,sIsProgram.gof⟩,⟨⟨sL3Ends.sound n,sL3Ends.gof⟩,⟨⟨sIsStream.sound n,sIsStream.gof⟩,⟨⟨sL3To.sound n,sL3To.gof⟩,⟨⟨sL3From.sound n,sL3From.gof⟩,trivial⟩⟩⟩⟩⟩ trivial (tysOK tys_ok) Tryz.func31 (fun x=>by kernel_rfl)
def isReg.las:List (Nat×LA):=[]
noncomputable def isReg.f (n:Nat) (a0:Int):Option (Bool×Unit):=br (decide (0≤a0)) (some ((decide (a0≤3)),())) (some (false,()))
noncomputable def isReg.mng (n:Nat):Mng:=⟨[.val I],[.val .bool],fun x=>isReg.f n x.1⟩
noncomputable def isReg.cfg (n:Nat):Cfg:=⟨tys,[],[],[]⟩
theorem isReg.gof:GoF Tryz.prog 183:=⟨_,Tryz.func183,by kernel_rfl,by kernel_rfl⟩
theorem isReg.sound (n:Nat):Sound Tryz.prog 183 (isReg.mng n):=sndF (c:=isReg.cfg n) (n:=n) (an:=annOf Tryz.f183 isReg.las) trivial trivial (tysOK tys_ok) Tryz.func183 (fun x=>by kernel_rfl)
def isToken.las:List (Nat×LA):=[]
noncomputable def isToken.f (n:Nat) (a0:Int):Option (Bool×Unit):=br (decide ((-999999)≤a0)) (some ((decide (a0≤999999)),())) (some (false,()))
noncomputable def isToken.mng (n:Nat):Mng:=⟨[.val I],[.val .bool],fun x=>isToken.f n x.1⟩
noncomputable def isToken.cfg (n:Nat):Cfg:=⟨tys,[],[],[]⟩
theorem isToken.gof:GoF Tryz.prog 97:=⟨_,Tryz.func97,by kernel_rfl,by kernel_rfl⟩
theorem isToken.sound (n:Nat):Sound Tryz.prog 97 (isToken.mng n):=sndF (c:=isToken.cfg n) (n:=n) (an:=annOf Tryz.f97 isToken.las) trivial trivial (tysOK tys_ok) Tryz.func97 (fun x=>by kernel_rfl)
def isInstr.las:List (Nat×LA):=[(1,⟨[(9,.bool)],[],[1,2,4],[]⟩),(14,⟨[(83,.bool)],[],[4,9,25],[]⟩),(26,⟨[(109,.bool)],[],[4,9,25],[]⟩)]
noncomputable def isInstr.f (n:Nat) (a0:Instr) (a1:Int) (a2:Int) (a3:Int):Option (Bool×Unit):=cut (α:=(Bool×Unit)) (br (decide (0≤a0.2.2.1)) (br (decide (a0.2.2.1≤a3)) (some (.inr ((decide (a0.2.2.2=0)),()))) (some (.inr (false,())))) (some (.inr (false,())))) fun y1=>br (decide (a0.1=1)) ((isReg.f n a0.2.1).bind fun r2=>br r2.1 (br (decide (0≤a0.2.2.1)) (br (decide (a0.2.2.1<a1)) (some ((decide (a0.2.2.2=0)),())) (some (false,()))) (some (false,()))) (some (false,()))) (br (decide (a0.1=2)) ((isReg.f n a0.2.1).bind fun r3=>br r3.1 (br (decide (0≤a0.2.2.1)) (br (decide (a0.2.2.1<a2)) (some ((decide (a0.2.2.2=0)),())) (some (false,()))) (some (false,()))) (some (false,()))) (br (decide (a0.1=3)) ((isReg.f n a0.2.1).bind fun r4=>br r4.1 ((isToken.f n a0.2.2.1).bind fun r5=>br r5.1 (some ((decide (a0.2.2.2=0)),())) (some (false,()))) (some (false,()))) (cut (α:=(Bool×Unit)) (br (decide (a0.1=4)) (some (.inr ((decide (a0.1=4)),()))) (br (decide (a0.1=5)) (some (.inr ((decide (a0.1=5)),()))) (br (decide (a0.1=6)) (some (.inr ((decide (a0.1=6)),()))) (some (.inr ((decide (a0.1=7)),())))))) fun y6=>br y6.1 ((isReg.f n a0.2.1).bind fun r7=>br r7.1 ((isReg.f n a0.2.2.1).bind fun r8=>br r8.1 ((isReg.f n a0.2.2.2).bind fun r9=>some (r9.1,())) (some (false,()))) (some (false,()))) (br (decide (a0.1=8)) (br (decide (a0.2.1=0)) (some (y1.1,())) (some (false,()))) (cut (α:=(Bool×Unit)) (br (decide (a0.1=9)) (some (.inr ((decide (a0.1=9)),()))) (some (.inr ((decide (a0.1=10)),())))) fun y10=>br y10.1 ((isReg.f n a0.2.1).bind fun r11=>br r11.1 (some (y1.1,())) (some (false,()))) (br (decide (a0.1=11)) (some ((decide (a0.1=11)&&(decide (a0.2.1=0)&&(decide (a0.2.2.1=0)&&(decide (a0.2.2.2=0)&&true)))),())) (some (false,()))))))))
noncomputable def isInstr.mng (n:Nat):Mng:=⟨[.val tInstr,.val I,.val I,.val I],[.val .bool],fun x=>isInstr.f n x.1 x.2.1 x.2.2.1 x.2.2.2.1⟩
noncomputable def isInstr.cfg (n:Nat):Cfg:=⟨tys,[(183,isReg.mng n),(97,isToken.mng n)],[],[]⟩
theorem isInstr.gof:GoF Tryz.prog 145:=⟨_,Tryz.func145,by kernel_rfl,by kernel_rfl⟩
theorem isInstr.sound (n:Nat):Sound Tryz.prog 145 (isInstr.mng n):=sndF (c:=isInstr.cfg n) (n:=n) (an:=annOf Tryz.f145 isInstr.las) ⟨⟨isReg.sound n,isReg.gof⟩,⟨⟨isToken.sound n,isToken.gof⟩,trivial⟩⟩ trivial (tysOK tys_ok) Tryz.func145 (fun x=>by kernel_rfl)
def isProgramC.las:List (Nat×LA):=[]
noncomputable def isProgramC.f (n:Nat) (a0:Instr) (a1:Program):Option (Bool×Unit):=(isInstr.f n a0 a1.1 a1.2.1 (a1.2.2.length:Int)).bind fun r1=>some ((!r1.1),())
noncomputable def isProgramC.mng (n:Nat):Mng:=⟨[.val tInstr,.psh tProgram],[.val .bool],fun x=>isProgramC.f n x.1 x.2.1⟩
noncomputable def isProgramC.cfg (n:Nat):Cfg:=⟨tys,[(145,isInstr.mng n)],[],[]⟩
theorem isProgramC.gof:GoF Tryz.prog 144:=⟨_,Tryz.func144,by kernel_rfl,by kernel_rfl⟩
theorem isProgramC.sound (n:Nat):Sound Tryz.prog 144 (isProgramC.mng n):=sndF (c:=isProgramC.cfg n) (n:=n) (an:=annOf Tryz.f144 isProgramC.las) ⟨⟨isInstr.sound n,isInstr.gof⟩,trivial⟩ trivial (tysOK tys_ok) Tryz.func144 (fun x=>by kernel_rfl)
def indexFuncI.las:List (Nat×LA):=[(3,⟨[(8,.int .i64)],[],[0,1,7],[]⟩)]
noncomputable def indexFuncI.f (n:Nat) (a0:List Instr) (a1:(Program×Unit)):Option (Int×Unit):=iter (α:=(Int×Unit)) n (fun ih8 x7=>br (decide (x7.1<(a0.length:Int))) (chk (0≤x7.1∧x7.1<(a0.length:Int)) (let v9:=(a0.getD x7.1.toNat zInstr); (isProgramC.f n v9 a1.1).bind fun r10=>br r10.1 (some (x7.1,())) (ih8 ((w64 (x7.1+1)),())))) (some ((-1),()))) (0,())
noncomputable def indexFuncI.mng (n:Nat):Mng:=⟨[.val (.sl tInstr),.fnc 144 [.psh tProgram]],[.val I],fun x=>indexFuncI.f n x.1 x.2.1⟩
noncomputable def indexFuncI.cfg (n:Nat):Cfg:=⟨tys,[(144,isProgramC.mng n)],[],[]⟩
theorem indexFuncI.gof:GoF Tryz.prog 182:=⟨_,Tryz.func182,by kernel_rfl,by kernel_rfl⟩
theorem indexFuncI.sound (n:Nat):Sound Tryz.prog 182 (indexFuncI.mng n):=sndF (c:=indexFuncI.cfg n) (n:=n) (an:=annOf Tryz.f182 indexFuncI.las) ⟨⟨isProgramC.sound n,isProgramC.gof⟩,trivial⟩ trivial (tysOK tys_ok) Tryz.func182 (fun x=>by kernel_rfl)
def containsFuncI.las:List (Nat×LA):=[]
noncomputable def containsFuncI.f (n:Nat) (a0:List Instr) (a1:(Program×Unit)):Option (Bool×Unit):=(indexFuncI.f n a0 (a1.1,())).bind fun r1=>some ((decide (0≤r1.1)),())
noncomputable def containsFuncI.mng (n:Nat):Mng:=⟨[.val (.sl tInstr),.fnc 144 [.psh tProgram]],[.val .bool],fun x=>containsFuncI.f n x.1 x.2.1⟩
noncomputable def containsFuncI.cfg (n:Nat):Cfg:=⟨tys,[(182,indexFuncI.mng n)],[],[]⟩
theorem containsFuncI.gof:GoF Tryz.prog 143:=⟨_,Tryz.func143,by kernel_rfl,by kernel_rfl⟩
theorem containsFuncI.sound (n:Nat):Sound Tryz.prog 143 (containsFuncI.mng n):=sndF (c:=containsFuncI.cfg n) (n:=n) (an:=annOf Tryz.f143 containsFuncI.las) ⟨⟨indexFuncI.sound n,indexFuncI.gof⟩,trivial⟩ trivial (tysOK tys_ok) Tryz.func143 (fun x=>by kernel_rfl)
def iIsProgram.las:List (Nat×LA):=[(1,⟨[(32,.bool)],[],[1],[]⟩)]
noncomputable def iIsProgram.f (n:Nat) (a0:Program):Option (Bool×Unit):=cut (α:=(Bool×Unit)) (br (decide (a0.1<0)) (some (.inr (true,()))) (br (decide (3<a0.1)) (some (.inr (true,()))) (br (decide (a0.2.1<0)) (some (.inr (true,()))) (br (decide (3<a0.2.1)) (some (.inr (true,()))) (br (decide ((a0.2.2.length:Int)<1)) (some (.inr (true,()))) (some (.inr ((decide (24<(a0.2.2.length:Int))),())))))))) fun y1=>br y1.1 (some (false,())) ((containsFuncI.f n a0.2.2 (a0,())).bind fun r2=>some ((!r2.1),()))
noncomputable def iIsProgram.mng (n:Nat):Mng:=⟨[.val tProgram],[.val .bool],fun x=>iIsProgram.f n x.1⟩
noncomputable def iIsProgram.cfg (n:Nat):Cfg:=⟨tys,[(143,containsFuncI.mng n)],[],[]⟩
theorem iIsProgram.gof:GoF Tryz.prog 91:=⟨_,Tryz.func91,by kernel_rfl,by kernel_rfl⟩
theorem iIsProgram.sound (n:Nat):Sound Tryz.prog 91 (iIsProgram.mng n):=sndF (c:=iIsProgram.cfg n) (n:=n) (an:=annOf Tryz.f91 iIsProgram.las) ⟨⟨containsFuncI.sound n,containsFuncI.gof⟩,trivial⟩ trivial (tysOK tys_ok) Tryz.func91 (fun x=>by kernel_rfl)
def isStreamC.las:List (Nat×LA):=[]
noncomputable def isStreamC.f (n:Nat) (a0:Int):Option (Bool×Unit):=(isToken.f n a0).bind fun r1=>some ((!r1.1),())
noncomputable def isStreamC.mng (n:Nat):Mng:=⟨[.val I],[.val .bool],fun x=>isStreamC.f n x.1⟩
noncomputable def isStreamC.cfg (n:Nat):Cfg:=⟨tys,[(97,isToken.mng n)],[],[]⟩
theorem isStreamC.gof:GoF Tryz.prog 96:=⟨_,Tryz.func96,by kernel_rfl,by kernel_rfl⟩
theorem isStreamC.sound (n:Nat):Sound Tryz.prog 96 (isStreamC.mng n):=sndF (c:=isStreamC.cfg n) (n:=n) (an:=annOf Tryz.f96 isStreamC.las) ⟨⟨isToken.sound n,isToken.gof⟩,trivial⟩ trivial (tysOK tys_ok) Tryz.func96 (fun x=>by kernel_rfl)
def indexFuncS.las:List (Nat×LA):=[(3,⟨[(8,.int .i64)],[],[0,1,7],[]⟩)]
noncomputable def indexFuncS.f (n:Nat) (a0:List Int) (a1:(Unit)):Option (Int×Unit):=iter (α:=(Int×Unit)) n (fun ih6 x5=>br (decide (x5.1<(a0.length:Int))) (chk (0≤x5.1∧x5.1<(a0.length:Int)) ((isStreamC.f n (a0.getD x5.1.toNat 0)).bind fun r7=>br r7.1 (some (x5.1,())) (ih6 ((w64 (x5.1+1)),())))) (some ((-1),()))) (0,())
noncomputable def indexFuncS.mng (n:Nat):Mng:=⟨[.val IS,.fnc 96 []],[.val I],fun x=>indexFuncS.f n x.1 x.2.1⟩
noncomputable def indexFuncS.cfg (n:Nat):Cfg:=⟨tys,[(96,isStreamC.mng n)],[],[]⟩
theorem indexFuncS.gof:GoF Tryz.prog 148:=⟨_,Tryz.func148,by kernel_rfl,by kernel_rfl⟩
theorem indexFuncS.sound (n:Nat):Sound Tryz.prog 148 (indexFuncS.mng n):=sndF (c:=indexFuncS.cfg n) (n:=n) (an:=annOf Tryz.f148 indexFuncS.las) ⟨⟨isStreamC.sound n,isStreamC.gof⟩,trivial⟩ trivial (tysOK tys_ok) Tryz.func148 (fun x=>by kernel_rfl)
def containsFuncS.las:List (Nat×LA):=[]
noncomputable def containsFuncS.f (n:Nat) (a0:List Int) (a1:(Unit)):Option (Bool×Unit):=(indexFuncS.f n a0 ()).bind fun r1=>some ((decide (0≤r1.1)),())
noncomputable def containsFuncS.mng (n:Nat):Mng:=⟨[.val IS,.fnc 96 []],[.val .bool],fun x=>containsFuncS.f n x.1 x.2.1⟩
noncomputable def containsFuncS.cfg (n:Nat):Cfg:=⟨tys,[(148,indexFuncS.mng n)],[],[]⟩
theorem containsFuncS.gof:GoF Tryz.prog 95:=⟨_,Tryz.func95,by kernel_rfl,by kernel_rfl⟩
theorem containsFuncS.sound (n:Nat):Sound Tryz.prog 95 (containsFuncS.mng n):=sndF (c:=containsFuncS.cfg n) (n:=n) (an:=annOf Tryz.f95 containsFuncS.las) ⟨⟨indexFuncS.sound n,indexFuncS.gof⟩,trivial⟩ trivial (tysOK tys_ok) Tryz.func95 (fun x=>by kernel_rfl)
def iIsStream.las:List (Nat×LA):=[]
noncomputable def iIsStream.f (n:Nat) (a0:List Int):Option (Bool×Unit):=br (decide ((a0.length:Int)≤400)) ((containsFuncS.f n a0 ()).bind fun r1=>some ((!r1.1),())) (some (false,()))
noncomputable def iIsStream.mng (n:Nat):Mng:=⟨[.val IS],[.val .bool],fun x=>iIsStream.f n x.1⟩
noncomputable def iIsStream.cfg (n:Nat):Cfg:=⟨tys,[(95,containsFuncS.mng n)],[],[]⟩
theorem iIsStream.gof:GoF Tryz.prog 49:=⟨_,Tryz.func49,by kernel_rfl,by kernel_rfl⟩
theorem iIsStream.sound (n:Nat):Sound Tryz.prog 49 (iIsStream.mng n):=sndF (c:=iIsStream.cfg n) (n:=n) (an:=annOf Tryz.f49 iIsStream.las) ⟨⟨containsFuncS.sound n,containsFuncS.gof⟩,trivial⟩ trivial (tysOK tys_ok) Tryz.func49 (fun x=>by kernel_rfl)
def iIsNetwork.las:List (Nat×LA):=[(1,⟨[(22,.bool)],[],[1],[]⟩),(7,⟨[(3,.int .i64),(26,.int .i64)],[],[1,24,25],[]⟩),(20,⟨[(6,.int .i64),(44,.int .i64)],[],[1,3,42,43],[]⟩),(25,⟨[(9,.bool),(10,.bool)],[],[1,3,6,7,8,42,43,44],[]⟩),(26,⟨[(92,.bool)],[],[1,3,6,7,8,9,10,42,43,44],[]⟩),(27,⟨[(6,.int .i64)],[],[1,3,7,8,9,10,42,43,44],[]⟩),(32,⟨[(124,.bool)],[],[1,3,6,7,8,9,10,42,43,44],[]⟩),(33,⟨[(6,.int .i64)],[],[1,3,7,8,9,10,42,43,44],[]⟩),(38,⟨[(138,.bool)],[],[1,3,6,7,8,42,43,44],[]⟩),(43,⟨[(144,.int .i64)],[],[1,3,6,8,42,43,44,142,143],[]⟩)]
noncomputable def iIsNetwork.f (n:Nat) (a0:Network):Option (Bool×Unit):=cut (α:=(Bool×Unit)) (br (decide (12<(a0.1.length:Int))) (some (.inr (true,()))) (some (.inr ((decide (30<(a0.2.length:Int))),())))) fun y1=>br y1.1 (some (false,())) (iter (α:=(Int×(Int×Unit))) n (fun ih15 x14=>br (decide (x14.2.1<(a0.1.length:Int))) (chk (0≤x14.2.1∧x14.2.1<(a0.1.length:Int)) (let v16:=(a0.1.getD x14.2.1.toNat zProgram); (iIsProgram.f n v16).bind fun r17=>br (!r17.1) (some (false,())) (ih15 ((w64 (x14.1+(w64 (v16.1+v16.2.1)))),((w64 (x14.2.1+1)),()))))) (iter (α:=(Int×(Int×Unit))) n (fun ih60 x59=>br (decide (x59.2.1<(a0.2.length:Int))) (chk (0≤x59.2.1∧x59.2.1<(a0.2.length:Int)) (let v61:=(a0.2.getD x59.2.1.toNat zLink); cut (α:=(Bool×(Bool×Unit))) (br (decide (v61.1=(-1))) (br (decide (v61.2.2.1=(-1))) (some (.inr ((decide (v61.2.1=0)),((decide (v61.2.2.2.1=0)),())))) (some (.inr ((decide (v61.2.1=0)),(false,()))))) (br (decide (v61.2.2.1=(-1))) (some (.inr (false,((decide (v61.2.2.2.1=0)),())))) (some (.inr (false,(false,())))))) fun y62=>cut (α:=(Bool×Unit)) (br (decide (0≤v61.1)) (br (decide (v61.1<(a0.1.length:Int))) (br (decide (0≤v61.2.1)) (chk (0≤v61.1∧v61.1<(a0.1.length:Int)) (let v65:=(a0.1.getD v61.1.toNat zProgram); some (.inr ((decide (v61.2.1<v65.2.1)),())))) (some (.inr (false,())))) (some (.inr (false,())))) (some (.inr (false,())))) fun y64=>cut (α:=(Int×Unit)) (br y64.1 (some (.inr ((w64 (x59.1+1)),()))) (br (!y62.1) (some (.inl (false,()))) (some (.inr (x59.1,()))))) fun y66=>cut (α:=(Bool×Unit)) (br (decide (0≤v61.2.2.1)) (br (decide (v61.2.2.1<(a0.1.length:Int))) (br (decide (0≤v61.2.2.2.1)) (chk (0≤v61.2.2.1∧v61.2.2.1<(a0.1.length:Int)) (let v69:=(a0.1.getD v61.2.2.1.toNat zProgram); some (.inr ((decide (v61.2.2.2.1<v69.1)),())))) (some (.inr (false,())))) (some (.inr (false,())))) (some (.inr (false,())))) fun y68=>cut (α:=(Int×Unit)) (br y68.1 (some (.inr ((w64 (y66.1+1)),()))) (br (!y62.2.1) (some (.inl (false,()))) (some (.inr (y66.1,()))))) fun y70=>cut (α:=(Bool×Unit)) (br y62.1 (br y62.2.1 (some (.inr (true,()))) ((iIsStream.f n v61.2.2.2.2).bind fun r74=>some (.inr ((!r74.1),())))) ((iIsStream.f n v61.2.2.2.2).bind fun r75=>some (.inr ((!r75.1),())))) fun y73=>br y73.1 (some (false,())) (chk ((0:Int)≤0∧(0:Int)≤x59.2.1∧x59.2.1≤(a0.2.length:Int)) (iter (α:=(Int×Unit)) n (fun ih93 x92=>br (decide (x92.1<(((a0.2.take x59.2.1.toNat).drop 0).length:Int))) (chk (0≤x92.1∧x92.1<(((a0.2.take x59.2.1.toNat).drop 0).length:Int)) (let v94:=(((a0.2.take x59.2.1.toNat).drop 0).getD x92.1.toNat zLink); br (decide (0≤v61.1)) (br (decide (v94.1=v61.1)) (br (decide (v94.2.1=v61.2.1)) (some (false,())) (br (decide (0≤v61.2.2.1)) (br (decide (v94.2.2.1=v61.2.2.1)) (br (decide (v94.2.2.2.1=v61.2.2.2.1)) (some (false,())) (ih93 ((w64 (x92.1+1)),()))) (ih93 ((w64 (x92.1+1)),()))) (ih93 ((w64 (x92.1+1)),())))) (br (decide (0≤v61.2.2.1)) (br (decide (v94.2.2.1=v61.2.2.1)) (br (decide (v94.2.2.2.1=v61.2.2.2.1)) (some (false,())) (ih93 ((w64 (x92.1+1)),()))) (ih93 ((w64 (x92.1+1)),()))) (ih93 ((w64 (x92.1+1)),())))) (br (decide (0≤v61.2.2.1)) (br (decide (v94.2.2.1=v61.2.2.1)) (br (decide (v94.2.2.2.1=v61.2.2.2.1)) (some (false,())) (ih93 ((w64 (x92.1+1)),()))) (ih93 ((w64 (x92.1+1)),()))) (ih93 ((w64 (x92.1+1)),()))))) (ih60 (y70.1,((w64 (x59.2.1+1)),())))) (0,()))))) (some ((decide (x59.1=x14.1)),()))) (0,(0,())))) (0,(0,())))
noncomputable def iIsNetwork.mng (n:Nat):Mng:=⟨[.val tNetwork],[.val .bool],fun x=>iIsNetwork.f n x.1⟩
noncomputable def iIsNetwork.cfg (n:Nat):Cfg:=⟨tys,[(91,iIsProgram.mng n),(49,iIsStream.mng n)],[],[]⟩
theorem iIsNetwork.gof:GoF Tryz.prog 46:=⟨_,Tryz.func46,by kernel_rfl,by kernel_rfl⟩
theorem iIsNetwork.sound (n:Nat):Sound Tryz.prog 46 (iIsNetwork.mng n):=sndF (c:=iIsNetwork.cfg n) (n:=n) (an:=annOf Tryz.f46 iIsNetwork.las) ⟨⟨iIsProgram.sound n,iIsProgram.gof⟩,⟨⟨iIsStream.sound n,iIsStream.gof⟩,trivial⟩⟩ trivial (tysOK tys_ok) Tryz.func46 (fun x=>by kernel_rfl)
end Go.AmT
namespace Go.AmT
open Go Go.Am
set_option linter.unusedVariables false
set_option linter.unusedSimpArgs false
theorem cut_inr {α ρ:Type} (y:α) (f:α→Option ρ):cut (some (.inr y)) f=f y:=rfl
theorem cut_inl {α ρ:Type} (r:ρ) (f:α→Option ρ):cut (some (.inl r)) f=some r:=rfl
theorem sL1In_spec (n:Nat) (a b c:Int):sL1In.f n a b c=some (decide (b≤a)&&decide (a≤c),()):=by
 unfold sL1In.f
 by_cases h:b≤a<;>simp [h,br]
def small (k:Nat):Prop:=k≤1048576
structure SmallP (p:Program):Prop where
 code:p.2.2.length≤1048576
structure SmallL (l:Link):Prop where
 tokens:l.2.2.2.2.length≤1048576
structure SmallN (nt:Network):Prop where
 progs:nt.1.length≤1048576
 prog:∀ p∈nt.1,SmallP p
 links:nt.2.length≤1048576
 link:∀ l∈nt.2,SmallL l
def Left (left:Int) (o:Option (Int×Unit)) (P:Prop):Prop:=∃ r:Int,o=some (r,())∧r≤left∧(0≤r→P)
def reg (a:Int):Bool:=decide (0≤a)&&decide (a≤3)
def tok (a:Int):Bool:=decide (-999999≤a)&&decide (a≤999999)
def okI (ins outs size:Int) (x:Instr):Bool:=
 if x.1=1 then reg x.2.1&&(decide (0≤x.2.2.1)&&decide (x.2.2.1<ins)&&decide (x.2.2.2=0))
 else if x.1=2 then reg x.2.1&&(decide (0≤x.2.2.1)&&decide (x.2.2.1<outs)&&decide (x.2.2.2=0))
 else if x.1=3 then reg x.2.1&&(tok x.2.2.1&&decide (x.2.2.2=0))
 else if x.1=4∨x.1=5∨x.1=6∨x.1=7 then reg x.2.1&&(reg x.2.2.1&&reg x.2.2.2)
 else if x.1=8 then decide (x.2.1=0)&&(decide (0≤x.2.2.1)&&decide (x.2.2.1≤size)&&decide (x.2.2.2=0))
 else if x.1=9∨x.1=10 then reg x.2.1&&(decide (0≤x.2.2.1)&&decide (x.2.2.1≤size)&&decide (x.2.2.2=0))
 else if x.1=11 then decide (x.2.1=0)&&(decide (x.2.2.1=0)&&decide (x.2.2.2=0))
 else false
def okP (p:Program):Bool:=decide (0≤p.1)&&decide (p.1≤3)&&(decide (0≤p.2.1)&&decide (p.2.1≤3))&&(decide (1≤p.2.2.length)&&decide (p.2.2.length≤24))&&p.2.2.all (okI p.1 p.2.1 (p.2.2.length:Int))
def okS (s:List Int):Bool:=decide (s.length≤400)&&s.all tok
theorem isReg_spec (n:Nat) (a:Int):isReg.f n a=some (reg a,()):=by
 unfold isReg.f reg
 by_cases h:0≤a<;>simp [h,br]
theorem isToken_spec (n:Nat) (a:Int):isToken.f n a=some (tok a,()):=by
 unfold isToken.f tok
 by_cases h : -999999≤a<;>simp [h,br]
theorem sL1Token_spec (n:Nat) (a:Int):sL1Token.f n a=some (tok a,()):=by
 unfold sL1Token.f tok
 rw [sL1In_spec]; rfl
theorem isInstr_spec (n:Nat) (x:Instr) (ins outs size:Int):isInstr.f n x ins outs size=some (okI ins outs size x,()):=by
 have e1:(br (decide (0≤x.2.2.1)) (br (decide (x.2.2.1≤size)) (some (Sum.inr (α:=Bool×Unit) (decide (x.2.2.2=0),()))) (some (.inr (false,())))) (some (.inr (false,()))))=some (.inr ((decide (0≤x.2.2.1)&&decide (x.2.2.1≤size)&&decide (x.2.2.2=0)),())):=by
  cases decide (0≤x.2.2.1)<;>cases decide (x.2.2.1≤size)<;>rfl
 unfold isInstr.f okI
 simp only [e1,cut_inr,isReg_spec,isToken_spec,Option.bind_some]
 by_cases h1:x.1=1
 ·simp only [h1,decide_true,br_true,if_true]
  cases reg x.2.1<;>cases decide (0≤x.2.2.1)<;>cases decide (x.2.2.1<ins)<;>rfl
 by_cases h2:x.1=2
 ·simp only [h2,decide_true,decide_false,br_true,br_false,if_true,show ¬ ((2:Int)=1) by omega,if_false]
  cases reg x.2.1<;>cases decide (0≤x.2.2.1)<;>cases decide (x.2.2.1<outs)<;>rfl
 by_cases h3:x.1=3
 ·simp only [h3,decide_true,decide_false,br_true,br_false,if_true,show ¬ ((3:Int)=1) by omega,show ¬ ((3:Int)=2) by omega,if_false]
  cases reg x.2.1<;>cases tok x.2.2.1<;>rfl
 simp only [h1,h2,h3,decide_false,br_false,if_false]
 by_cases h4:x.1=4∨x.1=5∨x.1=6∨x.1=7
 ·have e2:br (decide (x.1=4)) (some (Sum.inr (α:=Bool×Unit) (decide (x.1=4),()))) (br (decide (x.1=5)) (some (.inr (decide (x.1=5),()))) (br (decide (x.1=6)) (some (.inr (decide (x.1=6),()))) (some (.inr (decide (x.1=7),())))))=some (.inr (true,())):=by
   rcases h4 with h | h | h | h<;>simp [h,br]
  rw [e2]
  simp only [h4,if_true,cut_inr,br_true]
  cases reg x.2.1<;>cases reg x.2.2.1<;>rfl
 ·have e2:br (decide (x.1=4)) (some (Sum.inr (α:=Bool×Unit) (decide (x.1=4),()))) (br (decide (x.1=5)) (some (.inr (decide (x.1=5),()))) (br (decide (x.1=6)) (some (.inr (decide (x.1=6),()))) (some (.inr (decide (x.1=7),())))))=some (.inr (false,())):=by
   simp only [not_or] at h4
   simp [h4,br]
  rw [e2]
  simp only [h4,if_false,cut_inr,br_false]
  by_cases h8:x.1=8
  ·simp only [h8,decide_true,br_true,if_true]
   cases decide (x.2.1=0)<;>rfl
  ·simp only [h8,decide_false,br_false,if_false]
   by_cases h9:x.1=9∨x.1=10
   ·have e3:br (decide (x.1=9)) (some (Sum.inr (α:=Bool×Unit) (decide (x.1=9),()))) (some (.inr (decide (x.1=10),())))=some (.inr (true,())):=by
     rcases h9 with h | h<;>simp [h,br]
    rw [e3]
    simp only [h9,if_true,cut_inr,br_true]
    cases reg x.2.1<;>rfl
   ·have e3:br (decide (x.1=9)) (some (Sum.inr (α:=Bool×Unit) (decide (x.1=9),()))) (some (.inr (decide (x.1=10),())))=some (.inr (false,())):=by
     simp only [not_or] at h9
     simp [h9,br]
    rw [e3]
    simp only [h9,if_false,cut_inr,br_false]
    by_cases h11:x.1=11
    ·simp only [h11,decide_true,br_true,if_true,Bool.and_true,Bool.true_and]
    ·simp only [h11,decide_false,br_false,if_false]
theorem lt_pred (b ins:Int):decide (b≤ins-1)=decide (b<ins):=by
 by_cases h:b<ins
 ·rw [decide_eq_true h,decide_eq_true (by omega)]
 ·rw [decide_eq_false h,decide_eq_false (by omega)]
theorem sL2Operands_spec (n:Nat) (p:Program) (x:Instr) (hi:0≤p.1∧p.1≤3) (ho:0≤p.2.1∧p.2.1≤3):sL2Operands.f n p x=some (okI p.1 p.2.1 (p.2.2.length:Int) x,()):=by
 have w1:w64 (p.1-1)=p.1-1:=w64_id (by omega) (by omega)
 have w2:w64 (p.2.1-1)=p.2.1-1:=w64_id (by omega) (by omega)
 have e0:(br (reg x.2.1) (br (reg x.2.2.1) (some (Sum.inr (α:=Bool×Unit) (reg x.2.2.2,()))) (some (.inr (false,())))) (some (.inr (false,()))))=some (.inr ((reg x.2.1&&(reg x.2.2.1&&reg x.2.2.2)),())):=by
  cases reg x.2.1<;>cases reg x.2.2.1<;>rfl
 have e1:(br (decide (0≤x.2.2.1)&&decide (x.2.2.1≤(p.2.2.length:Int))) (some (Sum.inr (α:=Bool×Unit) (decide (x.2.2.2=0),()))) (some (.inr (false,()))))=some (.inr ((decide (0≤x.2.2.1)&&decide (x.2.2.1≤(p.2.2.length:Int))&&decide (x.2.2.2=0)),())):=by
  cases decide (0≤x.2.2.1)<;>cases decide (x.2.2.1≤(p.2.2.length:Int))<;>rfl
 have hr:∀ a:Int,sL1In.f n a 0 3=some (reg a,()):=fun a=>sL1In_spec n a 0 3
 unfold sL2Operands.f okI
 simp only [hr,Option.bind_some,e0,sL1In_spec,e1,cut_inr,sL1Token_spec,w1,w2,lt_pred]
 by_cases h1:x.1=1
 ·simp only [h1,decide_true,br_true,if_true]
  cases reg x.2.1<;>cases decide (0≤x.2.2.1)<;>cases decide (x.2.2.1<p.1)<;>rfl
 by_cases h2:x.1=2
 ·simp only [h2,decide_true,decide_false,br_true,br_false,if_true,show ¬ ((2:Int)=1) by omega,if_false]
  cases reg x.2.1<;>cases decide (0≤x.2.2.1)<;>cases decide (x.2.2.1<p.2.1)<;>rfl
 by_cases h3:x.1=3
 ·simp only [h3,decide_true,decide_false,br_true,br_false,if_true,show ¬ ((3:Int)=1) by omega,show ¬ ((3:Int)=2) by omega,if_false]
  cases reg x.2.1<;>cases tok x.2.2.1<;>rfl
 simp only [h1,h2,h3,decide_false,br_false,if_false]
 by_cases h4:x.1=4∨x.1=5∨x.1=6∨x.1=7
 ·have e2:br (decide (x.1=4)) (some (Sum.inr (α:=Bool×Unit) (decide (x.1=4),()))) (br (decide (x.1=5)) (some (.inr (decide (x.1=5),()))) (br (decide (x.1=6)) (some (.inr (decide (x.1=6),()))) (some (.inr (decide (x.1=7),())))))=some (.inr (true,())):=by
   rcases h4 with h | h | h | h<;>simp [h,br]
  rw [e2]
  simp only [h4,if_true,cut_inr,br_true]
 ·have e2:br (decide (x.1=4)) (some (Sum.inr (α:=Bool×Unit) (decide (x.1=4),()))) (br (decide (x.1=5)) (some (.inr (decide (x.1=5),()))) (br (decide (x.1=6)) (some (.inr (decide (x.1=6),()))) (some (.inr (decide (x.1=7),())))))=some (.inr (false,())):=by
   simp only [not_or] at h4
   simp [h4,br]
  rw [e2]
  simp only [h4,if_false,cut_inr,br_false]
  by_cases h8:x.1=8
  ·simp only [h8,decide_true,br_true,if_true]
   cases decide (x.2.1=0)<;>rfl
  ·simp only [h8,decide_false,br_false,if_false]
   by_cases h9:x.1=9∨x.1=10
   ·have e3:br (decide (x.1=9)) (some (Sum.inr (α:=Bool×Unit) (decide (x.1=9),()))) (some (.inr (decide (x.1=10),())))=some (.inr (true,())):=by
     rcases h9 with h | h<;>simp [h,br]
    rw [e3]
    simp only [h9,if_true,cut_inr,br_true]
    cases reg x.2.1<;>rfl
   ·have e3:br (decide (x.1=9)) (some (Sum.inr (α:=Bool×Unit) (decide (x.1=9),()))) (some (.inr (decide (x.1=10),())))=some (.inr (false,())):=by
     simp only [not_or] at h9
     simp [h9,br]
    rw [e3]
    simp only [h9,if_false,cut_inr,br_false]
    by_cases h11:x.1=11
    ·simp only [h11,decide_true,br_true,if_true]
     cases decide (x.2.1=0)<;>cases decide (x.2.2.1=0)<;>rfl
    ·simp only [h11,decide_false,br_false,if_false]
theorem sIsProgram_spec {n:Nat} {p:Program} (hp:SmallP p) (hn:1048576<n):sIsProgram.f n p=some (okP p,()):=by
 have hc:=hp.code
 unfold sIsProgram.f okP
 simp only [sL1In_spec,Option.bind_some]
 by_cases h1:0≤p.1∧p.1≤3
 ·by_cases h2:0≤p.2.1∧p.2.1≤3
  ·by_cases h3:1≤p.2.2.length∧p.2.2.length≤24
   ·simp only [h1.1,h1.2,h2.1,h2.2,h3.1,h3.2,show (1:Int)≤(p.2.2.length:Int) by omega,show (p.2.2.length:Int)≤24 by omega,decide_true,Bool.and_self,Bool.not_true,br_false,Bool.true_and,cut_inr]
    refine all_loop p.2.2 (okI p.1 p.2.1 (p.2.2.length:Int)) (fun ih i hi=>?_) (fun ih=>?_) (by omega)
    ·have h4:(i:Int)<(p.2.2.length:Int):=by omega
     simp only [h4,decide_true,br_true,Int.toNat_natCast,getD_lt hi,sL2Operands_spec n p _ h1 h2,Option.bind_some]
     rw [chk_true (by simp),w64_succ (by omega),br_if]
     cases okI p.1 p.2.1 (p.2.2.length:Int) p.2.2[i]<;>rfl
    ·simp [br]
   ·have e1:(decide ((1:Int)≤(p.2.2.length:Int))&&decide ((p.2.2.length:Int)≤24))=false:=by
     rw [← Bool.not_eq_true]; simp only [Bool.and_eq_true,decide_eq_true_eq]; omega
    have e2:(decide (1≤p.2.2.length)&&decide (p.2.2.length≤24))=false:=by
     rw [← Bool.not_eq_true]; simp only [Bool.and_eq_true,decide_eq_true_eq]; omega
    simp [h1,h2,e1,e2,br,cut]
  ·have e2:(decide (0≤p.2.1)&&decide (p.2.1≤3))=false:=by
    rw [← Bool.not_eq_true]; simp only [Bool.and_eq_true,decide_eq_true_eq]; omega
   simp [h1,e2,br,cut]
 ·have e2:(decide (0≤p.1)&&decide (p.1≤3))=false:=by
   rw [← Bool.not_eq_true]; simp only [Bool.and_eq_true,decide_eq_true_eq]; omega
  simp [e2,br,cut]
theorem iIsProgram_spec {n:Nat} {p:Program} (hp:SmallP p) (hn:1048576<n):iIsProgram.f n p=some (okP p,()):=by
 have hc:=hp.code
 unfold iIsProgram.f okP
 by_cases h1:0≤p.1∧p.1≤3
 ·by_cases h2:0≤p.2.1∧p.2.1≤3
  ·by_cases h3:1≤p.2.2.length∧p.2.2.length≤24
   ·have a1:¬ (p.1<0):=by omega
    have a2:¬ (3<p.1):=by omega
    have a3:¬ (p.2.1<0):=by omega
    have a4:¬ (3<p.2.1):=by omega
    have a5:¬ ((p.2.2.length:Int)<1):=by omega
    have a6:¬ (24<(p.2.2.length:Int)):=by omega
    simp only [a1,a2,a3,a4,a5,a6,h1.1,h1.2,h2.1,h2.2,h3.1,h3.2,decide_true,decide_false,br_false,cut_inr,Bool.and_self,Bool.true_and]
    unfold containsFuncI.f indexFuncI.f
    obtain ⟨r,e1,e2⟩:=index_loop p.2.2 (fun x=>!(okI p.1 p.2.1 (p.2.2.length:Int) x)) (n:=n) (F:=fun ih7 x6=>br (decide (x6.1<(p.2.2.length:Int))) (chk (0≤x6.1∧x6.1<(p.2.2.length:Int)) (let v8:=(p.2.2.getD x6.1.toNat zInstr); (isProgramC.f n v8 p).bind fun r9=>br r9.1 (some (x6.1,())) (ih7 ((w64 (x6.1+1)),())))) (some ((-1),())))
     (fun ih i hi=>by
      have h4:(i:Int)<(p.2.2.length:Int):=by omega
      unfold isProgramC.f
      simp only [h4,decide_true,br_true,Int.toNat_natCast,getD_lt hi,isInstr_spec,Option.bind_some]
      rw [chk_true (by simp),w64_succ (by omega),br_if]) (fun ih=>by simp [br]) (by omega)
    rw [e1]
    simp only [Option.bind_some,e2]
    congr 2
    rw [List.any_eq_not_all_not]
    simp
   ·have e2:(decide (1≤p.2.2.length)&&decide (p.2.2.length≤24))=false:=by
     rw [← Bool.not_eq_true]; simp only [Bool.and_eq_true,decide_eq_true_eq]; omega
    have a1:¬ (p.1<0):=by omega
    have a2:¬ (3<p.1):=by omega
    have a3:¬ (p.2.1<0):=by omega
    have a4:¬ (3<p.2.1):=by omega
    by_cases a5:(p.2.2.length:Int)<1
    ·simp [a1,a2,a3,a4,a5,e2,br,cut]
    ·have a6:(24<(p.2.2.length:Int)):=by omega
     simp [a1,a2,a3,a4,a5,a6,e2,br,cut]
  ·have e2:(decide (0≤p.2.1)&&decide (p.2.1≤3))=false:=by
    rw [← Bool.not_eq_true]; simp only [Bool.and_eq_true,decide_eq_true_eq]; omega
   have a1:¬ (p.1<0):=by omega
   have a2:¬ (3<p.1):=by omega
   by_cases a3:p.2.1<0
   ·simp [a1,a2,a3,e2,br,cut]
   ·have a4:(3<p.2.1):=by omega
    simp [a1,a2,a3,a4,e2,br,cut]
 ·have e2:(decide (0≤p.1)&&decide (p.1≤3))=false:=by
   rw [← Bool.not_eq_true]; simp only [Bool.and_eq_true,decide_eq_true_eq]; omega
  by_cases a1:p.1<0
  ·simp [a1,e2,br,cut]
  ·have a2:(3<p.1):=by omega
   simp [a1,a2,e2,br,cut]
theorem sIsStream_spec {n:Nat} {s:List Int} (hs:s.length≤1048576) (hn:1048576<n):sIsStream.f n s=some (okS s,()):=by
 unfold sIsStream.f okS
 have:=chk_loop s.length (fun i=>tok (s.getD i 0)) (some (false,())) (some (decide ((s.length:Int)≤400),())) (n:=n) (F:=fun ih7 x6=>br (decide (x6.1<(s.length:Int))) (chk (0≤x6.1∧x6.1<(s.length:Int)) ((sL1Token.f n (s.getD x6.1.toNat 0)).bind fun r8=>br (!r8.1) (some (false,())) (ih7 ((w64 (x6.1+1)),())))) (some ((decide ((s.length:Int)≤400)),())))
  (fun ih i hi=>by
   have h4:(i:Int)<(s.length:Int):=by omega
   simp only [h4,decide_true,br_true,Int.toNat_natCast,sL1Token_spec,Option.bind_some]
   rw [chk_true (by simp),w64_succ (by omega),br_if]
   cases tok (s.getD i 0)<;>rfl)
  (fun ih=>by simp [br]) (by omega)
 by_cases h:∀ i,i<s.length→tok (s.getD i 0)=true
 ·rw [this.1 h]
  have:s.all tok=true:=by
   rw [List.all_eq_true]
   intro x hx
   obtain ⟨i,hi,rfl⟩:=List.mem_iff_getElem.1 hx
   have:=h i hi
   rwa [getD_lt hi] at this
  rw [this,Bool.and_true]
  congr 2
  by_cases h:s.length≤400
  ·rw [decide_eq_true h,decide_eq_true (by omega)]
  ·rw [decide_eq_false h,decide_eq_false (by omega)]
 ·rw [this.2 h]
  have:s.all tok=false:=by
   rw [← Bool.not_eq_true,List.all_eq_true]
   intro hh
   refine h (fun i hi=>?_)
   rw [getD_lt hi]
   exact hh _ (List.getElem_mem hi)
  rw [this,Bool.and_false]
theorem iIsStream_spec {n:Nat} {s:List Int} (hs:s.length≤1048576) (hn:1048576<n):iIsStream.f n s=some (okS s,()):=by
 unfold iIsStream.f okS containsFuncS.f indexFuncS.f
 by_cases h:s.length≤400
 ·simp only [h,show (s.length:Int)≤400 by omega,decide_true,br_true,Bool.true_and]
  obtain ⟨r,e1,e2⟩:=index_loop s (fun x=>!(tok x)) (n:=n) (F:=fun ih6 x5=>br (decide (x5.1<(s.length:Int))) (chk (0≤x5.1∧x5.1<(s.length:Int)) ((isStreamC.f n (s.getD x5.1.toNat 0)).bind fun r7=>br r7.1 (some (x5.1,())) (ih6 ((w64 (x5.1+1)),())))) (some ((-1),())))
   (fun ih i hi=>by
    have h4:(i:Int)<(s.length:Int):=by omega
    unfold isStreamC.f
    simp only [h4,decide_true,br_true,Int.toNat_natCast,getD_lt hi,isToken_spec,Option.bind_some]
    rw [chk_true (by simp),w64_succ (by omega),br_if]) (fun ih=>by simp [br]) (by omega)
  rw [e1]
  simp only [Option.bind_some,e2]
  congr 2
  rw [List.any_eq_not_all_not]
  simp
 ·have:¬ ((s.length:Int)≤400):=by omega
  simp [h,this,br]
end Go.AmT
