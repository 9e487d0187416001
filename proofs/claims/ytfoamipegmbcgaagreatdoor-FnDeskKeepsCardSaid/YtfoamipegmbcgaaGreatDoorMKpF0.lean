/- Functions that the law FnDeskKeeps reaches, each as a plain Lean function, and that each does what that says. No condition. -/
import Derived.Test.YtfoamipegmbcgaaGreatDoorAmE
import Derived.Test.YtfoamipegmbcgaaGreatDoorProg
namespace Go.AmT
noncomputable section
open Go Go.Am Go.Proofs
set_option linter.unusedVariables false
set_option maxRecDepth 100000
abbrev I:Ty:=.int .i64
abbrev U8:Ty:=.int .u8
abbrev IS:Ty:=.sl I
abbrev df:Ty:=(.pair I (.pair I (.pair I I)))
abbrev cq:Ty:=(.pair I (.pair I (.pair I (.pair I IS))))
abbrev bn:Ty:=(.pair I (.pair I (.sl df)))
abbrev cD:Ty:=(.pair (.sl bn) (.sl cq))
abbrev bu:Ty:=(.pair I IS)
abbrev e9:Ty:=(.pair (.sl bu) (.pair (.sl IS) (.pair (.sl IS) I)))
abbrev uF:Ty:=(.pair cD (.pair e9 (.pair (.sl IS) (.pair (.sl IS) (.bh I)))))
abbrev jq:Ty:=(.pair cD (.pair e9 IS))
abbrev Instr:Type:=Int×(Int×(Int×Int))
def je:Instr:=(0,(0,(0,0)))
abbrev Program:Type:=Int×(Int×List Instr)
def bp:Program:=(0,(0,[]))
abbrev aG:Type:=Int×(Int×(Int×(Int×List Int)))
def aM:aG:=(0,(0,(0,(0,[]))))
abbrev ai:Type:=List Program×List aG
def aV:List (Nat×j5):=[(3,⟨false,1,8,[.int .i64 0],.int .i64,0,some I,[],false⟩),
 (23,⟨false,1,24,[.nil],.slice,68,some (.sl bn),[],false⟩),
 (24,⟨false,1,24,[.nil],.slice,71,some (.sl cq),[],false⟩),
 (26,⟨true,2,48,[.nil,.nil],.struct,0,some cD,[(0,23),(1,24)],false⟩),
 (32,⟨false,1,24,[.nil],.slice,3,some IS,[],false⟩),
 (66,⟨false,1,24,[.nil],.slice,122,some (.sl df),[],false⟩),
 (68,⟨true,3,40,[.int .i64 0,.int .i64 0,.nil],.struct,0,some bn,[(0,3),(1,3),(2,66)],false⟩),
 (71,⟨true,5,56,[.int .i64 0,.int .i64 0,.int .i64 0,.int .i64 0,.nil],.struct,0,some cq,[(0,3),(1,3),(2,3),(3,3),(4,32)],false⟩),
 (122,⟨true,4,32,[.int .i64 0,.int .i64 0,.int .i64 0,.int .i64 0],.struct,0,some df,[(0,3),(1,3),(2,3),(3,3)],true⟩)]
theorem iP:(aV.all fun p=>Bm Tryz.prog p.1 p.2)=true:=by kernel_rfl
theorem mixed:Tryz.prog.follows .mixedOrders=true:=by kernel_rfl
theorem hZ {c:aP} {n:Nat} {f:FuncId} {fn:Func} {an:fJ} {m:ar} (A:pq Tryz.prog c.calls) (B:sA Tryz.prog c.p7) (hc:eu Tryz.prog c) (hf:Tryz.prog.funcs[f]? = some fn) (hm:∀ x,m.m x=wi c n fn an m.ps m.rs x) (hp:c.j7.all (fun x=>Nat.blt x 3000000)=true:=by rfl) (h0:rI c=none:=by rfl):Sound Tryz.prog f m:=Dv (uw mixed (su (.of A (Gr hp)) (.of B)) hc h0) hc hf hm
theorem UR {c:aP} {n:Nat} {f:FuncId} {fn:Func} {an:fJ} {M:bS} (A:pq Tryz.prog c.calls) (B:sA Tryz.prog c.p7) (hc:eu Tryz.prog c) (hf:Tryz.prog.funcs[f]? = some fn) (hm:∀ x,M.m x=bS.run c n fn an M.la M.lb x) (hp:c.j7.all (fun x=>Nat.blt x 3000000)=true:=by rfl) (h0:rI c=none:=by rfl):qB Tryz.prog f M:=Gx (uw mixed (su (.of A (Gr hp)) (.of B)) hc h0) hc hf hm
def ly:List (Nat×j5):=[(3,⟨false,1,8,[.int .i64 0],.int .i64,0,some I,[],false⟩),
 (26,⟨true,2,48,[.nil,.nil],.struct,0,some cD,[(0,23),(1,24)],false⟩),
 (32,⟨false,1,24,[.nil],.slice,3,some IS,[],false⟩),
 (23,⟨false,1,24,[.nil],.slice,68,some (.sl bn),[],false⟩),
 (24,⟨false,1,24,[.nil],.slice,71,some (.sl cq),[],false⟩),
 (31,⟨true,4,80,[.nil,.nil,.nil,.int .i64 0],.struct,0,some e9,[(0,28),(1,29),(2,29),(3,3)],false⟩),
 (9,⟨false,1,16,[.str []],.str,0,some .str,[],false⟩),
 (68,⟨true,3,40,[.int .i64 0,.int .i64 0,.nil],.struct,0,some bn,[(0,3),(1,3),(2,66)],false⟩),
 (71,⟨true,5,56,[.int .i64 0,.int .i64 0,.int .i64 0,.int .i64 0,.nil],.struct,0,some cq,[(0,3),(1,3),(2,3),(3,3),(4,32)],false⟩),
 (29,⟨false,1,24,[.nil],.slice,32,some (.sl IS),[],false⟩),
 (66,⟨false,1,24,[.nil],.slice,122,some (.sl df),[],false⟩),
 (122,⟨true,4,32,[.int .i64 0,.int .i64 0,.int .i64 0,.int .i64 0],.struct,0,some df,[(0,3),(1,3),(2,3),(3,3)],false⟩),
 (48,⟨false,1,24,[.nil],.slice,9,some (.sl .str),[],false⟩),
 (28,⟨false,1,24,[.nil],.slice,75,some (.sl bu),[],false⟩),
 (82,⟨true,9,200,[.nil,.nil,.nil,.nil,.nil,.int .i64 0,.nil,.nil,.nil],.struct,0,some uF,[(0,26),(2,31),(6,29),(7,29),(8,32)],false⟩),
 (75,⟨true,2,32,[.int .i64 0,.nil],.struct,0,some bu,[(0,3),(1,32)],false⟩),
 (22,⟨false,1,24,[.nil],.slice,5,some (.sl U8),[],false⟩),
 (34,⟨true,7,152,[.nil,.nil,.nil,.nil,.nil,.int .i64 0,.nil],.struct,0,some jq,[(0,26),(2,31),(6,32)],false⟩),
 (5,⟨false,1,1,[.int .u8 0],.int .u8,0,some U8,[],false⟩),
 (196,⟨false,1,8,[.oX],.other,0,none,[],false⟩),
 (197,⟨false,1,24,[.nil],.slice,196,none,[],false⟩),
 (94,⟨true,3,40,[.nil,.int .i64 0,.int .i64 0],.struct,0,some (.pair (.sl U8) (.pair I I)),[(0,22),(1,3),(2,3)],false⟩),
 (4,⟨false,1,1,[.bool false],.bool,0,some .bool,[],false⟩),
 (174,⟨false,1,24,[.nil],.slice,4,some (.sl .bool),[],false⟩),
 (136,⟨false,1,16,[.err true],.iface,0,some .err,[],false⟩),
 (127,⟨false,1,24,[.nil],.slice,29,some (.sl (.sl IS)),[],false⟩)]
theorem km:(ly.all fun p=>Bm Tryz.prog p.1 p.2)=true:=by kernel_rfl
abbrev aN (f:Nat) (m:ar):Prop:=Sound Tryz.prog f m∧cG Tryz.prog f
abbrev eP (f:Nat) (m:bS):Prop:=qB Tryz.prog f m∧cG Tryz.prog f
theorem dz {f:Nat} {fn:Func} (h:Tryz.prog.funcs[f]? = some fn) (h1:(fn.name== "runtime.NumGoroutine")=false) (h2:fn.body.isNone=false):cG Tryz.prog f:=⟨_,h,h1,h2⟩
theorem aC:pq Tryz.prog []:=trivial
theorem ak {k:Nat} {m:ar} {l:List (Nat×ar)} (h:aN k m) (t:pq Tryz.prog l) (e:vY k=k:=by rfl):pq Tryz.prog ((k,m)::l):=⟨by rw [e]; exact h,t⟩
theorem cZ2 (k:Nat) {m:ar} {l:List (Nat×ar)} (h:aN (vY k) m) (t:pq Tryz.prog l):pq Tryz.prog ((k,m)::l):=⟨h,t⟩
theorem aD:sA Tryz.prog []:=trivial
theorem bA {k:Nat} {m:bS} {l:List (Nat×bS)} (h:eP k m) (t:sA Tryz.prog l):sA Tryz.prog ((k,m)::l):=⟨h,t⟩
theorem aQ (n:Nat) (bY:List (Nat×LA)) (z:List Nat) {f:FuncId} {fn:Func} {m:ar} {C:List (Nat×ar)} {L:List (Nat×bS)} (a:pq Tryz.prog C) (b:sA Tryz.prog L) (hf:Tryz.prog.funcs[f]? = some fn) (hm:∀ x,m.m x=wi ⟨ly,C,L,z⟩ n fn (d_ fn bY) m.ps m.rs x:=by intro x; kernel_rfl) (h1:(fn.name== "runtime.NumGoroutine")=false:=by kernel_rfl) (h2:fn.body.isNone=false:=by kernel_rfl) (hp:z.all (fun x=>Nat.blt x 3000000)=true:=by rfl) (h0:rI ⟨ly,C,L,z⟩=none:=by rfl):aN f m:=⟨hZ (c:=⟨ly,C,L,z⟩) (n:=n) (an:=d_ fn bY) a b (dM km) hf hm hp h0,dz hf h1 h2⟩
theorem fm (n:Nat) (bY:List (Nat×LA)) (z:List Nat) {f:FuncId} {fn:Func} {m:bS} {C:List (Nat×ar)} {L:List (Nat×bS)} (a:pq Tryz.prog C) (b:sA Tryz.prog L) (hf:Tryz.prog.funcs[f]? = some fn) (hm:∀ x,m.m x=bS.run ⟨ly,C,L,z⟩ n fn (d_ fn bY) m.la m.lb x:=by intro x; kernel_rfl) (h1:(fn.name== "runtime.NumGoroutine")=false:=by kernel_rfl) (h2:fn.body.isNone=false:=by kernel_rfl) (hp:z.all (fun x=>Nat.blt x 3000000)=true:=by rfl) (h0:rI ⟨ly,C,L,z⟩=none:=by rfl):eP f m:=⟨UR (c:=⟨ly,C,L,z⟩) (n:=n) (an:=d_ fn bY) a b (dM km) hf hm hp h0,dz hf h1 h2⟩
def cg.bY:List (Nat×LA):=[]
def cg.f (n:Nat) (a0:Int) (a1:Int) (a2:Int):Option (Bool×Unit):=br (decide (a1≤a0)) (some ((decide (a0≤a2)),())) (some (false,()))
def cg.ae (n:Nat):ar:=⟨[.val I,.val I,.val I],[.val .bool],fun x=>cg.f n x.1 x.2.1 x.2.2.1⟩
def cg.cfg (n:Nat):aP:=⟨aV,[],[],[]⟩
theorem cg.az:cG Tryz.prog 133:=dz Tryz.func133 (by kernel_rfl) (by kernel_rfl)
theorem cg.sound (n:Nat):Sound Tryz.prog 133 (cg.ae n):=hZ (c:=cg.cfg n) (n:=n) (an:=d_ Tryz.f133 cg.bY) trivial trivial (dM iP) Tryz.func133 (fun x=>by kernel_rfl)
def jf.bY:List (Nat×LA):=[]
def jf.f (n:Nat) (a0:Int):Option (Bool×Unit):=(cg.f n a0 (-999999) 999999).bind fun r1=>some (r1.1,())
def jf.ae (n:Nat):ar:=⟨[.val I],[.val .bool],fun x=>jf.f n x.1⟩
def jf.cfg (n:Nat):aP:=⟨aV,[(133,cg.ae n)],[],[]⟩
theorem jf.az:cG Tryz.prog 135:=dz Tryz.func135 (by kernel_rfl) (by kernel_rfl)
theorem jf.sound (n:Nat):Sound Tryz.prog 135 (jf.ae n):=hZ (c:=jf.cfg n) (n:=n) (an:=d_ Tryz.f135 jf.bY) ⟨⟨cg.sound n,cg.az⟩,trivial⟩ trivial (dM iP) Tryz.func135 (fun x=>by kernel_rfl)
def jN.bY:List (Nat×LA):=[(1,⟨[(5,.bool)],[],[2,3],[]⟩),(2,⟨[(6,.bool)],[],[2,3,5],[]⟩),(15,⟨[(84,.bool)],[],[3,5,6,32],[]⟩),(27,⟨[(98,.bool)],[],[3,6,32],[]⟩)]
def jN.f (n:Nat) (a0:Program) (a1:Instr):Option (Bool×Unit):=cut (α:=(Bool×Unit)) ((cg.f n a1.2.1 0 3).bind fun r5=>br r5.1 ((cg.f n a1.2.2.1 0 3).bind fun r6=>br r6.1 ((cg.f n a1.2.2.2 0 3).bind fun r7=>some (.inr (r7.1,()))) (some (.inr (false,())))) (some (.inr (false,())))) fun y4=>cut (α:=(Bool×Unit)) ((cg.f n a1.2.2.1 0 (a0.2.2.length:Int)).bind fun cH=>br cH.1 (some (.inr ((decide (a1.2.2.2=0)),()))) (some (.inr (false,())))) fun y9=>br (decide (a1.1=1)) ((cg.f n a1.2.1 0 3).bind fun dA=>br dA.1 ((cg.f n a1.2.2.1 0 (ag (a0.1-1))).bind fun fB=>br fB.1 (some ((decide (a1.2.2.2=0)),())) (some (false,()))) (some (false,()))) (br (decide (a1.1=2)) ((cg.f n a1.2.1 0 3).bind fun dT=>br dT.1 ((cg.f n a1.2.2.1 0 (ag (a0.2.1-1))).bind fun dp=>br dp.1 (some ((decide (a1.2.2.2=0)),())) (some (false,()))) (some (false,()))) (br (decide (a1.1=3)) ((cg.f n a1.2.1 0 3).bind fun ko=>br ko.1 ((jf.f n a1.2.2.1).bind fun fN=>br fN.1 (some ((decide (a1.2.2.2=0)),())) (some (false,()))) (some (false,()))) (cut (α:=(Bool×Unit)) (br (decide (a1.1=4)) (some (.inr ((decide (a1.1=4)),()))) (br (decide (a1.1=5)) (some (.inr ((decide (a1.1=5)),()))) (br (decide (a1.1=6)) (some (.inr ((decide (a1.1=6)),()))) (some (.inr ((decide (a1.1=7)),())))))) fun Hv=>br Hv.1 (some (y4.1,())) (br (decide (a1.1=8)) (br (decide (a1.2.1=0)) (some (y9.1,())) (some (false,()))) (cut (α:=(Bool×Unit)) (br (decide (a1.1=9)) (some (.inr ((decide (a1.1=9)),()))) (some (.inr ((decide (a1.1=10)),())))) fun US=>br US.1 ((cg.f n a1.2.1 0 3).bind fun gN=>br gN.1 (some (y9.1,())) (some (false,()))) (br (decide (a1.1=11)) (br (decide (a1.2.1=0)) (br (decide (a1.2.2.1=0)) (some ((decide (a1.2.2.2=0)),())) (some (false,()))) (some (false,()))) (some (false,()))))))))
def jN.ae (n:Nat):ar:=⟨[.val bn,.val df],[.val .bool],fun x=>jN.f n x.1 x.2.1⟩
def jN.cfg (n:Nat):aP:=⟨aV,[(133,cg.ae n),(135,jf.ae n)],[],[]⟩
theorem jN.az:cG Tryz.prog 134:=dz Tryz.func134 (by kernel_rfl) (by kernel_rfl)
theorem jN.sound (n:Nat):Sound Tryz.prog 134 (jN.ae n):=hZ (c:=jN.cfg n) (n:=n) (an:=d_ Tryz.f134 jN.bY) ⟨⟨cg.sound n,cg.az⟩,⟨⟨jf.sound n,jf.az⟩,trivial⟩⟩ trivial (dM iP) Tryz.func134 (fun x=>by kernel_rfl)
def iQ.bY:List (Nat×LA):=[(1,⟨[(21,.bool)],[],[1],[]⟩),(6,⟨[(25,.int .i64)],[],[1,23,24],[]⟩)]
def iQ.f (n:Nat) (a0:Program):Option (Bool×Unit):=cut (α:=(Bool×Unit)) ((cg.f n a0.1 0 3).bind fun r5=>br (!r5.1) (some (.inr (true,()))) ((cg.f n a0.2.1 0 3).bind fun r6=>br (!r6.1) (some (.inr (true,()))) ((cg.f n (a0.2.2.length:Int) 1 24).bind fun r7=>some (.inr ((!r7.1),()))))) fun y4=>br y4.1 (some (false,())) (iter (α:=(Int×Unit)) n (fun UT BD=>br (decide (BD.1<(a0.2.2.length:Int))) (ab (0≤BD.1∧BD.1<(a0.2.2.length:Int)) (let UU:=(a0.2.2.getD BD.1.toNat je); (jN.f n a0 UU).bind fun gN=>br (!gN.1) (some (false,())) (UT ((ag (BD.1+1)),())))) (some (true,()))) (0,()))
def iQ.ae (n:Nat):ar:=⟨[.val bn],[.val .bool],fun x=>iQ.f n x.1⟩
def iQ.cfg (n:Nat):aP:=⟨aV,[(133,cg.ae n),(134,jN.ae n)],[],[]⟩
theorem iQ.az:cG Tryz.prog 76:=dz Tryz.func76 (by kernel_rfl) (by kernel_rfl)
theorem iQ.sound (n:Nat):Sound Tryz.prog 76 (iQ.ae n):=hZ (c:=iQ.cfg n) (n:=n) (an:=d_ Tryz.f76 iQ.bY) ⟨⟨cg.sound n,cg.az⟩,⟨⟨jN.sound n,jN.az⟩,trivial⟩⟩ trivial (dM iP) Tryz.func76 (fun x=>by kernel_rfl)
def lz.bY:List (Nat×LA):=[(1,⟨[(34,.bool)],[],[2,3],[]⟩),(6,⟨[(5,.int .i64)],[],[2,3],[]⟩),(10,⟨[(6,.int .i64)],[],[3,5],[]⟩)]
def lz.f (n:Nat) (a0:ai) (a1:aG):Option (Bool×Unit):=cut (α:=(Bool×Unit)) (br (decide (a1.1=(-1))) (br (decide (a1.2.2.1=(-1))) (some (.inr (true,()))) ((cg.f n a1.1 (-1) (ag ((a0.1.length:Int)-1))).bind fun r6=>br (!r6.1) (some (.inr (true,()))) ((cg.f n a1.2.2.1 (-1) (ag ((a0.1.length:Int)-1))).bind fun r7=>some (.inr ((!r7.1),()))))) ((cg.f n a1.1 (-1) (ag ((a0.1.length:Int)-1))).bind fun r8=>br (!r8.1) (some (.inr (true,()))) ((cg.f n a1.2.2.1 (-1) (ag ((a0.1.length:Int)-1))).bind fun r9=>some (.inr ((!r9.1),()))))) fun y5=>br y5.1 (some (false,())) (cut (α:=(Int×Unit)) (br (decide (0≤a1.1)) (ab (0≤a1.1∧a1.1<(a0.1.length:Int)) (let v12:=(a0.1.getD a1.1.toNat bp); some (.inr (v12.2.1,())))) (some (.inr (1,())))) fun BE=>cut (α:=(Int×Unit)) (br (decide (0≤a1.2.2.1)) (ab (0≤a1.2.2.1∧a1.2.2.1<(a0.1.length:Int)) (let sD:=(a0.1.getD a1.2.2.1.toNat bp); some (.inr (sD.1,())))) (some (.inr (1,())))) fun Hw=>(cg.f n a1.2.1 0 (ag (BE.1-1))).bind fun fN=>br fN.1 ((cg.f n a1.2.2.2.1 0 (ag (Hw.1-1))).bind fun dh=>some (dh.1,())) (some (false,())))
def lz.ae (n:Nat):ar:=⟨[.val cD,.val cq],[.val .bool],fun x=>lz.f n x.1 x.2.1⟩
def lz.cfg (n:Nat):aP:=⟨aV,[(133,cg.ae n)],[],[]⟩
theorem lz.az:cG Tryz.prog 77:=dz Tryz.func77 (by kernel_rfl) (by kernel_rfl)
theorem lz.sound (n:Nat):Sound Tryz.prog 77 (lz.ae n):=hZ (c:=lz.cfg n) (n:=n) (an:=d_ Tryz.f77 lz.bY) ⟨⟨cg.sound n,cg.az⟩,trivial⟩ trivial (dM iP) Tryz.func77 (fun x=>by kernel_rfl)
def fP.bY:List (Nat×LA):=[(3,⟨[(7,.int .i64)],[],[0,5,6],[]⟩)]
def fP.f (n:Nat) (a0:List Int):Option (Bool×Unit):=iter (α:=(Int×Unit)) n (fun lA x6=>br (decide (x6.1<(a0.length:Int))) (ab (0≤x6.1∧x6.1<(a0.length:Int)) ((jf.f n (a0.getD x6.1.toNat 0)).bind fun r8=>br (!r8.1) (some (false,())) (lA ((ag (x6.1+1)),())))) (some ((decide ((a0.length:Int)≤400)),()))) (0,())
def fP.ae (n:Nat):ar:=⟨[.val IS],[.val .bool],fun x=>fP.f n x.1⟩
def fP.cfg (n:Nat):aP:=⟨aV,[(135,jf.ae n)],[],[]⟩
theorem fP.az:cG Tryz.prog 78:=dz Tryz.func78 (by kernel_rfl) (by kernel_rfl)
theorem fP.sound (n:Nat):Sound Tryz.prog 78 (fP.ae n):=hZ (c:=fP.cfg n) (n:=n) (an:=d_ Tryz.f78 fP.bY) ⟨⟨jf.sound n,jf.az⟩,trivial⟩ trivial (dM iP) Tryz.func78 (fun x=>by kernel_rfl)
def jO.bY:List (Nat×LA):=[(4,⟨[(7,.int .i64),(13,.int .i64)],[],[1,2,11,12],[]⟩),(9,⟨[(27,.bool)],[],[1,2,7,8,11,12,13],[]⟩)]
def jO.f (n:Nat) (a0:ai) (a1:Int) (a2:Int):Option (Int×Unit):=iter (α:=(Int×(Int×Unit))) n (fun pA x8=>br (decide (x8.2.1<(a0.2.length:Int))) (ab (0≤x8.2.1∧x8.2.1<(a0.2.length:Int)) (let v10:=(a0.2.getD x8.2.1.toNat aM); cut (α:=(Bool×Unit)) (br (decide (v10.2.2.1=a1)) (some (.inr ((decide (v10.2.2.2.1=a2)),()))) (some (.inr (false,())))) fun BE=>br BE.1 (br (decide (0≤x8.1)) (some ((-2),())) (pA (x8.2.1,((ag (x8.2.1+1)),())))) (pA (x8.1,((ag (x8.2.1+1)),()))))) (some (x8.1,()))) ((-1),(0,()))
def jO.ae (n:Nat):ar:=⟨[.val cD,.val I,.val I],[.val I],fun x=>jO.f n x.1 x.2.1 x.2.2.1⟩
def jO.cfg (n:Nat):aP:=⟨aV,[],[],[]⟩
theorem jO.az:cG Tryz.prog 79:=dz Tryz.func79 (by kernel_rfl) (by kernel_rfl)
theorem jO.sound (n:Nat):Sound Tryz.prog 79 (jO.ae n):=hZ (c:=jO.cfg n) (n:=n) (an:=d_ Tryz.f79 jO.bY) trivial trivial (dM iP) Tryz.func79 (fun x=>by kernel_rfl)
def jP.bY:List (Nat×LA):=[(4,⟨[(7,.int .i64),(13,.int .i64)],[],[1,2,11,12],[]⟩),(9,⟨[(27,.bool)],[],[1,2,7,8,11,12,13],[]⟩)]
def jP.f (n:Nat) (a0:ai) (a1:Int) (a2:Int):Option (Int×Unit):=iter (α:=(Int×(Int×Unit))) n (fun pA x8=>br (decide (x8.2.1<(a0.2.length:Int))) (ab (0≤x8.2.1∧x8.2.1<(a0.2.length:Int)) (let v10:=(a0.2.getD x8.2.1.toNat aM); cut (α:=(Bool×Unit)) (br (decide (v10.1=a1)) (some (.inr ((decide (v10.2.1=a2)),()))) (some (.inr (false,())))) fun BE=>br BE.1 (br (decide (0≤x8.1)) (some ((-2),())) (pA (x8.2.1,((ag (x8.2.1+1)),())))) (pA (x8.1,((ag (x8.2.1+1)),()))))) (some (x8.1,()))) ((-1),(0,()))
def jP.ae (n:Nat):ar:=⟨[.val cD,.val I,.val I],[.val I],fun x=>jP.f n x.1 x.2.1 x.2.2.1⟩
def jP.cfg (n:Nat):aP:=⟨aV,[],[],[]⟩
theorem jP.az:cG Tryz.prog 80:=dz Tryz.func80 (by kernel_rfl) (by kernel_rfl)
theorem jP.sound (n:Nat):Sound Tryz.prog 80 (jP.ae n):=hZ (c:=jP.cfg n) (n:=n) (an:=d_ Tryz.f80 jP.bY) trivial trivial (dM iP) Tryz.func80 (fun x=>by kernel_rfl)
def fo.bY:List (Nat×LA):=[(1,⟨[(20,.bool)],[],[1],[]⟩),(6,⟨[(24,.int .i64)],[],[1,22,23],[]⟩),(17,⟨[(35,.int .i64)],[],[1,33,34],[]⟩),(28,⟨[(53,.int .i64)],[],[1,51,52],[]⟩),(35,⟨[(9,.int .i64)],[],[1,7,8,51,52,53],[]⟩),(45,⟨[(10,.int .i64)],[],[1,7,8,51,52,53],[]⟩)]
def fo.f (n:Nat) (a0:ai):Option (Bool×Unit):=cut (α:=(Bool×Unit)) (br (decide (12<(a0.1.length:Int))) (some (.inr (true,()))) (some (.inr ((decide (30<(a0.2.length:Int))),())))) fun y1=>br y1.1 (some (false,())) (iter (α:=(Int×Unit)) n (fun Hx mj=>br (decide (mj.1<(a0.1.length:Int))) (ab (0≤mj.1∧mj.1<(a0.1.length:Int)) (let sD:=(a0.1.getD mj.1.toNat bp); (iQ.f n sD).bind fun fN=>br (!fN.1) (some (false,())) (Hx ((ag (mj.1+1)),())))) (iter (α:=(Int×Unit)) n (fun Hy kp=>br (decide (kp.1<(a0.2.length:Int))) (ab (0≤kp.1∧kp.1<(a0.2.length:Int)) (let Mr:=(a0.2.getD kp.1.toNat aM); (lz.f n a0 Mr).bind fun jQ=>br (!jQ.1) (some (false,())) ((fP.f n Mr.2.2.2.2).bind fun h_=>br (!h_.1) (some (false,())) (Hy ((ag (kp.1+1)),()))))) (iter (α:=(Int×Unit)) n (fun UW w4=>br (decide (w4.1<(a0.1.length:Int))) (ab (0≤w4.1∧w4.1<(a0.1.length:Int)) (let Ms:=(a0.1.getD w4.1.toNat bp); iter (α:=(Int×Unit)) n (fun UX Hz=>br (decide (Hz.1<Ms.1)) ((jO.f n a0 w4.1 Hz.1).bind fun UY=>br (decide (UY.1<0)) (some (false,())) (UX ((ag (Hz.1+1)),()))) (iter (α:=(Int×Unit)) n (fun UZ HA=>br (decide (HA.1<Ms.2.1)) ((jP.f n a0 w4.1 HA.1).bind fun U_=>br (decide (U_.1<0)) (some (false,())) (UZ ((ag (HA.1+1)),()))) (UW ((ag (w4.1+1)),()))) (0,()))) (0,()))) (some (true,()))) (0,()))) (0,()))) (0,()))
def fo.ae (n:Nat):ar:=⟨[.val cD],[.val .bool],fun x=>fo.f n x.1⟩
def fo.cfg (n:Nat):aP:=⟨aV,[(76,iQ.ae n),(77,lz.ae n),(78,fP.ae n),(79,jO.ae n),(80,jP.ae n)],[],[]⟩
theorem fo.az:cG Tryz.prog 31:=dz Tryz.func31 (by kernel_rfl) (by kernel_rfl)
theorem fo.sound (n:Nat):Sound Tryz.prog 31 (fo.ae n):=hZ (c:=fo.cfg n) (n:=n) (an:=d_ Tryz.f31 fo.bY) ⟨⟨iQ.sound n,iQ.az⟩,⟨⟨lz.sound n,lz.az⟩,⟨⟨fP.sound n,fP.az⟩,⟨⟨jO.sound n,jO.az⟩,⟨⟨jP.sound n,jP.az⟩,trivial⟩⟩⟩⟩⟩ trivial (dM iP) Tryz.func31 (fun x=>by kernel_rfl)
def iR.bY:List (Nat×LA):=[]
def iR.f (n:Nat) (a0:Int):Option (Bool×Unit):=br (decide (0≤a0)) (some ((decide (a0≤3)),())) (some (false,()))
def iR.ae (n:Nat):ar:=⟨[.val I],[.val .bool],fun x=>iR.f n x.1⟩
def iR.cfg (n:Nat):aP:=⟨aV,[],[],[]⟩
theorem iR.az:cG Tryz.prog 183:=dz Tryz.func183 (by kernel_rfl) (by kernel_rfl)
theorem iR.sound (n:Nat):Sound Tryz.prog 183 (iR.ae n):=hZ (c:=iR.cfg n) (n:=n) (an:=d_ Tryz.f183 iR.bY) trivial trivial (dM iP) Tryz.func183 (fun x=>by kernel_rfl)
def isToken.bY:List (Nat×LA):=[]
def isToken.f (n:Nat) (a0:Int):Option (Bool×Unit):=br (decide ((-999999)≤a0)) (some ((decide (a0≤999999)),())) (some (false,()))
def isToken.ae (n:Nat):ar:=⟨[.val I],[.val .bool],fun x=>isToken.f n x.1⟩
def isToken.cfg (n:Nat):aP:=⟨aV,[],[],[]⟩
theorem isToken.az:cG Tryz.prog 97:=dz Tryz.func97 (by kernel_rfl) (by kernel_rfl)
theorem isToken.sound (n:Nat):Sound Tryz.prog 97 (isToken.ae n):=hZ (c:=isToken.cfg n) (n:=n) (an:=d_ Tryz.f97 isToken.bY) trivial trivial (dM iP) Tryz.func97 (fun x=>by kernel_rfl)
def jr.bY:List (Nat×LA):=[(1,⟨[(9,.bool)],[],[1,2,4],[]⟩),(14,⟨[(83,.bool)],[],[4,9,25],[]⟩),(26,⟨[(109,.bool)],[],[4,9,25],[]⟩)]
def jr.f (n:Nat) (a0:Instr) (a1:Int) (a2:Int) (a3:Int):Option (Bool×Unit):=cut (α:=(Bool×Unit)) (br (decide (0≤a0.2.2.1)) (br (decide (a0.2.2.1≤a3)) (some (.inr ((decide (a0.2.2.2=0)),()))) (some (.inr (false,())))) (some (.inr (false,())))) fun y1=>br (decide (a0.1=1)) ((iR.f n a0.2.1).bind fun r2=>br r2.1 (br (decide (0≤a0.2.2.1)) (br (decide (a0.2.2.1<a1)) (some ((decide (a0.2.2.2=0)),())) (some (false,()))) (some (false,()))) (some (false,()))) (br (decide (a0.1=2)) ((iR.f n a0.2.1).bind fun r3=>br r3.1 (br (decide (0≤a0.2.2.1)) (br (decide (a0.2.2.1<a2)) (some ((decide (a0.2.2.2=0)),())) (some (false,()))) (some (false,()))) (some (false,()))) (br (decide (a0.1=3)) ((iR.f n a0.2.1).bind fun r4=>br r4.1 ((isToken.f n a0.2.2.1).bind fun r5=>br r5.1 (some ((decide (a0.2.2.2=0)),())) (some (false,()))) (some (false,()))) (cut (α:=(Bool×Unit)) (br (decide (a0.1=4)) (some (.inr ((decide (a0.1=4)),()))) (br (decide (a0.1=5)) (some (.inr ((decide (a0.1=5)),()))) (br (decide (a0.1=6)) (some (.inr ((decide (a0.1=6)),()))) (some (.inr ((decide (a0.1=7)),())))))) fun y6=>br y6.1 ((iR.f n a0.2.1).bind fun r7=>br r7.1 ((iR.f n a0.2.2.1).bind fun r8=>br r8.1 ((iR.f n a0.2.2.2).bind fun r9=>some (r9.1,())) (some (false,()))) (some (false,()))) (br (decide (a0.1=8)) (br (decide (a0.2.1=0)) (some (y1.1,())) (some (false,()))) (cut (α:=(Bool×Unit)) (br (decide (a0.1=9)) (some (.inr ((decide (a0.1=9)),()))) (some (.inr ((decide (a0.1=10)),())))) fun HB=>br HB.1 ((iR.f n a0.2.1).bind fun dA=>br dA.1 (some (y1.1,())) (some (false,()))) (br (decide (a0.1=11)) (some ((decide (a0.1=11)&&(decide (a0.2.1=0)&&(decide (a0.2.2.1=0)&&(decide (a0.2.2.2=0)&&true)))),())) (some (false,()))))))))
def jr.ae (n:Nat):ar:=⟨[.val df,.val I,.val I,.val I],[.val .bool],fun x=>jr.f n x.1 x.2.1 x.2.2.1 x.2.2.2.1⟩
def jr.cfg (n:Nat):aP:=⟨aV,[(183,iR.ae n),(97,isToken.ae n)],[],[]⟩
theorem jr.az:cG Tryz.prog 145:=dz Tryz.func145 (by kernel_rfl) (by kernel_rfl)
theorem jr.sound (n:Nat):Sound Tryz.prog 145 (jr.ae n):=hZ (c:=jr.cfg n) (n:=n) (an:=d_ Tryz.f145 jr.bY) ⟨⟨iR.sound n,iR.az⟩,⟨⟨isToken.sound n,isToken.az⟩,trivial⟩⟩ trivial (dM iP) Tryz.func145 (fun x=>by kernel_rfl)
def lB.bY:List (Nat×LA):=[]
def lB.f (n:Nat) (a0:Instr) (a1:Program):Option (Bool×Unit):=(jr.f n a0 a1.1 a1.2.1 (a1.2.2.length:Int)).bind fun r1=>some ((!r1.1),())
def lB.ae (n:Nat):ar:=⟨[.val df,.ee bn],[.val .bool],fun x=>lB.f n x.1 x.2.1⟩
def lB.cfg (n:Nat):aP:=⟨aV,[(145,jr.ae n)],[],[]⟩
theorem lB.az:cG Tryz.prog 144:=dz Tryz.func144 (by kernel_rfl) (by kernel_rfl)
theorem lB.sound (n:Nat):Sound Tryz.prog 144 (lB.ae n):=hZ (c:=lB.cfg n) (n:=n) (an:=d_ Tryz.f144 lB.bY) ⟨⟨jr.sound n,jr.az⟩,trivial⟩ trivial (dM iP) Tryz.func144 (fun x=>by kernel_rfl)
def ml.bY:List (Nat×LA):=[(3,⟨[(8,.int .i64)],[],[0,1,7],[]⟩)]
def ml.f (n:Nat) (a0:List Instr) (a1:(Program×Unit)):Option (Int×Unit):=iter (α:=(Int×Unit)) n (fun HC x7=>br (decide (x7.1<(a0.length:Int))) (ab (0≤x7.1∧x7.1<(a0.length:Int)) (let v9:=(a0.getD x7.1.toNat je); (lB.f n v9 a1.1).bind fun cH=>br cH.1 (some (x7.1,())) (HC ((ag (x7.1+1)),())))) (some ((-1),()))) (0,())
def ml.ae (n:Nat):ar:=⟨[.val (.sl df),.gB 144 [.ee bn]],[.val I],fun x=>ml.f n x.1 x.2.1⟩
def ml.cfg (n:Nat):aP:=⟨aV,[(144,lB.ae n)],[],[]⟩
theorem ml.az:cG Tryz.prog 182:=dz Tryz.func182 (by kernel_rfl) (by kernel_rfl)
theorem ml.sound (n:Nat):Sound Tryz.prog 182 (ml.ae n):=hZ (c:=ml.cfg n) (n:=n) (an:=d_ Tryz.f182 ml.bY) ⟨⟨lB.sound n,lB.az⟩,trivial⟩ trivial (dM iP) Tryz.func182 (fun x=>by kernel_rfl)
def mm.bY:List (Nat×LA):=[]
def mm.f (n:Nat) (a0:List Instr) (a1:(Program×Unit)):Option (Bool×Unit):=(ml.f n a0 (a1.1,())).bind fun r1=>some ((decide (0≤r1.1)),())
def mm.ae (n:Nat):ar:=⟨[.val (.sl df),.gB 144 [.ee bn]],[.val .bool],fun x=>mm.f n x.1 x.2.1⟩
def mm.cfg (n:Nat):aP:=⟨aV,[(182,ml.ae n)],[],[]⟩
theorem mm.az:cG Tryz.prog 143:=dz Tryz.func143 (by kernel_rfl) (by kernel_rfl)
theorem mm.sound (n:Nat):Sound Tryz.prog 143 (mm.ae n):=hZ (c:=mm.cfg n) (n:=n) (an:=d_ Tryz.f143 mm.bY) ⟨⟨ml.sound n,ml.az⟩,trivial⟩ trivial (dM iP) Tryz.func143 (fun x=>by kernel_rfl)
def gq.bY:List (Nat×LA):=[(1,⟨[(32,.bool)],[],[1],[]⟩)]
def gq.f (n:Nat) (a0:Program):Option (Bool×Unit):=cut (α:=(Bool×Unit)) (br (decide (a0.1<0)) (some (.inr (true,()))) (br (decide (3<a0.1)) (some (.inr (true,()))) (br (decide (a0.2.1<0)) (some (.inr (true,()))) (br (decide (3<a0.2.1)) (some (.inr (true,()))) (br (decide ((a0.2.2.length:Int)<1)) (some (.inr (true,()))) (some (.inr ((decide (24<(a0.2.2.length:Int))),())))))))) fun y1=>br y1.1 (some (false,())) ((mm.f n a0.2.2 (a0,())).bind fun r2=>some ((!r2.1),()))
def gq.ae (n:Nat):ar:=⟨[.val bn],[.val .bool],fun x=>gq.f n x.1⟩
def gq.cfg (n:Nat):aP:=⟨aV,[(143,mm.ae n)],[],[]⟩
theorem gq.az:cG Tryz.prog 91:=dz Tryz.func91 (by kernel_rfl) (by kernel_rfl)
theorem gq.sound (n:Nat):Sound Tryz.prog 91 (gq.ae n):=hZ (c:=gq.cfg n) (n:=n) (an:=d_ Tryz.f91 gq.bY) ⟨⟨mm.sound n,mm.az⟩,trivial⟩ trivial (dM iP) Tryz.func91 (fun x=>by kernel_rfl)
def lC.bY:List (Nat×LA):=[]
def lC.f (n:Nat) (a0:Int):Option (Bool×Unit):=(isToken.f n a0).bind fun r1=>some ((!r1.1),())
def lC.ae (n:Nat):ar:=⟨[.val I],[.val .bool],fun x=>lC.f n x.1⟩
def lC.cfg (n:Nat):aP:=⟨aV,[(97,isToken.ae n)],[],[]⟩
theorem lC.az:cG Tryz.prog 96:=dz Tryz.func96 (by kernel_rfl) (by kernel_rfl)
theorem lC.sound (n:Nat):Sound Tryz.prog 96 (lC.ae n):=hZ (c:=lC.cfg n) (n:=n) (an:=d_ Tryz.f96 lC.bY) ⟨⟨isToken.sound n,isToken.az⟩,trivial⟩ trivial (dM iP) Tryz.func96 (fun x=>by kernel_rfl)
def mn.bY:List (Nat×LA):=[(3,⟨[(8,.int .i64)],[],[0,1,7],[]⟩)]
def mn.f (n:Nat) (a0:List Int) (a1:(Unit)):Option (Int×Unit):=iter (α:=(Int×Unit)) n (fun gP x5=>br (decide (x5.1<(a0.length:Int))) (ab (0≤x5.1∧x5.1<(a0.length:Int)) ((lC.f n (a0.getD x5.1.toNat 0)).bind fun r7=>br r7.1 (some (x5.1,())) (gP ((ag (x5.1+1)),())))) (some ((-1),()))) (0,())
def mn.ae (n:Nat):ar:=⟨[.val IS,.gB 96 []],[.val I],fun x=>mn.f n x.1 x.2.1⟩
def mn.cfg (n:Nat):aP:=⟨aV,[(96,lC.ae n)],[],[]⟩
theorem mn.az:cG Tryz.prog 148:=dz Tryz.func148 (by kernel_rfl) (by kernel_rfl)
theorem mn.sound (n:Nat):Sound Tryz.prog 148 (mn.ae n):=hZ (c:=mn.cfg n) (n:=n) (an:=d_ Tryz.f148 mn.bY) ⟨⟨lC.sound n,lC.az⟩,trivial⟩ trivial (dM iP) Tryz.func148 (fun x=>by kernel_rfl)
def mo.bY:List (Nat×LA):=[]
def mo.f (n:Nat) (a0:List Int) (a1:(Unit)):Option (Bool×Unit):=(mn.f n a0 ()).bind fun r1=>some ((decide (0≤r1.1)),())
def mo.ae (n:Nat):ar:=⟨[.val IS,.gB 96 []],[.val .bool],fun x=>mo.f n x.1 x.2.1⟩
def mo.cfg (n:Nat):aP:=⟨aV,[(148,mn.ae n)],[],[]⟩
theorem mo.az:cG Tryz.prog 95:=dz Tryz.func95 (by kernel_rfl) (by kernel_rfl)
theorem mo.sound (n:Nat):Sound Tryz.prog 95 (mo.ae n):=hZ (c:=mo.cfg n) (n:=n) (an:=d_ Tryz.f95 mo.bY) ⟨⟨mn.sound n,mn.az⟩,trivial⟩ trivial (dM iP) Tryz.func95 (fun x=>by kernel_rfl)
def dG.bY:List (Nat×LA):=[]
def dG.f (n:Nat) (a0:List Int):Option (Bool×Unit):=br (decide ((a0.length:Int)≤400)) ((mo.f n a0 ()).bind fun r1=>some ((!r1.1),())) (some (false,()))
def dG.ae (n:Nat):ar:=⟨[.val IS],[.val .bool],fun x=>dG.f n x.1⟩
def dG.cfg (n:Nat):aP:=⟨aV,[(95,mo.ae n)],[],[]⟩
theorem dG.az:cG Tryz.prog 49:=dz Tryz.func49 (by kernel_rfl) (by kernel_rfl)
theorem dG.sound (n:Nat):Sound Tryz.prog 49 (dG.ae n):=hZ (c:=dG.cfg n) (n:=n) (an:=d_ Tryz.f49 dG.bY) ⟨⟨mo.sound n,mo.az⟩,trivial⟩ trivial (dM iP) Tryz.func49 (fun x=>by kernel_rfl)
def dq.bY:List (Nat×LA):=[(1,⟨[(22,.bool)],[],[1],[]⟩),(7,⟨[(3,.int .i64),(26,.int .i64)],[],[1,24,25],[]⟩),(20,⟨[(6,.int .i64),(44,.int .i64)],[],[1,3,42,43],[]⟩),(25,⟨[(9,.bool),(10,.bool)],[],[1,3,6,7,8,42,43,44],[]⟩),(26,⟨[(92,.bool)],[],[1,3,6,7,8,9,10,42,43,44],[]⟩),(27,⟨[(6,.int .i64)],[],[1,3,7,8,9,10,42,43,44],[]⟩),(32,⟨[(124,.bool)],[],[1,3,6,7,8,9,10,42,43,44],[]⟩),(33,⟨[(6,.int .i64)],[],[1,3,7,8,9,10,42,43,44],[]⟩),(38,⟨[(138,.bool)],[],[1,3,6,7,8,42,43,44],[]⟩),(43,⟨[(144,.int .i64)],[],[1,3,6,8,42,43,44,142,143],[]⟩)]
def dq.f (n:Nat) (a0:ai):Option (Bool×Unit):=cut (α:=(Bool×Unit)) (br (decide (12<(a0.1.length:Int))) (some (.inr (true,()))) (some (.inr ((decide (30<(a0.2.length:Int))),())))) fun y1=>br y1.1 (some (false,())) (iter (α:=(Int×(Int×Unit))) n (fun w5 dr=>br (decide (dr.2.1<(a0.1.length:Int))) (ab (0≤dr.2.1∧dr.2.1<(a0.1.length:Int)) (let w6:=(a0.1.getD dr.2.1.toNat bp); (gq.f n w6).bind fun dh=>br (!dh.1) (some (false,())) (w5 ((ag (dr.1+(ag (w6.1+w6.2.1)))),((ag (dr.2.1+1)),()))))) (iter (α:=(Int×(Int×Unit))) n (fun U4 nj=>br (decide (nj.2.1<(a0.2.length:Int))) (ab (0≤nj.2.1∧nj.2.1<(a0.2.length:Int)) (let dU:=(a0.2.getD nj.2.1.toNat aM); cut (α:=(Bool×(Bool×Unit))) (br (decide (dU.1=(-1))) (br (decide (dU.2.2.1=(-1))) (some (.inr ((decide (dU.2.1=0)),((decide (dU.2.2.2.1=0)),())))) (some (.inr ((decide (dU.2.1=0)),(false,()))))) (br (decide (dU.2.2.1=(-1))) (some (.inr (false,((decide (dU.2.2.2.1=0)),())))) (some (.inr (false,(false,())))))) fun D2=>cut (α:=(Bool×Unit)) (br (decide (0≤dU.1)) (br (decide (dU.1<(a0.1.length:Int))) (br (decide (0≤dU.2.1)) (ab (0≤dU.1∧dU.1<(a0.1.length:Int)) (let U5:=(a0.1.getD dU.1.toNat bp); some (.inr ((decide (dU.2.1<U5.2.1)),())))) (some (.inr (false,())))) (some (.inr (false,())))) (some (.inr (false,())))) fun U6=>cut (α:=(Int×Unit)) (br U6.1 (some (.inr ((ag (nj.1+1)),()))) (br (!D2.1) (some (.inl (false,()))) (some (.inr (nj.1,()))))) fun Mt=>cut (α:=(Bool×Unit)) (br (decide (0≤dU.2.2.1)) (br (decide (dU.2.2.1<(a0.1.length:Int))) (br (decide (0≤dU.2.2.2.1)) (ab (0≤dU.2.2.1∧dU.2.2.1<(a0.1.length:Int)) (let U7:=(a0.1.getD dU.2.2.1.toNat bp); some (.inr ((decide (dU.2.2.2.1<U7.1)),())))) (some (.inr (false,())))) (some (.inr (false,())))) (some (.inr (false,())))) fun U9=>cut (α:=(Int×Unit)) (br U9.1 (some (.inr ((ag (Mt.1+1)),()))) (br (!D2.2.1) (some (.inl (false,()))) (some (.inr (Mt.1,()))))) fun Va=>cut (α:=(Bool×Unit)) (br D2.1 (br D2.2.1 (some (.inr (true,()))) ((dG.f n dU.2.2.2.2).bind fun Vb=>some (.inr ((!Vb.1),())))) ((dG.f n dU.2.2.2.2).bind fun Vc=>some (.inr ((!Vc.1),())))) fun Vd=>br Vd.1 (some (false,())) (ab ((0:Int)≤0∧(0:Int)≤nj.2.1∧nj.2.1≤(a0.2.length:Int)) (iter (α:=(Int×Unit)) n (fun sE nk=>br (decide (nk.1<(((a0.2.take nj.2.1.toNat).drop 0).length:Int))) (ab (0≤nk.1∧nk.1<(((a0.2.take nj.2.1.toNat).drop 0).length:Int)) (let uG:=(((a0.2.take nj.2.1.toNat).drop 0).getD nk.1.toNat aM); br (decide (0≤dU.1)) (br (decide (uG.1=dU.1)) (br (decide (uG.2.1=dU.2.1)) (some (false,())) (br (decide (0≤dU.2.2.1)) (br (decide (uG.2.2.1=dU.2.2.1)) (br (decide (uG.2.2.2.1=dU.2.2.2.1)) (some (false,())) (sE ((ag (nk.1+1)),()))) (sE ((ag (nk.1+1)),()))) (sE ((ag (nk.1+1)),())))) (br (decide (0≤dU.2.2.1)) (br (decide (uG.2.2.1=dU.2.2.1)) (br (decide (uG.2.2.2.1=dU.2.2.2.1)) (some (false,())) (sE ((ag (nk.1+1)),()))) (sE ((ag (nk.1+1)),()))) (sE ((ag (nk.1+1)),())))) (br (decide (0≤dU.2.2.1)) (br (decide (uG.2.2.1=dU.2.2.1)) (br (decide (uG.2.2.2.1=dU.2.2.2.1)) (some (false,())) (sE ((ag (nk.1+1)),()))) (sE ((ag (nk.1+1)),()))) (sE ((ag (nk.1+1)),()))))) (U4 (Va.1,((ag (nj.2.1+1)),())))) (0,()))))) (some ((decide (nj.1=dr.1)),()))) (0,(0,())))) (0,(0,())))
def dq.ae (n:Nat):ar:=⟨[.val cD],[.val .bool],fun x=>dq.f n x.1⟩
def dq.cfg (n:Nat):aP:=⟨aV,[(91,gq.ae n),(49,dG.ae n)],[],[]⟩
theorem dq.az:cG Tryz.prog 46:=dz Tryz.func46 (by kernel_rfl) (by kernel_rfl)
theorem dq.sound (n:Nat):Sound Tryz.prog 46 (dq.ae n):=hZ (c:=dq.cfg n) (n:=n) (an:=d_ Tryz.f46 dq.bY) ⟨⟨gq.sound n,gq.az⟩,⟨⟨dG.sound n,dG.az⟩,trivial⟩⟩ trivial (dM iP) Tryz.func46 (fun x=>by kernel_rfl)
end
end Go.AmT
namespace Go.AmT
open Go Go.Am
set_option linter.unusedVariables false
set_option linter.unusedSimpArgs false
theorem bF {α ρ:Type} (y:α) (f:α→Option ρ):cut (some (.inr y)) f=f y:=rfl
theorem sF (n:Nat) (a b c:Int):cg.f n a b c=some (decide (b≤a)&&decide (a≤c),()):=by
 unfold cg.f
 by_cases h:b≤a<;>simp [h,br]
def small (k:Nat):Prop:=k≤1048576
structure nZ (p:Program):Prop where
 code:p.2.2.length≤1048576
structure D3 (l:aG):Prop where
 tokens:l.2.2.2.2.length≤1048576
structure cL (nt:ai):Prop where
 ew:nt.1.length≤1048576
 prog:∀ p∈nt.1,nZ p
 dt:nt.2.length≤1048576
 link:∀ l∈nt.2,D3 l
def Left (left:Int) (o:Option (Int×Unit)) (P:Prop):Prop:=∃ r:Int,o=some (r,())∧r≤left∧(0≤r→P)
def eQ (a:Int):Bool:=decide (0≤a)&&decide (a≤3)
def tok (a:Int):Bool:=decide (-999999≤a)&&decide (a≤999999)
def eG (ins outs size:Int) (x:Instr):Bool:=
 if x.1=1 then eQ x.2.1&&(decide (0≤x.2.2.1)&&decide (x.2.2.1<ins)&&decide (x.2.2.2=0))
 else if x.1=2 then eQ x.2.1&&(decide (0≤x.2.2.1)&&decide (x.2.2.1<outs)&&decide (x.2.2.2=0))
 else if x.1=3 then eQ x.2.1&&(tok x.2.2.1&&decide (x.2.2.2=0))
 else if x.1=4∨x.1=5∨x.1=6∨x.1=7 then eQ x.2.1&&(eQ x.2.2.1&&eQ x.2.2.2)
 else if x.1=8 then decide (x.2.1=0)&&(decide (0≤x.2.2.1)&&decide (x.2.2.1≤size)&&decide (x.2.2.2=0))
 else if x.1=9∨x.1=10 then eQ x.2.1&&(decide (0≤x.2.2.1)&&decide (x.2.2.1≤size)&&decide (x.2.2.2=0))
 else if x.1=11 then decide (x.2.1=0)&&(decide (x.2.2.1=0)&&decide (x.2.2.2=0))
 else false
def cr (p:Program):Bool:=decide (0≤p.1)&&decide (p.1≤3)&&(decide (0≤p.2.1)&&decide (p.2.1≤3))&&(decide (1≤p.2.2.length)&&decide (p.2.2.length≤24))&&p.2.2.all (eG p.1 p.2.1 (p.2.2.length:Int))
def bG (s:List Int):Bool:=decide (s.length≤400)&&s.all tok
theorem Ve (n:Nat) (a:Int):iR.f n a=some (eQ a,()):=by
 unfold iR.f eQ
 by_cases h:0≤a<;>simp [h,br]
theorem Mu (n:Nat) (a:Int):isToken.f n a=some (tok a,()):=by
 unfold isToken.f tok
 by_cases h : -999999≤a<;>simp [h,br]
theorem Mv (n:Nat) (a:Int):jf.f n a=some (tok a,()):=by
 unfold jf.f tok
 rw [sF]; rfl
theorem Mw (n:Nat) (x:Instr) (ins outs size:Int):jr.f n x ins outs size=some (eG ins outs size x,()):=by
 have e1:(br (decide (0≤x.2.2.1)) (br (decide (x.2.2.1≤size)) (some (Sum.inr (α:=Bool×Unit) (decide (x.2.2.2=0),()))) (some (.inr (false,())))) (some (.inr (false,()))))=some (.inr ((decide (0≤x.2.2.1)&&decide (x.2.2.1≤size)&&decide (x.2.2.2=0)),())):=by
  cases decide (0≤x.2.2.1)<;>cases decide (x.2.2.1≤size)<;>rfl
 unfold jr.f eG
 simp only [e1,bF,Ve,Mu,Option.bind_some]
 by_cases h1:x.1=1
 ·simp only [h1,decide_true,aL,if_true]
  cases eQ x.2.1<;>cases decide (0≤x.2.2.1)<;>cases decide (x.2.2.1<ins)<;>rfl
 by_cases h2:x.1=2
 ·simp only [h2,decide_true,decide_false,aL,aF,if_true,show ¬ ((2:Int)=1) by omega,if_false]
  cases eQ x.2.1<;>cases decide (0≤x.2.2.1)<;>cases decide (x.2.2.1<outs)<;>rfl
 by_cases h3:x.1=3
 ·simp only [h3,decide_true,decide_false,aL,aF,if_true,show ¬ ((3:Int)=1) by omega,show ¬ ((3:Int)=2) by omega,if_false]
  cases eQ x.2.1<;>cases tok x.2.2.1<;>rfl
 simp only [h1,h2,h3,decide_false,aF,if_false]
 by_cases h4:x.1=4∨x.1=5∨x.1=6∨x.1=7
 ·have e2:br (decide (x.1=4)) (some (Sum.inr (α:=Bool×Unit) (decide (x.1=4),()))) (br (decide (x.1=5)) (some (.inr (decide (x.1=5),()))) (br (decide (x.1=6)) (some (.inr (decide (x.1=6),()))) (some (.inr (decide (x.1=7),())))))=some (.inr (true,())):=by
   rcases h4 with h | h | h | h<;>simp [h,br]
  rw [e2]
  simp only [h4,if_true,bF,aL]
  cases eQ x.2.1<;>cases eQ x.2.2.1<;>rfl
 ·have e2:br (decide (x.1=4)) (some (Sum.inr (α:=Bool×Unit) (decide (x.1=4),()))) (br (decide (x.1=5)) (some (.inr (decide (x.1=5),()))) (br (decide (x.1=6)) (some (.inr (decide (x.1=6),()))) (some (.inr (decide (x.1=7),())))))=some (.inr (false,())):=by
   simp only [not_or] at h4
   simp [h4,br]
  rw [e2]
  simp only [h4,if_false,bF,aF]
  by_cases h8:x.1=8
  ·simp only [h8,decide_true,aL,if_true]
   cases decide (x.2.1=0)<;>rfl
  ·simp only [h8,decide_false,aF,if_false]
   by_cases h9:x.1=9∨x.1=10
   ·have e3:br (decide (x.1=9)) (some (Sum.inr (α:=Bool×Unit) (decide (x.1=9),()))) (some (.inr (decide (x.1=10),())))=some (.inr (true,())):=by
     rcases h9 with h | h<;>simp [h,br]
    rw [e3]
    simp only [h9,if_true,bF,aL]
    cases eQ x.2.1<;>rfl
   ·have e3:br (decide (x.1=9)) (some (Sum.inr (α:=Bool×Unit) (decide (x.1=9),()))) (some (.inr (decide (x.1=10),())))=some (.inr (false,())):=by
     simp only [not_or] at h9
     simp [h9,br]
    rw [e3]
    simp only [h9,if_false,bF,aF]
    by_cases gE:x.1=11
    ·simp only [gE,decide_true,aL,if_true,Bool.and_true,Bool.true_and]
    ·simp only [gE,decide_false,aF,if_false]
theorem Vf (b ins:Int):decide (b≤ins-1)=decide (b<ins):=by
 by_cases h:b<ins
 ·rw [decide_eq_true h,decide_eq_true (by omega)]
 ·rw [decide_eq_false h,decide_eq_false (by omega)]
theorem Mx (n:Nat) (p:Program) (x:Instr) (hi:0≤p.1∧p.1≤3) (ho:0≤p.2.1∧p.2.1≤3):jN.f n p x=some (eG p.1 p.2.1 (p.2.2.length:Int) x,()):=by
 have w1:ag (p.1-1)=p.1-1:=bo (by omega) (by omega)
 have w2:ag (p.2.1-1)=p.2.1-1:=bo (by omega) (by omega)
 have e0:(br (eQ x.2.1) (br (eQ x.2.2.1) (some (Sum.inr (α:=Bool×Unit) (eQ x.2.2.2,()))) (some (.inr (false,())))) (some (.inr (false,()))))=some (.inr ((eQ x.2.1&&(eQ x.2.2.1&&eQ x.2.2.2)),())):=by
  cases eQ x.2.1<;>cases eQ x.2.2.1<;>rfl
 have e1:(br (decide (0≤x.2.2.1)&&decide (x.2.2.1≤(p.2.2.length:Int))) (some (Sum.inr (α:=Bool×Unit) (decide (x.2.2.2=0),()))) (some (.inr (false,()))))=some (.inr ((decide (0≤x.2.2.1)&&decide (x.2.2.1≤(p.2.2.length:Int))&&decide (x.2.2.2=0)),())):=by
  cases decide (0≤x.2.2.1)<;>cases decide (x.2.2.1≤(p.2.2.length:Int))<;>rfl
 have hr:∀ a:Int,cg.f n a 0 3=some (eQ a,()):=fun a=>sF n a 0 3
 unfold jN.f eG
 simp only [hr,Option.bind_some,e0,sF,e1,bF,Mv,w1,w2,Vf]
 by_cases h1:x.1=1
 ·simp only [h1,decide_true,aL,if_true]
  cases eQ x.2.1<;>cases decide (0≤x.2.2.1)<;>cases decide (x.2.2.1<p.1)<;>rfl
 by_cases h2:x.1=2
 ·simp only [h2,decide_true,decide_false,aL,aF,if_true,show ¬ ((2:Int)=1) by omega,if_false]
  cases eQ x.2.1<;>cases decide (0≤x.2.2.1)<;>cases decide (x.2.2.1<p.2.1)<;>rfl
 by_cases h3:x.1=3
 ·simp only [h3,decide_true,decide_false,aL,aF,if_true,show ¬ ((3:Int)=1) by omega,show ¬ ((3:Int)=2) by omega,if_false]
  cases eQ x.2.1<;>cases tok x.2.2.1<;>rfl
 simp only [h1,h2,h3,decide_false,aF,if_false]
 by_cases h4:x.1=4∨x.1=5∨x.1=6∨x.1=7
 ·have e2:br (decide (x.1=4)) (some (Sum.inr (α:=Bool×Unit) (decide (x.1=4),()))) (br (decide (x.1=5)) (some (.inr (decide (x.1=5),()))) (br (decide (x.1=6)) (some (.inr (decide (x.1=6),()))) (some (.inr (decide (x.1=7),())))))=some (.inr (true,())):=by
   rcases h4 with h | h | h | h<;>simp [h,br]
  rw [e2]
  simp only [h4,if_true,bF,aL]
 ·have e2:br (decide (x.1=4)) (some (Sum.inr (α:=Bool×Unit) (decide (x.1=4),()))) (br (decide (x.1=5)) (some (.inr (decide (x.1=5),()))) (br (decide (x.1=6)) (some (.inr (decide (x.1=6),()))) (some (.inr (decide (x.1=7),())))))=some (.inr (false,())):=by
   simp only [not_or] at h4
   simp [h4,br]
  rw [e2]
  simp only [h4,if_false,bF,aF]
  by_cases h8:x.1=8
  ·simp only [h8,decide_true,aL,if_true]
   cases decide (x.2.1=0)<;>rfl
  ·simp only [h8,decide_false,aF,if_false]
   by_cases h9:x.1=9∨x.1=10
   ·have e3:br (decide (x.1=9)) (some (Sum.inr (α:=Bool×Unit) (decide (x.1=9),()))) (some (.inr (decide (x.1=10),())))=some (.inr (true,())):=by
     rcases h9 with h | h<;>simp [h,br]
    rw [e3]
    simp only [h9,if_true,bF,aL]
    cases eQ x.2.1<;>rfl
   ·have e3:br (decide (x.1=9)) (some (Sum.inr (α:=Bool×Unit) (decide (x.1=9),()))) (some (.inr (decide (x.1=10),())))=some (.inr (false,())):=by
     simp only [not_or] at h9
     simp [h9,br]
    rw [e3]
    simp only [h9,if_false,bF,aF]
    by_cases gE:x.1=11
    ·simp only [gE,decide_true,aL,if_true]
     cases decide (x.2.1=0)<;>cases decide (x.2.2.1=0)<;>rfl
    ·simp only [gE,decide_false,aF,if_false]
theorem HD {n:Nat} {p:Program} (hp:nZ p) (hn:1048576<n):iQ.f n p=some (cr p,()):=by
 have hc:=hp.code
 unfold iQ.f cr
 simp only [sF,Option.bind_some]
 by_cases h1:0≤p.1∧p.1≤3
 ·by_cases h2:0≤p.2.1∧p.2.1≤3
  ·by_cases h3:1≤p.2.2.length∧p.2.2.length≤24
   ·simp only [h1.1,h1.2,h2.1,h2.2,h3.1,h3.2,show (1:Int)≤(p.2.2.length:Int) by omega,show (p.2.2.length:Int)≤24 by omega,decide_true,Bool.and_self,Bool.not_true,aF,Bool.true_and,bF]
    refine TT p.2.2 (eG p.1 p.2.1 (p.2.2.length:Int)) (fun ih i hi=>?_) (fun ih=>?_) (by omega)
    ·have h4:(i:Int)<(p.2.2.length:Int):=by omega
     simp only [h4,decide_true,aL,Int.toNat_natCast,aH hi,Mx n p _ h1 h2,Option.bind_some]
     rw [ah (by simp),bm (by omega),nY]
     cases eG p.1 p.2.1 (p.2.2.length:Int) p.2.2[i]<;>rfl
    ·simp [br]
   ·have e1:(decide ((1:Int)≤(p.2.2.length:Int))&&decide ((p.2.2.length:Int)≤24))=false:=by
     rw [← Bool.not_eq_true]; simp only [Bool.and_eq_true,decide_eq_true_eq]; omega
    have e2:(decide (1≤p.2.2.length)&&decide (p.2.2.length≤24))=false:=by
     rw [← Bool.not_eq_true]; simp only [Bool.and_eq_true,decide_eq_true_eq]; omega
    simp [h1,h2,e1,e2,br,cut]
  ·have e2:(decide (0≤p.2.1)&&decide (p.2.1≤3))=false:=by
    rw [← Bool.not_eq_true]; simp only [Bool.and_eq_true,decide_eq_true_eq]; omega
   simp [h1,e2,br,cut]
 ·have e2:(decide (0≤p.1)&&decide (p.1≤3))=false:=by
   rw [← Bool.not_eq_true]; simp only [Bool.and_eq_true,decide_eq_true_eq]; omega
  simp [e2,br,cut]
theorem BF {n:Nat} {p:Program} (hp:nZ p) (hn:1048576<n):gq.f n p=some (cr p,()):=by
 have hc:=hp.code
 unfold gq.f cr
 by_cases h1:0≤p.1∧p.1≤3
 ·by_cases h2:0≤p.2.1∧p.2.1≤3
  ·by_cases h3:1≤p.2.2.length∧p.2.2.length≤24
   ·have a1:¬ (p.1<0):=by omega
    have a2:¬ (3<p.1):=by omega
    have a3:¬ (p.2.1<0):=by omega
    have a4:¬ (3<p.2.1):=by omega
    have a5:¬ ((p.2.2.length:Int)<1):=by omega
    have a6:¬ (24<(p.2.2.length:Int)):=by omega
    simp only [a1,a2,a3,a4,a5,a6,h1.1,h1.2,h2.1,h2.2,h3.1,h3.2,decide_true,decide_false,aF,bF,Bool.and_self,Bool.true_and]
    unfold mm.f ml.f
    obtain ⟨r,e1,e2⟩:=G5 p.2.2 (fun x=>!(eG p.1 p.2.1 (p.2.2.length:Int) x)) (n:=n) (F:=fun lA x6=>br (decide (x6.1<(p.2.2.length:Int))) (ab (0≤x6.1∧x6.1<(p.2.2.length:Int)) (let v8:=(p.2.2.getD x6.1.toNat je); (lB.f n v8 p).bind fun r9=>br r9.1 (some (x6.1,())) (lA ((ag (x6.1+1)),())))) (some ((-1),())))
     (fun ih i hi=>by
      have h4:(i:Int)<(p.2.2.length:Int):=by omega
      unfold lB.f
      simp only [h4,decide_true,aL,Int.toNat_natCast,aH hi,Mw,Option.bind_some]
      rw [ah (by simp),bm (by omega),nY]) (fun ih=>by simp [br]) (by omega)
    rw [e1]
    simp only [Option.bind_some,e2]
    congr 2
    rw [List.any_eq_not_all_not]
    simp
   ·have e2:(decide (1≤p.2.2.length)&&decide (p.2.2.length≤24))=false:=by
     rw [← Bool.not_eq_true]; simp only [Bool.and_eq_true,decide_eq_true_eq]; omega
    have a1:¬ (p.1<0):=by omega
    have a2:¬ (3<p.1):=by omega
    have a3:¬ (p.2.1<0):=by omega
    have a4:¬ (3<p.2.1):=by omega
    by_cases a5:(p.2.2.length:Int)<1
    ·simp [a1,a2,a3,a4,a5,e2,br,cut]
    ·have a6:(24<(p.2.2.length:Int)):=by omega
     simp [a1,a2,a3,a4,a5,a6,e2,br,cut]
  ·have e2:(decide (0≤p.2.1)&&decide (p.2.1≤3))=false:=by
    rw [← Bool.not_eq_true]; simp only [Bool.and_eq_true,decide_eq_true_eq]; omega
   have a1:¬ (p.1<0):=by omega
   have a2:¬ (3<p.1):=by omega
   by_cases a3:p.2.1<0
   ·simp [a1,a2,a3,e2,br,cut]
   ·have a4:(3<p.2.1):=by omega
    simp [a1,a2,a3,a4,e2,br,cut]
 ·have e2:(decide (0≤p.1)&&decide (p.1≤3))=false:=by
   rw [← Bool.not_eq_true]; simp only [Bool.and_eq_true,decide_eq_true_eq]; omega
  by_cases a1:p.1<0
  ·simp [a1,e2,br,cut]
  ·have a2:(3<p.1):=by omega
   simp [a1,a2,e2,br,cut]
theorem BG {n:Nat} {s:List Int} (hs:s.length≤1048576) (hn:1048576<n):fP.f n s=some (bG s,()):=by
 unfold fP.f bG
 have:=LN s.length (fun i=>tok (s.getD i 0)) (some (false,())) (some (decide ((s.length:Int)≤400),())) (n:=n) (F:=fun lA x6=>br (decide (x6.1<(s.length:Int))) (ab (0≤x6.1∧x6.1<(s.length:Int)) ((jf.f n (s.getD x6.1.toNat 0)).bind fun r8=>br (!r8.1) (some (false,())) (lA ((ag (x6.1+1)),())))) (some ((decide ((s.length:Int)≤400)),())))
  (fun ih i hi=>by
   have h4:(i:Int)<(s.length:Int):=by omega
   simp only [h4,decide_true,aL,Int.toNat_natCast,Mv,Option.bind_some]
   rw [ah (by simp),bm (by omega),nY]
   cases tok (s.getD i 0)<;>rfl)
  (fun ih=>by simp [br]) (by omega)
 by_cases h:∀ i,i<s.length→tok (s.getD i 0)=true
 ·rw [this.1 h]
  have:s.all tok=true:=by
   rw [List.all_eq_true]
   intro x hx
   obtain ⟨i,hi,rfl⟩:=List.mem_iff_getElem.1 hx
   have:=h i hi
   rwa [aH hi] at this
  rw [this,Bool.and_true]
  congr 2
  by_cases h:s.length≤400
  ·rw [decide_eq_true h,decide_eq_true (by omega)]
  ·rw [decide_eq_false h,decide_eq_false (by omega)]
 ·rw [this.2 h]
  have:s.all tok=false:=by
   rw [← Bool.not_eq_true,List.all_eq_true]
   intro hh
   refine h (fun i hi=>?_)
   rw [aH hi]
   exact hh _ (List.getElem_mem hi)
  rw [this,Bool.and_false]
theorem uH {n:Nat} {s:List Int} (hs:s.length≤1048576) (hn:1048576<n):dG.f n s=some (bG s,()):=by
 unfold dG.f bG mo.f mn.f
 by_cases h:s.length≤400
 ·simp only [h,show (s.length:Int)≤400 by omega,decide_true,aL,Bool.true_and]
  obtain ⟨r,e1,e2⟩:=G5 s (fun x=>!(tok x)) (n:=n) (F:=fun gP x5=>br (decide (x5.1<(s.length:Int))) (ab (0≤x5.1∧x5.1<(s.length:Int)) ((lC.f n (s.getD x5.1.toNat 0)).bind fun r7=>br r7.1 (some (x5.1,())) (gP ((ag (x5.1+1)),())))) (some ((-1),())))
   (fun ih i hi=>by
    have h4:(i:Int)<(s.length:Int):=by omega
    unfold lC.f
    simp only [h4,decide_true,aL,Int.toNat_natCast,aH hi,Mu,Option.bind_some]
    rw [ah (by simp),bm (by omega),nY]) (fun ih=>by simp [br]) (by omega)
  rw [e1]
  simp only [Option.bind_some,e2]
  congr 2
  rw [List.any_eq_not_all_not]
  simp
 ·have:¬ ((s.length:Int)≤400):=by omega
  simp [h,this,br]
end Go.AmT
