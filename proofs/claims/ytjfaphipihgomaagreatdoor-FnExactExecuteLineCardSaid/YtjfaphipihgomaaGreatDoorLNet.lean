/- Functions of the program, each as a plain Lean function. No condition. -/
import Derived.Test.YtjfaphipihgomaaGreatDoorAmE
import Derived.Test.YtjfaphipihgomaaGreatDoorProg
open Go Go.Am
noncomputable section
set_option linter.unusedVariables false
set_option maxRecDepth 100000
open Go.Proofs.Tryz renaming prog → aL
open List renaming replicate → ga
namespace Go.AmT
open Go.Proofs Go.Proofs.Tryz
abbrev BB:=List UInt8
abbrev I:Ty:=.int .i64
abbrev U8:Ty:=.int .u8
abbrev IS:Ty:=.sl I
abbrev cV:Ty:=(.pair I (.pair I (.pair I I)))
abbrev bJ:Ty:=(.pair I (.pair I (.pair I (.pair I IS))))
abbrev bp:Ty:=(.pair I (.pair I (.sl cV)))
abbrev bZ:Ty:=(.pair (.sl bp) (.sl bJ))
abbrev a_:Ty:=(.pair I IS)
abbrev dk:Ty:=(.pair (.sl a_) (.pair (.sl IS) (.pair (.sl IS) I)))
abbrev zv:Ty:=(.pair bZ (.pair dk (.pair (.sl IS) (.pair (.sl IS) (.bW I)))))
abbrev gh:Ty:=(.pair bZ (.pair dk IS))
abbrev Instr:Type:=Int×(Int×Int×Int)
def fK:Instr:=(0,0,0,0)
abbrev Program:Type:=Int×(Int×List Instr)
def bf:Program:=(0,0,[])
abbrev aK:Type:=Int×(Int×Int×Int×List Int)
def ay:aK:=(0,0,0,0,[])
abbrev ak:Type:=List Program×List aK
def bm:List (Nat×mP):=[(3,⟨false,1,8,[.int .i64 0],.int .i64,0,some I,[],false⟩),
 (28,⟨false,1,24,[.nil],.slice,145,some (.sl bp),[],false⟩),
 (29,⟨false,1,24,[.nil],.slice,148,some (.sl bJ),[],false⟩),
 (31,⟨true,2,48,[.nil,.nil],.struct,0,some bZ,[(0,28),(1,29)],false⟩),
 (36,⟨false,1,24,[.nil],.slice,3,some IS,[],false⟩),
 (40,⟨false,1,24,[.nil],.slice,93,some (.sl bp),[],false⟩),
 (41,⟨false,1,24,[.nil],.slice,152,some (.sl bJ),[],false⟩),
 (43,⟨true,2,48,[.nil,.nil],.struct,0,some bZ,[(0,40),(1,41)],false⟩),
 (91,⟨false,1,24,[.nil],.slice,199,some (.sl cV),[],false⟩),
 (93,⟨true,3,40,[.int .i64 0,.int .i64 0,.nil],.struct,0,some bp,[(0,3),(1,3),(2,91)],false⟩),
 (143,⟨false,1,24,[.nil],.slice,252,some (.sl cV),[],false⟩),
 (145,⟨true,3,40,[.int .i64 0,.int .i64 0,.nil],.struct,0,some bp,[(0,3),(1,3),(2,143)],false⟩),
 (148,⟨true,5,56,[.int .i64 0,.int .i64 0,.int .i64 0,.int .i64 0,.nil],.struct,0,some bJ,[(0,3),(1,3),(2,3),(3,3),(4,36)],false⟩),
 (152,⟨true,5,56,[.int .i64 0,.int .i64 0,.int .i64 0,.int .i64 0,.nil],.struct,0,some bJ,[(0,3),(1,3),(2,3),(3,3),(4,36)],false⟩),
 (199,⟨true,4,32,[.int .i64 0,.int .i64 0,.int .i64 0,.int .i64 0],.struct,0,some cV,[(0,3),(1,3),(2,3),(3,3)],true⟩),
 (252,⟨true,4,32,[.int .i64 0,.int .i64 0,.int .i64 0,.int .i64 0],.struct,0,some cV,[(0,3),(1,3),(2,3),(3,3)],false⟩)]
theorem dY:(bm.all fun p=>Gn aL p.1 p.2)=true:=by kernel_rfl
theorem mixed:Tryz.prog.follows .mixedOrders=true:=by kernel_rfl
theorem dR {c:bd} {n:Nat} {f:FuncId} {fn:Func} {an:iH} {m:ar} (A:w6 aL c.calls) (B:w7 aL c.uV) (hc:gb aL c) (hf:Tryz.prog.funcs[f]? = some fn) (hm:∀ x,m.m x=Dj c n fn an m.ps m.rs x) (hp:c.nB.all (fun x=>Nat.blt x 3000000)=true:=by rfl) (h0:wA c=none:=by rfl):Sound aL f m:=Nc (vl mixed (tP (.of A (Nr hp)) (.of B)) hc h0) hc hf hm
theorem adz {c:bd} {n:Nat} {f:FuncId} {fn:Func} {an:iH} {M:cM} (A:w6 aL c.calls) (B:w7 aL c.uV) (hc:gb aL c) (hf:Tryz.prog.funcs[f]? = some fn) (hm:∀ x,M.m x=cM.run c n fn an M.la M.lb x) (hp:c.nB.all (fun x=>Nat.blt x 3000000)=true:=by rfl) (h0:wA c=none:=by rfl):oY aL f M:=DV (vl mixed (tP (.of A (Nr hp)) (.of B)) hc h0) hc hf hm
def m_:List (Nat×mP):=[(3,⟨false,1,8,[.int .i64 0],.int .i64,0,some I,[],false⟩),
 (36,⟨false,1,24,[.nil],.slice,3,some IS,[],false⟩),
 (43,⟨true,2,48,[.nil,.nil],.struct,0,some bZ,[(0,40),(1,41)],false⟩),
 (40,⟨false,1,24,[.nil],.slice,93,some (.sl bp),[],false⟩),
 (41,⟨false,1,24,[.nil],.slice,152,some (.sl bJ),[],false⟩),
 (93,⟨true,3,40,[.int .i64 0,.int .i64 0,.nil],.struct,0,some bp,[(0,3),(1,3),(2,91)],false⟩),
 (46,⟨true,4,80,[.nil,.nil,.nil,.int .i64 0],.struct,0,some dk,[(0,44),(1,33),(2,33),(3,3)],false⟩),
 (33,⟨false,1,24,[.nil],.slice,36,some (.sl IS),[],false⟩),
 (152,⟨true,5,56,[.int .i64 0,.int .i64 0,.int .i64 0,.int .i64 0,.nil],.struct,0,some bJ,[(0,3),(1,3),(2,3),(3,3),(4,36)],false⟩),
 (9,⟨false,1,16,[.str []],.str,0,some .str,[],false⟩),
 (44,⟨false,1,24,[.nil],.slice,95,some (.sl a_),[],false⟩),
 (91,⟨false,1,24,[.nil],.slice,199,some (.sl cV),[],false⟩),
 (199,⟨true,4,32,[.int .i64 0,.int .i64 0,.int .i64 0,.int .i64 0],.struct,0,some cV,[(0,3),(1,3),(2,3),(3,3)],false⟩),
 (95,⟨true,2,32,[.int .i64 0,.nil],.struct,0,some a_,[(0,3),(1,36)],false⟩),
 (22,⟨false,1,24,[.nil],.slice,9,some (.sl .str),[],false⟩),
 (237,⟨true,9,200,[.nil,.nil,.nil,.nil,.nil,.int .i64 0,.nil,.nil,.nil],.struct,0,some zv,[(0,43),(2,46),(6,33),(7,33),(8,36)],false⟩),
 (48,⟨true,7,152,[.nil,.nil,.nil,.nil,.nil,.int .i64 0,.nil],.struct,0,some gh,[(0,43),(2,46),(6,36)],false⟩),
 (4,⟨false,1,1,[.bool false],.bool,0,some .bool,[],false⟩),
 (170,⟨false,1,24,[.nil],.slice,4,some (.sl .bool),[],false⟩),
 (5,⟨false,1,1,[.int .u8 0],.int .u8,0,some U8,[],false⟩),
 (219,⟨false,1,8,[.tj],.other,0,none,[],false⟩),
 (220,⟨false,1,24,[.nil],.slice,219,none,[],false⟩),
 (31,⟨true,2,48,[.nil,.nil],.struct,0,some bZ,[(0,28),(1,29)],false⟩),
 (35,⟨true,4,80,[.nil,.nil,.nil,.int .i64 0],.struct,0,some dk,[(0,32),(1,33),(2,33),(3,3)],false⟩),
 (28,⟨false,1,24,[.nil],.slice,145,some (.sl bp),[],false⟩),
 (29,⟨false,1,24,[.nil],.slice,148,some (.sl bJ),[],false⟩),
 (143,⟨false,1,24,[.nil],.slice,252,some (.sl cV),[],false⟩),
 (145,⟨true,3,40,[.int .i64 0,.int .i64 0,.nil],.struct,0,some bp,[(0,3),(1,3),(2,143)],false⟩),
 (148,⟨true,5,56,[.int .i64 0,.int .i64 0,.int .i64 0,.int .i64 0,.nil],.struct,0,some bJ,[(0,3),(1,3),(2,3),(3,3),(4,36)],false⟩),
 (252,⟨true,4,32,[.int .i64 0,.int .i64 0,.int .i64 0,.int .i64 0],.struct,0,some cV,[(0,3),(1,3),(2,3),(3,3)],false⟩),
 (32,⟨false,1,24,[.nil],.slice,150,some (.sl a_),[],false⟩),
 (150,⟨true,2,32,[.int .i64 0,.nil],.struct,0,some a_,[(0,3),(1,36)],false⟩),
 (81,⟨false,1,24,[.nil],.slice,5,some (.sl U8),[],false⟩),
 (227,⟨false,1,16,[.err true],.iface,0,some .err,[],false⟩),
 (202,⟨false,1,24,[.nil],.slice,33,some (.sl (.sl IS)),[],false⟩),
 (38,⟨true,7,152,[.nil,.nil,.nil,.nil,.nil,.int .i64 0,.nil],.struct,0,some gh,[(0,31),(2,35),(6,36)],false⟩)]
theorem kL:(m_.all fun p=>Gn aL p.1 p.2)=true:=by kernel_rfl
abbrev aH (f:Nat) (m:ar):Prop:=Sound aL f m∧ck aL f
abbrev ks (f:Nat) (m:cM):Prop:=oY aL f m∧ck aL f
theorem cD {f:Nat} {fn:Func} (h:Tryz.prog.funcs[f]? = some fn) (h1:(fn.name== "runtime.NumGoroutine")=false) (h2:fn.body.isNone=false):ck aL f:=⟨_,h,h1,h2⟩
theorem aC:w6 aL []:=trivial
theorem ai {k:Nat} {m:ar} {l:List (Nat×ar)} (h:aH k m) (t:w6 aL l) (e:C9 k=k:=by rfl):w6 aL ((k,m)::l):=⟨by rw [e]; exact h,t⟩
theorem aD:w7 aL []:=trivial
theorem dI {k:Nat} {m:cM} {l:List (Nat×cM)} (h:ks k m) (t:w7 aL l):w7 aL ((k,m)::l):=⟨h,t⟩
theorem aJ (n:Nat) (bq:List (Nat×LA)) (z:List Nat) {f:FuncId} {fn:Func} {m:ar} {C:List (Nat×ar)} {L:List (Nat×cM)} (a:w6 aL C) (b:w7 aL L) (hf:Tryz.prog.funcs[f]? = some fn) (hm:∀ x,m.m x=Dj ⟨m_,C,L,z⟩ n fn (cT fn bq) m.ps m.rs x:=by intro x; kernel_rfl) (h1:(fn.name== "runtime.NumGoroutine")=false:=by kernel_rfl) (h2:fn.body.isNone=false:=by kernel_rfl) (hp:z.all (fun x=>Nat.blt x 3000000)=true:=by rfl) (h0:wA ⟨m_,C,L,z⟩=none:=by rfl):aH f m:=⟨dR (c:=⟨m_,C,L,z⟩) (n:=n) (an:=cT fn bq) a b (cB kL) hf hm hp h0,cD hf h1 h2⟩
theorem lj (n:Nat) (bq:List (Nat×LA)) (z:List Nat) {f:FuncId} {fn:Func} {m:cM} {C:List (Nat×ar)} {L:List (Nat×cM)} (a:w6 aL C) (b:w7 aL L) (hf:Tryz.prog.funcs[f]? = some fn) (hm:∀ x,m.m x=cM.run ⟨m_,C,L,z⟩ n fn (cT fn bq) m.la m.lb x:=by intro x; kernel_rfl) (h1:(fn.name== "runtime.NumGoroutine")=false:=by kernel_rfl) (h2:fn.body.isNone=false:=by kernel_rfl) (hp:z.all (fun x=>Nat.blt x 3000000)=true:=by rfl) (h0:wA ⟨m_,C,L,z⟩=none:=by rfl):ks f m:=⟨adz (c:=⟨m_,C,L,z⟩) (n:=n) (an:=cT fn bq) a b (cB kL) hf hm hp h0,cD hf h1 h2⟩
def o6.bq:List (Nat×LA):=[]
def o6.f (n:Nat) (a0:List Instr) (a1:Int):Option (Int×Unit):=br (decide ((ag (a1-(a0.length:Int)))<0)) (some (-1,())) (some (ag (a1-(a0.length:Int)),()))
def o6.ae (n:Nat):ar:=⟨[.val (.sl cV),.val I],[.val I],fun x=>o6.f n x.1 x.2.1⟩
def o6.cfg (n:Nat):bd:=⟨bm,[],[],[]⟩
theorem o6.av:ck aL 184:=cD func184 (by kernel_rfl) (by kernel_rfl)
theorem o6.sound (n:Nat):Sound aL 184 (o6.ae n):=dR (c:=o6.cfg n) (n:=n) (an:=cT f184 o6.bq) trivial trivial (cB dY) func184 (fun x=>by kernel_rfl)
def nd.bq:List (Nat×LA):=[]
def nd.f (n:Nat) (a0:Program) (a1:Int):Option (Int×Unit):=(o6.f n a0.2.2 a1).bind fun r1=>br (decide (r1.1<0)) (some (-1,())) (some (r1.1,()))
def nd.ae (n:Nat):ar:=⟨[.val bp,.val I],[.val I],fun x=>nd.f n x.1 x.2.1⟩
def nd.cfg (n:Nat):bd:=⟨bm,[(184,o6.ae n)],[],[]⟩
theorem nd.av:ck aL 113:=cD func113 (by kernel_rfl) (by kernel_rfl)
theorem nd.sound (n:Nat):Sound aL 113 (nd.ae n):=dR (c:=nd.cfg n) (n:=n) (an:=cT f113 nd.bq) ⟨⟨o6.sound n,o6.av⟩,trivial⟩ trivial (cB dY) func113 (fun x=>by kernel_rfl)
def o7.bq:List (Nat×LA):=[(7,⟨[(1,.int .i64),(5,.int .i64)],[],[0],[]⟩)]
def o7.f (n:Nat) (a0:List Program) (a1:Int):Option (Int×Unit):=br (decide ((ag (a1-(a0.length:Int)))<0)) (some (-1,())) (iter n (fun fC x6=>br (decide (x6.2.1<(a0.length:Int))) (ab (0≤x6.2.1∧x6.2.1<(a0.length:Int)) (let v8:=(a0.getD x6.2.1.toNat bf); (nd.f n v8 x6.1).bind fun r9=>br (decide (r9.1<0)) (some (-1,())) (fC (r9.1,ag (x6.2.1+1),())))) (some (x6.1,()))) (ag (a1-(a0.length:Int)),0,()))
def o7.ae (n:Nat):ar:=⟨[.val (.sl bp),.val I],[.val I],fun x=>o7.f n x.1 x.2.1⟩
def o7.cfg (n:Nat):bd:=⟨bm,[(113,nd.ae n)],[],[]⟩
theorem o7.av:ck aL 49:=cD func49 (by kernel_rfl) (by kernel_rfl)
theorem o7.sound (n:Nat):Sound aL 49 (o7.ae n):=dR (c:=o7.cfg n) (n:=n) (an:=cT f49 o7.bq) ⟨⟨nd.sound n,nd.av⟩,trivial⟩ trivial (cB dY) func49 (fun x=>by kernel_rfl)
def jk.bq:List (Nat×LA):=[]
def jk.f (n:Nat) (a0:List Int) (a1:Int):Option (Int×Unit):=br (decide ((ag (a1-(a0.length:Int)))<0)) (some (-1,())) (some (ag (a1-(a0.length:Int)),()))
def jk.ae (n:Nat):ar:=⟨[.val IS,.val I],[.val I],fun x=>jk.f n x.1 x.2.1⟩
def jk.cfg (n:Nat):bd:=⟨bm,[],[],[]⟩
theorem jk.av:ck aL 24:=cD func24 (by kernel_rfl) (by kernel_rfl)
theorem jk.sound (n:Nat):Sound aL 24 (jk.ae n):=dR (c:=jk.cfg n) (n:=n) (an:=cT f24 jk.bq) trivial trivial (cB dY) func24 (fun x=>by kernel_rfl)
def ng.bq:List (Nat×LA):=[]
def ng.f (n:Nat) (a0:aK) (a1:Int):Option (Int×Unit):=(jk.f n a0.2.2.2.2 a1).bind fun r1=>br (decide (r1.1<0)) (some (-1,())) (some (r1.1,()))
def ng.ae (n:Nat):ar:=⟨[.val bJ,.val I],[.val I],fun x=>ng.f n x.1 x.2.1⟩
def ng.cfg (n:Nat):bd:=⟨bm,[(24,jk.ae n)],[],[]⟩
theorem ng.av:ck aL 114:=cD func114 (by kernel_rfl) (by kernel_rfl)
theorem ng.sound (n:Nat):Sound aL 114 (ng.ae n):=dR (c:=ng.cfg n) (n:=n) (an:=cT f114 ng.bq) ⟨⟨jk.sound n,jk.av⟩,trivial⟩ trivial (cB dY) func114 (fun x=>by kernel_rfl)
def o8.bq:List (Nat×LA):=[(7,⟨[(1,.int .i64),(5,.int .i64)],[],[0],[]⟩)]
def o8.f (n:Nat) (a0:List aK) (a1:Int):Option (Int×Unit):=br (decide ((ag (a1-(a0.length:Int)))<0)) (some (-1,())) (iter n (fun fa x5=>br (decide (x5.2.1<(a0.length:Int))) (ab (0≤x5.2.1∧x5.2.1<(a0.length:Int)) (let v7:=(a0.getD x5.2.1.toNat ay); (ng.f n v7 x5.1).bind fun r8=>br (decide (r8.1<0)) (some (-1,())) (fa (r8.1,ag (x5.2.1+1),())))) (some (x5.1,()))) (ag (a1-(a0.length:Int)),0,()))
def o8.ae (n:Nat):ar:=⟨[.val (.sl bJ),.val I],[.val I],fun x=>o8.f n x.1 x.2.1⟩
def o8.cfg (n:Nat):bd:=⟨bm,[(114,ng.ae n)],[],[]⟩
theorem o8.av:ck aL 50:=cD func50 (by kernel_rfl) (by kernel_rfl)
theorem o8.sound (n:Nat):Sound aL 50 (o8.ae n):=dR (c:=o8.cfg n) (n:=n) (an:=cT f50 o8.bq) ⟨⟨ng.sound n,ng.av⟩,trivial⟩ trivial (cB dY) func50 (fun x=>by kernel_rfl)
def qe.bq:List (Nat×LA):=[]
def qe.f (n:Nat) (a0:ak) (a1:Int):Option (Int×Unit):=(o7.f n a0.1 a1).bind fun r1=>br (decide (r1.1<0)) (some (-1,())) ((o8.f n a0.2 r1.1).bind fun r2=>br (decide (r2.1<0)) (some (-1,())) (some (r2.1,())))
def qe.ae (n:Nat):ar:=⟨[.val bZ,.val I],[.val I],fun x=>qe.f n x.1 x.2.1⟩
def qe.cfg (n:Nat):bd:=⟨bm,[(49,o7.ae n),(50,o8.ae n)],[],[]⟩
theorem qe.av:ck aL 22:=cD func22 (by kernel_rfl) (by kernel_rfl)
theorem qe.sound (n:Nat):Sound aL 22 (qe.ae n):=dR (c:=qe.cfg n) (n:=n) (an:=cT f22 qe.bq) ⟨⟨o7.sound n,o7.av⟩,⟨⟨o8.sound n,o8.av⟩,trivial⟩⟩ trivial (cB dY) func22 (fun x=>by kernel_rfl)
def qf.bq:List (Nat×LA):=[]
def qf.f (n:Nat) (a0:Instr):Option (Instr×Unit):=some (a0,())
def qf.ae (n:Nat):ar:=⟨[.val cV],[.val cV],fun x=>qf.f n x.1⟩
def qf.cfg (n:Nat):bd:=⟨bm,[],[],[]⟩
theorem qf.av:ck aL 247:=cD func247 (by kernel_rfl) (by kernel_rfl)
theorem qf.sound (n:Nat):Sound aL 247 (qf.ae n):=dR (c:=qf.cfg n) (n:=n) (an:=cT f247 qf.bq) trivial trivial (cB dY) func247 (fun x=>by kernel_rfl)
def o9.bq:List (Nat×LA):=[(4,⟨[(3,.own 1000 cV),(4,.int .i64)],[(1000,.row true cV)],[0],[]⟩)]
def o9.f (n:Nat) (a0:List Instr):Option (List Instr×Unit):=ab ((a0.length:Int)=(a0.length:Int)∧0≤(a0.length:Int)∧(a0.length:Int)*(32:Int)≤(bn:Int)) (iter n (fun fC x6=>br (decide (x6.1<(a0.length:Int))) (ab (0≤x6.1∧x6.1<(a0.length:Int)) (let v8:=(a0.getD x6.1.toNat fK); (qf.f n v8).bind fun r9=>ab (0≤x6.1∧x6.1<(x6.2.1.length:Int)) (let v10:=(x6.2.1.set x6.1.toNat r9.1); fC (ag (x6.1+1),v10,())))) (some (x6.2.1,()))) (0,ga (a0.length:Int).toNat ((0,0,0,0):Instr),()))
def o9.ae (n:Nat):ar:=⟨[.val (.sl cV)],[.val (.sl cV)],fun x=>o9.f n x.1⟩
def o9.cfg (n:Nat):bd:=⟨bm,[(247,qf.ae n)],[],[]⟩
theorem o9.av:ck aL 200:=cD func200 (by kernel_rfl) (by kernel_rfl)
theorem o9.sound (n:Nat):Sound aL 200 (o9.ae n):=dR (c:=o9.cfg n) (n:=n) (an:=cT f200 o9.bq) ⟨⟨qf.sound n,qf.av⟩,trivial⟩ trivial (cB dY) func200 (fun x=>by kernel_rfl)
def nV.bq:List (Nat×LA):=[]
def nV.f (n:Nat) (a0:Program):Option (Program×Unit):=(o9.f n a0.2.2).bind fun r1=>some ((a0.1,a0.2.1,r1.1),())
def nV.ae (n:Nat):ar:=⟨[.val bp],[.val bp],fun x=>nV.f n x.1⟩
def nV.cfg (n:Nat):bd:=⟨bm,[(200,o9.ae n)],[],[]⟩
theorem nV.av:ck aL 140:=cD func140 (by kernel_rfl) (by kernel_rfl)
theorem nV.sound (n:Nat):Sound aL 140 (nV.ae n):=dR (c:=nV.cfg n) (n:=n) (an:=cT f140 nV.bq) ⟨⟨o9.sound n,o9.av⟩,trivial⟩ trivial (cB dY) func140 (fun x=>by kernel_rfl)
def pa.bq:List (Nat×LA):=[(4,⟨[(3,.own 1000 bp),(4,.int .i64)],[(1000,.row true bp)],[0],[]⟩)]
def pa.f (n:Nat) (a0:List Program):Option (List Program×Unit):=ab ((a0.length:Int)=(a0.length:Int)∧0≤(a0.length:Int)∧(a0.length:Int)*(40:Int)≤(bn:Int)) (iter n (fun fC x6=>br (decide (x6.1<(a0.length:Int))) (ab (0≤x6.1∧x6.1<(a0.length:Int)) (let v8:=(a0.getD x6.1.toNat bf); (nV.f n v8).bind fun r9=>ab (0≤x6.1∧x6.1<(x6.2.1.length:Int)) (let v10:=(x6.2.1.set x6.1.toNat r9.1); fC (ag (x6.1+1),v10,())))) (some (x6.2.1,()))) (0,ga (a0.length:Int).toNat ((0,0,[]):Program),()))
def pa.ae (n:Nat):ar:=⟨[.val (.sl bp)],[.val (.sl bp)],fun x=>pa.f n x.1⟩
def pa.cfg (n:Nat):bd:=⟨bm,[(140,nV.ae n)],[],[]⟩
theorem pa.av:ck aL 79:=cD func79 (by kernel_rfl) (by kernel_rfl)
theorem pa.sound (n:Nat):Sound aL 79 (pa.ae n):=dR (c:=pa.cfg n) (n:=n) (an:=cT f79 pa.bq) ⟨⟨nV.sound n,nV.av⟩,trivial⟩ trivial (cB dY) func79 (fun x=>by kernel_rfl)
def iA.bq:List (Nat×LA):=[(4,⟨[(3,.own 1000 I),(4,.int .i64)],[(1000,.row true I)],[0],[]⟩)]
def iA.f (n:Nat) (a0:List Int):Option (List Int×Unit):=ab ((a0.length:Int)=(a0.length:Int)∧0≤(a0.length:Int)∧(a0.length:Int)*(8:Int)≤(bn:Int)) (iter n (fun fa x5=>br (decide (x5.1<(a0.length:Int))) (ab (0≤x5.1∧x5.1<(a0.length:Int)) (ab (0≤x5.1∧x5.1<(x5.2.1.length:Int)) (let v7:=(x5.2.1.set x5.1.toNat (a0.getD x5.1.toNat 0)); fa (ag (x5.1+1),v7,())))) (some (x5.2.1,()))) (0,ga (a0.length:Int).toNat (0:Int),()))
def iA.ae (n:Nat):ar:=⟨[.val IS],[.val IS],fun x=>iA.f n x.1⟩
def iA.cfg (n:Nat):bd:=⟨bm,[],[],[]⟩
theorem iA.av:ck aL 35:=cD func35 (by kernel_rfl) (by kernel_rfl)
theorem iA.sound (n:Nat):Sound aL 35 (iA.ae n):=dR (c:=iA.cfg n) (n:=n) (an:=cT f35 iA.bq) trivial trivial (cB dY) func35 (fun x=>by kernel_rfl)
def nW.bq:List (Nat×LA):=[]
def nW.f (n:Nat) (a0:aK):Option (aK×Unit):=(iA.f n a0.2.2.2.2).bind fun r1=>some ((a0.1,a0.2.1,a0.2.2.1,a0.2.2.2.1,r1.1),())
def nW.ae (n:Nat):ar:=⟨[.val bJ],[.val bJ],fun x=>nW.f n x.1⟩
def nW.cfg (n:Nat):bd:=⟨bm,[(35,iA.ae n)],[],[]⟩
theorem nW.av:ck aL 141:=cD func141 (by kernel_rfl) (by kernel_rfl)
theorem nW.sound (n:Nat):Sound aL 141 (nW.ae n):=dR (c:=nW.cfg n) (n:=n) (an:=cT f141 nW.bq) ⟨⟨iA.sound n,iA.av⟩,trivial⟩ trivial (cB dY) func141 (fun x=>by kernel_rfl)
def pb.bq:List (Nat×LA):=[(4,⟨[(3,.own 1000 bJ),(4,.int .i64)],[(1000,.row true bJ)],[0],[]⟩)]
def pb.f (n:Nat) (a0:List aK):Option (List aK×Unit):=ab ((a0.length:Int)=(a0.length:Int)∧0≤(a0.length:Int)∧(a0.length:Int)*(56:Int)≤(bn:Int)) (iter n (fun fa x5=>br (decide (x5.1<(a0.length:Int))) (ab (0≤x5.1∧x5.1<(a0.length:Int)) (let v7:=(a0.getD x5.1.toNat ay); (nW.f n v7).bind fun r8=>ab (0≤x5.1∧x5.1<(x5.2.1.length:Int)) (let v9:=(x5.2.1.set x5.1.toNat r8.1); fa (ag (x5.1+1),v9,())))) (some (x5.2.1,()))) (0,ga (a0.length:Int).toNat ((0,0,0,0,[]):aK),()))
def pb.ae (n:Nat):ar:=⟨[.val (.sl bJ)],[.val (.sl bJ)],fun x=>pb.f n x.1⟩
def pb.cfg (n:Nat):bd:=⟨bm,[(141,nW.ae n)],[],[]⟩
theorem pb.av:ck aL 80:=cD func80 (by kernel_rfl) (by kernel_rfl)
theorem pb.sound (n:Nat):Sound aL 80 (pb.ae n):=dR (c:=pb.cfg n) (n:=n) (an:=cT f80 pb.bq) ⟨⟨nW.sound n,nW.av⟩,trivial⟩ trivial (cB dY) func80 (fun x=>by kernel_rfl)
def nh.bq:List (Nat×LA):=[]
def nh.f (n:Nat) (a0:ak):Option (ak×Unit):=(pa.f n a0.1).bind fun r1=>(pb.f n a0.2).bind fun r2=>some ((r1.1,r2.1),())
def nh.ae (n:Nat):ar:=⟨[.val bZ],[.val bZ],fun x=>nh.f n x.1⟩
def nh.cfg (n:Nat):bd:=⟨bm,[(79,pa.ae n),(80,pb.ae n)],[],[]⟩
theorem nh.av:ck aL 33:=cD func33 (by kernel_rfl) (by kernel_rfl)
theorem nh.sound (n:Nat):Sound aL 33 (nh.ae n):=dR (c:=nh.cfg n) (n:=n) (an:=cT f33 nh.bq) ⟨⟨pa.sound n,pa.av⟩,⟨⟨pb.sound n,pb.av⟩,trivial⟩⟩ trivial (cB dY) func33 (fun x=>by kernel_rfl)
def nX.bq:List (Nat×LA):=[]
def nX.f (n:Nat) (a0 a1:Instr):Option (Bool×Unit):=br (!decide (a0.1=a1.1)) (some (false,())) (br (!decide (a0.2.1=a1.2.1)) (some (false,())) (br (!decide (a0.2.2.1=a1.2.2.1)) (some (false,())) (br (!decide (a0.2.2.2=a1.2.2.2)) (some (false,())) (some (true,())))))
def nX.ae (n:Nat):ar:=⟨[.val cV,.val cV],[.val .bool],fun x=>nX.f n x.1 x.2.1⟩
def nX.cfg (n:Nat):bd:=⟨bm,[],[],[]⟩
theorem nX.av:ck aL 277:=cD func277 (by kernel_rfl) (by kernel_rfl)
theorem nX.sound (n:Nat):Sound aL 277 (nX.ae n):=dR (c:=nX.cfg n) (n:=n) (an:=cT f277 nX.bq) trivial trivial (cB dY) func277 (fun x=>by kernel_rfl)
def pc.bq:List (Nat×LA):=[(6,⟨[(5,.int .i64)],[],[0,1],[]⟩)]
def pc.f (n:Nat) (a0 a1:List Instr):Option (Bool×Unit):=br (!decide ((a0.length:Int)=(a1.length:Int))) (some (false,())) (iter n (fun ml x7=>br (decide (x7.1<(a0.length:Int))) (ab (0≤x7.1∧x7.1<(a0.length:Int)) (let v9:=(a0.getD x7.1.toNat fK); ab (0≤x7.1∧x7.1<(a1.length:Int)) (let v10:=(a1.getD x7.1.toNat fK); (nX.f n v9 v10).bind fun cW=>br (!cW.1) (some (false,())) (ml (ag (x7.1+1),()))))) (some (true,()))) (0,()))
def pc.ae (n:Nat):ar:=⟨[.val (.sl cV),.val (.sl cV)],[.val .bool],fun x=>pc.f n x.1 x.2.1⟩
def pc.cfg (n:Nat):bd:=⟨bm,[(277,nX.ae n)],[],[]⟩
theorem pc.av:ck aL 236:=cD func236 (by kernel_rfl) (by kernel_rfl)
theorem pc.sound (n:Nat):Sound aL 236 (pc.ae n):=dR (c:=pc.cfg n) (n:=n) (an:=cT f236 pc.bq) ⟨⟨nX.sound n,nX.av⟩,trivial⟩ trivial (cB dY) func236 (fun x=>by kernel_rfl)
def nY.bq:List (Nat×LA):=[]
def nY.f (n:Nat) (a0 a1:Program):Option (Bool×Unit):=br (!decide (a0.1=a1.1)) (some (false,())) (br (!decide (a0.2.1=a1.2.1)) (some (false,())) ((pc.f n a0.2.2 a1.2.2).bind fun r1=>br (!r1.1) (some (false,())) (some (true,()))))
def nY.ae (n:Nat):ar:=⟨[.val bp,.val bp],[.val .bool],fun x=>nY.f n x.1 x.2.1⟩
def nY.cfg (n:Nat):bd:=⟨bm,[(236,pc.ae n)],[],[]⟩
theorem nY.av:ck aL 175:=cD func175 (by kernel_rfl) (by kernel_rfl)
theorem nY.sound (n:Nat):Sound aL 175 (nY.ae n):=dR (c:=nY.cfg n) (n:=n) (an:=cT f175 nY.bq) ⟨⟨pc.sound n,pc.av⟩,trivial⟩ trivial (cB dY) func175 (fun x=>by kernel_rfl)
def pd.bq:List (Nat×LA):=[(6,⟨[(5,.int .i64)],[],[0,1],[]⟩)]
def pd.f (n:Nat) (a0 a1:List Program):Option (Bool×Unit):=br (!decide ((a0.length:Int)=(a1.length:Int))) (some (false,())) (iter n (fun ml x7=>br (decide (x7.1<(a0.length:Int))) (ab (0≤x7.1∧x7.1<(a0.length:Int)) (let v9:=(a0.getD x7.1.toNat bf); ab (0≤x7.1∧x7.1<(a1.length:Int)) (let v10:=(a1.getD x7.1.toNat bf); (nY.f n v9 v10).bind fun cW=>br (!cW.1) (some (false,())) (ml (ag (x7.1+1),()))))) (some (true,()))) (0,()))
def pd.ae (n:Nat):ar:=⟨[.val (.sl bp),.val (.sl bp)],[.val .bool],fun x=>pd.f n x.1 x.2.1⟩
def pd.cfg (n:Nat):bd:=⟨bm,[(175,nY.ae n)],[],[]⟩
theorem pd.av:ck aL 98:=cD func98 (by kernel_rfl) (by kernel_rfl)
theorem pd.sound (n:Nat):Sound aL 98 (pd.ae n):=dR (c:=pd.cfg n) (n:=n) (an:=cT f98 pd.bq) ⟨⟨nY.sound n,nY.av⟩,trivial⟩ trivial (cB dY) func98 (fun x=>by kernel_rfl)
def jl.bq:List (Nat×LA):=[(6,⟨[(5,.int .i64)],[],[0,1],[]⟩)]
def jl.f (n:Nat) (a0 a1:List Int):Option (Bool×Unit):=br (!decide ((a0.length:Int)=(a1.length:Int))) (some (false,())) (iter n (fun GD x4=>br (decide (x4.1<(a0.length:Int))) (ab (0≤x4.1∧x4.1<(a0.length:Int)) (ab (0≤x4.1∧x4.1<(a1.length:Int)) (br (!decide ((a0.getD x4.1.toNat 0)=(a1.getD x4.1.toNat 0))) (some (false,())) (GD (ag (x4.1+1),()))))) (some (true,()))) (0,()))
def jl.ae (n:Nat):ar:=⟨[.val IS,.val IS],[.val .bool],fun x=>jl.f n x.1 x.2.1⟩
def jl.cfg (n:Nat):bd:=⟨bm,[],[],[]⟩
theorem jl.av:ck aL 41:=cD func41 (by kernel_rfl) (by kernel_rfl)
theorem jl.sound (n:Nat):Sound aL 41 (jl.ae n):=dR (c:=jl.cfg n) (n:=n) (an:=cT f41 jl.bq) trivial trivial (cB dY) func41 (fun x=>by kernel_rfl)
def nZ.bq:List (Nat×LA):=[]
def nZ.f (n:Nat) (a0 a1:aK):Option (Bool×Unit):=br (!decide (a0.1=a1.1)) (some (false,())) (br (!decide (a0.2.1=a1.2.1)) (some (false,())) (br (!decide (a0.2.2.1=a1.2.2.1)) (some (false,())) (br (!decide (a0.2.2.2.1=a1.2.2.2.1)) (some (false,())) ((jl.f n a0.2.2.2.2 a1.2.2.2.2).bind fun r1=>br (!r1.1) (some (false,())) (some (true,()))))))
def nZ.ae (n:Nat):ar:=⟨[.val bJ,.val bJ],[.val .bool],fun x=>nZ.f n x.1 x.2.1⟩
def nZ.cfg (n:Nat):bd:=⟨bm,[(41,jl.ae n)],[],[]⟩
theorem nZ.av:ck aL 176:=cD func176 (by kernel_rfl) (by kernel_rfl)
theorem nZ.sound (n:Nat):Sound aL 176 (nZ.ae n):=dR (c:=nZ.cfg n) (n:=n) (an:=cT f176 nZ.bq) ⟨⟨jl.sound n,jl.av⟩,trivial⟩ trivial (cB dY) func176 (fun x=>by kernel_rfl)
def pe.bq:List (Nat×LA):=[(6,⟨[(5,.int .i64)],[],[0,1],[]⟩)]
def pe.f (n:Nat) (a0 a1:List aK):Option (Bool×Unit):=br (!decide ((a0.length:Int)=(a1.length:Int))) (some (false,())) (iter n (fun fa x5=>br (decide (x5.1<(a0.length:Int))) (ab (0≤x5.1∧x5.1<(a0.length:Int)) (let v7:=(a0.getD x5.1.toNat ay); ab (0≤x5.1∧x5.1<(a1.length:Int)) (let v8:=(a1.getD x5.1.toNat ay); (nZ.f n v7 v8).bind fun r9=>br (!r9.1) (some (false,())) (fa (ag (x5.1+1),()))))) (some (true,()))) (0,()))
def pe.ae (n:Nat):ar:=⟨[.val (.sl bJ),.val (.sl bJ)],[.val .bool],fun x=>pe.f n x.1 x.2.1⟩
def pe.cfg (n:Nat):bd:=⟨bm,[(176,nZ.ae n)],[],[]⟩
theorem pe.av:ck aL 99:=cD func99 (by kernel_rfl) (by kernel_rfl)
theorem pe.sound (n:Nat):Sound aL 99 (pe.ae n):=dR (c:=pe.cfg n) (n:=n) (an:=cT f99 pe.bq) ⟨⟨nZ.sound n,nZ.av⟩,trivial⟩ trivial (cB dY) func99 (fun x=>by kernel_rfl)
def qg.bq:List (Nat×LA):=[]
def qg.f (n:Nat) (a0 a1:ak):Option (Bool×Unit):=(pd.f n a0.1 a1.1).bind fun r1=>br (!r1.1) (some (false,())) ((pe.f n a0.2 a1.2).bind fun r2=>br (!r2.1) (some (false,())) (some (true,())))
def qg.ae (n:Nat):ar:=⟨[.val bZ,.val bZ],[.val .bool],fun x=>qg.f n x.1 x.2.1⟩
def qg.cfg (n:Nat):bd:=⟨bm,[(98,pd.ae n),(99,pe.ae n)],[],[]⟩
theorem qg.av:ck aL 39:=cD func39 (by kernel_rfl) (by kernel_rfl)
theorem qg.sound (n:Nat):Sound aL 39 (qg.ae n):=dR (c:=qg.cfg n) (n:=n) (an:=cT f39 qg.bq) ⟨⟨pd.sound n,pd.av⟩,⟨⟨pe.sound n,pe.av⟩,trivial⟩⟩ trivial (cB dY) func39 (fun x=>by kernel_rfl)
def ch.bq:List (Nat×LA):=[]
def ch.f (n:Nat) (a0 a1 a2:Int):Option (Bool×Unit):=br (decide (a1≤a0)) (some (decide (a0≤a2),())) (some (false,()))
def ch.ae (n:Nat):ar:=⟨[.val I,.val I,.val I],[.val .bool],fun x=>ch.f n x.1 x.2.1 x.2.2.1⟩
def ch.cfg (n:Nat):bd:=⟨bm,[],[],[]⟩
theorem ch.av:ck aL 63:=cD func63 (by kernel_rfl) (by kernel_rfl)
theorem ch.sound (n:Nat):Sound aL 63 (ch.ae n):=dR (c:=ch.cfg n) (n:=n) (an:=cT f63 ch.bq) trivial trivial (cB dY) func63 (fun x=>by kernel_rfl)
def lk.bq:List (Nat×LA):=[]
def lk.f (n:Nat) (a0:Int):Option (Bool×Unit):=(ch.f n a0 (-999999) 999999).bind fun r1=>some (r1.1,())
def lk.ae (n:Nat):ar:=⟨[.val I],[.val .bool],fun x=>lk.f n x.1⟩
def lk.cfg (n:Nat):bd:=⟨bm,[(63,ch.ae n)],[],[]⟩
theorem lk.av:ck aL 189:=cD func189 (by kernel_rfl) (by kernel_rfl)
theorem lk.sound (n:Nat):Sound aL 189 (lk.ae n):=dR (c:=lk.cfg n) (n:=n) (an:=cT f189 lk.bq) ⟨⟨ch.sound n,ch.av⟩,trivial⟩ trivial (cB dY) func189 (fun x=>by kernel_rfl)
def mm.bq:List (Nat×LA):=[(1,⟨[(5,.bool)],[],[2,3],[]⟩),(2,⟨[(6,.bool)],[],[2,3,5],[]⟩),(15,⟨[(84,.bool)],[],[3,5,6,32],[]⟩),(27,⟨[(98,.bool)],[],[3,6,32],[]⟩)]
def mm.f (n:Nat) (a0:Program) (a1:Instr):Option (Bool×Unit):=cut ((ch.f n a1.2.1 0 3).bind fun r5=>br r5.1 ((ch.f n a1.2.2.1 0 3).bind fun r6=>br r6.1 ((ch.f n a1.2.2.2 0 3).bind fun r7=>some (.inr (r7.1,()))) (some (.inr (false,())))) (some (.inr (false,())))) fun y4=>cut ((ch.f n a1.2.2.1 0 (a0.2.2.length:Int)).bind fun gi=>br gi.1 (some (.inr (decide (a1.2.2.2=0),()))) (some (.inr (false,())))) fun y9=>br (decide (a1.1=1)) ((ch.f n a1.2.1 0 3).bind fun cW=>br cW.1 ((ch.f n a1.2.2.1 0 (ag (a0.1-1))).bind fun fq=>br fq.1 (some (decide (a1.2.2.2=0),())) (some (false,()))) (some (false,()))) (br (decide (a1.1=2)) ((ch.f n a1.2.1 0 3).bind fun fD=>br fD.1 ((ch.f n a1.2.2.1 0 (ag (a0.2.1-1))).bind fun ie=>br ie.1 (some (decide (a1.2.2.2=0),())) (some (false,()))) (some (false,()))) (br (decide (a1.1=3)) ((ch.f n a1.2.1 0 3).bind fun dz=>br dz.1 ((lk.f n a1.2.2.1).bind fun iB=>br iB.1 (some (decide (a1.2.2.2=0),())) (some (false,()))) (some (false,()))) (cut (br (decide (a1.1=4)) (some (.inr (decide (a1.1=4),()))) (br (decide (a1.1=5)) (some (.inr (decide (a1.1=5),()))) (br (decide (a1.1=6)) (some (.inr (decide (a1.1=6),()))) (some (.inr (decide (a1.1=7),())))))) fun Ou=>br Ou.1 (some (y4.1,())) (br (decide (a1.1=8)) (br (decide (a1.2.1=0)) (some (y9.1,())) (some (false,()))) (cut (br (decide (a1.1=9)) (some (.inr (decide (a1.1=9),()))) (some (.inr (decide (a1.1=10),())))) fun y18=>br y18.1 ((ch.f n a1.2.1 0 3).bind fun jP=>br jP.1 (some (y9.1,())) (some (false,()))) (br (decide (a1.1=11)) (br (decide (a1.2.1=0)) (br (decide (a1.2.2.1=0)) (some (decide (a1.2.2.2=0),())) (some (false,()))) (some (false,()))) (some (false,()))))))))
def mm.ae (n:Nat):ar:=⟨[.val bp,.val cV],[.val .bool],fun x=>mm.f n x.1 x.2.1⟩
def mm.cfg (n:Nat):bd:=⟨bm,[(63,ch.ae n),(189,lk.ae n)],[],[]⟩
theorem mm.av:ck aL 188:=cD func188 (by kernel_rfl) (by kernel_rfl)
theorem mm.sound (n:Nat):Sound aL 188 (mm.ae n):=dR (c:=mm.cfg n) (n:=n) (an:=cT f188 mm.bq) ⟨⟨ch.sound n,ch.av⟩,⟨⟨lk.sound n,lk.av⟩,trivial⟩⟩ trivial (cB dY) func188 (fun x=>by kernel_rfl)
def jn.bq:List (Nat×LA):=[(1,⟨[(21,.bool)],[],[1],[]⟩),(6,⟨[(25,.int .i64)],[],[1,23,24],[]⟩)]
def jn.f (n:Nat) (a0:Program):Option (Bool×Unit):=cut ((ch.f n a0.1 0 3).bind fun r5=>br (!r5.1) (some (.inr (true,()))) ((ch.f n a0.2.1 0 3).bind fun r6=>br (!r6.1) (some (.inr (true,()))) ((ch.f n (a0.2.2.length:Int) 1 24).bind fun r7=>some (.inr (!r7.1,()))))) fun y4=>br y4.1 (some (false,())) (iter n (fun adA GF=>br (decide (GF.1<(a0.2.2.length:Int))) (ab (0≤GF.1∧GF.1<(a0.2.2.length:Int)) (let v18:=(a0.2.2.getD GF.1.toNat fK); (mm.f n a0 v18).bind fun jP=>br (!jP.1) (some (false,())) (adA (ag (GF.1+1),())))) (some (true,()))) (0,()))
def jn.ae (n:Nat):ar:=⟨[.val bp],[.val .bool],fun x=>jn.f n x.1⟩
def jn.cfg (n:Nat):bd:=⟨bm,[(63,ch.ae n),(188,mm.ae n)],[],[]⟩
theorem jn.av:ck aL 120:=cD func120 (by kernel_rfl) (by kernel_rfl)
theorem jn.sound (n:Nat):Sound aL 120 (jn.ae n):=dR (c:=jn.cfg n) (n:=n) (an:=cT f120 jn.bq) ⟨⟨ch.sound n,ch.av⟩,⟨⟨mm.sound n,mm.av⟩,trivial⟩⟩ trivial (cB dY) func120 (fun x=>by kernel_rfl)
def pf.bq:List (Nat×LA):=[(1,⟨[(34,.bool)],[],[2,3],[]⟩),(6,⟨[(5,.int .i64)],[],[2,3],[]⟩),(10,⟨[(6,.int .i64)],[],[3,5],[]⟩)]
def pf.f (n:Nat) (a0:ak) (a1:aK):Option (Bool×Unit):=cut (br (decide (a1.1=(-1))) (br (decide (a1.2.2.1=(-1))) (some (.inr (true,()))) ((ch.f n a1.1 (-1) (ag ((a0.1.length:Int)-1))).bind fun r6=>br (!r6.1) (some (.inr (true,()))) ((ch.f n a1.2.2.1 (-1) (ag ((a0.1.length:Int)-1))).bind fun r7=>some (.inr (!r7.1,()))))) ((ch.f n a1.1 (-1) (ag ((a0.1.length:Int)-1))).bind fun r8=>br (!r8.1) (some (.inr (true,()))) ((ch.f n a1.2.2.1 (-1) (ag ((a0.1.length:Int)-1))).bind fun r9=>some (.inr (!r9.1,()))))) fun y5=>br y5.1 (some (false,())) (cut (br (decide (0≤a1.1)) (ab (0≤a1.1∧a1.1<(a0.1.length:Int)) (let v12:=(a0.1.getD a1.1.toNat bf); some (.inr (v12.2.1,())))) (some (.inr (1,())))) fun GG=>cut (br (decide (0≤a1.2.2.1)) (ab (0≤a1.2.2.1∧a1.2.2.1<(a0.1.length:Int)) (let xd:=(a0.1.getD a1.2.2.1.toNat bf); some (.inr (xd.1,())))) (some (.inr (1,())))) fun pg=>(ch.f n a1.2.1 0 (ag (GG.1-1))).bind fun iB=>br iB.1 ((ch.f n a1.2.2.2.1 0 (ag (pg.1-1))).bind fun eN=>some (eN.1,())) (some (false,())))
def pf.ae (n:Nat):ar:=⟨[.val bZ,.val bJ],[.val .bool],fun x=>pf.f n x.1 x.2.1⟩
def pf.cfg (n:Nat):bd:=⟨bm,[(63,ch.ae n)],[],[]⟩
theorem pf.av:ck aL 121:=cD func121 (by kernel_rfl) (by kernel_rfl)
theorem pf.sound (n:Nat):Sound aL 121 (pf.ae n):=dR (c:=pf.cfg n) (n:=n) (an:=cT f121 pf.bq) ⟨⟨ch.sound n,ch.av⟩,trivial⟩ trivial (cB dY) func121 (fun x=>by kernel_rfl)
def fL.bq:List (Nat×LA):=[(3,⟨[(7,.int .i64)],[],[0,5,6],[]⟩)]
def fL.f (n:Nat) (a0:List Int):Option (Bool×Unit):=iter n (fun fC x6=>br (decide (x6.1<(a0.length:Int))) (ab (0≤x6.1∧x6.1<(a0.length:Int)) ((lk.f n (a0.getD x6.1.toNat 0)).bind fun r8=>br (!r8.1) (some (false,())) (fC (ag (x6.1+1),())))) (some (decide ((a0.length:Int)≤400),()))) (0,())
def fL.ae (n:Nat):ar:=⟨[.val IS],[.val .bool],fun x=>fL.f n x.1⟩
def fL.cfg (n:Nat):bd:=⟨bm,[(189,lk.ae n)],[],[]⟩
theorem fL.av:ck aL 122:=cD func122 (by kernel_rfl) (by kernel_rfl)
theorem fL.sound (n:Nat):Sound aL 122 (fL.ae n):=dR (c:=fL.cfg n) (n:=n) (an:=cT f122 fL.bq) ⟨⟨lk.sound n,lk.av⟩,trivial⟩ trivial (cB dY) func122 (fun x=>by kernel_rfl)
def kM.bq:List (Nat×LA):=[(4,⟨[(7,.int .i64),(13,.int .i64)],[],[1,2,11,12],[]⟩),(9,⟨[(27,.bool)],[],[1,2,7,8,11,12,13],[]⟩)]
def kM.f (n:Nat) (a0:ak) (a1 a2:Int):Option (Int×Unit):=iter n (fun ni x8=>br (decide (x8.2.1<(a0.2.length:Int))) (ab (0≤x8.2.1∧x8.2.1<(a0.2.length:Int)) (let v10:=(a0.2.getD x8.2.1.toNat ay); cut (br (decide (v10.2.2.1=a1)) (some (.inr (decide (v10.2.2.2.1=a2),()))) (some (.inr (false,())))) fun GG=>br GG.1 (br (decide (0≤x8.1)) (some (-2,())) (ni (x8.2.1,ag (x8.2.1+1),()))) (ni (x8.1,ag (x8.2.1+1),())))) (some (x8.1,()))) (-1,0,())
def kM.ae (n:Nat):ar:=⟨[.val bZ,.val I,.val I],[.val I],fun x=>kM.f n x.1 x.2.1 x.2.2.1⟩
def kM.cfg (n:Nat):bd:=⟨bm,[],[],[]⟩
theorem kM.av:ck aL 123:=cD func123 (by kernel_rfl) (by kernel_rfl)
theorem kM.sound (n:Nat):Sound aL 123 (kM.ae n):=dR (c:=kM.cfg n) (n:=n) (an:=cT f123 kM.bq) trivial trivial (cB dY) func123 (fun x=>by kernel_rfl)
def mn.bq:List (Nat×LA):=[(4,⟨[(7,.int .i64),(13,.int .i64)],[],[1,2,11,12],[]⟩),(9,⟨[(27,.bool)],[],[1,2,7,8,11,12,13],[]⟩)]
def mn.f (n:Nat) (a0:ak) (a1 a2:Int):Option (Int×Unit):=iter n (fun ni x8=>br (decide (x8.2.1<(a0.2.length:Int))) (ab (0≤x8.2.1∧x8.2.1<(a0.2.length:Int)) (let v10:=(a0.2.getD x8.2.1.toNat ay); cut (br (decide (v10.1=a1)) (some (.inr (decide (v10.2.1=a2),()))) (some (.inr (false,())))) fun GG=>br GG.1 (br (decide (0≤x8.1)) (some (-2,())) (ni (x8.2.1,ag (x8.2.1+1),()))) (ni (x8.1,ag (x8.2.1+1),())))) (some (x8.1,()))) (-1,0,())
def mn.ae (n:Nat):ar:=⟨[.val bZ,.val I,.val I],[.val I],fun x=>mn.f n x.1 x.2.1 x.2.2.1⟩
def mn.cfg (n:Nat):bd:=⟨bm,[],[],[]⟩
theorem mn.av:ck aL 124:=cD func124 (by kernel_rfl) (by kernel_rfl)
theorem mn.sound (n:Nat):Sound aL 124 (mn.ae n):=dR (c:=mn.cfg n) (n:=n) (an:=cT f124 mn.bq) trivial trivial (cB dY) func124 (fun x=>by kernel_rfl)
def eO.bq:List (Nat×LA):=[(1,⟨[(20,.bool)],[],[1],[]⟩),(6,⟨[(24,.int .i64)],[],[1,22,23],[]⟩),(17,⟨[(35,.int .i64)],[],[1,33,34],[]⟩),(28,⟨[(53,.int .i64)],[],[1,51,52],[]⟩),(35,⟨[(9,.int .i64)],[],[1,7,8,51,52,53],[]⟩),(45,⟨[(10,.int .i64)],[],[1,7,8,51,52,53],[]⟩)]
def eO.f (n:Nat) (a0:ak):Option (Bool×Unit):=cut (br (decide (12<(a0.1.length:Int))) (some (.inr (true,()))) (some (.inr (decide (30<(a0.2.length:Int)),())))) fun y1=>br y1.1 (some (false,())) (iter n (fun Ov qh=>br (decide (qh.1<(a0.1.length:Int))) (ab (0≤qh.1∧qh.1<(a0.1.length:Int)) (let xd:=(a0.1.getD qh.1.toNat bf); (jn.f n xd).bind fun iB=>br (!iB.1) (some (false,())) (Ov (ag (qh.1+1),())))) (iter n (fun J3 gM=>br (decide (gM.1<(a0.2.length:Int))) (ab (0≤gM.1∧gM.1<(a0.2.length:Int)) (let Vi:=(a0.2.getD gM.1.toNat ay); (pf.f n a0 Vi).bind fun kN=>br (!kN.1) (some (false,())) ((fL.f n Vi.2.2.2.2).bind fun kt=>br (!kt.1) (some (false,())) (J3 (ag (gM.1+1),()))))) (iter n (fun adB B3=>br (decide (B3.1<(a0.1.length:Int))) (ab (0≤B3.1∧B3.1<(a0.1.length:Int)) (let Vj:=(a0.1.getD B3.1.toNat bf); iter n (fun adC Ow=>br (decide (Ow.1<Vj.1)) ((kM.f n a0 B3.1 Ow.1).bind fun r91=>br (decide (r91.1<0)) (some (false,())) (adC (ag (Ow.1+1),()))) (iter n (fun adD Ox=>br (decide (Ox.1<Vj.2.1)) ((mn.f n a0 B3.1 Ox.1).bind fun adE=>br (decide (adE.1<0)) (some (false,())) (adD (ag (Ox.1+1),()))) (adB (ag (B3.1+1),()))) (0,()))) (0,()))) (some (true,()))) (0,()))) (0,()))) (0,()))
def eO.ae (n:Nat):ar:=⟨[.val bZ],[.val .bool],fun x=>eO.f n x.1⟩
def eO.cfg (n:Nat):bd:=⟨bm,[(120,jn.ae n),(121,pf.ae n),(122,fL.ae n),(123,kM.ae n),(124,mn.ae n)],[],[]⟩
theorem eO.av:ck aL 57:=cD func57 (by kernel_rfl) (by kernel_rfl)
theorem eO.sound (n:Nat):Sound aL 57 (eO.ae n):=dR (c:=eO.cfg n) (n:=n) (an:=cT f57 eO.bq) ⟨⟨jn.sound n,jn.av⟩,⟨⟨pf.sound n,pf.av⟩,⟨⟨fL.sound n,fL.av⟩,⟨⟨kM.sound n,kM.av⟩,⟨⟨mn.sound n,mn.av⟩,trivial⟩⟩⟩⟩⟩ trivial (cB dY) func57 (fun x=>by kernel_rfl)
def kO.bq:List (Nat×LA):=[]
def kO.f (n:Nat) (a0:Int):Option (Bool×Unit):=br (decide (0≤a0)) (some (decide (a0≤3),())) (some (false,()))
def kO.ae (n:Nat):ar:=⟨[.val I],[.val .bool],fun x=>kO.f n x.1⟩
def kO.cfg (n:Nat):bd:=⟨bm,[],[],[]⟩
theorem kO.av:ck aL 283:=cD func283 (by kernel_rfl) (by kernel_rfl)
theorem kO.sound (n:Nat):Sound aL 283 (kO.ae n):=dR (c:=kO.cfg n) (n:=n) (an:=cT f283 kO.bq) trivial trivial (cB dY) func283 (fun x=>by kernel_rfl)
def isToken.bq:List (Nat×LA):=[]
def isToken.f (n:Nat) (a0:Int):Option (Bool×Unit):=br (decide ((-999999)≤a0)) (some (decide (a0≤999999),())) (some (false,()))
def isToken.ae (n:Nat):ar:=⟨[.val I],[.val .bool],fun x=>isToken.f n x.1⟩
def isToken.cfg (n:Nat):bd:=⟨bm,[],[],[]⟩
theorem isToken.av:ck aL 204:=cD func204 (by kernel_rfl) (by kernel_rfl)
theorem isToken.sound (n:Nat):Sound aL 204 (isToken.ae n):=dR (c:=isToken.cfg n) (n:=n) (an:=cT f204 isToken.bq) trivial trivial (cB dY) func204 (fun x=>by kernel_rfl)
def lP.bq:List (Nat×LA):=[(1,⟨[(9,.bool)],[],[1,2,4],[]⟩),(14,⟨[(83,.bool)],[],[4,9,25],[]⟩),(26,⟨[(109,.bool)],[],[4,9,25],[]⟩)]
def lP.f (n:Nat) (a0:Instr) (a1 a2 a3:Int):Option (Bool×Unit):=cut (br (decide (0≤a0.2.2.1)) (br (decide (a0.2.2.1≤a3)) (some (.inr (decide (a0.2.2.2=0),()))) (some (.inr (false,())))) (some (.inr (false,())))) fun y1=>br (decide (a0.1=1)) ((kO.f n a0.2.1).bind fun r2=>br r2.1 (br (decide (0≤a0.2.2.1)) (br (decide (a0.2.2.1<a1)) (some (decide (a0.2.2.2=0),())) (some (false,()))) (some (false,()))) (some (false,()))) (br (decide (a0.1=2)) ((kO.f n a0.2.1).bind fun r3=>br r3.1 (br (decide (0≤a0.2.2.1)) (br (decide (a0.2.2.1<a2)) (some (decide (a0.2.2.2=0),())) (some (false,()))) (some (false,()))) (some (false,()))) (br (decide (a0.1=3)) ((kO.f n a0.2.1).bind fun r4=>br r4.1 ((isToken.f n a0.2.2.1).bind fun r5=>br r5.1 (some (decide (a0.2.2.2=0),())) (some (false,()))) (some (false,()))) (cut (br (decide (a0.1=4)) (some (.inr (decide (a0.1=4),()))) (br (decide (a0.1=5)) (some (.inr (decide (a0.1=5),()))) (br (decide (a0.1=6)) (some (.inr (decide (a0.1=6),()))) (some (.inr (decide (a0.1=7),())))))) fun y6=>br y6.1 ((kO.f n a0.2.1).bind fun r7=>br r7.1 ((kO.f n a0.2.2.1).bind fun r8=>br r8.1 ((kO.f n a0.2.2.2).bind fun r9=>some (r9.1,())) (some (false,()))) (some (false,()))) (br (decide (a0.1=8)) (br (decide (a0.2.1=0)) (some (y1.1,())) (some (false,()))) (cut (br (decide (a0.1=9)) (some (.inr (decide (a0.1=9),()))) (some (.inr (decide (a0.1=10),())))) fun xe=>br xe.1 ((kO.f n a0.2.1).bind fun cW=>br cW.1 (some (y1.1,())) (some (false,()))) (br (decide (a0.1=11)) (some (decide (a0.1=11)&&(decide (a0.2.1=0)&&(decide (a0.2.2.1=0)&&(decide (a0.2.2.2=0)&&true))),())) (some (false,()))))))))
def lP.ae (n:Nat):ar:=⟨[.val cV,.val I,.val I,.val I],[.val .bool],fun x=>lP.f n x.1 x.2.1 x.2.2.1 x.2.2.2.1⟩
def lP.cfg (n:Nat):bd:=⟨bm,[(283,kO.ae n),(204,isToken.ae n)],[],[]⟩
theorem lP.av:ck aL 250:=cD func250 (by kernel_rfl) (by kernel_rfl)
theorem lP.sound (n:Nat):Sound aL 250 (lP.ae n):=dR (c:=lP.cfg n) (n:=n) (an:=cT f250 lP.bq) ⟨⟨kO.sound n,kO.av⟩,⟨⟨isToken.sound n,isToken.av⟩,trivial⟩⟩ trivial (cB dY) func250 (fun x=>by kernel_rfl)
def ph.bq:List (Nat×LA):=[]
def ph.f (n:Nat) (a0:Instr) (a1:Program):Option (Bool×Unit):=(lP.f n a0 a1.1 a1.2.1 (a1.2.2.length:Int)).bind fun r1=>some (!r1.1,())
def ph.ae (n:Nat):ar:=⟨[.val cV,.fX bp],[.val .bool],fun x=>ph.f n x.1 x.2.1⟩
def ph.cfg (n:Nat):bd:=⟨bm,[(250,lP.ae n)],[],[]⟩
theorem ph.av:ck aL 249:=cD func249 (by kernel_rfl) (by kernel_rfl)
theorem ph.sound (n:Nat):Sound aL 249 (ph.ae n):=dR (c:=ph.cfg n) (n:=n) (an:=cT f249 ph.bq) ⟨⟨lP.sound n,lP.av⟩,trivial⟩ trivial (cB dY) func249 (fun x=>by kernel_rfl)
def qi.bq:List (Nat×LA):=[(3,⟨[(8,.int .i64)],[],[0,1,7],[]⟩)]
def qi.f (n:Nat) (a0:List Instr) (a1:(Program×Unit)):Option (Int×Unit):=iter n (fun ml x7=>br (decide (x7.1<(a0.length:Int))) (ab (0≤x7.1∧x7.1<(a0.length:Int)) (let v9:=(a0.getD x7.1.toNat fK); (ph.f n v9 a1.1).bind fun gi=>br gi.1 (some (x7.1,())) (ml (ag (x7.1+1),())))) (some (-1,()))) (0,())
def qi.ae (n:Nat):ar:=⟨[.val (.sl cV),.jI 249 [.fX bp]],[.val I],fun x=>qi.f n x.1 x.2.1⟩
def qi.cfg (n:Nat):bd:=⟨bm,[(249,ph.ae n)],[],[]⟩
theorem qi.av:ck aL 282:=cD func282 (by kernel_rfl) (by kernel_rfl)
theorem qi.sound (n:Nat):Sound aL 282 (qi.ae n):=dR (c:=qi.cfg n) (n:=n) (an:=cT f282 qi.bq) ⟨⟨ph.sound n,ph.av⟩,trivial⟩ trivial (cB dY) func282 (fun x=>by kernel_rfl)
def qj.bq:List (Nat×LA):=[]
def qj.f (n:Nat) (a0:List Instr) (a1:(Program×Unit)):Option (Bool×Unit):=(qi.f n a0 (a1.1,())).bind fun r1=>some (decide (0≤r1.1),())
def qj.ae (n:Nat):ar:=⟨[.val (.sl cV),.jI 249 [.fX bp]],[.val .bool],fun x=>qj.f n x.1 x.2.1⟩
def qj.cfg (n:Nat):bd:=⟨bm,[(282,qi.ae n)],[],[]⟩
theorem qj.av:ck aL 248:=cD func248 (by kernel_rfl) (by kernel_rfl)
theorem qj.sound (n:Nat):Sound aL 248 (qj.ae n):=dR (c:=qj.cfg n) (n:=n) (an:=cT f248 qj.bq) ⟨⟨qi.sound n,qi.av⟩,trivial⟩ trivial (cB dY) func248 (fun x=>by kernel_rfl)
def jo.bq:List (Nat×LA):=[(1,⟨[(32,.bool)],[],[1],[]⟩)]
def jo.f (n:Nat) (a0:Program):Option (Bool×Unit):=cut (br (decide (a0.1<0)) (some (.inr (true,()))) (br (decide (3<a0.1)) (some (.inr (true,()))) (br (decide (a0.2.1<0)) (some (.inr (true,()))) (br (decide (3<a0.2.1)) (some (.inr (true,()))) (br (decide ((a0.2.2.length:Int)<1)) (some (.inr (true,()))) (some (.inr (decide (24<(a0.2.2.length:Int)),())))))))) fun y1=>br y1.1 (some (false,())) ((qj.f n a0.2.2 (a0,())).bind fun r2=>some (!r2.1,()))
def jo.ae (n:Nat):ar:=⟨[.val bp],[.val .bool],fun x=>jo.f n x.1⟩
def jo.cfg (n:Nat):bd:=⟨bm,[(248,qj.ae n)],[],[]⟩
theorem jo.av:ck aL 201:=cD func201 (by kernel_rfl) (by kernel_rfl)
theorem jo.sound (n:Nat):Sound aL 201 (jo.ae n):=dR (c:=jo.cfg n) (n:=n) (an:=cT f201 jo.bq) ⟨⟨qj.sound n,qj.av⟩,trivial⟩ trivial (cB dY) func201 (fun x=>by kernel_rfl)
def pj.bq:List (Nat×LA):=[]
def pj.f (n:Nat) (a0:Int):Option (Bool×Unit):=(isToken.f n a0).bind fun r1=>some (!r1.1,())
def pj.ae (n:Nat):ar:=⟨[.val I],[.val .bool],fun x=>pj.f n x.1⟩
def pj.cfg (n:Nat):bd:=⟨bm,[(204,isToken.ae n)],[],[]⟩
theorem pj.av:ck aL 203:=cD func203 (by kernel_rfl) (by kernel_rfl)
theorem pj.sound (n:Nat):Sound aL 203 (pj.ae n):=dR (c:=pj.cfg n) (n:=n) (an:=cT f203 pj.bq) ⟨⟨isToken.sound n,isToken.av⟩,trivial⟩ trivial (cB dY) func203 (fun x=>by kernel_rfl)
def qk.bq:List (Nat×LA):=[(3,⟨[(8,.int .i64)],[],[0,1,7],[]⟩)]
def qk.f (n:Nat) (a0:List Int) (a1:(Unit)):Option (Int×Unit):=iter n (fun fa x5=>br (decide (x5.1<(a0.length:Int))) (ab (0≤x5.1∧x5.1<(a0.length:Int)) ((pj.f n (a0.getD x5.1.toNat 0)).bind fun r7=>br r7.1 (some (x5.1,())) (fa (ag (x5.1+1),())))) (some (-1,()))) (0,())
def qk.ae (n:Nat):ar:=⟨[.val IS,.jI 203 []],[.val I],fun x=>qk.f n x.1 x.2.1⟩
def qk.cfg (n:Nat):bd:=⟨bm,[(203,pj.ae n)],[],[]⟩
theorem qk.av:ck aL 251:=cD func251 (by kernel_rfl) (by kernel_rfl)
theorem qk.sound (n:Nat):Sound aL 251 (qk.ae n):=dR (c:=qk.cfg n) (n:=n) (an:=cT f251 qk.bq) ⟨⟨pj.sound n,pj.av⟩,trivial⟩ trivial (cB dY) func251 (fun x=>by kernel_rfl)
def qm.bq:List (Nat×LA):=[]
def qm.f (n:Nat) (a0:List Int) (a1:(Unit)):Option (Bool×Unit):=(qk.f n a0 ()).bind fun r1=>some (decide (0≤r1.1),())
def qm.ae (n:Nat):ar:=⟨[.val IS,.jI 203 []],[.val .bool],fun x=>qm.f n x.1 x.2.1⟩
def qm.cfg (n:Nat):bd:=⟨bm,[(251,qk.ae n)],[],[]⟩
theorem qm.av:ck aL 202:=cD func202 (by kernel_rfl) (by kernel_rfl)
theorem qm.sound (n:Nat):Sound aL 202 (qm.ae n):=dR (c:=qm.cfg n) (n:=n) (an:=cT f202 qm.bq) ⟨⟨qk.sound n,qk.av⟩,trivial⟩ trivial (cB dY) func202 (fun x=>by kernel_rfl)
def fb.bq:List (Nat×LA):=[]
def fb.f (n:Nat) (a0:List Int):Option (Bool×Unit):=br (decide ((a0.length:Int)≤400)) ((qm.f n a0 ()).bind fun r1=>some (!r1.1,())) (some (false,()))
def fb.ae (n:Nat):ar:=⟨[.val IS],[.val .bool],fun x=>fb.f n x.1⟩
def fb.cfg (n:Nat):bd:=⟨bm,[(202,qm.ae n)],[],[]⟩
theorem fb.av:ck aL 145:=cD func145 (by kernel_rfl) (by kernel_rfl)
theorem fb.sound (n:Nat):Sound aL 145 (fb.ae n):=dR (c:=fb.cfg n) (n:=n) (an:=cT f145 fb.bq) ⟨⟨qm.sound n,qm.av⟩,trivial⟩ trivial (cB dY) func145 (fun x=>by kernel_rfl)
def dS.bq:List (Nat×LA):=[(1,⟨[(22,.bool)],[],[1],[]⟩),(7,⟨[(3,.int .i64),(26,.int .i64)],[],[1,24,25],[]⟩),(20,⟨[(6,.int .i64),(44,.int .i64)],[],[1,3,42,43],[]⟩),(25,⟨[(9,.bool),(10,.bool)],[],[1,3,6,7,8,42,43,44],[]⟩),(26,⟨[(92,.bool)],[],[1,3,6,7,8,9,10,42,43,44],[]⟩),(27,⟨[(6,.int .i64)],[],[1,3,7,8,9,10,42,43,44],[]⟩),(32,⟨[(124,.bool)],[],[1,3,6,7,8,9,10,42,43,44],[]⟩),(33,⟨[(6,.int .i64)],[],[1,3,7,8,9,10,42,43,44],[]⟩),(38,⟨[(138,.bool)],[],[1,3,6,7,8,42,43,44],[]⟩),(43,⟨[(144,.int .i64)],[],[1,3,6,8,42,43,44,142,143],[]⟩)]
def dS.f (n:Nat) (a0:ak):Option (Bool×Unit):=cut (br (decide (12<(a0.1.length:Int))) (some (.inr (true,()))) (some (.inr (decide (30<(a0.2.length:Int)),())))) fun y1=>br y1.1 (some (false,())) (iter n (fun GH iK=>br (decide (iK.2.1<(a0.1.length:Int))) (ab (0≤iK.2.1∧iK.2.1<(a0.1.length:Int)) (let B4:=(a0.1.getD iK.2.1.toNat bf); (jo.f n B4).bind fun eN=>br (!eN.1) (some (false,())) (GH (ag (iK.1+(ag (B4.1+B4.2.1))),ag (iK.2.1+1),())))) (iter n (fun Oy iX=>br (decide (iX.2.1<(a0.2.length:Int))) (ab (0≤iX.2.1∧iX.2.1<(a0.2.length:Int)) (let fc:=(a0.2.getD iX.2.1.toNat ay); cut (br (decide (fc.1=(-1))) (br (decide (fc.2.2.1=(-1))) (some (.inr (decide (fc.2.1=0),decide (fc.2.2.2.1=0),()))) (some (.inr (decide (fc.2.1=0),false,())))) (br (decide (fc.2.2.1=(-1))) (some (.inr (false,decide (fc.2.2.2.1=0),()))) (some (.inr (false,false,()))))) fun D6=>cut (br (decide (0≤fc.1)) (br (decide (fc.1<(a0.1.length:Int))) (br (decide (0≤fc.2.1)) (ab (0≤fc.1∧fc.1<(a0.1.length:Int)) (let v65:=(a0.1.getD fc.1.toNat bf); some (.inr (decide (fc.2.1<v65.2.1),())))) (some (.inr (false,())))) (some (.inr (false,())))) (some (.inr (false,())))) fun y64=>cut (br y64.1 (some (.inr (ag (iX.1+1),()))) (br (!D6.1) (some (.inl (false,()))) (some (.inr (iX.1,()))))) fun Vk=>cut (br (decide (0≤fc.2.2.1)) (br (decide (fc.2.2.1<(a0.1.length:Int))) (br (decide (0≤fc.2.2.2.1)) (ab (0≤fc.2.2.1∧fc.2.2.1<(a0.1.length:Int)) (let v69:=(a0.1.getD fc.2.2.1.toNat bf); some (.inr (decide (fc.2.2.2.1<v69.1),())))) (some (.inr (false,())))) (some (.inr (false,())))) (some (.inr (false,())))) fun y68=>cut (br y68.1 (some (.inr (ag (Vk.1+1),()))) (br (!D6.2.1) (some (.inl (false,()))) (some (.inr (Vk.1,()))))) fun Oz=>cut (br D6.1 (br D6.2.1 (some (.inr (true,()))) ((fb.f n fc.2.2.2.2).bind fun zw=>some (.inr (!zw.1,())))) ((fb.f n fc.2.2.2.2).bind fun r75=>some (.inr (!r75.1,())))) fun y73=>br y73.1 (some (false,())) (ab ((0:Int)≤0∧(0:Int)≤iX.2.1∧iX.2.1≤(a0.2.length:Int)) (iter n (fun xf rh=>br (decide (rh.1<(((a0.2.take iX.2.1.toNat).drop 0).length:Int))) (ab (0≤rh.1∧rh.1<(((a0.2.take iX.2.1.toNat).drop 0).length:Int)) (let zx:=(((a0.2.take iX.2.1.toNat).drop 0).getD rh.1.toNat ay); br (decide (0≤fc.1)) (br (decide (zx.1=fc.1)) (br (decide (zx.2.1=fc.2.1)) (some (false,())) (br (decide (0≤fc.2.2.1)) (br (decide (zx.2.2.1=fc.2.2.1)) (br (decide (zx.2.2.2.1=fc.2.2.2.1)) (some (false,())) (xf (ag (rh.1+1),()))) (xf (ag (rh.1+1),()))) (xf (ag (rh.1+1),())))) (br (decide (0≤fc.2.2.1)) (br (decide (zx.2.2.1=fc.2.2.1)) (br (decide (zx.2.2.2.1=fc.2.2.2.1)) (some (false,())) (xf (ag (rh.1+1),()))) (xf (ag (rh.1+1),()))) (xf (ag (rh.1+1),())))) (br (decide (0≤fc.2.2.1)) (br (decide (zx.2.2.1=fc.2.2.1)) (br (decide (zx.2.2.2.1=fc.2.2.2.1)) (some (false,())) (xf (ag (rh.1+1),()))) (xf (ag (rh.1+1),()))) (xf (ag (rh.1+1),()))))) (Oy (Oz.1,ag (iX.2.1+1),()))) (0,()))))) (some (decide (iX.1=iK.1),()))) (0,0,()))) (0,0,()))
def dS.ae (n:Nat):ar:=⟨[.val bZ],[.val .bool],fun x=>dS.f n x.1⟩
def dS.cfg (n:Nat):bd:=⟨bm,[(201,jo.ae n),(145,fb.ae n)],[],[]⟩
theorem dS.av:ck aL 143:=cD func143 (by kernel_rfl) (by kernel_rfl)
theorem dS.sound (n:Nat):Sound aL 143 (dS.ae n):=dR (c:=dS.cfg n) (n:=n) (an:=cT f143 dS.bq) ⟨⟨jo.sound n,jo.av⟩,⟨⟨fb.sound n,fb.av⟩,trivial⟩⟩ trivial (cB dY) func143 (fun x=>by kernel_rfl)
end Go.AmT
