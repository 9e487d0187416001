/- Functions of the program, each as a plain Lean function. No condition. -/
import Derived.Test.YtjfaphipihgomaaGreatDoorAmE
import Derived.Test.YtjfaphipihgomaaGreatDoorProg
open Go Go.Am
noncomputable section
set_option linter.unusedVariables false
set_option maxRecDepth 100000
set_option linter.unusedSimpArgs false
open Bool renaming and_eq_true → aw, not_eq_true → oA, true_and → kW
open Go.Proofs.Tryz renaming prog → aZ
open Int renaming toNat_natCast → ay
open Option renaming bind_some → aC
namespace Go.AmT
open Go.Proofs Go.Proofs.Tryz
abbrev BB:=List UInt8
abbrev I:Ty:=.int .i64
abbrev U8:Ty:=.int .u8
abbrev IS:Ty:=.sl I
abbrev dO:Ty:=(.pair I (.pair I (.pair I I)))
abbrev du:Ty:=(.pair I (.pair I (.pair I (.pair I IS))))
abbrev b_:Ty:=(.pair I (.pair I (.sl dO)))
abbrev cd:Ty:=(.pair (.sl b_) (.sl du))
abbrev bp:Ty:=(.pair I IS)
abbrev dG:Ty:=(.pair (.sl bp) (.pair (.sl IS) (.pair (.sl IS) I)))
abbrev yF:Ty:=(.pair cd (.pair dG (.pair (.sl IS) (.pair (.sl IS) (.bQ I)))))
abbrev gu:Ty:=(.pair cd (.pair dG IS))
abbrev Instr:Type:=Int×(Int×Int×Int)
def kX:Instr:=(0,0,0,0)
abbrev Program:Type:=Int×(Int×List Instr)
def bC:Program:=(0,0,[])
abbrev bb:Type:=Int×(Int×Int×Int×List Int)
def aE:bb:=(0,0,0,0,[])
abbrev aq:Type:=List Program×List bb
def bw:List (Nat×mD):=[(3,⟨false,1,8,[.int .i64 0],.int .i64,0,some I,[],false⟩),
 (28,⟨false,1,24,[.nil],.slice,145,some (.sl b_),[],false⟩),
 (29,⟨false,1,24,[.nil],.slice,148,some (.sl du),[],false⟩),
 (31,⟨true,2,48,[.nil,.nil],.struct,0,some cd,[(0,28),(1,29)],false⟩),
 (36,⟨false,1,24,[.nil],.slice,3,some IS,[],false⟩),
 (40,⟨false,1,24,[.nil],.slice,93,some (.sl b_),[],false⟩),
 (41,⟨false,1,24,[.nil],.slice,152,some (.sl du),[],false⟩),
 (43,⟨true,2,48,[.nil,.nil],.struct,0,some cd,[(0,40),(1,41)],false⟩),
 (91,⟨false,1,24,[.nil],.slice,199,some (.sl dO),[],false⟩),
 (93,⟨true,3,40,[.int .i64 0,.int .i64 0,.nil],.struct,0,some b_,[(0,3),(1,3),(2,91)],false⟩),
 (143,⟨false,1,24,[.nil],.slice,252,some (.sl dO),[],false⟩),
 (145,⟨true,3,40,[.int .i64 0,.int .i64 0,.nil],.struct,0,some b_,[(0,3),(1,3),(2,143)],false⟩),
 (148,⟨true,5,56,[.int .i64 0,.int .i64 0,.int .i64 0,.int .i64 0,.nil],.struct,0,some du,[(0,3),(1,3),(2,3),(3,3),(4,36)],false⟩),
 (152,⟨true,5,56,[.int .i64 0,.int .i64 0,.int .i64 0,.int .i64 0,.nil],.struct,0,some du,[(0,3),(1,3),(2,3),(3,3),(4,36)],false⟩),
 (199,⟨true,4,32,[.int .i64 0,.int .i64 0,.int .i64 0,.int .i64 0],.struct,0,some dO,[(0,3),(1,3),(2,3),(3,3)],true⟩),
 (252,⟨true,4,32,[.int .i64 0,.int .i64 0,.int .i64 0,.int .i64 0],.struct,0,some dO,[(0,3),(1,3),(2,3),(3,3)],false⟩)]
theorem kB:(bw.all fun p=>Fy aZ p.1 p.2)=true:=by kernel_rfl
theorem mixed:Tryz.prog.follows .mixedOrders=true:=by kernel_rfl
theorem jX {c:ba} {n:Nat} {f:FuncId} {fn:Func} {an:iw} {m:au} (A:sW aZ c.calls) (B:wB aZ c.tO) (hc:fY aZ c) (hf:Tryz.prog.funcs[f]? = some fn) (hm:∀ x,m.m x=AA c n fn an m.ps m.rs x) (hp:c.mF.all (fun x=>Nat.blt x 3000000)=true:=by rfl) (h0:vJ c=none:=by rfl):Sound aZ f m:=Ix (uz mixed (sU (.of A (Mr hp)) (.of B)) hc h0) hc hf hm
theorem acL {c:ba} {n:Nat} {f:FuncId} {fn:Func} {an:iw} {M:dn} (A:sW aZ c.calls) (B:wB aZ c.tO) (hc:fY aZ c) (hf:Tryz.prog.funcs[f]? = some fn) (hm:∀ x,M.m x=dn.run c n fn an M.la M.lb x) (hp:c.mF.all (fun x=>Nat.blt x 3000000)=true:=by rfl) (h0:vJ c=none:=by rfl):pB aZ f M:=Fk (uz mixed (sU (.of A (Mr hp)) (.of B)) hc h0) hc hf hm
def mS:List (Nat×mD):=[(3,⟨false,1,8,[.int .i64 0],.int .i64,0,some I,[],false⟩),
 (36,⟨false,1,24,[.nil],.slice,3,some IS,[],false⟩),
 (43,⟨true,2,48,[.nil,.nil],.struct,0,some cd,[(0,40),(1,41)],false⟩),
 (40,⟨false,1,24,[.nil],.slice,93,some (.sl b_),[],false⟩),
 (41,⟨false,1,24,[.nil],.slice,152,some (.sl du),[],false⟩),
 (93,⟨true,3,40,[.int .i64 0,.int .i64 0,.nil],.struct,0,some b_,[(0,3),(1,3),(2,91)],false⟩),
 (33,⟨false,1,24,[.nil],.slice,36,some (.sl IS),[],false⟩),
 (46,⟨true,4,80,[.nil,.nil,.nil,.int .i64 0],.struct,0,some dG,[(0,44),(1,33),(2,33),(3,3)],false⟩),
 (152,⟨true,5,56,[.int .i64 0,.int .i64 0,.int .i64 0,.int .i64 0,.nil],.struct,0,some du,[(0,3),(1,3),(2,3),(3,3),(4,36)],false⟩),
 (9,⟨false,1,16,[.str []],.str,0,some .str,[],false⟩),
 (44,⟨false,1,24,[.nil],.slice,95,some (.sl bp),[],false⟩),
 (22,⟨false,1,24,[.nil],.slice,9,some (.sl .str),[],false⟩),
 (91,⟨false,1,24,[.nil],.slice,199,some (.sl dO),[],false⟩),
 (199,⟨true,4,32,[.int .i64 0,.int .i64 0,.int .i64 0,.int .i64 0],.struct,0,some dO,[(0,3),(1,3),(2,3),(3,3)],false⟩),
 (95,⟨true,2,32,[.int .i64 0,.nil],.struct,0,some bp,[(0,3),(1,36)],false⟩),
 (237,⟨true,9,200,[.nil,.nil,.nil,.nil,.nil,.int .i64 0,.nil,.nil,.nil],.struct,0,some yF,[(0,43),(2,46),(6,33),(7,33),(8,36)],false⟩),
 (4,⟨false,1,1,[.bool false],.bool,0,some .bool,[],false⟩),
 (5,⟨false,1,1,[.int .u8 0],.int .u8,0,some U8,[],false⟩),
 (48,⟨true,7,152,[.nil,.nil,.nil,.nil,.nil,.int .i64 0,.nil],.struct,0,some gu,[(0,43),(2,46),(6,36)],false⟩),
 (170,⟨false,1,24,[.nil],.slice,4,some (.sl .bool),[],false⟩),
 (219,⟨false,1,8,[.so],.other,0,none,[],false⟩),
 (220,⟨false,1,24,[.nil],.slice,219,none,[],false⟩),
 (81,⟨false,1,24,[.nil],.slice,5,some (.sl U8),[],false⟩),
 (28,⟨false,1,24,[.nil],.slice,145,some (.sl b_),[],false⟩),
 (29,⟨false,1,24,[.nil],.slice,148,some (.sl du),[],false⟩),
 (31,⟨true,2,48,[.nil,.nil],.struct,0,some cd,[(0,28),(1,29)],false⟩),
 (143,⟨false,1,24,[.nil],.slice,252,some (.sl dO),[],false⟩),
 (145,⟨true,3,40,[.int .i64 0,.int .i64 0,.nil],.struct,0,some b_,[(0,3),(1,3),(2,143)],false⟩),
 (148,⟨true,5,56,[.int .i64 0,.int .i64 0,.int .i64 0,.int .i64 0,.nil],.struct,0,some du,[(0,3),(1,3),(2,3),(3,3),(4,36)],false⟩),
 (252,⟨true,4,32,[.int .i64 0,.int .i64 0,.int .i64 0,.int .i64 0],.struct,0,some dO,[(0,3),(1,3),(2,3),(3,3)],false⟩),
 (32,⟨false,1,24,[.nil],.slice,150,some (.sl bp),[],false⟩),
 (35,⟨true,4,80,[.nil,.nil,.nil,.int .i64 0],.struct,0,some dG,[(0,32),(1,33),(2,33),(3,3)],false⟩),
 (150,⟨true,2,32,[.int .i64 0,.nil],.struct,0,some bp,[(0,3),(1,36)],false⟩),
 (227,⟨false,1,16,[.err true],.iface,0,some .err,[],false⟩),
 (202,⟨false,1,24,[.nil],.slice,33,some (.sl (.sl IS)),[],false⟩)]
theorem kC:(mS.all fun p=>Fy aZ p.1 p.2)=true:=by kernel_rfl
abbrev aP (f:Nat) (m:au):Prop:=Sound aZ f m∧dh aZ f
abbrev pD (f:Nat) (m:dn):Prop:=pB aZ f m∧dh aZ f
theorem eu {f:Nat} {fn:Func} (h:Tryz.prog.funcs[f]? = some fn) (h1:(fn.name== "runtime.NumGoroutine")=false) (h2:fn.body.isNone=false):dh aZ f:=⟨_,h,h1,h2⟩
theorem aK:sW aZ []:=trivial
theorem ai {k:Nat} {m:au} {l:List (Nat×au)} (h:aP k m) (t:sW aZ l) (e:Ar k=k:=by rfl):sW aZ ((k,m)::l):=⟨by rw [e]; exact h,t⟩
theorem cZ2 (k:Nat) {m:au} {l:List (Nat×au)} (h:aP (Ar k) m) (t:sW aZ l):sW aZ ((k,m)::l):=⟨h,t⟩
theorem aL:wB aZ []:=trivial
theorem eM {k:Nat} {m:dn} {l:List (Nat×dn)} (h:pD k m) (t:wB aZ l):wB aZ ((k,m)::l):=⟨h,t⟩
theorem aU (n:Nat) (cE:List (Nat×LA)) (z:List Nat) {f:FuncId} {fn:Func} {m:au} {C:List (Nat×au)} {L:List (Nat×dn)} (a:sW aZ C) (b:wB aZ L) (hf:Tryz.prog.funcs[f]? = some fn) (hm:∀ x,m.m x=AA ⟨mS,C,L,z⟩ n fn (fm fn cE) m.ps m.rs x:=by intro x; kernel_rfl) (h1:(fn.name== "runtime.NumGoroutine")=false:=by kernel_rfl) (h2:fn.body.isNone=false:=by kernel_rfl) (hp:z.all (fun x=>Nat.blt x 3000000)=true:=by rfl) (h0:vJ ⟨mS,C,L,z⟩=none:=by rfl):aP f m:=⟨jX (c:=⟨mS,C,L,z⟩) (n:=n) (an:=fm fn cE) a b (eo kC) hf hm hp h0,eu hf h1 h2⟩
theorem rv (n:Nat) (cE:List (Nat×LA)) (z:List Nat) {f:FuncId} {fn:Func} {m:dn} {C:List (Nat×au)} {L:List (Nat×dn)} (a:sW aZ C) (b:wB aZ L) (hf:Tryz.prog.funcs[f]? = some fn) (hm:∀ x,m.m x=dn.run ⟨mS,C,L,z⟩ n fn (fm fn cE) m.la m.lb x:=by intro x; kernel_rfl) (h1:(fn.name== "runtime.NumGoroutine")=false:=by kernel_rfl) (h2:fn.body.isNone=false:=by kernel_rfl) (hp:z.all (fun x=>Nat.blt x 3000000)=true:=by rfl) (h0:vJ ⟨mS,C,L,z⟩=none:=by rfl):pD f m:=⟨acL (c:=⟨mS,C,L,z⟩) (n:=n) (an:=fm fn cE) a b (eo kC) hf hm hp h0,eu hf h1 h2⟩
def bY.cE:List (Nat×LA):=[]
def bY.f (n:Nat) (a0 a1 a2:Int):Option (Bool×Unit):=br (decide (a1≤a0)) (some (decide (a0≤a2),())) (some (false,()))
def bY.ae (n:Nat):au:=⟨[.val I,.val I,.val I],[.val .bool],fun x=>bY.f n x.1 x.2.1 x.2.2.1⟩
def bY.cfg (n:Nat):ba:=⟨bw,[],[],[]⟩
theorem bY.aD:dh aZ 63:=eu func63 (by kernel_rfl) (by kernel_rfl)
theorem bY.sound (n:Nat):Sound aZ 63 (bY.ae n):=jX (c:=bY.cfg n) (n:=n) (an:=fm f63 bY.cE) trivial trivial (eo kB) func63 (fun x=>by kernel_rfl)
def kY.cE:List (Nat×LA):=[]
def kY.f (n:Nat) (a0:Int):Option (Bool×Unit):=(bY.f n a0 (-999999) 999999).bind fun r1=>some (r1.1,())
def kY.ae (n:Nat):au:=⟨[.val I],[.val .bool],fun x=>kY.f n x.1⟩
def kY.cfg (n:Nat):ba:=⟨bw,[(63,bY.ae n)],[],[]⟩
theorem kY.aD:dh aZ 189:=eu func189 (by kernel_rfl) (by kernel_rfl)
theorem kY.sound (n:Nat):Sound aZ 189 (kY.ae n):=jX (c:=kY.cfg n) (n:=n) (an:=fm f189 kY.cE) ⟨⟨bY.sound n,bY.aD⟩,trivial⟩ trivial (eo kB) func189 (fun x=>by kernel_rfl)
def l8.cE:List (Nat×LA):=[(1,⟨[(5,.bool)],[],[2,3],[]⟩),(2,⟨[(6,.bool)],[],[2,3,5],[]⟩),(15,⟨[(84,.bool)],[],[3,5,6,32],[]⟩),(27,⟨[(98,.bool)],[],[3,6,32],[]⟩)]
def l8.f (n:Nat) (a0:Program) (a1:Instr):Option (Bool×Unit):=cut ((bY.f n a1.2.1 0 3).bind fun r5=>br r5.1 ((bY.f n a1.2.2.1 0 3).bind fun r6=>br r6.1 ((bY.f n a1.2.2.2 0 3).bind fun r7=>some (.inr (r7.1,()))) (some (.inr (false,())))) (some (.inr (false,())))) fun y4=>cut ((bY.f n a1.2.2.1 0 (a0.2.2.length:Int)).bind fun gv=>br gv.1 (some (.inr (decide (a1.2.2.2=0),()))) (some (.inr (false,())))) fun y9=>br (decide (a1.1=1)) ((bY.f n a1.2.1 0 3).bind fun dT=>br dT.1 ((bY.f n a1.2.2.1 0 (ah (a0.1-1))).bind fun fh=>br fh.1 (some (decide (a1.2.2.2=0),())) (some (false,()))) (some (false,()))) (br (decide (a1.1=2)) ((bY.f n a1.2.1 0 3).bind fun fU=>br fU.1 ((bY.f n a1.2.2.1 0 (ah (a0.2.1-1))).bind fun iA=>br iA.1 (some (decide (a1.2.2.2=0),())) (some (false,()))) (some (false,()))) (br (decide (a1.1=3)) ((bY.f n a1.2.1 0 3).bind fun fV=>br fV.1 ((kY.f n a1.2.2.1).bind fun jf=>br jf.1 (some (decide (a1.2.2.2=0),())) (some (false,()))) (some (false,()))) (cut (br (decide (a1.1=4)) (some (.inr (decide (a1.1=4),()))) (br (decide (a1.1=5)) (some (.inr (decide (a1.1=5),()))) (br (decide (a1.1=6)) (some (.inr (decide (a1.1=6),()))) (some (.inr (decide (a1.1=7),())))))) fun ND=>br ND.1 (some (y4.1,())) (br (decide (a1.1=8)) (br (decide (a1.2.1=0)) (some (y9.1,())) (some (false,()))) (cut (br (decide (a1.1=9)) (some (.inr (decide (a1.1=9),()))) (some (.inr (decide (a1.1=10),())))) fun y18=>br y18.1 ((bY.f n a1.2.1 0 3).bind fun nF=>br nF.1 (some (y9.1,())) (some (false,()))) (br (decide (a1.1=11)) (br (decide (a1.2.1=0)) (br (decide (a1.2.2.1=0)) (some (decide (a1.2.2.2=0),())) (some (false,()))) (some (false,()))) (some (false,()))))))))
def l8.ae (n:Nat):au:=⟨[.val b_,.val dO],[.val .bool],fun x=>l8.f n x.1 x.2.1⟩
def l8.cfg (n:Nat):ba:=⟨bw,[(63,bY.ae n),(189,kY.ae n)],[],[]⟩
theorem l8.aD:dh aZ 188:=eu func188 (by kernel_rfl) (by kernel_rfl)
theorem l8.sound (n:Nat):Sound aZ 188 (l8.ae n):=jX (c:=l8.cfg n) (n:=n) (an:=fm f188 l8.cE) ⟨⟨bY.sound n,bY.aD⟩,⟨⟨kY.sound n,kY.aD⟩,trivial⟩⟩ trivial (eo kB) func188 (fun x=>by kernel_rfl)
def jg.cE:List (Nat×LA):=[(1,⟨[(21,.bool)],[],[1],[]⟩),(6,⟨[(25,.int .i64)],[],[1,23,24],[]⟩)]
def jg.f (n:Nat) (a0:Program):Option (Bool×Unit):=cut ((bY.f n a0.1 0 3).bind fun r5=>br (!r5.1) (some (.inr (true,()))) ((bY.f n a0.2.1 0 3).bind fun r6=>br (!r6.1) (some (.inr (true,()))) ((bY.f n (a0.2.2.length:Int) 1 24).bind fun r7=>some (.inr (!r7.1,()))))) fun y4=>br y4.1 (some (false,())) (iter n (fun acM FQ=>br (decide (FQ.1<(a0.2.2.length:Int))) (ab (0≤FQ.1∧FQ.1<(a0.2.2.length:Int)) (let v18:=(a0.2.2.getD FQ.1.toNat kX); (l8.f n a0 v18).bind fun nF=>br (!nF.1) (some (false,())) (acM (ah (FQ.1+1),())))) (some (true,()))) (0,()))
def jg.ae (n:Nat):au:=⟨[.val b_],[.val .bool],fun x=>jg.f n x.1⟩
def jg.cfg (n:Nat):ba:=⟨bw,[(63,bY.ae n),(188,l8.ae n)],[],[]⟩
theorem jg.aD:dh aZ 120:=eu func120 (by kernel_rfl) (by kernel_rfl)
theorem jg.sound (n:Nat):Sound aZ 120 (jg.ae n):=jX (c:=jg.cfg n) (n:=n) (an:=fm f120 jg.cE) ⟨⟨bY.sound n,bY.aD⟩,⟨⟨l8.sound n,l8.aD⟩,trivial⟩⟩ trivial (eo kB) func120 (fun x=>by kernel_rfl)
def oG.cE:List (Nat×LA):=[(1,⟨[(34,.bool)],[],[2,3],[]⟩),(6,⟨[(5,.int .i64)],[],[2,3],[]⟩),(10,⟨[(6,.int .i64)],[],[3,5],[]⟩)]
def oG.f (n:Nat) (a0:aq) (a1:bb):Option (Bool×Unit):=cut (br (decide (a1.1=(-1))) (br (decide (a1.2.2.1=(-1))) (some (.inr (true,()))) ((bY.f n a1.1 (-1) (ah ((a0.1.length:Int)-1))).bind fun r6=>br (!r6.1) (some (.inr (true,()))) ((bY.f n a1.2.2.1 (-1) (ah ((a0.1.length:Int)-1))).bind fun r7=>some (.inr (!r7.1,()))))) ((bY.f n a1.1 (-1) (ah ((a0.1.length:Int)-1))).bind fun r8=>br (!r8.1) (some (.inr (true,()))) ((bY.f n a1.2.2.1 (-1) (ah ((a0.1.length:Int)-1))).bind fun r9=>some (.inr (!r9.1,()))))) fun y5=>br y5.1 (some (false,())) (cut (br (decide (0≤a1.1)) (ab (0≤a1.1∧a1.1<(a0.1.length:Int)) (let v12:=(a0.1.getD a1.1.toNat bC); some (.inr (v12.2.1,())))) (some (.inr (1,())))) fun FR=>cut (br (decide (0≤a1.2.2.1)) (ab (0≤a1.2.2.1∧a1.2.2.1<(a0.1.length:Int)) (let wE:=(a0.1.getD a1.2.2.1.toNat bC); some (.inr (wE.1,())))) (some (.inr (1,())))) fun oH=>(bY.f n a1.2.1 0 (ah (FR.1-1))).bind fun jf=>br jf.1 ((bY.f n a1.2.2.2.1 0 (ah (oH.1-1))).bind fun fD=>some (fD.1,())) (some (false,())))
def oG.ae (n:Nat):au:=⟨[.val cd,.val du],[.val .bool],fun x=>oG.f n x.1 x.2.1⟩
def oG.cfg (n:Nat):ba:=⟨bw,[(63,bY.ae n)],[],[]⟩
theorem oG.aD:dh aZ 121:=eu func121 (by kernel_rfl) (by kernel_rfl)
theorem oG.sound (n:Nat):Sound aZ 121 (oG.ae n):=jX (c:=oG.cfg n) (n:=n) (an:=fm f121 oG.cE) ⟨⟨bY.sound n,bY.aD⟩,trivial⟩ trivial (eo kB) func121 (fun x=>by kernel_rfl)
def fE.cE:List (Nat×LA):=[(3,⟨[(7,.int .i64)],[],[0,5,6],[]⟩)]
def fE.f (n:Nat) (a0:List Int):Option (Bool×Unit):=iter n (fun oI x6=>br (decide (x6.1<(a0.length:Int))) (ab (0≤x6.1∧x6.1<(a0.length:Int)) ((kY.f n (a0.getD x6.1.toNat 0)).bind fun r8=>br (!r8.1) (some (false,())) (oI (ah (x6.1+1),())))) (some (decide ((a0.length:Int)≤400),()))) (0,())
def fE.ae (n:Nat):au:=⟨[.val IS],[.val .bool],fun x=>fE.f n x.1⟩
def fE.cfg (n:Nat):ba:=⟨bw,[(189,kY.ae n)],[],[]⟩
theorem fE.aD:dh aZ 122:=eu func122 (by kernel_rfl) (by kernel_rfl)
theorem fE.sound (n:Nat):Sound aZ 122 (fE.ae n):=jX (c:=fE.cfg n) (n:=n) (an:=fm f122 fE.cE) ⟨⟨kY.sound n,kY.aD⟩,trivial⟩ trivial (eo kB) func122 (fun x=>by kernel_rfl)
def kD.cE:List (Nat×LA):=[(4,⟨[(7,.int .i64),(13,.int .i64)],[],[1,2,11,12],[]⟩),(9,⟨[(27,.bool)],[],[1,2,7,8,11,12,13],[]⟩)]
def kD.f (n:Nat) (a0:aq) (a1 a2:Int):Option (Int×Unit):=iter n (fun qx x8=>br (decide (x8.2.1<(a0.2.length:Int))) (ab (0≤x8.2.1∧x8.2.1<(a0.2.length:Int)) (let v10:=(a0.2.getD x8.2.1.toNat aE); cut (br (decide (v10.2.2.1=a1)) (some (.inr (decide (v10.2.2.2.1=a2),()))) (some (.inr (false,())))) fun FR=>br FR.1 (br (decide (0≤x8.1)) (some (-2,())) (qx (x8.2.1,ah (x8.2.1+1),()))) (qx (x8.1,ah (x8.2.1+1),())))) (some (x8.1,()))) (-1,0,())
def kD.ae (n:Nat):au:=⟨[.val cd,.val I,.val I],[.val I],fun x=>kD.f n x.1 x.2.1 x.2.2.1⟩
def kD.cfg (n:Nat):ba:=⟨bw,[],[],[]⟩
theorem kD.aD:dh aZ 123:=eu func123 (by kernel_rfl) (by kernel_rfl)
theorem kD.sound (n:Nat):Sound aZ 123 (kD.ae n):=jX (c:=kD.cfg n) (n:=n) (an:=fm f123 kD.cE) trivial trivial (eo kB) func123 (fun x=>by kernel_rfl)
def l9.cE:List (Nat×LA):=[(4,⟨[(7,.int .i64),(13,.int .i64)],[],[1,2,11,12],[]⟩),(9,⟨[(27,.bool)],[],[1,2,7,8,11,12,13],[]⟩)]
def l9.f (n:Nat) (a0:aq) (a1 a2:Int):Option (Int×Unit):=iter n (fun qx x8=>br (decide (x8.2.1<(a0.2.length:Int))) (ab (0≤x8.2.1∧x8.2.1<(a0.2.length:Int)) (let v10:=(a0.2.getD x8.2.1.toNat aE); cut (br (decide (v10.1=a1)) (some (.inr (decide (v10.2.1=a2),()))) (some (.inr (false,())))) fun FR=>br FR.1 (br (decide (0≤x8.1)) (some (-2,())) (qx (x8.2.1,ah (x8.2.1+1),()))) (qx (x8.1,ah (x8.2.1+1),())))) (some (x8.1,()))) (-1,0,())
def l9.ae (n:Nat):au:=⟨[.val cd,.val I,.val I],[.val I],fun x=>l9.f n x.1 x.2.1 x.2.2.1⟩
def l9.cfg (n:Nat):ba:=⟨bw,[],[],[]⟩
theorem l9.aD:dh aZ 124:=eu func124 (by kernel_rfl) (by kernel_rfl)
theorem l9.sound (n:Nat):Sound aZ 124 (l9.ae n):=jX (c:=l9.cfg n) (n:=n) (an:=fm f124 l9.cE) trivial trivial (eo kB) func124 (fun x=>by kernel_rfl)
def eH.cE:List (Nat×LA):=[(1,⟨[(20,.bool)],[],[1],[]⟩),(6,⟨[(24,.int .i64)],[],[1,22,23],[]⟩),(17,⟨[(35,.int .i64)],[],[1,33,34],[]⟩),(28,⟨[(53,.int .i64)],[],[1,51,52],[]⟩),(35,⟨[(9,.int .i64)],[],[1,7,8,51,52,53],[]⟩),(45,⟨[(10,.int .i64)],[],[1,7,8,51,52,53],[]⟩)]
def eH.f (n:Nat) (a0:aq):Option (Bool×Unit):=cut (br (decide (12<(a0.1.length:Int))) (some (.inr (true,()))) (some (.inr (decide (30<(a0.2.length:Int)),())))) fun y1=>br y1.1 (some (false,())) (iter n (fun NF pE=>br (decide (pE.1<(a0.1.length:Int))) (ab (0≤pE.1∧pE.1<(a0.1.length:Int)) (let wE:=(a0.1.getD pE.1.toNat bC); (jg.f n wE).bind fun jf=>br (!jf.1) (some (false,())) (NF (ah (pE.1+1),())))) (iter n (fun Je gF=>br (decide (gF.1<(a0.2.length:Int))) (ab (0≤gF.1∧gF.1<(a0.2.length:Int)) (let Uj:=(a0.2.getD gF.1.toNat aE); (oG.f n a0 Uj).bind fun kE=>br (!kE.1) (some (false,())) ((fE.f n Uj.2.2.2.2).bind fun mT=>br (!mT.1) (some (false,())) (Je (ah (gF.1+1),()))))) (iter n (fun acN Bd=>br (decide (Bd.1<(a0.1.length:Int))) (ab (0≤Bd.1∧Bd.1<(a0.1.length:Int)) (let Uk:=(a0.1.getD Bd.1.toNat bC); iter n (fun acO NG=>br (decide (NG.1<Uk.1)) ((kD.f n a0 Bd.1 NG.1).bind fun r91=>br (decide (r91.1<0)) (some (false,())) (acO (ah (NG.1+1),()))) (iter n (fun acP NH=>br (decide (NH.1<Uk.2.1)) ((l9.f n a0 Bd.1 NH.1).bind fun acQ=>br (decide (acQ.1<0)) (some (false,())) (acP (ah (NH.1+1),()))) (acN (ah (Bd.1+1),()))) (0,()))) (0,()))) (some (true,()))) (0,()))) (0,()))) (0,()))
def eH.ae (n:Nat):au:=⟨[.val cd],[.val .bool],fun x=>eH.f n x.1⟩
def eH.cfg (n:Nat):ba:=⟨bw,[(120,jg.ae n),(121,oG.ae n),(122,fE.ae n),(123,kD.ae n),(124,l9.ae n)],[],[]⟩
theorem eH.aD:dh aZ 57:=eu func57 (by kernel_rfl) (by kernel_rfl)
theorem eH.sound (n:Nat):Sound aZ 57 (eH.ae n):=jX (c:=eH.cfg n) (n:=n) (an:=fm f57 eH.cE) ⟨⟨jg.sound n,jg.aD⟩,⟨⟨oG.sound n,oG.aD⟩,⟨⟨fE.sound n,fE.aD⟩,⟨⟨kD.sound n,kD.aD⟩,⟨⟨l9.sound n,l9.aD⟩,trivial⟩⟩⟩⟩⟩ trivial (eo kB) func57 (fun x=>by kernel_rfl)
def kF.cE:List (Nat×LA):=[]
def kF.f (n:Nat) (a0:Int):Option (Bool×Unit):=br (decide (0≤a0)) (some (decide (a0≤3),())) (some (false,()))
def kF.ae (n:Nat):au:=⟨[.val I],[.val .bool],fun x=>kF.f n x.1⟩
def kF.cfg (n:Nat):ba:=⟨bw,[],[],[]⟩
theorem kF.aD:dh aZ 283:=eu func283 (by kernel_rfl) (by kernel_rfl)
theorem kF.sound (n:Nat):Sound aZ 283 (kF.ae n):=jX (c:=kF.cfg n) (n:=n) (an:=fm f283 kF.cE) trivial trivial (eo kB) func283 (fun x=>by kernel_rfl)
def isToken.cE:List (Nat×LA):=[]
def isToken.f (n:Nat) (a0:Int):Option (Bool×Unit):=br (decide ((-999999)≤a0)) (some (decide (a0≤999999),())) (some (false,()))
def isToken.ae (n:Nat):au:=⟨[.val I],[.val .bool],fun x=>isToken.f n x.1⟩
def isToken.cfg (n:Nat):ba:=⟨bw,[],[],[]⟩
theorem isToken.aD:dh aZ 204:=eu func204 (by kernel_rfl) (by kernel_rfl)
theorem isToken.sound (n:Nat):Sound aZ 204 (isToken.ae n):=jX (c:=isToken.cfg n) (n:=n) (an:=fm f204 isToken.cE) trivial trivial (eo kB) func204 (fun x=>by kernel_rfl)
def lB.cE:List (Nat×LA):=[(1,⟨[(9,.bool)],[],[1,2,4],[]⟩),(14,⟨[(83,.bool)],[],[4,9,25],[]⟩),(26,⟨[(109,.bool)],[],[4,9,25],[]⟩)]
def lB.f (n:Nat) (a0:Instr) (a1 a2 a3:Int):Option (Bool×Unit):=cut (br (decide (0≤a0.2.2.1)) (br (decide (a0.2.2.1≤a3)) (some (.inr (decide (a0.2.2.2=0),()))) (some (.inr (false,())))) (some (.inr (false,())))) fun y1=>br (decide (a0.1=1)) ((kF.f n a0.2.1).bind fun r2=>br r2.1 (br (decide (0≤a0.2.2.1)) (br (decide (a0.2.2.1<a1)) (some (decide (a0.2.2.2=0),())) (some (false,()))) (some (false,()))) (some (false,()))) (br (decide (a0.1=2)) ((kF.f n a0.2.1).bind fun r3=>br r3.1 (br (decide (0≤a0.2.2.1)) (br (decide (a0.2.2.1<a2)) (some (decide (a0.2.2.2=0),())) (some (false,()))) (some (false,()))) (some (false,()))) (br (decide (a0.1=3)) ((kF.f n a0.2.1).bind fun r4=>br r4.1 ((isToken.f n a0.2.2.1).bind fun r5=>br r5.1 (some (decide (a0.2.2.2=0),())) (some (false,()))) (some (false,()))) (cut (br (decide (a0.1=4)) (some (.inr (decide (a0.1=4),()))) (br (decide (a0.1=5)) (some (.inr (decide (a0.1=5),()))) (br (decide (a0.1=6)) (some (.inr (decide (a0.1=6),()))) (some (.inr (decide (a0.1=7),())))))) fun y6=>br y6.1 ((kF.f n a0.2.1).bind fun r7=>br r7.1 ((kF.f n a0.2.2.1).bind fun r8=>br r8.1 ((kF.f n a0.2.2.2).bind fun r9=>some (r9.1,())) (some (false,()))) (some (false,()))) (br (decide (a0.1=8)) (br (decide (a0.2.1=0)) (some (y1.1,())) (some (false,()))) (cut (br (decide (a0.1=9)) (some (.inr (decide (a0.1=9),()))) (some (.inr (decide (a0.1=10),())))) fun s_=>br s_.1 ((kF.f n a0.2.1).bind fun dT=>br dT.1 (some (y1.1,())) (some (false,()))) (br (decide (a0.1=11)) (some (decide (a0.1=11)&&(decide (a0.2.1=0)&&(decide (a0.2.2.1=0)&&(decide (a0.2.2.2=0)&&true))),())) (some (false,()))))))))
def lB.ae (n:Nat):au:=⟨[.val dO,.val I,.val I,.val I],[.val .bool],fun x=>lB.f n x.1 x.2.1 x.2.2.1 x.2.2.2.1⟩
def lB.cfg (n:Nat):ba:=⟨bw,[(283,kF.ae n),(204,isToken.ae n)],[],[]⟩
theorem lB.aD:dh aZ 250:=eu func250 (by kernel_rfl) (by kernel_rfl)
theorem lB.sound (n:Nat):Sound aZ 250 (lB.ae n):=jX (c:=lB.cfg n) (n:=n) (an:=fm f250 lB.cE) ⟨⟨kF.sound n,kF.aD⟩,⟨⟨isToken.sound n,isToken.aD⟩,trivial⟩⟩ trivial (eo kB) func250 (fun x=>by kernel_rfl)
def oJ.cE:List (Nat×LA):=[]
def oJ.f (n:Nat) (a0:Instr) (a1:Program):Option (Bool×Unit):=(lB.f n a0 a1.1 a1.2.1 (a1.2.2.length:Int)).bind fun r1=>some (!r1.1,())
def oJ.ae (n:Nat):au:=⟨[.val dO,.fQ b_],[.val .bool],fun x=>oJ.f n x.1 x.2.1⟩
def oJ.cfg (n:Nat):ba:=⟨bw,[(250,lB.ae n)],[],[]⟩
theorem oJ.aD:dh aZ 249:=eu func249 (by kernel_rfl) (by kernel_rfl)
theorem oJ.sound (n:Nat):Sound aZ 249 (oJ.ae n):=jX (c:=oJ.cfg n) (n:=n) (an:=fm f249 oJ.cE) ⟨⟨lB.sound n,lB.aD⟩,trivial⟩ trivial (eo kB) func249 (fun x=>by kernel_rfl)
def pF.cE:List (Nat×LA):=[(3,⟨[(8,.int .i64)],[],[0,1,7],[]⟩)]
def pF.f (n:Nat) (a0:List Instr) (a1:(Program×Unit)):Option (Int×Unit):=iter n (fun yG x7=>br (decide (x7.1<(a0.length:Int))) (ab (0≤x7.1∧x7.1<(a0.length:Int)) (let v9:=(a0.getD x7.1.toNat kX); (oJ.f n v9 a1.1).bind fun gv=>br gv.1 (some (x7.1,())) (yG (ah (x7.1+1),())))) (some (-1,()))) (0,())
def pF.ae (n:Nat):au:=⟨[.val (.sl dO),.jD 249 [.fQ b_]],[.val I],fun x=>pF.f n x.1 x.2.1⟩
def pF.cfg (n:Nat):ba:=⟨bw,[(249,oJ.ae n)],[],[]⟩
theorem pF.aD:dh aZ 282:=eu func282 (by kernel_rfl) (by kernel_rfl)
theorem pF.sound (n:Nat):Sound aZ 282 (pF.ae n):=jX (c:=pF.cfg n) (n:=n) (an:=fm f282 pF.cE) ⟨⟨oJ.sound n,oJ.aD⟩,trivial⟩ trivial (eo kB) func282 (fun x=>by kernel_rfl)
def pG.cE:List (Nat×LA):=[]
def pG.f (n:Nat) (a0:List Instr) (a1:(Program×Unit)):Option (Bool×Unit):=(pF.f n a0 (a1.1,())).bind fun r1=>some (decide (0≤r1.1),())
def pG.ae (n:Nat):au:=⟨[.val (.sl dO),.jD 249 [.fQ b_]],[.val .bool],fun x=>pG.f n x.1 x.2.1⟩
def pG.cfg (n:Nat):ba:=⟨bw,[(282,pF.ae n)],[],[]⟩
theorem pG.aD:dh aZ 248:=eu func248 (by kernel_rfl) (by kernel_rfl)
theorem pG.sound (n:Nat):Sound aZ 248 (pG.ae n):=jX (c:=pG.cfg n) (n:=n) (an:=fm f248 pG.cE) ⟨⟨pF.sound n,pF.aD⟩,trivial⟩ trivial (eo kB) func248 (fun x=>by kernel_rfl)
def jh.cE:List (Nat×LA):=[(1,⟨[(32,.bool)],[],[1],[]⟩)]
def jh.f (n:Nat) (a0:Program):Option (Bool×Unit):=cut (br (decide (a0.1<0)) (some (.inr (true,()))) (br (decide (3<a0.1)) (some (.inr (true,()))) (br (decide (a0.2.1<0)) (some (.inr (true,()))) (br (decide (3<a0.2.1)) (some (.inr (true,()))) (br (decide ((a0.2.2.length:Int)<1)) (some (.inr (true,()))) (some (.inr (decide (24<(a0.2.2.length:Int)),())))))))) fun y1=>br y1.1 (some (false,())) ((pG.f n a0.2.2 (a0,())).bind fun r2=>some (!r2.1,()))
def jh.ae (n:Nat):au:=⟨[.val b_],[.val .bool],fun x=>jh.f n x.1⟩
def jh.cfg (n:Nat):ba:=⟨bw,[(248,pG.ae n)],[],[]⟩
theorem jh.aD:dh aZ 201:=eu func201 (by kernel_rfl) (by kernel_rfl)
theorem jh.sound (n:Nat):Sound aZ 201 (jh.ae n):=jX (c:=jh.cfg n) (n:=n) (an:=fm f201 jh.cE) ⟨⟨pG.sound n,pG.aD⟩,trivial⟩ trivial (eo kB) func201 (fun x=>by kernel_rfl)
def oK.cE:List (Nat×LA):=[]
def oK.f (n:Nat) (a0:Int):Option (Bool×Unit):=(isToken.f n a0).bind fun r1=>some (!r1.1,())
def oK.ae (n:Nat):au:=⟨[.val I],[.val .bool],fun x=>oK.f n x.1⟩
def oK.cfg (n:Nat):ba:=⟨bw,[(204,isToken.ae n)],[],[]⟩
theorem oK.aD:dh aZ 203:=eu func203 (by kernel_rfl) (by kernel_rfl)
theorem oK.sound (n:Nat):Sound aZ 203 (oK.ae n):=jX (c:=oK.cfg n) (n:=n) (an:=fm f203 oK.cE) ⟨⟨isToken.sound n,isToken.aD⟩,trivial⟩ trivial (eo kB) func203 (fun x=>by kernel_rfl)
def pH.cE:List (Nat×LA):=[(3,⟨[(8,.int .i64)],[],[0,1,7],[]⟩)]
def pH.f (n:Nat) (a0:List Int) (a1:(Unit)):Option (Int×Unit):=iter n (fun jY x5=>br (decide (x5.1<(a0.length:Int))) (ab (0≤x5.1∧x5.1<(a0.length:Int)) ((oK.f n (a0.getD x5.1.toNat 0)).bind fun r7=>br r7.1 (some (x5.1,())) (jY (ah (x5.1+1),())))) (some (-1,()))) (0,())
def pH.ae (n:Nat):au:=⟨[.val IS,.jD 203 []],[.val I],fun x=>pH.f n x.1 x.2.1⟩
def pH.cfg (n:Nat):ba:=⟨bw,[(203,oK.ae n)],[],[]⟩
theorem pH.aD:dh aZ 251:=eu func251 (by kernel_rfl) (by kernel_rfl)
theorem pH.sound (n:Nat):Sound aZ 251 (pH.ae n):=jX (c:=pH.cfg n) (n:=n) (an:=fm f251 pH.cE) ⟨⟨oK.sound n,oK.aD⟩,trivial⟩ trivial (eo kB) func251 (fun x=>by kernel_rfl)
def pI.cE:List (Nat×LA):=[]
def pI.f (n:Nat) (a0:List Int) (a1:(Unit)):Option (Bool×Unit):=(pH.f n a0 ()).bind fun r1=>some (decide (0≤r1.1),())
def pI.ae (n:Nat):au:=⟨[.val IS,.jD 203 []],[.val .bool],fun x=>pI.f n x.1 x.2.1⟩
def pI.cfg (n:Nat):ba:=⟨bw,[(251,pH.ae n)],[],[]⟩
theorem pI.aD:dh aZ 202:=eu func202 (by kernel_rfl) (by kernel_rfl)
theorem pI.sound (n:Nat):Sound aZ 202 (pI.ae n):=jX (c:=pI.cfg n) (n:=n) (an:=fm f202 pI.cE) ⟨⟨pH.sound n,pH.aD⟩,trivial⟩ trivial (eo kB) func202 (fun x=>by kernel_rfl)
def eV.cE:List (Nat×LA):=[]
def eV.f (n:Nat) (a0:List Int):Option (Bool×Unit):=br (decide ((a0.length:Int)≤400)) ((pI.f n a0 ()).bind fun r1=>some (!r1.1,())) (some (false,()))
def eV.ae (n:Nat):au:=⟨[.val IS],[.val .bool],fun x=>eV.f n x.1⟩
def eV.cfg (n:Nat):ba:=⟨bw,[(202,pI.ae n)],[],[]⟩
theorem eV.aD:dh aZ 145:=eu func145 (by kernel_rfl) (by kernel_rfl)
theorem eV.sound (n:Nat):Sound aZ 145 (eV.ae n):=jX (c:=eV.cfg n) (n:=n) (an:=fm f145 eV.cE) ⟨⟨pI.sound n,pI.aD⟩,trivial⟩ trivial (eo kB) func145 (fun x=>by kernel_rfl)
def ez.cE:List (Nat×LA):=[(1,⟨[(22,.bool)],[],[1],[]⟩),(7,⟨[(3,.int .i64),(26,.int .i64)],[],[1,24,25],[]⟩),(20,⟨[(6,.int .i64),(44,.int .i64)],[],[1,3,42,43],[]⟩),(25,⟨[(9,.bool),(10,.bool)],[],[1,3,6,7,8,42,43,44],[]⟩),(26,⟨[(92,.bool)],[],[1,3,6,7,8,9,10,42,43,44],[]⟩),(27,⟨[(6,.int .i64)],[],[1,3,7,8,9,10,42,43,44],[]⟩),(32,⟨[(124,.bool)],[],[1,3,6,7,8,9,10,42,43,44],[]⟩),(33,⟨[(6,.int .i64)],[],[1,3,7,8,9,10,42,43,44],[]⟩),(38,⟨[(138,.bool)],[],[1,3,6,7,8,42,43,44],[]⟩),(43,⟨[(144,.int .i64)],[],[1,3,6,8,42,43,44,142,143],[]⟩)]
def ez.f (n:Nat) (a0:aq):Option (Bool×Unit):=cut (br (decide (12<(a0.1.length:Int))) (some (.inr (true,()))) (some (.inr (decide (30<(a0.2.length:Int)),())))) fun y1=>br y1.1 (some (false,())) (iter n (fun FU iB=>br (decide (iB.2.1<(a0.1.length:Int))) (ab (0≤iB.2.1∧iB.2.1<(a0.1.length:Int)) (let Be:=(a0.1.getD iB.2.1.toNat bC); (jh.f n Be).bind fun fD=>br (!fD.1) (some (false,())) (FU (ah (iB.1+(ah (Be.1+Be.2.1))),ah (iB.2.1+1),())))) (iter n (fun NI iO=>br (decide (iO.2.1<(a0.2.length:Int))) (ab (0≤iO.2.1∧iO.2.1<(a0.2.length:Int)) (let eW:=(a0.2.getD iO.2.1.toNat aE); cut (br (decide (eW.1=(-1))) (br (decide (eW.2.2.1=(-1))) (some (.inr (decide (eW.2.1=0),decide (eW.2.2.2.1=0),()))) (some (.inr (decide (eW.2.1=0),false,())))) (br (decide (eW.2.2.1=(-1))) (some (.inr (false,decide (eW.2.2.2.1=0),()))) (some (.inr (false,false,()))))) fun De=>cut (br (decide (0≤eW.1)) (br (decide (eW.1<(a0.1.length:Int))) (br (decide (0≤eW.2.1)) (ab (0≤eW.1∧eW.1<(a0.1.length:Int)) (let v65:=(a0.1.getD eW.1.toNat bC); some (.inr (decide (eW.2.1<v65.2.1),())))) (some (.inr (false,())))) (some (.inr (false,())))) (some (.inr (false,())))) fun y64=>cut (br y64.1 (some (.inr (ah (iO.1+1),()))) (br (!De.1) (some (.inl (false,()))) (some (.inr (iO.1,()))))) fun Ul=>cut (br (decide (0≤eW.2.2.1)) (br (decide (eW.2.2.1<(a0.1.length:Int))) (br (decide (0≤eW.2.2.2.1)) (ab (0≤eW.2.2.1∧eW.2.2.1<(a0.1.length:Int)) (let v69:=(a0.1.getD eW.2.2.1.toNat bC); some (.inr (decide (eW.2.2.2.1<v69.1),())))) (some (.inr (false,())))) (some (.inr (false,())))) (some (.inr (false,())))) fun y68=>cut (br y68.1 (some (.inr (ah (Ul.1+1),()))) (br (!De.2.1) (some (.inl (false,()))) (some (.inr (Ul.1,()))))) fun NJ=>cut (br De.1 (br De.2.1 (some (.inr (true,()))) ((eV.f n eW.2.2.2.2).bind fun yH=>some (.inr (!yH.1,())))) ((eV.f n eW.2.2.2.2).bind fun r75=>some (.inr (!r75.1,())))) fun y73=>br y73.1 (some (false,())) (ab ((0:Int)≤0∧(0:Int)≤iO.2.1∧iO.2.1≤(a0.2.length:Int)) (iter n (fun wF qy=>br (decide (qy.1<(((a0.2.take iO.2.1.toNat).drop 0).length:Int))) (ab (0≤qy.1∧qy.1<(((a0.2.take iO.2.1.toNat).drop 0).length:Int)) (let yI:=(((a0.2.take iO.2.1.toNat).drop 0).getD qy.1.toNat aE); br (decide (0≤eW.1)) (br (decide (yI.1=eW.1)) (br (decide (yI.2.1=eW.2.1)) (some (false,())) (br (decide (0≤eW.2.2.1)) (br (decide (yI.2.2.1=eW.2.2.1)) (br (decide (yI.2.2.2.1=eW.2.2.2.1)) (some (false,())) (wF (ah (qy.1+1),()))) (wF (ah (qy.1+1),()))) (wF (ah (qy.1+1),())))) (br (decide (0≤eW.2.2.1)) (br (decide (yI.2.2.1=eW.2.2.1)) (br (decide (yI.2.2.2.1=eW.2.2.2.1)) (some (false,())) (wF (ah (qy.1+1),()))) (wF (ah (qy.1+1),()))) (wF (ah (qy.1+1),())))) (br (decide (0≤eW.2.2.1)) (br (decide (yI.2.2.1=eW.2.2.1)) (br (decide (yI.2.2.2.1=eW.2.2.2.1)) (some (false,())) (wF (ah (qy.1+1),()))) (wF (ah (qy.1+1),()))) (wF (ah (qy.1+1),()))))) (NI (NJ.1,ah (iO.2.1+1),()))) (0,()))))) (some (decide (iO.1=iB.1),()))) (0,0,()))) (0,0,()))
def ez.ae (n:Nat):au:=⟨[.val cd],[.val .bool],fun x=>ez.f n x.1⟩
def ez.cfg (n:Nat):ba:=⟨bw,[(201,jh.ae n),(145,eV.ae n)],[],[]⟩
theorem ez.aD:dh aZ 143:=eu func143 (by kernel_rfl) (by kernel_rfl)
theorem ez.sound (n:Nat):Sound aZ 143 (ez.ae n):=jX (c:=ez.cfg n) (n:=n) (an:=fm f143 ez.cE) ⟨⟨jh.sound n,jh.aD⟩,⟨⟨eV.sound n,eV.aD⟩,trivial⟩⟩ trivial (eo kB) func143 (fun x=>by kernel_rfl)
end Go.AmT
namespace Go.AmT
variable {n:Nat}
theorem aY {α ρ:Type} (y:α) (f:α→Option ρ):cut (some (.inr y)) f=f y:=rfl
theorem Tz {α ρ:Type} (r:ρ) (f:α→Option ρ):cut (some (.inl r)) f=some r:=rfl
theorem nG (n:Nat) (a b c:Int):bY.f n a b c=some (decide (b≤a)&&decide (a≤c),()):=by unfold bY.f;by_cases h:b≤a<;>simp [h,br]
def small (k:Nat):Prop:=k≤1048576
structure pJ (p:Program):Prop where
 code:p.2.2.length≤1048576
structure Df (l:bb):Prop where
 tokens:l.2.2.2.2.length≤1048576
structure dq (nt:aq):Prop where
 eX:nt.1.length≤1048576
 prog:∀ p∈nt.1,pJ p
 dB:nt.2.length≤1048576
 link:∀ l∈nt.2,Df l
def Left (left:Int) (o:Option (Int×Unit)) (P:Prop):Prop:=∃ r:Int,o=some (r,())∧r≤left∧(0≤r→P)
def gz (a:Int):Bool:=decide (0≤a)&&decide (a≤3)
def tok (a:Int):Bool:=decide (-999999≤a)&&decide (a≤999999)
def fy (ins outs size:Int) (x:Instr):Bool:=
 if x.1=1 then gz x.2.1&&(decide (0≤x.2.2.1)&&decide (x.2.2.1<ins)&&decide (x.2.2.2=0))
 else if x.1=2 then gz x.2.1&&(decide (0≤x.2.2.1)&&decide (x.2.2.1<outs)&&decide (x.2.2.2=0))
 else if x.1=3 then gz x.2.1&&(tok x.2.2.1&&decide (x.2.2.2=0))
 else if x.1=4∨x.1=5∨x.1=6∨x.1=7 then gz x.2.1&&(gz x.2.2.1&&gz x.2.2.2)
 else if x.1=8 then decide (x.2.1=0)&&(decide (0≤x.2.2.1)&&decide (x.2.2.1≤size)&&decide (x.2.2.2=0))
 else if x.1=9∨x.1=10 then gz x.2.1&&(decide (0≤x.2.2.1)&&decide (x.2.2.1≤size)&&decide (x.2.2.2=0))
 else if x.1=11 then decide (x.2.1=0)&&(decide (x.2.2.1=0)&&decide (x.2.2.2=0))
 else false
def cJ (p:Program):Bool:=decide (0≤p.1)&&decide (p.1≤3)&&(decide (0≤p.2.1)&&decide (p.2.1≤3))&&(decide (1≤p.2.2.length)&&decide (p.2.2.length≤24))&&p.2.2.all (fy p.1 p.2.1 (p.2.2.length:Int))
def bS (s:List Int):Bool:=decide (s.length≤400)&&s.all tok
theorem acR (n:Nat) (a:Int):kF.f n a=some (gz a,()):=by unfold kF.f gz;by_cases h:0≤a<;>simp [h,br]
theorem Um (n:Nat) (a:Int):isToken.f n a=some (tok a,()):=by unfold isToken.f tok;by_cases h : -999999≤a<;>simp [h,br]
theorem Un (n:Nat) (a:Int):kY.f n a=some (tok a,()):=by unfold kY.f tok;rw [nG]; rfl
theorem Uo (n:Nat) (x:Instr) (ins outs size:Int):lB.f n x ins outs size=some (fy ins outs size x,()):=by
 have e1:(br (decide (0≤x.2.2.1)) (br (decide (x.2.2.1≤size)) (some (Sum.inr (α:=Bool×Unit) (decide (x.2.2.2=0),()))) (some (.inr (false,())))) (some (.inr (false,()))))=some (.inr (decide (0≤x.2.2.1)&&decide (x.2.2.1≤size)&&decide (x.2.2.2=0),())):=by cases decide (0≤x.2.2.1)<;>cases decide (x.2.2.1≤size)<;>rfl
 unfold lB.f fy;simp only [e1,aY,acR,Um,aC];by_cases h1:x.1=1
 ·simp only [h1,decide_true,aB,if_true];cases gz x.2.1<;>cases decide (0≤x.2.2.1)<;>cases decide (x.2.2.1<ins)<;>rfl
 by_cases h2:x.1=2
 ·simp only [h2,decide_true,decide_false,aB,ar,if_true,show ¬ ((2:Int)=1) by omega,if_false];cases gz x.2.1<;>cases decide (0≤x.2.2.1)<;>cases decide (x.2.2.1<outs)<;>rfl
 by_cases h3:x.1=3
 ·simp only [h3,decide_true,decide_false,aB,ar,if_true,show ¬ ((3:Int)=1) by omega,show ¬ ((3:Int)=2) by omega,if_false];cases gz x.2.1<;>cases tok x.2.2.1<;>rfl
 simp only [h1,h2,h3,decide_false,ar,if_false];by_cases h4:x.1=4∨x.1=5∨x.1=6∨x.1=7
 ·have e2:br (decide (x.1=4)) (some (Sum.inr (α:=Bool×Unit) (decide (x.1=4),()))) (br (decide (x.1=5)) (some (.inr (decide (x.1=5),()))) (br (decide (x.1=6)) (some (.inr (decide (x.1=6),()))) (some (.inr (decide (x.1=7),())))))=some (.inr (true,())):=by rcases h4 with h | h | h | h<;>simp [h,br]
  rw [e2];simp only [h4,if_true,aY,aB];cases gz x.2.1<;>cases gz x.2.2.1<;>rfl
 have e2:br (decide (x.1=4)) (some (Sum.inr (α:=Bool×Unit) (decide (x.1=4),()))) (br (decide (x.1=5)) (some (.inr (decide (x.1=5),()))) (br (decide (x.1=6)) (some (.inr (decide (x.1=6),()))) (some (.inr (decide (x.1=7),())))))=some (.inr (false,())):=by simp only [not_or] at h4;simp [h4,br]
 rw [e2];simp only [h4,if_false,aY,ar];by_cases h8:x.1=8
 ·simp only [h8,decide_true,aB,if_true];cases decide (x.2.1=0)<;>rfl
 simp only [h8,decide_false,ar,if_false];by_cases h9:x.1=9∨x.1=10
 ·have e3:br (decide (x.1=9)) (some (Sum.inr (α:=Bool×Unit) (decide (x.1=9),()))) (some (.inr (decide (x.1=10),())))=some (.inr (true,())):=by rcases h9 with h | h<;>simp [h,br]
  rw [e3];simp only [h9,if_true,aY,aB];cases gz x.2.1<;>rfl
 have e3:br (decide (x.1=9)) (some (Sum.inr (α:=Bool×Unit) (decide (x.1=9),()))) (some (.inr (decide (x.1=10),())))=some (.inr (false,())):=by simp only [not_or] at h9;simp [h9,br]
 rw [e3];simp only [h9,if_false,aY,ar];by_cases jG:x.1=11
 ·simp only [jG,decide_true,aB,if_true,Bool.and_true,kW]
 simp only [jG,decide_false,ar,if_false]
theorem acS (b ins:Int):decide (b≤ins-1)=decide (b<ins):=by
 by_cases h:b<ins
 ·rw [decide_eq_true h,decide_eq_true (by omega)]
 rw [decide_eq_false h,decide_eq_false (by omega)]
theorem NK (n:Nat) (p:Program) (x:Instr) (hi:0≤p.1∧p.1≤3) (ho:0≤p.2.1∧p.2.1≤3):l8.f n p x=some (fy p.1 p.2.1 (p.2.2.length:Int) x,()):=by
 have w1:ah (p.1-1)=p.1-1:=bP (by omega) (by omega);have w2:ah (p.2.1-1)=p.2.1-1:=bP (by omega) (by omega);have e0:(br (gz x.2.1) (br (gz x.2.2.1) (some (Sum.inr (α:=Bool×Unit) (gz x.2.2.2,()))) (some (.inr (false,())))) (some (.inr (false,()))))=some (.inr (gz x.2.1&&(gz x.2.2.1&&gz x.2.2.2),())):=by cases gz x.2.1<;>cases gz x.2.2.1<;>rfl
 have e1:(br (decide (0≤x.2.2.1)&&decide (x.2.2.1≤(p.2.2.length:Int))) (some (Sum.inr (α:=Bool×Unit) (decide (x.2.2.2=0),()))) (some (.inr (false,()))))=some (.inr (decide (0≤x.2.2.1)&&decide (x.2.2.1≤(p.2.2.length:Int))&&decide (x.2.2.2=0),())):=by cases decide (0≤x.2.2.1)<;>cases decide (x.2.2.1≤(p.2.2.length:Int))<;>rfl
 have hr:∀ a:Int,bY.f n a 0 3=some (gz a,()):=fun a=>nG n a 0 3;unfold l8.f fy;simp only [hr,aC,e0,nG,e1,aY,Un,w1,w2,acS];by_cases h1:x.1=1
 ·simp only [h1,decide_true,aB,if_true];cases gz x.2.1<;>cases decide (0≤x.2.2.1)<;>cases decide (x.2.2.1<p.1)<;>rfl
 by_cases h2:x.1=2
 ·simp only [h2,decide_true,decide_false,aB,ar,if_true,show ¬ ((2:Int)=1) by omega,if_false];cases gz x.2.1<;>cases decide (0≤x.2.2.1)<;>cases decide (x.2.2.1<p.2.1)<;>rfl
 by_cases h3:x.1=3
 ·simp only [h3,decide_true,decide_false,aB,ar,if_true,show ¬ ((3:Int)=1) by omega,show ¬ ((3:Int)=2) by omega,if_false];cases gz x.2.1<;>cases tok x.2.2.1<;>rfl
 simp only [h1,h2,h3,decide_false,ar,if_false];by_cases h4:x.1=4∨x.1=5∨x.1=6∨x.1=7
 ·have e2:br (decide (x.1=4)) (some (Sum.inr (α:=Bool×Unit) (decide (x.1=4),()))) (br (decide (x.1=5)) (some (.inr (decide (x.1=5),()))) (br (decide (x.1=6)) (some (.inr (decide (x.1=6),()))) (some (.inr (decide (x.1=7),())))))=some (.inr (true,())):=by rcases h4 with h | h | h | h<;>simp [h,br]
  rw [e2];simp only [h4,if_true,aY,aB]
 have e2:br (decide (x.1=4)) (some (Sum.inr (α:=Bool×Unit) (decide (x.1=4),()))) (br (decide (x.1=5)) (some (.inr (decide (x.1=5),()))) (br (decide (x.1=6)) (some (.inr (decide (x.1=6),()))) (some (.inr (decide (x.1=7),())))))=some (.inr (false,())):=by simp only [not_or] at h4;simp [h4,br]
 rw [e2];simp only [h4,if_false,aY,ar];by_cases h8:x.1=8
 ·simp only [h8,decide_true,aB,if_true];cases decide (x.2.1=0)<;>rfl
 simp only [h8,decide_false,ar,if_false];by_cases h9:x.1=9∨x.1=10
 ·have e3:br (decide (x.1=9)) (some (Sum.inr (α:=Bool×Unit) (decide (x.1=9),()))) (some (.inr (decide (x.1=10),())))=some (.inr (true,())):=by rcases h9 with h | h<;>simp [h,br]
  rw [e3];simp only [h9,if_true,aY,aB];cases gz x.2.1<;>rfl
 have e3:br (decide (x.1=9)) (some (Sum.inr (α:=Bool×Unit) (decide (x.1=9),()))) (some (.inr (decide (x.1=10),())))=some (.inr (false,())):=by simp only [not_or] at h9;simp [h9,br]
 rw [e3];simp only [h9,if_false,aY,ar];by_cases jG:x.1=11
 ·simp only [jG,decide_true,aB,if_true];cases decide (x.2.1=0)<;>cases decide (x.2.2.1=0)<;>rfl
 simp only [jG,decide_false,ar,if_false]
theorem FV {p:Program} (hp:pJ p) (hn:1048576<n):jg.f n p=some (cJ p,()):=by
 have hc:=hp.code;unfold jg.f cJ;simp only [nG,aC];by_cases h1:0≤p.1∧p.1≤3
 ·by_cases h2:0≤p.2.1∧p.2.1≤3
  ·by_cases h3:1≤p.2.2.length∧p.2.2.length≤24
   ·simp only [h1.1,h1.2,h2.1,h2.2,h3.1,h3.2,show (1:Int)≤(p.2.2.length:Int) by omega,show (p.2.2.length:Int)≤24 by omega,decide_true,Bool.and_self,Bool.not_true,ar,kW,aY];refine ab_ p.2.2 (fy p.1 p.2.1 (p.2.2.length:Int)) (fun ih i hi=>?_) (fun ih=>?_) (by omega)
    ·have h4:(i:Int)<(p.2.2.length:Int):=by omega
     simp only [h4,decide_true,aB,ay,aJ hi,NK n p _ h1 h2,aC];rw [af (by simp),a_ (by omega),rq];cases fy p.1 p.2.1 (p.2.2.length:Int) p.2.2[i]<;>rfl
    simp [br]
   have e1:(decide ((1:Int)≤(p.2.2.length:Int))&&decide ((p.2.2.length:Int)≤24))=false:=by rw [← oA]; simp only [aw,decide_eq_true_eq]; omega
   have e2:(decide (1≤p.2.2.length)&&decide (p.2.2.length≤24))=false:=by rw [← oA]; simp only [aw,decide_eq_true_eq]; omega
   simp [h1,h2,e1,e2,br,cut]
  have e2:(decide (0≤p.2.1)&&decide (p.2.1≤3))=false:=by rw [← oA]; simp only [aw,decide_eq_true_eq]; omega
  simp [h1,e2,br,cut]
 have e2:(decide (0≤p.1)&&decide (p.1≤3))=false:=by rw [← oA]; simp only [aw,decide_eq_true_eq]; omega
 simp [e2,br,cut]
theorem FW {p:Program} (hp:pJ p) (hn:1048576<n):jh.f n p=some (cJ p,()):=by
 have hc:=hp.code;unfold jh.f cJ;by_cases h1:0≤p.1∧p.1≤3
 ·by_cases h2:0≤p.2.1∧p.2.1≤3
  ·by_cases h3:1≤p.2.2.length∧p.2.2.length≤24
   ·have a1:¬ (p.1<0):=by omega
    have a2:¬ (3<p.1):=by omega
    have a3:¬ (p.2.1<0):=by omega
    have a4:¬ (3<p.2.1):=by omega
    have a5:¬ ((p.2.2.length:Int)<1):=by omega
    have a6:¬ (24<(p.2.2.length:Int)):=by omega
    simp only [a1,a2,a3,a4,a5,a6,h1.1,h1.2,h2.1,h2.2,h3.1,h3.2,decide_true,decide_false,ar,aY,Bool.and_self,kW];unfold pG.f pF.f;obtain ⟨r,e1,e2⟩:=M8 p.2.2 (fun x=>!(fy p.1 p.2.1 (p.2.2.length:Int) x)) (n:=n) (F:=fun oI x6=>br (decide (x6.1<(p.2.2.length:Int))) (ab (0≤x6.1∧x6.1<(p.2.2.length:Int)) (let v8:=(p.2.2.getD x6.1.toNat kX); (oJ.f n v8 p).bind fun r9=>br r9.1 (some (x6.1,())) (oI (ah (x6.1+1),())))) (some (-1,())))
     (fun ih i hi=>by
      have h4:(i:Int)<(p.2.2.length:Int):=by omega
      unfold oJ.f;simp only [h4,decide_true,aB,ay,aJ hi,Uo,aC];rw [af (by simp),a_ (by omega),rq]) (fun ih=>by simp [br]) (by omega)
    rw [e1];simp only [aC,e2];congr 2;rw [List.any_eq_not_all_not];simp
   have e2:(decide (1≤p.2.2.length)&&decide (p.2.2.length≤24))=false:=by rw [← oA]; simp only [aw,decide_eq_true_eq]; omega
   have a1:¬ (p.1<0):=by omega
   have a2:¬ (3<p.1):=by omega
   have a3:¬ (p.2.1<0):=by omega
   have a4:¬ (3<p.2.1):=by omega
   by_cases a5:(p.2.2.length:Int)<1
   ·simp [a1,a2,a3,a4,a5,e2,br,cut]
   have a6:(24<(p.2.2.length:Int)):=by omega
   simp [a1,a2,a3,a4,a5,a6,e2,br,cut]
  have e2:(decide (0≤p.2.1)&&decide (p.2.1≤3))=false:=by rw [← oA]; simp only [aw,decide_eq_true_eq]; omega
  have a1:¬ (p.1<0):=by omega
  have a2:¬ (3<p.1):=by omega
  by_cases a3:p.2.1<0
  ·simp [a1,a2,a3,e2,br,cut]
  have a4:(3<p.2.1):=by omega
  simp [a1,a2,a3,a4,e2,br,cut]
 have e2:(decide (0≤p.1)&&decide (p.1≤3))=false:=by rw [← oA]; simp only [aw,decide_eq_true_eq]; omega
 by_cases a1:p.1<0
 ·simp [a1,e2,br,cut]
 have a2:(3<p.1):=by omega
 simp [a1,a2,e2,br,cut]
theorem wG {s:List Int} (hs:s.length≤1048576) (hn:1048576<n):fE.f n s=some (bS s,()):=by
 unfold fE.f bS;have:=Tx s.length (fun i=>tok (s.getD i 0)) (some (false,())) (some (decide ((s.length:Int)≤400),())) (n:=n) (F:=fun oI x6=>br (decide (x6.1<(s.length:Int))) (ab (0≤x6.1∧x6.1<(s.length:Int)) ((kY.f n (s.getD x6.1.toNat 0)).bind fun r8=>br (!r8.1) (some (false,())) (oI (ah (x6.1+1),())))) (some (decide ((s.length:Int)≤400),())))
  (fun ih i hi=>by
   have h4:(i:Int)<(s.length:Int):=by omega
   simp only [h4,decide_true,aB,ay,Un,aC];rw [af (by simp),a_ (by omega),rq];cases tok (s.getD i 0)<;>rfl)
  (fun ih=>by simp [br]) (by omega)
 by_cases h:∀ i,i<s.length→tok (s.getD i 0)=true
 ·rw [this.1 h];have:s.all tok=true:=by rw [List.all_eq_true];intro x hx;obtain ⟨i,hi,rfl⟩:=List.mem_iff_getElem.1 hx;have:=h i hi;rwa [aJ hi] at this
  rw [this,Bool.and_true];congr 2;by_cases h:s.length≤400
  ·rw [decide_eq_true h,decide_eq_true (by omega)]
  rw [decide_eq_false h,decide_eq_false (by omega)]
 rw [this.2 h];have:s.all tok=false:=by rw [← oA,List.all_eq_true];intro hh;refine h (fun i hi=>?_);rw [aJ hi];exact hh _ (List.getElem_mem hi)
 rw [this,Bool.and_false]
theorem uD {s:List Int} (hs:s.length≤1048576) (hn:1048576<n):eV.f n s=some (bS s,()):=by
 unfold eV.f bS pI.f pH.f;by_cases h:s.length≤400
 ·simp only [h,show (s.length:Int)≤400 by omega,decide_true,aB,kW];obtain ⟨r,e1,e2⟩:=M8 s (fun x=>!(tok x)) (n:=n) (F:=fun jY x5=>br (decide (x5.1<(s.length:Int))) (ab (0≤x5.1∧x5.1<(s.length:Int)) ((oK.f n (s.getD x5.1.toNat 0)).bind fun r7=>br r7.1 (some (x5.1,())) (jY (ah (x5.1+1),())))) (some (-1,())))
   (fun ih i hi=>by
    have h4:(i:Int)<(s.length:Int):=by omega
    unfold oK.f;simp only [h4,decide_true,aB,ay,aJ hi,Um,aC];rw [af (by simp),a_ (by omega),rq]) (fun ih=>by simp [br]) (by omega)
  rw [e1];simp only [aC,e2];congr 2;rw [List.any_eq_not_all_not];simp
 have:¬ ((s.length:Int)≤400):=by omega
 simp [h,this,br]
end Go.AmT
