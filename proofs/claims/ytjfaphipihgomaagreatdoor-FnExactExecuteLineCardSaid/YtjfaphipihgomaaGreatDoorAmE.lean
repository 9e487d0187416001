/- Library functions by the contracts of the shelf, for the abstract machine. No condition. -/
import Derived.Test.YtjfaphipihgomaaGreatDoorAmD
import Derived.Below
import Derived.Sort.Grow
import Derived.Lib.ItoaNum
import Derived.Lib.LaidTab
import Derived.Lib.Join
import Derived.Deep.Draws
import Derived.Lib.AtoiErrMem
import Derived.Lib.AtoiAll
import Derived.Lib.SplitLaws
import Derived.Lib.Strings
import Derived.Handed
import Derived.Maps.OwnOps
import Derived.Maps.Views
import Derived.Lib.Replace
set_option linter.unusedVariables false
set_option linter.unusedSimpArgs false
open Array renaming all_eq_true' → FR, getD_eq_getD_getElem? → oG, getElem?_eq_getElem → s_, getElem?_eq_none → CP, replicate → wh
open Bool renaming and_eq_true → aB, not_eq_true' → BT, or_eq_true → rM
open Go.Lib renaming atoiAll → JR, count → Gq, countB → tR, cut → D2, index → jN, join → jO, pow10Tab → N1, splitK → JT
open Go.Maps renaming atKey_put_other → JU, atKey_put_same → JV
open Go.Region renaming binds → tJ, ready → q7, wanted → nQ
open Go.Result renaming andThen → D3
open Go.WideAt renaming IsKeyLit → JW
open Go.World renaming cell? → JX, cell?_of_block → N2, frozen?_of_block → UF, grownBy_alloc → N3
open List renaming all_eq_true → iy, countP_eq_length_filter → UG, filter_cons → RG, getElem?_eq_getElem → eX, getElem?_eq_some_iff → eE, getElem?_map → yX, length_cons → bh, mem_cons → gC, mem_cons_of_mem → kD, mem_cons_self → JY, mem_map → kE, mem_of_getElem? → UH
open Nat renaming eq_of_beq_eq_true → bB, le_of_ble_eq_true → gz, le_of_eq → zr, le_refl → cx, le_trans → sa, lt_of_le_of_lt → N4, lt_of_lt_of_le → oL, lt_or_ge → kj, testBit → ec
open Option renaming isSome_iff_exists → N5, map_eq_some_iff → yx
open Option.some renaming inj → aZ, injEq → aN
namespace Go.Am
open Go
open Go.RowKit
theorem UI {w:World} {k:Nat} {o:Obj} (h:w.heap[k]? = some o):k<w.heap.size:=by grind
theorem acU {F:Nat→Nat→Prop} {w w':World} (h:Below w.heap.size w w'):Fr F w w' where
 os:=h.os
 tape:=h.tape
 output:=h.output
 size:=h.size
 cells k c e f hk:=⟨c,by rw [h.block k (UI hk)]; exact hk,rfl,fun o _=>rfl⟩
 block k hk _:=h.block k hk
 kind k b hk _:=by rw [h.block k (UI hk)]; exact hk
theorem UJ {w:World} {a:Addr} {v:Value} (h:w.cell? a=some v):a.block<w.heap.size:=by
 rcases kj a.block w.heap.size with hh | hh
 ·exact hh
 exfalso;unfold JX at h
 grind
theorem acV {w w':World} (h:Below w.heap.size w w') {a:Addr} {v:Value} (hv:w.cell? a=some v):w'.cell? a=some v:=by rw [h.cell (UJ hv)]; exact hv
theorem w9 {g:Gh} {w w':World} {site:Nat} {m:ar} {y:cj (RK.bm m.rs++PK.outs m.ps)} {v:Value} (hb:Below w.heap.size w w')
  (hl:∀ b o q,g.lab b o=some q→b<w.heap.size)
  (wQ:aV g w' (U' gK site) (match (gA site 0 m.rs (PK.outs m.ps) y).1 with | [v]=>v | vs=>.gX vs) v)
  (EO:(gA site 0 m.rs (PK.outs m.ps) y).2.1=[])
  (RH:zf g w' 0 m.ps (gA site 0 m.rs (PK.outs m.ps) y).2.2):zg g w site m y v g w' where
 val:=wQ
 bb id o h:=by rw [EO] at h; simp [look] at h
 outs:=RH
 par _ _:=rfl
 shr b o hn v hv:=⟨acV hb hv,hn⟩
 oQ _ _ _ _ h _:=h
 cm b o q h:=oL (hl b o q h) hb.size
 cI b o q _ h e:=by grind
 fr:=acU hb
theorem acW (w:World) (n:Nat):Below w.heap.size w (w.drewN n):=⟨rfl,rfl,rfl,cx _,fun _ _=>rfl⟩
theorem acX (w:World) (n:Nat) (os:Array Obj):Below w.heap.size w (Sort.grow (w.drewN n) os):=by
 refine ⟨rfl,rfl,rfl,by simp_all,fun k hk=>?_⟩;show (w.heap++os)[k]? = w.heap[k]?
 grind
theorem acY {P:Program} {l:b9} {w:World} (hG:Gl P l w) {b:Nat} (hb:P.globalNamed "internal/strconv.uint64pow10" = some b):Lib.TabIs P w "internal/strconv.uint64pow10" .u64 N1:=by obtain ⟨⟨vs,h3,h4⟩,_⟩:=hG "internal/strconv.uint64pow10" (fun vs=>vs=((List.range 20).map fun i=>Value.int .u64 ((10 ^ i:Nat):Int)).toArray) (by unfold pins; exact JY) b hb;unfold Lib.TabIs;rw [h3,h4];simp [N1]
theorem acZ {P:Program} {w:World} (h:∀ nm pr,(nm,pr)∈pins→(P.globalNamed nm).isSome=true→∃ vs,w.var? P nm=some vs∧pr vs):Gl P L0 w:=
 fun nm pr hm b hb=>⟨h nm pr hm (by grind),fun o=>rfl⟩
def zt (n:Int):Option (cj [Ty.str]):=if -9223372036854775808≤n∧n≤9223372036854775807 then some (Lib.itoa n,()) else none
abbrev UK:ar:=⟨[.val (.int .i64)],[.val .str],fun x=>zt x.1⟩
theorem ac_ {P:Program} {f:FuncId} (hg:(P.globalNamed "internal/strconv.uint64pow10").isSome=true)
  (K:∀ n:Int,-9223372036854775808≤n→n≤9223372036854775807→∀ w:World,Lib.TabIs P w "internal/strconv.uint64pow10" .u64 N1→
   Calls P f #[.int .i64 n] w fun e w'=>e = .returned (.string ⟨(Lib.itoa n).toArray⟩)∧∃ k os,w'=Sort.grow (w.drewN k) os):Sound P f UK:=by
 intro x y hm _ site hs g w args E hG;obtain ⟨v1,r,ha,h1,h2⟩:=E.bG;obtain rfl:r=[]:=h2;obtain rfl:v1 = .int .i64 x.1:=h1;subst ha;replace hm:zt x.1=some y:=hm;unfold zt at hm;split at hm
 ·rename_i hr;obtain rfl:=aZ hm;obtain ⟨b,hb⟩:=N5.1 hg;have ht:=acY hG hb;refine (K x.1 hr.1 hr.2 w ht).mono fun e w' he=>?_;obtain ⟨he,k,os,hw⟩:=he;subst hw;exact ⟨_,g,he,w9 (m:=UK) (acX w k os) E.cm rfl rfl trivial⟩
 grind
def Gr (xs:List (List UInt8)) (sep:List UInt8):Option (cj [Ty.str]):=
 if xs.length≤140737488355328∧(jO xs sep).length≤140737488355328 then some (jO xs sep,()) else none
abbrev UL:ar:=⟨[.val (.sl .str),.val .str],[.val .str],fun x=>Gr x.1 x.2.1⟩
theorem ac0 {P:Program} {f:FuncId} {g:Gh} {w:World} {xs:List (List UInt8)} {sep:List UInt8} {v1:Value} {Q:Ending→World→Prop}
  (K0:∀ (a:Option Addr) (c:Nat) (sep:ByteArray) (w:World),Calls P f #[.slice a 0 c,.string sep] w fun e w'=>e = .returned (.string ⟨#[]⟩)∧w'=w)
  (K:∀ (bk o c:Nat) (xs:List ByteArray) (sep:ByteArray) (w:World),(∀ (j:Nat) x,xs[j]? = some x→w.cell? ⟨bk,o+j,none⟩=some (.string x))→bk<w.heap.size→xs.length≤140737488355328→xs.length≤c→
   (jO (xs.map (·.data.toList)) sep.data.toList).length≤140737488355328→
   Calls P f #[.slice (some ⟨bk,o,none⟩) xs.length c,.string sep] w fun e w'=>e = .returned (.string ⟨(jO (xs.map (·.data.toList)) sep.data.toList).toArray⟩)∧Below w.heap.size w w')
  (h1:hZ (α:=List UInt8) 1 (Sh g.lab w .str) xs v1) (hr:xs.length≤140737488355328∧(jO xs sep).length≤140737488355328)
  (fin:∀ w',Below w.heap.size w w'→Q (.returned (.string ⟨(jO xs sep).toArray⟩)) w'):Calls P f #[v1,.string ⟨sep.toArray⟩] w Q:=by
 obtain ⟨a,len,cap,e,hl,hc,hn,hx⟩:=h1;subst e;by_cases aG:xs=[]
 ·subst aG;simp only [List.length_nil] at hl;subst hl;refine (K0 a cap _ w).mono fun e w' he=>?_;obtain ⟨rfl,rfl⟩:=he;exact fin _ (Below.refl _ _)
 obtain ⟨b,o,rfl,hi⟩:=hx aG;have oE:∀ (j:Nat) x,(xs.map fun s=>(⟨s.toArray⟩:ByteArray))[j]? = some x→w.cell? ⟨b,o+j,none⟩=some (.string x):=by intro j x hj;simp only [yX,yx] at hj;obtain ⟨s,hs,rfl⟩:=hj;obtain ⟨aF,rfl⟩:=eE.1 hs;have:=(hi j aF).1;rw [Nat.mul_one] at this;exact this
 have hj:jO ((xs.map fun s=>(⟨s.toArray⟩:ByteArray)).map (·.data.toList)) (⟨sep.toArray⟩:ByteArray).data.toList=jO xs sep:=by simp [List.map_map,Function.comp_def]
 have hb:b<w.heap.size:=by obtain ⟨s,r,rfl⟩:=List.exists_cons_of_ne_nil aG;have:=UJ (oE 0 ⟨s.toArray⟩ (by simp));exact this
 have:=K b o cap (xs.map fun s=>(⟨s.toArray⟩:ByteArray)) ⟨sep.toArray⟩ w oE hb (by grind) (by grind) (by grind);rw [hj,List.length_map] at this;subst hl;refine this.mono fun e w' he=>?_
 grind
theorem ac1 {P:Program} {f:FuncId}
  (K0:∀ (a:Option Addr) (c:Nat) (sep:ByteArray) (w:World),Calls P f #[.slice a 0 c,.string sep] w fun e w'=>e = .returned (.string ⟨#[]⟩)∧w'=w)
  (K:∀ (bk o c:Nat) (xs:List ByteArray) (sep:ByteArray) (w:World),(∀ (j:Nat) x,xs[j]? = some x→w.cell? ⟨bk,o+j,none⟩=some (.string x))→bk<w.heap.size→xs.length≤140737488355328→xs.length≤c→
   (jO (xs.map (·.data.toList)) sep.data.toList).length≤140737488355328→
   Calls P f #[.slice (some ⟨bk,o,none⟩) xs.length c,.string sep] w fun e w'=>e = .returned (.string ⟨(jO (xs.map (·.data.toList)) sep.data.toList).toArray⟩)∧Below w.heap.size w w'):Sound P f UL:=by
 intro x y hm _ site hs g w args E hG;obtain ⟨v1,r,ha,h1,v2,r2,tS,h2,h3⟩:=E.bG;obtain rfl:r2=[]:=h3;obtain rfl:v2 = .string ⟨(x.2.1:List UInt8).toArray⟩:=h2;subst tS;subst ha;replace hm:Gr x.1 x.2.1=some y:=hm;unfold Gr at hm;split at hm
 ·rename_i hr;obtain rfl:=aZ hm;exact ac0 (g:=g) K0 K h1 hr (fun w' hb=>⟨_,g,rfl,w9 (m:=UL) hb E.cm rfl rfl trivial⟩)
 grind
open Go.RowKit
theorem zu (s:List UInt8):(⟨s.toArray⟩:ByteArray).size=s.length:=by simp [ByteArray.size]
def vn (x:UInt8):List (List UInt8)→List (List UInt8)
 | []=>[[x]]
 | h::t=>(x::h)::t
def bC (c:UInt8):List UInt8→List (List UInt8)
 | []=>[[]]
 | x::xs=>if x=c then []::bC c xs else vn x (bC c xs)
theorem N6 (c:UInt8):∀ s:List UInt8,JT [c] 0 (Gq s [c]) s=bC c s
 | []=>by rw [Lib.count_miss (by simp [jN])]; rfl
 | x::xs=>by
  by_cases h:x=c
  ·subst h;have B1:jN (x::xs) [x]=((0:Nat):Int):=by rw [jN]; simp [List.isPrefixOf]
   rw [Lib.count_cons_eq,Nat.add_comm,bC,if_pos rfl,← N6 x xs];rw [JT,B1];simp
  rw [Lib.count_cons_ne x c xs h,bC,if_neg h,← N6 c xs];have hp:([c]:List UInt8).isPrefixOf (x::xs)=false:=by simp [List.isPrefixOf,Ne.symm h]
  have B1:jN (x::xs) [c]=if jN xs [c]==-1 then -1 else jN xs [c]+1:=by rw [jN,hp]; simp
  by_cases hm:jN xs [c] = -1
  ·rw [Lib.count_miss hm]; rfl
  have Dz:=Lib.index_ge xs [c];obtain ⟨j,hj⟩:∃ j:Nat,jN xs [c]=j:=⟨(jN xs [c]).toNat,by omega⟩
  have N7:jN (x::xs) [c]=((j+1:Nat):Int):=by rw [B1,if_neg (fun e=>hm (beq_iff_eq.1 e)),hj]; omega
  rw [Lib.count_hit (by simp) hj,Nat.add_comm,JT,JT,hj,N7];have n1:(((j:Nat):Int)==-1)=false:=by simp
  have n2:(((j+1:Nat):Int)==-1)=false:=beq_eq_false_iff_ne.2 (by omega);rw [n1,n2];simp only [Bool.false_eq_true,if_false,Int.toNat_natCast,vn];simp
theorem nD (c:UInt8) (s:List UInt8):bC c s≠[]:=by
 cases s with
 | nil=>simp [bC]
 | cons x xs=>
  unfold bC;split
  ·simp
  cases bC c xs<;>simp [vn]
def N8 (s sep:List UInt8):Option (cj [Ty.sl .str]):=match sep with | [c]=>if s.length<4294967281 then some (bC c s,()) else none | _=>none
abbrev UM:ar:=⟨[.val .str,.val .str],[.sh (.sl .str)],fun x=>N8 x.1 x.2.1⟩
theorem N9 {P:Program} {l:b9} {w:World} (hG:Gl P l w) {b:Nat} (hb:P.globalNamed "internal/bytealg.MaxLen" = some b):∃ m,w.cell? ⟨b,0,none⟩=some (.int .i64 m):=by obtain ⟨⟨vs,h3,m,h4⟩,_⟩:=hG "internal/bytealg.MaxLen" (fun vs=>∃ m,vs[0]? = some (.int .i64 m)) (by unfold pins; exact kD _ JY) b hb;exact ⟨m,by rw [World.var?_cell hb h3 0]; exact h4⟩
theorem ac2 {P:Program} {n:String} {w:World} {g:Nat} {v:Value} (hg:P.globalNamed n=some g) (h:w.cell? ⟨g,0,none⟩=some v):∃ vs,w.var? P n=some vs∧vs[0]? = some v:=by
 unfold World.var?;rw [hg];simp only [Option.bind_some];unfold JX at h
 grind
theorem ac3 {P:Program} {l:b9} {w:World} (hG:Gl P l w) {b:Nat} (hb:P.globalNamed "strconv.ErrSyntax" = some b):∃ t p,w.var? P "strconv.ErrSyntax" = some #[.iface t p]:=by obtain ⟨⟨vs,h3,t,p,h4⟩,_⟩:=hG "strconv.ErrSyntax" (fun vs=>∃ t p,vs = #[.iface t p]) (by unfold pins; exact kD _ (kD _ JY)) b hb;exact ⟨t,p,by rw [h3,h4]⟩
theorem ac4 {P:Program} {l:b9} {w:World} (hG:Gl P l w) {b:Nat} (hb:P.globalNamed "strconv.ErrRange" = some b):∃ t p,w.var? P "strconv.ErrRange" = some #[.iface t p]:=by obtain ⟨⟨vs,h3,t,p,h4⟩,_⟩:=hG "strconv.ErrRange" (fun vs=>∃ t p,vs = #[.iface t p]) (by unfold pins; exact kD _ (kD _ (kD _ JY))) b hb;exact ⟨t,p,by rw [h3,h4]⟩
theorem UN (w:World) (o:Obj):Below w.heap.size w (w.alloc o):=(Below.refl _ w).alloc (cx _) o
theorem ac5 {g:Gh} {w:World} {e:TypeId} {xs:List ByteArray} {n:Nat} (hn:n=xs.length) (hl:∀ b o q,g.lab b o=some q→b<w.heap.size) :
  hZ (α:=List UInt8) 1 (Sh g.lab (w.alloc (.cells (xs.map Value.string).toArray e)) .str) (xs.map (·.data.toList)) (.slice (some ⟨w.heap.size,0,none⟩) n n):=by
 refine ⟨_,_,_,rfl,(by grind),cx _,(fun h=>by cases h),fun _=>⟨w.heap.size,0,rfl,fun i hi=>?_⟩⟩;have gU:i<xs.length:=by simpa using hi
 refine ⟨?_,?_⟩
 ·simp_all
 show g.lab w.heap.size _=none;cases h:g.lab w.heap.size (0+i*1) with
 | none=>rfl
 | some q=>grind
theorem ac6 {P:Program} {f:FuncId} {b:Nat} {e:TypeId} (hg:P.globalNamed "internal/bytealg.MaxLen" = some b)
  (K:∀ (s sep:ByteArray) (m:Int) (w:World),s.size<4294967281→w.cell? ⟨b,0,none⟩=some (.int .i64 m)→1≤sep.size→
   Calls P f #[.string s,.string sep] w fun ed w'=>ed = .returned (.slice (some ⟨w.heap.size,0,none⟩) (tR s sep+1) (tR s sep+1))∧w'=w.alloc (.cells ((Lib.splitB sep 0 (tR s sep) s).map Value.string).toArray e)):Sound P f UM:=by
 intro x y hm _ site hs g w args E hG;obtain ⟨v1,r,ha,h1,v2,r2,tS,h2,h3⟩:=E.bG;obtain rfl:r2=[]:=h3;obtain rfl:v2 = .string ⟨(x.2.1:List UInt8).toArray⟩:=h2;obtain rfl:v1 = .string ⟨(x.1:List UInt8).toArray⟩:=h1;subst tS;subst ha;obtain ⟨s,sep,⟨⟩⟩:=x;replace hm:N8 s sep=some y:=hm;have qY:∃ c,sep=[c]:=by
  match sep,hm with
  | [c],_=>grind
  | [],hm=>cases hm
  | _::_::_,hm=>cases hm
 obtain ⟨c,rfl⟩:=qY;replace hm:(if (s:List UInt8).length<4294967281 then some (bC c s,()) else none)=some y:=hm;split at hm
 ·rename_i hlen;obtain rfl:=aZ hm;obtain ⟨m,Gs⟩:=N9 hG hg;have bF:(⟨(s:List UInt8).toArray⟩:ByteArray).size<4294967281:=N4 (zr (zu s)) hlen;have h1:1≤(⟨#[c]⟩:ByteArray).size:=cx 1;refine (K ⟨(s:List UInt8).toArray⟩ ⟨#[c]⟩ m w bF Gs h1).mono fun ed w' he=>?_;obtain ⟨rfl,rfl⟩:=he;have hc:tR (⟨(s:List UInt8).toArray⟩:ByteArray) ⟨#[c]⟩=Gq s [c]:=by simp [tR]
  have hl:=Lib.splitB_all ⟨#[c]⟩ h1 0 _ ⟨(s:List UInt8).toArray⟩ rfl;have hd:=Lib.splitB_data ⟨#[c]⟩ 0 (tR (⟨(s:List UInt8).toArray⟩:ByteArray) ⟨#[c]⟩) ⟨(s:List UInt8).toArray⟩;have pJ:(Lib.splitB ⟨#[c]⟩ 0 (tR (⟨(s:List UInt8).toArray⟩:ByteArray) ⟨#[c]⟩) ⟨(s:List UInt8).toArray⟩).map (·.data.toList)=bC c s:=by rw [hd,hc]; exact N6 c s
  refine ⟨_,g,rfl,w9 (m:=UM) (UN w _) E.cm ?_ rfl trivial⟩;show hZ (α:=List UInt8) 1 (Sh g.lab _ .str) (bC c s) _;rw [← pJ];exact ac5 hl.symm E.cm
 grind
def B2 (s:List UInt8):Option (cj [Ty.int .i64,Ty.err]):=
 if s.length≤281474976710656 then (match JR s with | .ok v=>some (v,true,()) | .«syntax»=>some ((0:Int),false,()) | .range=>some (Lib.atoiSat s,false,())) else none
abbrev Oa:ar:=⟨[.val .str],[.val (.int .i64),.val .err],fun x=>B2 x.1⟩
theorem ac7 {P:Program} {f:FuncId} {e5:TypeId} (Gt:(P.globalNamed "strconv.ErrSyntax").isSome=true) (Gu:(P.globalNamed "strconv.ErrRange").isSome=true)
  (K1:∀ (s:ByteArray),s.size≤9223372036854775806→∀ (v:Int),JR s.data.toList = .ok v→∀ w,Calls P f #[.string s] w fun e w'=>e = .returned (.tuple #[.int .i64 v,.nilIface])∧(w'=w∨∃ t,w'=Lib.bytesWorld w e5 t))
  (K2:∀ (s:ByteArray),s.size≤281474976710656→JR s.data.toList = .«syntax»→∀ (tp:TypeId) (p:Value) (w:World),w.var? P "strconv.ErrSyntax" = some #[.iface tp p]→
   Calls P f #[.string s] w fun e w'=>∃ t p,e = .returned (.tuple #[.int .i64 0,.iface t p])∧Below w.heap.size w w')
  (K3:∀ (s:ByteArray),s.size≤281474976710656→JR s.data.toList = .range→∀ (tp:TypeId) (p:Value) (w:World),w.var? P "strconv.ErrRange" = some #[.iface tp p]→
   Calls P f #[.string s] w fun e w'=>∃ t p,e = .returned (.tuple #[.int .i64 (Lib.atoiSat s.data.toList),.iface t p])∧Below w.heap.size w w'):Sound P f Oa:=by
 intro x y hm _ site hs g w args E hG;obtain ⟨b1,Gt⟩:=N5.1 Gt;obtain ⟨b2,Gu⟩:=N5.1 Gu;obtain ⟨v1,r,ha,h1,h2⟩:=E.bG;obtain rfl:r=[]:=h2;obtain rfl:v1 = .string ⟨(x.1:List UInt8).toArray⟩:=h1;subst ha;obtain ⟨s,⟨⟩⟩:=x;replace hm:B2 s=some y:=hm;unfold B2 at hm;split at hm
 ·rename_i hlen;have bF:(⟨(s:List UInt8).toArray⟩:ByteArray).size≤281474976710656:=sa (zr (zu s)) hlen;have fin:∀ (n:Int) (eb:Bool) (v:Value) (w':World),Bt eb v→Below w.heap.size w w'→zg g w site Oa (n,eb,()) (.tuple #[.int .i64 n,v]) g w':=fun n eb v w' hv hb=>
   w9 (m:=Oa) hb E.cm ⟨[.int .i64 n,v],rfl,_,_,rfl,rfl,_,_,rfl,hv,rfl⟩ rfl trivial
  split at hm
  ·rename_i v hv;obtain rfl:=aZ hm;refine (K1 ⟨(s:List UInt8).toArray⟩ (by omega) v hv w).mono fun e w' he=>?_;obtain ⟨rfl,hw⟩:=he;refine ⟨_,g,rfl,fin v true _ w' rfl ?_⟩;rcases hw with rfl | ⟨t,rfl⟩
   ·exact Below.refl _ _
   exact Lib.bytesWorld_below w e5 t
  ·rename_i hv;obtain rfl:=aZ hm;obtain ⟨t,p,tT⟩:=ac3 hG Gt;refine (K2 ⟨(s:List UInt8).toArray⟩ bF hv t p w tT).mono fun e w' he=>?_;obtain ⟨t',p',rfl,hw⟩:=he;exact ⟨_,g,rfl,fin 0 false _ w' ⟨t',p',rfl⟩ hw⟩
  rename_i hv;obtain rfl:=aZ hm;obtain ⟨t,p,tT⟩:=ac4 hG Gu;refine (K3 ⟨(s:List UInt8).toArray⟩ bF hv t p w tT).mono fun e w' he=>?_;obtain ⟨t',p',rfl,hw⟩:=he;exact ⟨_,g,rfl,fin _ false _ w' ⟨t',p',rfl⟩ hw⟩
 grind
def D4 (s p:List UInt8):Option (cj [Ty.bool]):=if s.length≤9223372036854775807 then some (Lib.hasSuffix s p,()) else none
abbrev UO:ar:=⟨[.val .str,.val .str],[.val .bool],fun x=>D4 x.1 x.2.1⟩
theorem ac8 {P:Program} {f:FuncId}
  (K:∀ (s p:ByteArray) (w:World),s.size≤9223372036854775807→Calls P f #[.string s,.string p] w fun e w'=>e = .returned (.bool (Lib.hasSuffix s.data.toList p.data.toList))∧w'=w):Sound P f UO:=by
 intro x y hm _ site hs g w args E hG;obtain ⟨v1,r,ha,h1,v2,r2,tS,h2,h3⟩:=E.bG;obtain rfl:r2=[]:=h3;obtain rfl:v2 = .string ⟨(x.2.1:List UInt8).toArray⟩:=h2;obtain rfl:v1 = .string ⟨(x.1:List UInt8).toArray⟩:=h1;subst tS;subst ha;obtain ⟨s,sep,⟨⟩⟩:=x;replace hm:D4 s sep=some y:=hm;unfold D4 at hm;split at hm
 ·rename_i hlen;obtain rfl:=aZ hm;refine (K ⟨(s:List UInt8).toArray⟩ ⟨(sep:List UInt8).toArray⟩ w (sa (zr (zu s)) hlen)).mono fun e w' he=>?_;obtain ⟨rfl,rfl⟩:=he;exact ⟨_,g,rfl,w9 (m:=UO) (Below.refl _ _) E.cm rfl rfl trivial⟩
 grind
def Gv (s p:List UInt8):Option (cj [Ty.str]):=if s.length≤9223372036854775807 then some (Lib.trimSuffix s p,()) else none
abbrev UP:ar:=⟨[.val .str,.val .str],[.val .str],fun x=>Gv x.1 x.2.1⟩
theorem ac9 {P:Program} {f:FuncId}
  (K:∀ (s p:ByteArray) (w:World),s.size≤9223372036854775807→Calls P f #[.string s,.string p] w fun e w'=>e = .returned (.string ⟨(Lib.trimSuffix s.data.toList p.data.toList).toArray⟩)∧w'=w):Sound P f UP:=by
 intro x y hm _ site hs g w args E hG;obtain ⟨v1,r,ha,h1,v2,r2,tS,h2,h3⟩:=E.bG;obtain rfl:r2=[]:=h3;obtain rfl:v2 = .string ⟨(x.2.1:List UInt8).toArray⟩:=h2;obtain rfl:v1 = .string ⟨(x.1:List UInt8).toArray⟩:=h1;subst tS;subst ha;obtain ⟨s,sep,⟨⟩⟩:=x;replace hm:Gv s sep=some y:=hm;unfold Gv at hm;split at hm
 ·rename_i hlen;obtain rfl:=aZ hm;refine (K ⟨(s:List UInt8).toArray⟩ ⟨(sep:List UInt8).toArray⟩ w (sa (zr (zu s)) hlen)).mono fun e w' he=>?_;obtain ⟨rfl,rfl⟩:=he;exact ⟨_,g,rfl,w9 (m:=UP) (Below.refl _ _) E.cm rfl rfl trivial⟩
 grind
def D5 (s p:List UInt8):Option (cj [Ty.str,Ty.str,Ty.bool]):=if s.length<4294967281 then some ((D2 s p).1,(D2 s p).2.1,(D2 s p).2.2,()) else none
abbrev UQ:ar:=⟨[.val .str,.val .str],[.val .str,.val .str,.val .bool],fun x=>D5 x.1 x.2.1⟩
theorem ada {P:Program} {f:FuncId} {b:Nat} (hg:P.globalNamed "internal/bytealg.MaxLen" = some b)
  (K:∀ (s sep:ByteArray) (m:Int) (w:World),s.size<4294967281→w.cell? ⟨b,0,none⟩=some (.int .i64 m)→
   Calls P f #[.string s,.string sep] w fun e w'=>e = .returned (.tuple #[.string ⟨(D2 s.data.toList sep.data.toList).1.toArray⟩,.string ⟨(D2 s.data.toList sep.data.toList).2.1.toArray⟩,.bool (D2 s.data.toList sep.data.toList).2.2])∧∃ n,w'=w.drewN n):Sound P f UQ:=by
 intro x y hm _ site hs g w args E hG;obtain ⟨v1,r,ha,h1,v2,r2,tS,h2,h3⟩:=E.bG;obtain rfl:r2=[]:=h3;obtain rfl:v2 = .string ⟨(x.2.1:List UInt8).toArray⟩:=h2;obtain rfl:v1 = .string ⟨(x.1:List UInt8).toArray⟩:=h1;subst tS;subst ha;obtain ⟨s,sep,⟨⟩⟩:=x;replace hm:D5 s sep=some y:=hm;unfold D5 at hm;split at hm
 ·rename_i hlen;obtain rfl:=aZ hm;obtain ⟨m,Gs⟩:=N9 hG hg;refine (K ⟨(s:List UInt8).toArray⟩ ⟨(sep:List UInt8).toArray⟩ m w (N4 (zr (zu s)) hlen) Gs).mono fun e w' he=>?_;obtain ⟨rfl,n,rfl⟩:=he;exact ⟨_,g,rfl,w9 (m:=UQ) (acW w n) E.cm ⟨_,rfl,_,_,rfl,rfl,_,_,rfl,rfl,_,_,rfl,rfl,rfl⟩ rfl trivial⟩
 grind
theorem adb {H:Type} {enc:TypeId×Value→H} {a:Assume} {C:Checked} {os:Os} {f:FuncId} {fn:Func} {s:ChangeSpec} {conds:List PathCond} {apart fresh handsOn again:Bool} {X:World→Array Value→Prop}
  (hX:∀ (w w':World) (args:Array Value),w.heap=w'.heap→X w args→X w' args)
  (own:ownKnob C.prog.godebug=none) (started:os.Started) (ade:C.prog.inits.idxOf? f=none) (w4:C.prog.funcs[f]? = some fn)
  (witness:∃ (w:World) (tape:Tape) (i:Input),w.os=os∧(w.forCall tape i).Shaped C.prog∧i.vars=[]∧Input.okWide C.prog (w.forCall tape i) .any w.heap.size f i∧
   ((s.pre enc C.prog fn conds apart (w.forCall tape i).memory i.args∧X (w.forCall tape i).memory i.args)∧sizedMet enc C.prog fn (OpenSpec.ofChange s) apart (w.forCall tape i).memory i.args)∧a.holds C.prog (lone (Frame.enter C.prog f i.args .normal) [] (w.forCall tape i)))
  (adf:∀ (W:World) (base:Nat) (args:Array Value) (ds gs:List (DataW H)) (before:List MemPlace),
   (∀ (j:Nat) t v,fn.params[j]? = some t→args[j]? = some v→Value.okWide C.prog W .any base t v)→
   DataW.Whole enc C.prog fn.params.toList s.vars apart W args.toList ds gs before→
   W.ShapedOpen C.prog→X W args→
   Calls C.prog f args W fun e W'=>∃ v,e = .returned v∧s.post enc C.prog fn apart fresh handsOn again W args v W') :
  ReturnsInHanded a C os f .any (fun w args=>(s.pre enc C.prog fn conds apart w args∧X w args)∧sizedMet enc C.prog fn (OpenSpec.ofChange s) apart w args) (s.post enc C.prog fn apart fresh handsOn again):=by
 refine returnsInHanded_of_calls own started ade witness ?_;intro w tape i _ ji _ bK tH aik;obtain ⟨_,_,_,fn',adg,_,_,_,_,wQ⟩:=bK;have e:fn'=fn:=aZ (adg.symm.trans w4);subst e;obtain ⟨⟨⟨ds,gs,before,hw,hc⟩,hx⟩,hz⟩:=tH;have hw':=DataW.Whole.of_heap (w':=w.forCall tape i) (by rfl) hw;refine (adf (w.forCall tape i) w.heap.size i.args ds gs before wQ hw' ji (hX _ _ _ (by rfl) hx)).mono fun e W' ⟨v,he,hp⟩=>?_;subst he;exact ChangeSpec.post_blind hp
open Go.Maps (Keyed)
theorem UR {α:Type} {f:Oper→Option α} : ∀ (ops:List Oper) (i0:Nat) {i:Nat} {x:α},uZ f ops i0=some (i,x)→∃ (j:Nat) (o:Oper),i=i0+j∧ops[j]? = some o∧f o=some x
 | [],_,_,_,h=>by simp [uZ] at h
 | o::r,i0,i,x,h=>by
  unfold uZ at h;split at h
  ·simp_all
  obtain ⟨j,o',h1,h2,h3⟩:=UR r (i0+1) h;exact ⟨j+1,o',by omega,by grind,h3⟩
theorem Gw {α:Type} {f:Oper→Option α} {ops:List Oper} {i:Nat} {x:α} (h:uZ f ops 0=some (i,x)):∃ o:Oper,ops[i]? = some o∧f o=some x:=by
 obtain ⟨j,o,h1,h2,h3⟩:=UR ops 0 h
 grind
theorem Ob {α:Type} {f:Nat→Oper→Option α} : ∀ (ops:List Oper) (i0:Nat) {x:α},x∈wz f ops i0→∃ (j:Nat) (o:Oper),ops[j]? = some o∧f (i0+j) o=some x
 | [],_,_,h=>by simp [wz] at h
 | o::r,i0,x,h=>by
  unfold wz at h;split at h
  ·rename_i hy;rcases gC.1 h with rfl | h
   ·exact ⟨0,o,rfl,hy⟩
   obtain ⟨j,o',h2,h3⟩:=Ob r (i0+1) h;exact ⟨j+1,o',by grind,by grind⟩
  obtain ⟨j,o',h2,h3⟩:=Ob r (i0+1) h;exact ⟨j+1,o',by grind,by grind⟩
theorem US {f:Nat→Oper→Bool} : ∀ (ops:List Oper) (i0:Nat),Im f ops i0=true→∀ (j:Nat) (o:Oper),ops[j]? = some o→f (i0+j) o=true
 | [],_,_,j,o,h=>by grind
 | o::r,i0,h,j,o',hj=>by
  unfold Im at h;simp only [aB] at h;cases j with
  | zero=>grind
  | succ j=>
   have:=US r (i0+1) h.2 j o' (by grind)
   grind
theorem UT:∀ a:List UInt8,Ik a a=true
 | []=>rfl
 | x::r=>by simp [Ik,UT r]
theorem UU:∀ {l:List pV},Il l=true→∀ {x y:pV},x∈l→y∈l→x.key=y.key→x=y
 | [],_,x,_,hx,_,_=>by grind
 | z::r,h,x,y,hx,hy,e=>by
  unfold Il at h;simp only [aB,iy,BT] at h;have key:∀ u∈r,z.key≠u.key:=fun u hu e=>by
   have:=h.1 u hu;rw [e,UT] at this
   grind
  rcases gC.1 hx with h1 | h1<;>rcases gC.1 hy with h2 | h2
  ·grind
  ·grind
  ·grind
  exact UU h.2 h1 h2 e
theorem adh {o:Oper} {j:Nat} (h:mT o j=true):∃ e∈o.after.toList,tJ .any e=true∧e.on=j:=by unfold mT at h;obtain ⟨e,h1,h2⟩:=List.any_eq_true.1 h;simp only [aB] at h2;exact ⟨e,h1,h2.1,bB h2.2⟩
theorem Oc {f:Oper→Bool} {i:Nat} {ops:List Oper} (h:Fc f i ops=true):∃ o:Oper,ops[i]? = some o∧f o=true:=by
 unfold Fc at h
 grind
theorem JZ {t:Nat} {o:Oper} : u_ t o=true↔o.dst=some t:=by
 unfold u_;cases o.dst with
 | none=>simp
 | some d=>simp_all
theorem UW {ρ:Type} {r:ρ} {s:List UInt8} {f:Nat→Option ρ} : ∀ {l:List pV},Ff s f l=some r→∃ x∈l,x.key=s∧f x.v=some r
 | [],h=>by simp [Ff] at h
 | x::l,h=>by
  unfold Ff at h;by_cases hk:s=x.key
  ·rw [decide_eq_true hk] at h;exact ⟨x,by simp,hk.symm,h⟩
  rw [decide_eq_false hk] at h;obtain ⟨y,h1,h2,h3⟩:=UW h
  grind
structure Od (T:Nat) (ops:List Oper) (mf:wy):Prop where
 guard:∀ (i:Nat) (o:Oper),ops[i]? = some o→o.guard=none
 make:∀ (i:Nat) (o:Oper) t r,ops[i]? = some o→o.op = .makeMap t r→t=T∧r=none∧i=mf.im∧o.dst=some mf.tm
 insert:∀ (i:Nat) (o:Oper) t m k v,ops[i]? = some o→o.op = .insert t m k v→t=T∧m = .tmp mf.tm∧o.dst=none∧∃ x∈mf.ins,∃ s:ByteArray,x.i=i∧k = .const (.string s)∧s.data.toList=x.key∧s.size≤1000∧v = .tmp x.v∧mT o mf.im=true∧mT o x.p=true
 look:∀ (i:Nat) (o:Oper) t m k c,ops[i]? = some o→o.op = .lookup t m k c→t=T∧m = .tmp mf.tk∧k = .tmp mf.tq∧c=false∧i=mf.il∧mT o mf.ik=true∧mT o mf.iq=true
 move:∃ o:Oper,ops[mf.ik]? = some o∧o.op = .move (.tmp mf.tm)∧o.dst=some mf.tk∧mT o mf.im=true∧∀ x∈mf.ins,mT o x.i=true
 src:∃ o:Oper,ops[mf.iq]? = some o∧o.op = .move (.tmp mf.t1)∧o.dst=some mf.tq
 prod:∀ x∈mf.ins,∃ o:Oper,ops[x.p]? = some o∧o.dst=some x.v
 Oe:∀ (i:Nat) (o:Oper),ops[i]? = some o→o.dst=some mf.tm→i=mf.im
 Of:∀ (i:Nat) (o:Oper),ops[i]? = some o→o.dst=some mf.tk→i=mf.ik
 Og:∀ (i:Nat) (o:Oper),ops[i]? = some o→o.dst=some mf.tq→i=mf.iq
 Gx:∀ (i:Nat) (o:Oper),ops[i]? = some o→o.dst≠some mf.t1
 dv:∀ x∈mf.ins,∀ (i:Nat) (o:Oper),ops[i]? = some o→o.dst=some x.v→i=x.p
 keys:∀ x∈mf.ins,∀ y∈mf.ins,x.key=y.key→x=y
 few:mf.ins.length≤1000
 Oh:∃ (o:Oper) (t:Nat) (r:Option Operand),ops[mf.im]? = some o∧o.op = .makeMap t r
 Ln:∀ x∈mf.ins,∃ (o:Oper) (t:Nat) (m v:Operand) (s:ByteArray),ops[x.i]? = some o∧o.op = .insert t m (.const (.string s)) v∧s.data.toList=x.key
theorem adi {T:Nat} {ops:List Oper} {mf:wy} (hf:Fb ops=some mf) (h:Fe T ops mf=true):Od T ops mf:=by
 unfold Fb at hf;split at hf
 ·cases hf
 rename_i im tm e1;split at hf
 ·cases hf
 rename_i ik tk e2;split at hf
 ·cases hf
 rename_i il tq _;split at hf
 ·cases hf
 rename_i iq t1 e4;obtain rfl:=aZ hf;unfold Fe at h;simp only [aB,iy] at h;obtain ⟨h1,h2,h3,h4,h5,h6⟩:=h;have hp:∀ (i:Nat) (o:Oper),ops[i]? = some o→Dg T ⟨im,tm,ik,tk,iq,tq,t1,il,wz (Fa ops) ops 0⟩ i o=true:=fun i o ho=>by
  have:=US ops 0 h1 i o ho
  grind
 have qW:∀ x∈wz (Fa ops) ops 0,∃ (o:Oper) (t:Nat) (m:Nat) (s:ByteArray),ops[x.i]? = some o∧o.op = .insert t (.tmp m) (.const (.string s)) (.tmp x.v)∧x.key=s.data.toList∧∃ op:Oper,ops[x.p]? = some op∧op.dst=some x.v:=fun x hx=>by
  obtain ⟨j,o,ho,rW⟩:=Ob ops 0 hx;rw [Nat.zero_add] at rW;unfold Fa at rW;split at rW
  ·rename_i t m s v aP;split at rW
   ·rename_i p _ yH;obtain rfl:=aZ rW;obtain ⟨op,h7,h8⟩:=Gw yH;refine ⟨o,t,m,s,ho,aP,rfl,op,h7,?_⟩;unfold R8 at h8;split at h8
    ·rename_i hd; exact JZ.1 hd
    grind
   grind
  grind
 have gg:∀ (i:Nat) (o:Oper),ops[i]? = some o→o.guard=none∧(o.dst=some tm→i=im)∧(o.dst=some tk→i=ik)∧(o.dst=some tq→i=iq)∧o.dst≠some t1∧∀ x∈wz (Fa ops) ops 0,o.dst=some x.v→i=x.p:=fun i o ho=>by
  have:=hp i o ho;unfold Dg at this;simp only [aB,rM,BT,iy] at this;obtain ⟨⟨g1,-⟩,g2,g3,g4,g5,g6⟩:=this;have q:∀ {t j:Nat},(u_ t o=false∨Nat.beq i j=true)→o.dst=some t→i=j:=fun h hd=>by
   rcases h with h | h
   ·rw [JZ.2 hd] at h; cases h
   simp_all
  refine ⟨by simp_all,q g2,q g3,q g4,fun hd=>?_,fun x hx=>q (g6 x hx)⟩;rw [JZ.2 hd] at g5; cases g5
 refine ⟨fun i o ho=>(gg i o ho).1,fun i o t r ho aP=>?_,fun i o t m k v ho aP=>?_,fun i o t m k c ho aP=>?_,?_,?_,fun x hx=>?_,fun i o ho=>(gg i o ho).2.1,fun i o ho=>(gg i o ho).2.2.1,fun i o ho=>(gg i o ho).2.2.2.1,fun i o ho=>(gg i o ho).2.2.2.2.1,fun x hx i o ho=>(gg i o ho).2.2.2.2.2 x hx,fun x hx y hy=>UU h5 hx hy,gz h6,?_,fun x hx=>?_⟩
 ·have:=hp i o ho;unfold Dg at this;simp only [aB] at this;have h7:=this.1.2;rw [aP] at h7;cases r with
  | some r=>cases h7
  | none=>
   simp only [aB] at h7;have hi:=bB h7.2;obtain ⟨o',h8,h9⟩:=Gw e1;have hi:i=im:=hi;subst hi;rw [ho] at h8;obtain rfl:=aZ h8;unfold LX at h9;rw [aP] at h9;exact ⟨bB h7.1,rfl,rfl,h9⟩
 ·have:=hp i o ho;unfold Dg at this;simp only [aB] at this;have h7:=this.1.2;rw [aP] at h7;obtain ⟨m',rfl⟩:∃ m',m = .tmp m':=by grind
  obtain ⟨s',rfl⟩:∃ s',k = .const (.string s'):=by grind
  obtain ⟨v',rfl⟩:∃ v',v = .tmp v':=by grind
  ·skip
   simp only [aB] at h7;obtain ⟨q1,q2,q3,q4,q5⟩:=h7;obtain ⟨x,hx,Gy⟩:=List.any_eq_true.1 q4;have Gy:=bB Gy;obtain ⟨o',t',m'',s'',r1,r2,r3,-⟩:=qW x hx;rw [Gy,ho] at r1;obtain rfl:=aZ r1;rw [aP] at r2;injection r2 with b1 b2 b3 b4;have b5:s'=s'':=by injection b3 with b3; injection b3
   subst b5;obtain ⟨o2,h8,h9⟩:=Oc (h4 x hx);rw [Gy,ho] at h8;obtain rfl:=aZ h8;simp only [aB] at h9;refine ⟨bB q1,by rw [bB q2],by simpa using q3,x,hx,s',Gy,rfl,r3.symm,?_,b4,h9.1,h9.2⟩;have:s'.data.toList.length≤1000:=gz q5;show s'.data.size≤1000;omega
 ·have:=hp i o ho;unfold Dg at this;simp only [aB] at this;have h7:=this.1.2;rw [aP] at h7;obtain ⟨m',rfl⟩:∃ m',m = .tmp m':=by grind
  obtain ⟨k',rfl⟩:∃ k',k = .tmp k':=by grind
  obtain rfl:c=false:=by grind
  ·simp only [aB] at h7;obtain ⟨q1,q2,q3,q4⟩:=h7;have q2:=bB q2;obtain ⟨o2,h8,h9⟩:=Oc h3;have q2:i=il:=q2;subst q2;rw [ho] at h8;obtain rfl:=aZ h8;simp only [aB] at h9;exact ⟨bB q1,by rw [bB q3],by rw [bB q4],rfl,rfl,h9.1,h9.2⟩
 ·obtain ⟨o,h8,h9⟩:=Gw e2;unfold R6 at h9;split at h9
  ·rename_i s aP;split at h9
   ·rename_i hs;obtain ⟨o2,lE,ki⟩:=Oc h2;rw [h8] at lE;obtain rfl:=aZ lE;simp only [aB] at ki;exact ⟨o,h8,by rw [aP,bB hs],h9,ki.1,iy.1 ki.2⟩
   grind
  grind
 ·obtain ⟨o,h8,h9⟩:=Gw e4;unfold R7 at h9;split at h9
  ·rename_i s aP;split at h9
   ·rename_i hs;obtain rfl:=aZ h9;exact ⟨o,h8,aP,JZ.1 hs⟩
   grind
  grind
 ·grind
 ·obtain ⟨o,h8,h9⟩:=Gw e1;unfold LX at h9
  grind
 grind
section
variable {P:Program} {c:bd} {w0:World} {F:b9} {N:Nat} {g g':Gh} {w w':World} {U U':Nat→Prop} {st:St} {a:Act}
theorem adj (hc:gb P c) (hG:Gl P F w0) {all:List Oper} (hN:∀ o∈all,∀ x,o.dst=some x→x<N) {es:List cN} (D0:oZ c all st all.length es) (hp:qT es.length.pred es=true)
  {g0:Gh} {U0:Nat→Prop} {D:Nat→Bool} {i:Nat} {o:Oper} (ho:all[i]? = some o) (tQ:o.guard=none) (hi:D i=false) (hr:∀ e∈o.after.toList,tJ .any e=true→D e.on=true)
  (I:Inv w0 F N g0 U0 st es D g U a w):∃ e,e9 es i=some e∧¬ U (st.nxt+i)∧
   (∃ rs,dC P c g w U rs a∧eI c rs (st.nxt+i) o.op some=some e.bu∧∀ t∈lK o.op.operands.toList,look rs.env t=look (cq st D es).env t)∧
   (∀ v w' g' U',dP g w U (st.nxt+i) e.bu v w' g' U'→Inv w0 F N g0 U0 st es (fun j=>D j||j==i) g' U' (a.put o.dst v) w'):=by
 have hlen:=D0.len;have H3:i<es.length:=by rw [hlen]; exact (eE.1 ho).1
 obtain ⟨e,he⟩:∃ e,e9 es i=some e:=⟨_,eX (by simpa using H3)⟩
 obtain ⟨fs,pre,o',nG,tH,iJ,hf⟩:=D0.at i e he;rw [ho] at iJ;obtain rfl:=aZ iJ;have CR:∀ m,ec e.mask m=true→m<i∧D m=true:=by
  intro m hm;rw [hf.mask] at hm;obtain ⟨ed,h1,h2,h3,h4⟩:=NM _ hm;have hD:=hr ed h1 h2;rcases h4 with rfl | h4
  ·exact ⟨h3,hD⟩
  have aF:ed.on<pre.length:=by omega
  obtain ⟨f,BZ⟩:∃ f,e9 pre ed.on=some f:=⟨_,eX (by simpa using aF)⟩
  have y0:(pre.reverse.map (·.mask)).getD ed.on 0=f.mask:=by rw [List.getD_eq_getElem?_getD,yX];unfold e9 at BZ;rw [BZ]; rfl
  rw [y0] at h4;have:=I.wT ed.on f (by rw [nG,Un aF]; exact BZ) hD m h4;exact ⟨by omega,this.2⟩
 have w5:∀ j f,e9 es j=some f→D j=true→ec e.mask j=false→Gg e f∨Gg f e:=by
  intro j f hj gn hm;have aG:j≠i:=fun h=>by subst h; rw [hi] at gn; simp at gn
  rcases Nat.lt_or_gt_of_ne aG with h | h
  ·rcases Gf es hp j i f e h hj he with h1 | h1
   ·grind
   exact .inl (JK h1)
  rcases Gf es hp i j e f h he hj with h1 | h1
  ·have:=(I.wT j f hj gn i h1).2
   grind
  exact .inr (JK h1)
 have B_:∀ j,pre.length≤j→ec e.mask j=false:=by
  intro j hj;cases h:ec e.mask j with
  | false=>rfl
  | true=>grind
 have JM:mg st e.mask i.pred pre=cq st (ec e.mask) es:=by rw [NI pre i tH,nG];exact (NK (fs++[e]) pre B_).symm.trans (by grind)
 have ER:∀ t,(t∈e.pS)→look (cq st (ec e.mask) es).env t=look (cq st D es).env t:=by
  intro t ht;refine Gd es (fun j f hj=>?_);cases hm:ec e.mask j with
  | true=>grind
  | false=>
   cases gn:D j with
   | false=>grind
   | true=>
    refine .inr (fun hd=>?_);rcases w5 j f hj gn hm with hq | hq
    ·exact hq.u2 t hd ht
    exact hq.u1 t hd ht
 have Gi:∀ id,id∈e.reads→(cq st (ec e.mask) es).obj id=(cq st D es).obj id:=by
  intro id hid;refine Ge es (fun j f hj=>?_);cases hm:ec e.mask j with
  | true=>grind
  | false=>
   cases gn:D j with
   | false=>grind
   | true=>
    refine .inr (fun hd=>?_);rcases w5 j f hj gn hm with hq | hq
    ·exact hq.t2 id hd hid
    exact hq.t1 id hd hid
 have later:∀ j f,i<j→e9 es j=some f→∀ {t:Nat},((e.dst≠some t→False)→(fun j=>D j||j==i) j=false∨f.dst≠some t):=by
  intro j f hj kA t ht;cases gn:D j with
  | false=>grind
  | true=>
   have hm:ec e.mask j=false:=B_ j (by omega);have Gj:e.dst=some t:=Classical.not_not.1 ht;rcases w5 j f kA gn hm with hq | hq
   ·exact .inr (hq.d1 t Gj)
   exact .inr (fun h=>hq.d1 t h Gj)
 have Gk:¬ U (st.nxt+i):=by
  intro h;rcases I.used _ h with h | ⟨j,h1,h2,h3⟩
  ·omega
  grind
 have after:∀ v w' g' U',dP g w U (st.nxt+i) e.bu v w' g' U'→Inv w0 F N g0 U0 st es (fun j=>D j||j==i) g' U' (a.put o.dst v) w':=by
  intro v w' g' U' nS;refine ⟨?_,fun s h=>?_,fun j f hj gn m hm=>?_,fun s h=>nS.jg.sub s (I.sub s h),fun id ver p h1 h2=>?_⟩
  ·refine I.rel.NO (hN o (UH ho)) nS (fun t=>?_) (fun id=>?_) (fun s h=>?_)
   ·by_cases mI:o.dst=some t
    ·rw [if_pos mI];show look (cq st (fun j=>D j||j==i) es).env t=_;have iF:look (cq st (fun j=>D j||j==i) es).env t=look (cq st (fun j=>D j||j==i) (e::pre)).env t:=by rw [nG];refine NP (e::pre) fs (fun j f hj kA=>?_);rw [← nG] at kA;simp only [bh] at hj;exact later j f (by omega) kA (fun hd=>hd (by rw [hf.dst]; exact mI))
     rw [iF];simp only [cq,tH,beq_self_eq_true,Bool.or_true,zn];rw [if_pos (by rw [hf.dst]; exact mI)]
    rw [if_neg mI];refine Gd es (fun j f hj=>?_);by_cases iQ:j=i
    ·subst iQ;rw [he] at hj;obtain rfl:=aZ hj;exact .inr (by rw [hf.dst]; exact mI)
    grind
   ·show (cq st (fun j=>D j||j==i) es).obj id=_;cases jY:look e.bu.bb id with
    | none=>
     refine Ge es (fun j f hj=>?_);by_cases iQ:j=i
     ·subst iQ;rw [he] at hj;obtain rfl:=aZ hj;refine .inr (fun hm=>?_);obtain ⟨q,hq,BO⟩:=kE.1 hm;exact Uo hq BO jY
     grind
    | some x=>
     have iF:(cq st (fun j=>D j||j==i) es).obj id=(cq st (fun j=>D j||j==i) (e::pre)).obj id:=by
      rw [nG];refine NQ (e::pre) fs (fun j f hj kA=>?_);rw [← nG] at kA;simp only [bh] at hj;cases gn:D j with
      | false=>grind
      | true=>
       have hm:ec e.mask j=false:=B_ j (by omega);have hid:id∈pU e:=kE.2 ⟨_,kJ jY,rfl⟩;rcases w5 j f kA gn hm with hq | hq
       ·exact .inr (fun h=>hq.t3 id hid h)
       exact .inr (fun h=>hq.t3 id h hid)
     rw [iF];simp only [cq,tH,beq_self_eq_true,Bool.or_true,DW,jY]
   rcases nS.used s h with h | h
   ·have:=I.rel.used s h; exact this
   grind
  ·rcases nS.used s h with h | h
   ·rcases I.used s h with h | ⟨j,h1,h2,h3⟩
    ·omega
    grind
   grind
  ·by_cases iQ:j=i
   ·grind
   have NR:D j=true:=by simpa [iQ] using gn
   obtain ⟨h1,h2⟩:=I.wT j f hj NR m hm
   grind
  rw [nS.jg.hd _ _ _ (I.sub _ h1) (I.sub _ h2),I.hd id ver p h1 h2]
 obtain ⟨runs,hg,DX⟩:=hf.act;rw [tQ] at hg;have hg:runs=true:=hg;subst hg;obtain ⟨hu,nT⟩:=DX;rw [JM] at nT;have S:dC P c g w U (restrict (cq st (ec e.mask) es) (lK o.op.operands.toList) e.reads) a:=by
  refine ⟨hc,fun t v h=>?_,fun id ob h=>?_,I.rel.cm,I.rel.u0,I.rel.nL,fun id h=>?_,I.rel.gl hG⟩
  ·rw [show (restrict (cq st (ec e.mask) es) (lK o.op.operands.toList) e.reads).env=jf (cq st (ec e.mask) es) (lK o.op.operands.toList) from rfl,DM] at h;split at h
   ·rename_i ht;rw [ER t (hu t ht)] at h;exact I.rel.env t v h
   grind
  ·have h':(if id∈e.reads then (cq st (ec e.mask) es).obj id else none)=some ob:=by rw [← BR]; exact h
   split at h'
   ·rename_i hid;rw [Gi id hid] at h';exact I.rel.heap id ob h'
   grind
  have h':(if id∈e.reads then (cq st (ec e.mask) es).obj id else none)≠none:=by rw [← BR]; exact h
  split at h'
  ·rename_i hid;rw [Gi id hid] at h';exact I.rel.nf id h'
  grind
 refine ⟨e,he,Gk,⟨_,S,nT,fun t ht=>?_⟩,after⟩;rw [show (restrict (cq st (ec e.mask) es) (lK o.op.operands.toList) e.reads).env=jf (cq st (ec e.mask) es) (lK o.op.operands.toList) from rfl,DM,if_pos ht]
 grind
theorem adk {ops:Array Oper} {all:List Oper} (CN:all.length=ops.size) (haf:∀ (i:Nat) (o:Oper),ops[i]? = some o→∃ o':Oper,all[i]? = some o'∧o'.after=o.after) {es:List cN} (D0:oZ c all st all.length es)
  {g0:Gh} {U0:Nat→Prop} {Q:Exit→Act→World→Prop} {J:(Nat→Bool)→Act→World→Prop}
  (hS:∀ (D:Nat→Bool) (a:Act) (w:World) (g:Gh) (U:Nat→Prop) (i:Nat) (o:Oper),ops[i]? = some o→D i=false→(∀ e∈o.after.toList,tJ .any e=true→D e.on=true)→Inv w0 F N g0 U0 st es D g U a w→J D a w→∀ K:Act→World→Prop,
   (∀ a' w' g' U',Inv w0 F N g0 U0 st es (fun j=>D j||j==i) g' U' a' w'→J (fun j=>D j||j==i) a' w'→K a' w')→if nQ o (yielded ops a.tmps) then o.wp P a w K Q∨(o.asks P a w∧LetsOut Q) else K (a.put o.dst undef) w)
  (hQ:∀ a' w' g' U' (D:Nat→Bool),(∀ i,i<es.length→D i=true)→Inv w0 F N g0 U0 st es D g' U' a' w'→Q .normal a' w') :
  ∀ (fuel:Nat) (listed:Array Bool) (a:Act) (w:World) (g:Gh) (U:Nat→Prop),listed.size=ops.size→kK (fun i=>listed.getD i true) ops.size≤fuel→
   Inv w0 F N g0 U0 st es (fun i=>listed.getD i true) g U a w→J (fun i=>listed.getD i true) a w→wpAny P .any ops Q fuel listed a w:=by
 have hlen:=D0.len;have nG:es.length=ops.size:=by rw [hlen]; exact CN
 intro fuel;have ready:∀ (listed:Array Bool) (i:Nat),i∈q7 .any ops listed→i<ops.size∧listed.getD i true=false∧∀ o,ops[i]? = some o→∀ e∈o.after.toList,tJ .any e=true→listed.getD e.on false=true:=by intro listed i h;unfold q7 at h;obtain ⟨h1,h2⟩:=List.mem_filter.1 h;simp only [aB,BT] at h2;refine ⟨by grind,h2.1,fun o ho e he hb=>?_⟩;have h3:=h2.2;rw [ho] at h3;simp only [Option.map_some,Option.getD_some] at h3;have:=(FR.1 h3) e (by grind);simpa [hb] using this
 have least:∀ (listed:Array Bool),listed.size=ops.size→q7 .any ops listed=[]→∀ i,i<ops.size→listed.getD i true=true:=by
  intro listed hs hr;refine DY ops.size ?_;by_cases h0:kK (fun i=>listed.getD i true) ops.size=0
  ·exact h0
  exfalso;obtain ⟨i,h1,h2,h3⟩:=NT _ h0;have cU:i∈q7 .any ops listed:=by
   unfold q7;refine List.mem_filter.2 ⟨by grind,?_⟩;obtain ⟨o,ho⟩:∃ o,ops[i]? = some o:=⟨_,s_ h1⟩
   obtain ⟨o'',iJ,ah9⟩:=haf i o ho;obtain ⟨e,he⟩:∃ e,e9 es i=some e:=⟨_,eX (by grind)⟩
   obtain ⟨fs,pre,o',-,-,tN,hf⟩:=D0.at i e he;rw [iJ] at tN;obtain rfl:=aZ tN;simp only [h2,Bool.not_false,Bool.true_and,ho,Option.map_some,Option.getD_some];refine FR.2 (fun ed EV=>?_);cases hb:tJ .any ed with
   | false=>rfl
   | true=>
    have aF:=NN hf.Uk ed (by grind) hb
    grind
  grind
 induction fuel with
 | zero=>
  intro listed a w g U hs Gm I hJ;have c8:=DY ops.size (Nat.le_zero.1 Gm);refine ⟨?_,hQ a w g U _ (fun i hi=>c8 i (by omega)) I⟩;cases hr:q7 .any ops listed with
  | nil=>rfl
  | cons i l=>
   obtain ⟨h1,h2,-⟩:=ready listed i (by grind)
   grind
 | succ fuel ih=>
  intro listed a w g U hs Gm I hJ;refine ⟨fun hr=>hQ a w g U _ (fun i hi=>least listed hs hr i (by omega)) I,fun i hi=>?_⟩;obtain ⟨h1,h2,h3⟩:=ready listed i hi;obtain ⟨o,ho⟩:∃ o,ops[i]? = some o:=⟨_,s_ h1⟩
  unfold wpOp;rw [ho];simp only;have mL:∀ j,(listed.setIfInBounds i true).getD j true=(listed.getD j true||j==i):=by
   intro j;simp only [oG,Array.getElem?_setIfInBounds];by_cases iQ:i=j
   ·grind
   grind
  have e:(fun j=>(listed.setIfInBounds i true).getD j true)=(fun j=>listed.getD j true||j==i):=funext mL;refine hS (fun i=>listed.getD i true) a w g U i o ho h2 (fun e he hb=>?_) I hJ _ (fun a' w' g' U' I' J'=>ih _ a' w' g' U' (by grind) ?_ (by grind) (by grind))
  ·grind
  have:=(NS (D:=fun j=>listed.getD j true) h2 ops.size).1 h1
  grind
end
end Go.Am
namespace Go.Am
open Go
open Go.Maps (Keyed)
theorem UX {w:World} {a:Addr} {v:Value} (h:w.cell? a=some v):a.block<w.heap.size:=by
 rcases kj a.block w.heap.size with hh | hh
 ·exact hh
 exfalso;unfold JX at h
 grind
theorem LD {w:World} {k:Nat} {o:Obj} (h:w.heap[k]? = some o):k<w.heap.size:=(Array.getElem?_eq_some_iff.1 h).1
structure Oi (P:Program) (T K E:TypeId):Prop where
 UY:P.underlying T=some (.map K E)
 key:P.underlying K=some .string
 el:P.underlying E=some .string
 zero:∀ w,(zeroValue E).run P w = .ok (.string ⟨#[]⟩) w
theorem UZ {H:Type} {P:Program} {e:TypeId} (he:P.underlying e=some .string) {v:Value} {z:DataW H×List MemPlace} (h:plainElem P e v=some z):∃ s:ByteArray,v = .string s∧z=(.lit (.string s.data.toList),[]):=by
 unfold plainElem at h
 grind
section
variable {H:Type} {P:Program} {k:TypeId} {R:Value→Option (DataW H×List MemPlace)} {w w':World} {b n:Nat} {D:DataW H}
theorem adl {F:Nat→Nat→Prop} (h:w.ownsMap P k R b n D) (fr:Fr F w w'):w'.ownsMap P k R b n D:=by obtain ⟨es,clock,hb,r⟩:=h;exact ⟨es,clock,fr.kind b _ hb (fun c e f=>by simp),r⟩
theorem adm (h:w.ownsMap P k R b n D):Maps.IsMap D:=by obtain ⟨es,clock,hb,F,hs,hD⟩:=h;exact ⟨_,hD⟩
theorem U_ (h:w.ownsMap P k R b n D):∃ es clock,w.heap[b]? = some (.map es clock):=by
 obtain ⟨es,clock,hb,r⟩:=h
 grind
end
section
variable {P:Program} {c:bd} {w0:World} {F:b9} {N:Nat} {g:Gh} {w w':World} {U:Nat→Prop} {st:St} {a:Act}
theorem Rel.grown (R:Rel w0 F N g U st a w) {b:Nat} {U4 U5:Array MapEntry} {U6 U7:Nat} (h1:w.heap[b]? = some (.map U4 U6)) (h2:w'.heap[b]? = some (.map U5 U7)) (hg:w.grownBy w' (some b)) (hb:w0.heap.size≤b):Rel w0 F N g U st a w':=by
 have oE:∀ b' o,b'<w.heap.size→w'.cell? (ad b' o)=w.cell? (ad b' o)∧w'.frozen? (ad b' o)=w.frozen? (ad b' o):=by
  intro b' o aF;by_cases e:b'=b
  ·subst e;unfold JX World.frozen?;simp [ad,h1,h2]
  have:=hg.block b' aF (fun h=>e (aZ h));exact ⟨N2 (w:=w) this,UF (w:=w) this⟩
 have S:eV (fun _=>False) g w U g w' U:=⟨fun _ h=>h,fun _ _ _ _ _=>rfl,fun b' o hl v hv=>⟨by rw [(oE b' o (UX hv)).1]; exact hv,hl⟩,fun b' o id p hl _=>⟨hl,oE b' o (R.cm b' o _ hl)⟩⟩
 refine ⟨fun t v h=>S.u5 _ _ (R.env t v h),fun id o h=>?_,R.used,fun b o q h=>oL (R.cm b o q h) hg.size,R.cI,R.oQ,?_,R.defers,R.size,R.u0,R.nL,R.nf⟩
 ·obtain ⟨h1,h2⟩:=R.heap id o h;exact ⟨h1,Iw S (fun h=>h) h1 o h2⟩
 have hk:∀ k,k<w0.heap.size→w'.heap[k]? = w.heap[k]?:=fun k hk=>hg.block k (oL hk R.fr.size) (fun e=>by grind);refine ⟨hg.os.trans R.fr.os,hg.tape.trans R.fr.tape,hg.output.trans R.fr.output,sa R.fr.size hg.size,fun k c e f hc=>?_,fun k aF hn=>?_,fun k o ho hn=>?_⟩
 ·rw [hk k (LD hc)]; exact R.fr.cells k c e f hc
 ·rw [hk k aF]; exact R.fr.block k aF hn
 rw [hk k (LD ho)]; exact R.fr.kind k o ho hn
structure MJ (P:Program) (K E:TypeId) (w0:World) (mf:wy) (s:List UInt8) (es:List cN) (D:Nat→Bool) (a:Act) (w:World):Prop where
 key:a.eval (.tmp mf.t1) = .string ⟨s.toArray⟩
 tq:D mf.iq=true→a.eval (.tmp mf.tq) = .string ⟨s.toArray⟩
 tk:D mf.ik=true→a.eval (.tmp mf.tk)=a.eval (.tmp mf.tm)∧D mf.im=true∧∀ x∈mf.ins,D x.i=true
 done:∀ x∈mf.ins,D x.i=true→D x.p=true∧D mf.im=true
 map:D mf.im=true→∃ (b n:Nat) (Dm:DataW Unit),a.eval (.tmp mf.tm) = .map (some b)∧w0.heap.size≤b∧w.ownsMap P K (plainElem P E) b n Dm∧n≤(mf.ins.filter (fun x=>D x.i)).length∧
  ∀ x∈mf.ins,D x.i=true→∃ e sx,e9 es x.p=some e∧e.bu.val = .str sx∧Dm.atKey (.string x.key) (.lit (.string [])) = .lit (.string sx)
theorem J_ {l:List pV} {p q:pV→Bool} (h:∀ x∈l,p x=true→q x=true):(l.filter p).length≤(l.filter q).length:=by rw [← UG,← UG];exact List.countP_mono_left h
theorem adn {l:List pV} {p q:pV→Bool} (h:∀ x∈l,p x=true→q x=true) {x:pV} (hx:x∈l) (h1:p x=false) (h2:q x=true):(l.filter p).length+1≤(l.filter q).length:=by
 induction l with
 | nil=>cases hx
 | cons y r ih=>
  have hr:∀ x∈r,p x=true→q x=true:=fun z hz=>h z (by grind);rcases gC.1 hx with rfl | hx
  ·have:=J_ hr
   grind
  grind
theorem MJ.step {T K E:TypeId} {mf:wy} {s:List UInt8} {es:List cN} {ops:List Oper} {D:Nat→Bool} (M:Od T ops mf) (J:MJ P K E w0 mf s es D a w) {i:Nat} {o:Oper} (ho:ops[i]? = some o) (hd:∀ x,o.dst=some x→x<a.tmps.size)
  (n1:i≠mf.im) (n2:i≠mf.ik) (n3:i≠mf.iq) (n4:∀ x∈mf.ins,i≠x.i) {F':Nat→Nat→Prop} (fr:Fr F' w w') (v:Value):MJ P K E w0 mf s es (fun j=>D j||j==i) (a.put o.dst v) w':=by
 have ev:∀ t,o.dst≠some t→(a.put o.dst v).eval (.tmp t)=a.eval (.tmp t):=fun t ht=>by rw [wR hd,if_neg ht]
 have dd:∀ {j:Nat},i≠j→(D j||j==i)=true→D j=true:=fun aG h=>by grind
 have up:∀ {j:Nat},D j=true→(D j||j==i)=true:=fun h=>by grind
 have Zp:o.dst≠some mf.tm:=fun h=>n1 (M.Oe i o ho h);refine ⟨by rw [ev _ (M.Gx i o ho)]; exact J.key,fun h=>?_,fun h=>?_,fun x hx h=>?_,fun h=>?_⟩
 ·rw [ev _ (fun e=>n3 (M.Og i o ho e))]; exact J.tq (dd n3 h)
 ·obtain ⟨q1,q2,q3⟩:=J.tk (dd n2 h);rw [ev _ (fun e=>n2 (M.Of i o ho e)),ev _ Zp]
  grind
 ·obtain ⟨q1,q2⟩:=J.done x hx (dd (n4 x hx) h)
  grind
 obtain ⟨b,n,Dm,q1,q2,q3,q4,q5⟩:=J.map (dd n1 h);refine ⟨b,n,Dm,by grind,q2,adl q3 fr,sa q4 (J_ fun x _ h=>up h),fun x hx h=>q5 x hx (dd (n4 x hx) h)⟩
theorem Oj (v:Nat) (o:Oper):(j5 v o).dst=o.dst:=by unfold j5; split<;>rfl
theorem U9 (v:Nat) (o:Oper):(j5 v o).after=o.after:=by unfold j5; split<;>rfl
theorem ado (v:Nat) (o:Oper):(j5 v o).guard=o.guard:=by unfold j5; split<;>rfl
theorem Va {ρ:Type} {r:ρ} {es:List cN} {k:Option ρ} : ∀ {l:List pV},Io es k l=some r→k=some r∧∀ x∈l,∃ e sx,e9 es x.i=some e∧e.bu.val = .str sx∧sx.length<ca
 | [],h=>⟨h,fun x hx=>by cases hx⟩
 | x::l,h=>by
  unfold Io at h;split at h
  ·rename_i s _ _ _ he;unfold ab at h;split at h
   ·rename_i aF;obtain ⟨h1,h2⟩:=Va h;refine ⟨h1,fun y hy=>?_⟩;rcases gC.1 hy with rfl | hy
    ·exact ⟨_,s,he,rfl,aF⟩
    grind
   grind
  grind
theorem Vb {st:St} {D:Nat→Bool} {t p:Nat} {f:cN} : ∀ {es:List cN},e9 es p=some f→f.dst=some t→D p=true→(∀ j e,e9 es j=some e→e.dst=some t→j=p)→look (cq st D es).env t=some f.bu.val
 | [],h,_,_,_=>by simp [e9] at h
 | e::es,h,hd,hD,hu=>by
  rw [qc] at h;split at h
  ·rename_i aF;have ih:=Vb (st:=st) (D:=D) h hd hD (fun j e' yW h_=>hu j e' (by
    rw [qc];have:j<es.length:=by have:=(eE.1 yW).1; simpa using this
    rw [if_pos this]; exact yW) h_)
   have aG:e.dst≠some t:=fun h_=>by have:=hu es.length e (by rw [qc]; simp) h_;omega
   simp only [cq];cases D es.length with
   | true=>rw [zn,if_neg aG]; exact ih
   | false=>exact ih
  split at h
  ·rename_i he;obtain rfl:=aZ h;subst he;simp only [cq,hD,zn,if_pos hd]
  grind
theorem adp (hm:P.follows .mixedOrders=true) (H:zb P c) (hc:gb P c) {T K E:TypeId} (MT:Oi P T K E) {ρ:Type} {r:ρ} {w0:World} {F:b9} {N:Nat} (id:Nat) (ops:Array Oper) (st:St) (a:Act) (w:World) (g:Gh) (U:Nat→Prop)
  (k:St→Option ρ) (Q:Exit→Act→World→Prop) (hN:∀ o∈ops.toList,∀ x,o.dst=some x→x<N) (hG:Gl P F w0) (R:Rel w0 F N g U st a w) {mf:wy} (M:Od T ops.toList mf) (e:Fg c mf ops.toList st k=some r)
  (hQ:∀ st' a' w' g' U',Rel w0 F N g' U' st' a' w'→Ext g U st g' U' st'→k st'=some r→Q .normal a' w'):(Code.region id ops true).wp P Q a w:=by
 unfold Fg at e;split at e
 case h_2=>cases e
 rename_i s hs;obtain ⟨x0,vf,pY,e⟩:=UW e;obtain ⟨all,c8⟩:∃ all,all=ops.toList.map (j5 x0.v):=⟨_,rfl⟩
 rw [← c8] at e;have CN:all.length=ops.size:=by rw [c8]; simp
 have pF:∀ (i:Nat) (o:Oper),ops[i]? = some o→ops.toList[i]? = some o∧all[i]? = some (j5 x0.v o):=fun i o ho=>by
  have h1:ops.toList[i]? = some o:=by rw [Array.getElem?_toList]; exact ho
  refine ⟨h1,?_⟩;rw [c8,yX,h1]; rfl
 have hN':∀ o∈all,∀ x,o.dst=some x→x<N:=fun o ho x hx=>by rw [c8] at ho;obtain ⟨o',h1,rfl⟩:=kE.1 ho;exact hN o' h1 x (by rw [← Oj x0.v o']; exact hx)
 obtain ⟨es,D0,e⟩:=JJ all 0 [] _ .nil rfl e;have hlen:=D0.len;split at e
 case h_2=>cases e
 rename_i hp;obtain ⟨e,adq⟩:=Va e;have hp:qT es.length.pred es=true:=by
  have:ops.toList.length-1=es.length.pred:=by rw [hlen,CN]; simp
  rw [← this]; exact hp
 have kA:∀ (i:Nat) (f:cN),e9 es i=some f→∃ o,ops.toList[i]? = some o∧f.dst=o.dst:=fun i f hf=>by obtain ⟨fs,pre,o',-,-,h3,h4⟩:=D0.at i f hf;rw [c8,yX] at h3;obtain ⟨o,h5,h6⟩:=yx.1 h3;exact ⟨o,h5,by rw [h4.dst,← h6,Oj]⟩
 have wQ:∀ x∈mf.ins,∀ (D:Nat→Bool),D x.p=true→∃ f,e9 es x.p=some f∧look (cq st D es).env x.v=some f.bu.val:=fun x hx D hD=>by
  obtain ⟨o,h1,h2⟩:=M.prod x hx;have aF:x.p<es.length:=by rw [hlen,CN]; have:=(eE.1 h1).1; simpa using this
  obtain ⟨f,hf⟩:∃ f,e9 es x.p=some f:=⟨_,eX (by simpa using aF)⟩
  obtain ⟨o',h3,h4⟩:=kA x.p f hf;rw [h1] at h3;obtain rfl:=aZ h3;refine ⟨f,hf,Vb hf (by rw [h4]; exact h2) hD (fun j e' yW h_=>?_)⟩;obtain ⟨o2,h5,h6⟩:=kA j e' yW;exact M.dv x hx j o2 h5 (by rw [← h6]; exact h_)
 have Rd:Rel w0 F N g U st a { w with drawn:=w.drawn+1 }:=R.drawn;have Gz:a.eval (.tmp mf.t1) = .string ⟨s.toArray⟩:=by have:=(R.I8 hc hG).ev (.tmp mf.t1);rw [hs] at this; exact this
 refine wp_region_any hm (adk (w0:=w0) (F:=F) (N:=N) (J:=MJ P K E w0 mf s es) CN (fun i o ho=>⟨_,(pF i o ho).2,U9 _ _⟩) D0 (g0:=g) (U0:=U) (fun D a w g' U' i o ho hi hr I J KK hK=>?_) (fun a' w' g' U' D hD I=>?_) ops.size _ a _ g U (by simp) ?_ ⟨?_,fun s h=>.inl (R.used s h),fun i f hf hi=>?_,fun s h=>h,fun _ _ _ _ _=>rfl⟩ ⟨Gz,fun h=>?_,fun h=>?_,fun x hx h=>?_,fun h=>?_⟩)
 ·
  obtain ⟨iO,tN⟩:=pF i o ho;have tQ:=M.guard i o iO;have hw:nQ o (yielded ops a.tmps)=true:=by simp [nQ,tQ]
  rw [hw];simp only [if_true];refine .inl ?_;obtain ⟨f,hf,Gk,⟨rs,S,nT,s8⟩,after⟩:=adj hc hG hN' D0 hp tN (by rw [ado]; exact tQ) hi (fun e he hb=>hr e (by rw [← U9 x0.v o]; exact he) hb) I;have p9:∀ x,o.dst=some x→x<a.tmps.size:=fun x hx=>by rw [I.rel.size]; exact hN o (UH iO) x hx
  rw [Oj] at after;have Bb:∀ {j:Nat},mT o j=true→D j=true:=fun h=>by obtain ⟨e,h1,h2,h3⟩:=adh h;rw [← h3]; exact hr e h1 h2
  have up:∀ {j:Nat},D j=true→(D j||j==i)=true:=fun h=>by grind
  have mv:∀ {y:Operand},o.op = .move y→(o.wp P a w KK Q↔KK (a.put o.dst (a.eval y)) w):=fun {y} aP=>by unfold Oper.wp;simp [execOp,aP,D3];exact Iff.rfl
  have Vc:∀ {y:Operand},(j5 x0.v o).op = .move y→∀ v,aV g' w U' (rs.ev y) v→Inv w0 F N g U st es (fun j=>D j||j==i) g' U' (a.put o.dst v) w:=fun {y} aP v hv=>by rw [aP] at nT;have he:f.bu=⟨rs.ev y,[]⟩:=(aZ nT).symm;exact after v w g' U' (by rw [he]; exact dP.same S.cm hv)
  have H4:∀ {i':Nat},i'=mf.im→i=i'→∃ t r,o.op = .makeMap t r:=fun h1 h2=>by
   obtain ⟨o',t,r,h3,h4⟩:=M.Oh
   grind
  have Lo:∀ x∈mf.ins,i=x.i→∃ t m k v,o.op = .insert t m k v:=fun x hx h2=>by
   obtain ⟨o',t,m,v,s',h3,h4,-⟩:=M.Ln x hx
   grind
  have adr:i=mf.ik→o.op = .move (.tmp mf.tm)∧o.dst=some mf.tk∧mT o mf.im=true∧∀ x∈mf.ins,mT o x.i=true:=fun h=>by
   obtain ⟨o',h3,h4⟩:=M.move
   grind
  have Vd:i=mf.iq→o.op = .move (.tmp mf.t1)∧o.dst=some mf.tq:=fun h=>by
   obtain ⟨o',h3,h4⟩:=M.src
   grind
  by_cases c1:i=mf.ik
  ·
   obtain ⟨aP,hd,e1,e2⟩:=adr c1;have mZ:j5 x0.v o=o:=by unfold j5; rw [aP]
   refine (mv aP).2 (hK _ _ g' U' (Vc (by grind) _ (S.ev _)) ?_);have ev:∀ t,t≠mf.tk→(a.put o.dst (a.eval (.tmp mf.tm))).eval (.tmp t)=a.eval (.tmp t):=fun t ht=>by rw [wR p9,if_neg (by grind)]
   have J0:mf.tm≠mf.tk:=fun h=>by
    have:=M.Oe i o iO (by grind)
    grind
   have Ol:mf.iq≠i→mf.tq≠mf.tk:=fun h1 h=>h1 (M.Og i o iO (by grind)).symm;have n1:i≠mf.im:=fun h=>by grind
   have n4:∀ x∈mf.ins,i≠x.i:=fun x hx h=>by grind
   have n3:i≠mf.iq:=fun h=>by have:=(Vd h).1;rw [aP] at this;injection this with this;injection this with this;obtain ⟨o',t,r,h3,h4⟩:=M.Oh;exact M.Gx mf.im o' h3 (by rw [← this]; exact (M.make mf.im o' t r h3 h4).2.2.2)
   have dd:∀ {j:Nat},i≠j→(D j||j==i)=true→D j=true:=fun aG h=>by grind
   refine ⟨?_,fun h=>?_,fun _=>⟨?_,up (Bb e1),fun x hx=>up (Bb (e2 x hx))⟩,fun x hx h=>?_,fun h=>?_⟩
   ·rw [ev _ (fun h=>M.Gx i o iO (by grind))]; exact J.key
   ·rw [ev _ (Ol (fun h=>n3 h.symm))]; exact J.tq (dd n3 h)
   ·rw [wR p9,if_pos hd,ev _ J0]
   ·obtain ⟨q1,q2⟩:=J.done x hx (dd (n4 x hx) h)
    grind
   obtain ⟨b,n,Dm,q1,q2,q3,q4,q5⟩:=J.map (dd n1 h);exact ⟨b,n,Dm,by grind,q2,q3,sa q4 (J_ fun x _ h=>up h),fun x hx h=>q5 x hx (dd (n4 x hx) h)⟩
  by_cases c2:i=mf.iq
  ·
   obtain ⟨aP,hd⟩:=Vd c2;have mZ:j5 x0.v o=o:=by unfold j5; rw [aP]
   refine (mv aP).2 (hK _ _ g' U' (Vc (by grind) _ (S.ev _)) ?_);have ev:∀ t,t≠mf.tq→(a.put o.dst (a.eval (.tmp mf.t1))).eval (.tmp t)=a.eval (.tmp t):=fun t ht=>by rw [wR p9,if_neg (by grind)]
   have J0:mf.tm≠mf.tq:=fun h=>by
    have:=M.Oe i o iO (by grind)
    grind
   have Zq:mf.tk≠mf.tq:=fun h=>c1 (M.Of i o iO (by grind));have n1:i≠mf.im:=fun h=>by grind
   have n4:∀ x∈mf.ins,i≠x.i:=fun x hx h=>by grind
   have dd:∀ {j:Nat},i≠j→(D j||j==i)=true→D j=true:=fun aG h=>by grind
   refine ⟨?_,fun h=>?_,fun h=>?_,fun x hx h=>?_,fun h=>?_⟩
   ·rw [ev _ (fun h=>M.Gx i o iO (by grind))]; exact J.key
   ·rw [wR p9,if_pos hd]; exact J.key
   ·obtain ⟨q1,q2,q3⟩:=J.tk (dd c1 h)
    grind
   ·obtain ⟨q1,q2⟩:=J.done x hx (dd (n4 x hx) h)
    grind
   obtain ⟨b,n,Dm,q1,q2,q3,q4,q5⟩:=J.map (dd n1 h);exact ⟨b,n,Dm,by grind,q2,q3,sa q4 (J_ fun x _ h=>up h),fun x hx h=>q5 x hx (dd (n4 x hx) h)⟩
  have dd:∀ {j:Nat},i≠j→(D j||j==i)=true→D j=true:=fun aG h=>by
   rw [rM] at h;rcases h with h | h
   ·exact h
   grind
  have normal:j5 x0.v o=o→i≠mf.im→(∀ x∈mf.ins,i≠x.i)→o.wp P a w KK Q:=fun mZ n1 n4=>by rw [mZ] at nT;obtain ⟨bu,h1,h2⟩:=H S Gk nT;obtain rfl:=aZ h1;exact h2 _ _ (fun v w' g2 U2 nS=>hK _ _ g2 U2 (after v w' g2 U2 nS) (J.step M iO p9 n1 c1 c2 n4 nS.fr v))
  by_cases c3:∃ t r,o.op = .makeMap t r
  ·
   obtain ⟨t,rr,aP⟩:=c3;obtain ⟨rfl,rfl,rfl,hd⟩:=M.make i o t rr iO aP;have mZ:(j5 x0.v o).op = .move (.const (.map none)):=by unfold j5; rw [aP]
   rw [mZ] at nT;have he:f.bu=⟨.undef,[]⟩:=(aZ nT).symm;have ads:∀ (b o:Nat) v,w.cell? (ad b o)=some v→(w.alloc (.map #[] 0)).cell? (ad b o)=some v:=fun b o v hv=>by rw [N2 (w:=w) ((N3 w (.map #[] 0) none).block b (UX hv) (by simp))]; exact hv
   have H5:∀ k,k<w.heap.size→(w.alloc (.map #[] 0)).heap[k]? = w.heap[k]?:=fun k hk=>(N3 w (.map #[] 0) none).block k hk (by simp);have bF:w.heap.size≤(w.alloc (.map #[] 0)).heap.size:=(N3 w (.map #[] 0) none).size;have nS:dP g' w U' (st.nxt+mf.im) f.bu (.map (some w.heap.size)) (w.alloc (.map #[] 0)) g' U':=by
    rw [he];refine ⟨⟨fun _ h=>h,fun _ _ _ _ _=>rfl,fun b o hl v hv=>⟨ads b o v hv,hl⟩,fun b o id p hl _=>⟨hl,?_,?_⟩⟩,trivial,fun id o h=>by simp [look] at h,fun s h=>.inl h,fun b o q h=>oL (S.cm b o q h) bF,fun b o q _ h=>by grind,⟨rfl,rfl,rfl,bF,fun k c e f hk=>⟨c,by grind,rfl,fun _ _=>rfl⟩,fun k hk _=>H5 k hk,fun k b hk _=>by grind⟩,fun id h=>by simp [look] at h⟩
    ·exact N2 (w:=w) (H5 b (S.cm b o _ hl))
    exact UF (w:=w) (H5 b (S.cm b o _ hl))
   have GA:o.wp P a w KK Q↔KK (a.put o.dst (.map (some w.heap.size))) (w.alloc (.map #[] 0)):=by have dG:(Instr.makeMap t none).run P w = .ok (.map (some w.heap.size)) (w.alloc (.map #[] 0)):=rfl;unfold Oper.wp;simp [execOp,aP,dG,D3];exact Iff.rfl
   refine GA.2 (hK _ _ g' U' (after _ _ g' U' nS) ?_);have ev:∀ t,t≠mf.tm→(a.put o.dst (.map (some w.heap.size))).eval (.tmp t)=a.eval (.tmp t):=fun t ht=>by rw [wR p9,if_neg (by grind)]
   have n4:∀ x∈mf.ins,mf.im≠x.i:=fun x hx h=>by grind
   have Zq:mf.tk≠mf.tm:=fun h=>c1 (M.Of _ o iO (by grind));have Ol:mf.tq≠mf.tm:=fun h=>c2 (M.Og _ o iO (by grind));refine ⟨?_,fun h=>?_,fun h=>?_,fun x hx h=>?_,fun h=>?_⟩
   ·rw [ev _ (fun h=>M.Gx _ o iO (by grind))]; exact J.key
   ·rw [ev _ Ol]; exact J.tq (dd c2 h)
   ·have:=(J.tk (dd c1 h)).2.1
    grind
   ·have:=(J.done x hx (dd (n4 x hx) h)).2
    grind
   refine ⟨w.heap.size,0,.map [],by rw [wR p9,if_pos hd],I.rel.fr.size,World.ownsMap_made w P K _,Nat.zero_le _,fun x hx h=>?_⟩;have:=(J.done x hx (dd (n4 x hx) h)).2
   grind
  by_cases c4:∃ t m k v,o.op = .insert t m k v
  ·
   obtain ⟨t,m,kk,v,aP⟩:=c4;obtain ⟨rfl,rfl,hd,x,hx,sk,rfl,rfl,iF,Ve,rfl,e1,e2⟩:=M.insert i o t m kk v iO aP;have mZ:(j5 x0.v o).op = .move (.tmp x.v):=by unfold j5; rw [aP]
   rw [mZ] at nT s8;have he:f.bu=⟨rs.ev (.tmp x.v),[]⟩:=(aZ nT).symm;obtain ⟨f',sx,IT,Vf,aF⟩:=adq x hx;rw [hf] at IT;obtain rfl:=aZ IT;have EW:rs.ev (.tmp x.v) = .str sx:=by rw [he] at Vf; exact Vf
   have hvv:a.eval (.tmp x.v) = .string ⟨sx.toArray⟩:=by have:=S.ev (.tmp x.v);rw [EW] at this; exact this
   obtain ⟨fp,J1,Om⟩:=wQ x hx D (Bb e2);have jY:look rs.env x.v=some (.str sx):=by
    simp only [St.ev] at EW;split at EW
    ·grind
    grind
   have yS:fp.bu.val = .str sx:=by have h1:=s8 x.v (by simp [Op.operands,lK]);rw [jY,Om] at h1;exact (aZ h1).symm
   obtain ⟨b,n,Dm,q1,q2,q3,q4,q5⟩:=J.map (Bb e1);have hn:n≤1000:=sa q4 (sa (List.length_filter_le _ _) M.few);have adt:sk.size≤maxLen:=by unfold maxLen; omega
   have On:keyOf P K (.string sk)=some (.string x.key):=by rw [← iF]; exact Go.WideMaps.keyOf_string_mk MT.key adt
   have hbs:(⟨sx.toArray⟩:ByteArray).size≤maxLen:=by
    have:(⟨sx.toArray⟩:ByteArray).size=sx.length:=by simp [ByteArray.size]
    rw [this]; unfold maxLen; unfold ca at aF; omega
   obtain ⟨w',dG,r1,r2⟩:=q3.update (Maps.string_keyed MT.key) MT.UY (by unfold maxLen; omega) On (plainElem_string MT.el hbs);have GA:o.wp P a w KK Q↔KK (a.put o.dst undef) w':=by unfold Oper.wp;have ek:a.eval (.const (.string sk)) = .string sk:=rfl;simp [execOp,aP,q1,hvv,ek,dG,D3];exact Iff.rfl
   have hI:=after (.string ⟨sx.toArray⟩) w g' U' (by rw [he,EW]; exact dP.same S.cm rfl);rw [hd] at hI;obtain ⟨U4,U6,gG⟩:=U_ q3;obtain ⟨U5,U7,eK⟩:=U_ r1;refine GA.2 (hK _ _ g' U' ?_ ?_)
   ·rw [hd];exact ⟨hI.rel.grown gG eK r2 q2,hI.used,hI.wT,hI.sub,hI.hd⟩
   rw [hd];have same:∀ y∈mf.ins,y.i=x.i→y=x:=fun y hy A6=>by
    obtain ⟨o',t',m',v',s',h3,h4,h5⟩:=M.Ln y hy;rw [A6,iO] at h3;obtain rfl:=aZ h3;rw [aP] at h4;injection h4 with b1 b2 b3 b4;have b5:sk=s':=by injection b3 with b3; injection b3
    exact M.keys y hy x hx (by grind)
   refine ⟨J.key,fun h=>J.tq (dd c2 h),fun h=>?_,fun y hy h=>?_,fun h=>⟨b,n+1,_,q1,q2,r1,?_,fun y hy h=>?_⟩⟩
   ·obtain ⟨p1,p2,p3⟩:=J.tk (dd c1 h)
    grind
   ·by_cases A6:y.i=x.i
    ·grind
    obtain ⟨p1,p2⟩:=J.done y hy (dd (fun h=>A6 h.symm) h)
    grind
   ·refine sa (Nat.add_le_add_right q4 1) (adn (fun y _ h=>up h) hx hi (by simp))
   by_cases A6:y.i=x.i
   ·obtain rfl:=same y hy A6;refine ⟨fp,sx,J1,yS,?_⟩;rw [JV (adm q3) (show JW (.string _) from trivial)]
   obtain ⟨e',sy,p1,p2,p3⟩:=q5 y hy (dd (fun h=>A6 h.symm) h);refine ⟨e',sy,p1,p2,?_⟩;rw [JU (fun h=>A6 (by
    have h:y.key=x.key:=by injection h
    rw [M.keys y hy x hx h]))]
   exact p3
  by_cases c5:∃ t m k c,o.op = .lookup t m k c
  ·
   obtain ⟨t,m,kk,cc,aP⟩:=c5;obtain ⟨rfl,rfl,rfl,rfl,hil,e1,e2⟩:=M.look i o t m kk cc iO aP;have mZ:(j5 x0.v o).op = .move (.tmp x0.v):=by unfold j5; rw [aP]
   rw [mZ] at nT s8;have he:f.bu=⟨rs.ev (.tmp x0.v),[]⟩:=(aZ nT).symm;obtain ⟨p1,p2,p3⟩:=J.tk (Bb e1);have hq:=J.tq (Bb e2);obtain ⟨b,n,Dm,q1,q2,q3,q4,q5⟩:=J.map p2;obtain ⟨fe,sx,h1,h2,h3⟩:=q5 x0 vf (p3 x0 vf);obtain ⟨fp,J1,Om⟩:=wQ x0 vf D (J.done x0 vf (p3 x0 vf)).1;rw [h1] at J1;obtain rfl:=aZ J1;have hrs:rs.ev (.tmp x0.v) = .str sx:=by have h4:=s8 x0.v (by simp [Op.operands,lK]);rw [Om,h2] at h4;simp only [St.ev,h4]
   have Ve:(⟨s.toArray⟩:ByteArray).size≤maxLen:=by
    obtain ⟨o',t',m',v',s',h5,h6,h7⟩:=M.Ln x0 vf;obtain ⟨-,-,-,x',hx',s2,h8,h9,lE,ki,-⟩:=M.insert x0.i o' t' m' _ v' h5 h6;have e7:s'=s2:=by injection h9 with h9; injection h9
    have e8:s'=⟨s.toArray⟩:=by rw [← pY,← h7]
    rw [← e8,e7];unfold maxLen; omega
   have On:keyOf P K (.string ⟨s.toArray⟩)=some (.string x0.key):=by rw [pY];have:=Go.WideMaps.keyOf_string_mk MT.key Ve;simpa using this
   obtain ⟨v,ps,dG,hv⟩:=q3.lookup (Maps.string_keyed MT.key) MT.UY (MT.zero w) (plainElem_string MT.el (by decide)) On;obtain ⟨cv,rfl,hcv⟩:=UZ MT.el hv;have e3:Dm.atKey (.string x0.key) (.lit (.string [])) = .lit (.string cv.data.toList):=congrArg Prod.fst hcv;rw [h3] at e3;have e4:sx=cv.data.toList:=by injection e3 with e3; injection e3
   have kY:Value.string cv = .string ⟨sx.toArray⟩:=by rw [e4]
   have GA:o.wp P a w KK Q↔KK (a.put o.dst (.string cv)) w:=by unfold Oper.wp;simp [execOp,aP,p1,q1,hq,dG,D3];exact Iff.rfl
   have n1:i≠mf.im:=fun h=>by grind
   have n4:∀ x∈mf.ins,i≠x.i:=fun x hx h=>by grind
   refine GA.2 (hK _ _ g' U' (after _ w g' U' (by rw [he,hrs]; exact dP.same S.cm kY)) (J.step M iO p9 n1 c1 c2 n4 (Fr.refl (fun _ _=>False) w) _))
  refine normal ?_ (fun h=>c3 (H4 h rfl)) (fun x hx h=>c4 (Lo x hx h));unfold j5;split
  ·grind
  ·grind
  ·grind
  rfl
 ·
  have c8:=NJ (st0:=st) es hD;refine hQ (mh st es) a' w' g' U' (I.rel.same (fun t=>by grind) (fun id=>by rw [c8]; rfl) (fun s hs=>?_)) (NU I.sub I.hd R.u0 es) e;rw [NV];exact I.rel.used s hs
 ·have:∀ (D:Nat→Bool) n,kK D n≤n:=by
   intro D n;induction n with
   | zero=>exact cx _
   | succ n ih=>simp only [kK]; split<;>omega
  grind
 ·have NW:∀ iW:List cN,iW.length≤ops.size→cq st (fun i=>(wh ops.size false).getD i true) iW=st:=by
   intro iW;induction iW with
   | nil=>intro _; rfl
   | cons f iW ih=>
    intro hl;simp only [bh] at hl;have aF:iW.length<ops.size:=by omega
    have hb:(wh ops.size false).getD iW.length true=false:=by simp [oG,aF]
    simp only [cq,hb]
    grind
  have dK:=NW es (by omega);refine Rd.same (fun t=>by rw [dK]) (fun id=>by rw [dK]; rfl) (fun s hs=>?_);have:=R.used s hs
  grind
 ·exfalso;have aF:i<ops.size:=by have:=(eE.1 hf).1;simp only [List.length_reverse,hlen,CN] at this;exact this
  simp_all
 all_goals
  exfalso;have none:∀ {i:Nat} {o:Oper},ops.toList[i]? = some o→(wh ops.size false).getD i true=false:=fun {i o} h=>by
   have aF:i<ops.size:=by have:=(eE.1 h).1; simpa using this
   simp_all
 ·obtain ⟨o,h1,-⟩:=M.src
  grind
 ·obtain ⟨o,h1,-⟩:=M.move
  grind
 ·grind
 obtain ⟨o,t,r,h1,-⟩:=M.Oh
 grind
theorem adu (hm:P.follows .mixedOrders=true) (H:zb P c) (hc:gb P c) {T K E:TypeId} (hT:wA c=some T) (MT:Oi P T K E):BS P c:=by
 intro ρ r w0 F N id ops draw st a w g U k Q hN hG R e hQ;cases draw with
 | false=>exact wp_region_list (Jj H hc hG hN ops.toList st a w g U k (fun o h=>h) R e hQ)
 | true=>
  have e:(match wA c with | none=>Bq c ops st k | some T=>match Fb ops.toList with | none=>Bq c ops st k | some mf=>match Fe T ops.toList mf with | true=>Fg c mf ops.toList st k | false=>none)=some r:=e;rw [hT] at e;simp only at e;split at e
  ·exact Up hm H hc id ops st a w g U k Q hN hG R e hQ
  rename_i mf hf;split at e
  ·rename_i bK;exact adp hm H hc MT id ops st a w g U k Q hN hG R (adi hf bK) e hQ
  grind
end
end Go.Am
namespace Go.Am
open Go
open Go.RowKit
open Go.Maps (Keyed)
theorem adv {H:Type} {P:Program} (w:World) {ops:Array Oper} {rest:List Oper} {o:Oper} {a:Act} {Q:Exit→Act→World→Prop}
  (hg:o.guard=none) (m x:Operand) (t:TypeId) (aP:o.op=Op.lookup t m x false)
  (k e:TypeId) (K:Keyed P k) (ht:P.underlying t=some (.map k e)) (he:P.underlying e=some .string) (hz:(zeroValue e).run P w = .ok (.string ⟨#[]⟩) w) (b n:Nat) (D:DataW H)
  (hm:a.eval m = .map (some b)) (yy:w.ownsMap P k (plainElem P e) b n D) (key:Value) (kl:Lit) (hx:a.eval x=key) (Gz:keyOf P k key=some kl) (s:List UInt8) (kA:D.atKey kl (.lit (.string [])) = .lit (.string s))
  (hK:wpList P ops Q rest (a.put o.dst (.string ⟨s.toArray⟩)) w) :
  wpList P ops Q (o::rest) a w:=by
 refine wpList_plain hg fun K' Oo=>?_;obtain ⟨v,ps,dG,hv⟩:=yy.lookup K ht hz (plainElem_string he (by decide)) Gz;obtain ⟨c,rfl,hc⟩:=UZ he hv;have e1:D.atKey kl (.lit (.string [])) = .lit (.string c.data.toList):=congrArg Prod.fst hc;rw [kA] at e1;have e2:s=c.data.toList:=by injection e1 with e1; injection e1
 subst e2;unfold Oper.wp;simp [execOp,aP,hm,hx,dG,D3];exact Oo _ _ hK
theorem Oq {H:Type} {P:Program} (w:World) {ops:Array Oper} {rest:List Oper} {o:Oper} {a:Act} {Q:Exit→Act→World→Prop}
  (hg:o.guard=none) (m x v:Operand) (t:TypeId) (aP:o.op=Op.insert t m x v)
  (k e:TypeId) (K:Keyed P k) (ht:P.underlying t=some (.map k e)) (R:Value→Option (DataW H×List MemPlace)) (b n:Nat) (D:DataW H)
  (hm:a.eval m = .map (some b)) (yy:w.ownsMap P k R b n D) (hn:n<maxLen) (key val:Value) (kl:Lit) (hx:a.eval x=key) (hv:a.eval v=val) (Gz:keyOf P k key=some kl)
  (d:DataW H) (ps:List MemPlace) (wQ:R val=some (d,ps))
  (hK:∀ w',w'.ownsMap P k R b (n+1) (D.put kl d)→w.grownBy w' (some b)→wpList P ops Q rest (a.put o.dst undef) w') :
  wpList P ops Q (o::rest) a w:=by
 refine wpList_plain hg fun K' Oo=>?_;obtain ⟨w',dG,r1,r2⟩:=yy.update K ht hn Gz wQ;unfold Oper.wp;simp [execOp,aP,hm,hx,hv,dG,D3];exact Oo _ _ (hK w' r1 r2)
theorem Ot {w w1 w2:World} {b:Nat} (h:Below w.heap.size w w1) (hg:w1.grownBy w2 (some b)) (hb:w.heap.size≤b):Below w.heap.size w w2:=h.grown hg h.size (fun k e=>by cases e; exact hb)
def GB (s cI new:List UInt8):Option (cj [Ty.str]):=if s.length<4294967281∧1≤cI.length∧s.length+Gq s cI*new.length≤140737488355328 then some (Lib.replaceAll s cI new,()) else none
abbrev Vg:ar:=⟨[.val .str,.val .str,.val .str],[.val .str],fun x=>GB x.1 x.2.1 x.2.2.1⟩
theorem adw {P:Program} {f:FuncId} {b:Nat} (hg:P.globalNamed "internal/bytealg.MaxLen" = some b)
  (K:∀ (s cI new:ByteArray) (m:Int) (w:World),s.size<4294967281→w.cell? ⟨b,0,none⟩=some (.int .i64 m)→1≤cI.size→s.size+tR s cI*new.size≤140737488355328→
   Calls P f #[.string s,.string cI,.string new] w fun e w'=>e = .returned (.string ⟨(Lib.replaceAll s.data.toList cI.data.toList new.data.toList).toArray⟩)∧Below w.heap.size w w'):Sound P f Vg:=by
 intro x y hm _ site hs g w args E hG;obtain ⟨v1,r,ha,h1,v2,r2,tS,h2,v3,r3,hr3,h3,h4⟩:=E.bG;obtain rfl:r3=[]:=h4;obtain rfl:v3 = .string ⟨(x.2.2.1:List UInt8).toArray⟩:=h3;obtain rfl:v2 = .string ⟨(x.2.1:List UInt8).toArray⟩:=h2;obtain rfl:v1 = .string ⟨(x.1:List UInt8).toArray⟩:=h1;subst hr3;subst tS;subst ha;obtain ⟨s,cI,new,⟨⟩⟩:=x;replace hm:GB s cI new=some y:=hm;unfold GB at hm;split at hm
 ·rename_i hr;obtain rfl:=aZ hm;obtain ⟨m,Gs⟩:=N9 hG hg;have bF:(⟨(s:List UInt8).toArray⟩:ByteArray).size=(s:List UInt8).length:=zu s;have J2:(⟨(cI:List UInt8).toArray⟩:ByteArray).size=(cI:List UInt8).length:=zu cI;have hsn:(⟨(new:List UInt8).toArray⟩:ByteArray).size=(new:List UInt8).length:=zu new;have hc:tR (⟨(s:List UInt8).toArray⟩:ByteArray) ⟨(cI:List UInt8).toArray⟩=Gq (s:List UInt8) (cI:List UInt8):=by simp [tR]
  have e3:(⟨(s:List UInt8).toArray⟩:ByteArray).size+tR (⟨(s:List UInt8).toArray⟩:ByteArray) ⟨(cI:List UInt8).toArray⟩*(⟨(new:List UInt8).toArray⟩:ByteArray).size=(s:List UInt8).length+Gq (s:List UInt8) (cI:List UInt8)*(new:List UInt8).length:=by rw [hc,hsn,bF]
  refine (K ⟨(s:List UInt8).toArray⟩ ⟨(cI:List UInt8).toArray⟩ ⟨(new:List UInt8).toArray⟩ m w (N4 (zr bF) hr.1) Gs (sa hr.2.1 (zr J2.symm)) (sa (zr e3) hr.2.2)).mono fun e w' he=>?_;obtain ⟨he,hb⟩:=he;exact ⟨_,g,he,w9 (m:=Vg) hb E.cm rfl rfl trivial⟩
 simp at hm
def rf (x:Int):List UInt8:=if x=1 then [113,117,105,101,116] else if x=2 then [106,97,109,109,101,100] else if x=3 then [98,117,115,121] else []
def GC (x:Int):Option (cj [Ty.str]):=if -9223372036854775808≤x∧x<9223372036854775808 then some (rf x,()) else none
abbrev Vh:ar:=⟨[.val (.int .i64)],[.val .str],fun x=>GC x.1⟩
theorem adx {H:Type} (n:Int):((((DataW.map []:DataW H).put (.int .i64 1) (.lit (.string [113,117,105,101,116]))).put (.int .i64 2) (.lit (.string [106,97,109,109,101,100]))).put (.int .i64 3) (.lit (.string [98,117,115,121]))).atKey (.int .i64 n) (.lit (.string [])) = .lit (.string (rf n)):=by
 have m0:Maps.IsMap (DataW.map []:DataW H):=Maps.isMap_empty;unfold rf;by_cases h3:n=3
 ·subst h3;rw [JV ((m0.put _ _).put _ _) (show JW (.int _ _) from trivial)]; rfl
 rw [JU (by simp [h3])];by_cases h2:n=2
 ·subst h2;rw [JV (m0.put _ _) (show JW (.int _ _) from trivial)]; rfl
 rw [JU (by simp [h2])];by_cases h1:n=1
 ·subst h1;rw [JV m0 (show JW (.int _ _) from trivial)]; rfl
 rw [JU (by simp [h1]),if_neg h1,if_neg h2,if_neg h3]; rfl
theorem ady {P:Program} {f:FuncId}
  (K:∀ n:Int,-9223372036854775808≤n→n<9223372036854775808→∀ w:World,Calls P f #[.int .i64 n] w fun e w'=>e = .returned (.string ⟨(rf n).toArray⟩)∧Below w.heap.size w w'):Sound P f Vh:=by
 intro x y hm _ site hs g w args E hG;obtain ⟨v1,r,ha,h1,h2⟩:=E.bG;obtain rfl:r=[]:=h2;obtain rfl:v1 = .int .i64 x.1:=h1;subst ha;replace hm:GC x.1=some y:=hm;unfold GC at hm;split at hm
 ·rename_i hr;obtain rfl:=aZ hm;refine (K x.1 hr.1 hr.2 w).mono fun e w' he=>?_;obtain ⟨he,hb⟩:=he;exact ⟨_,g,he,w9 (m:=Vh) hb E.cm rfl rfl trivial⟩
 simp at hm
end Go.Am
