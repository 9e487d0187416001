/- Library functions by the contracts of the shelf, for the abstract machine. No condition. -/
import Derived.Test.YtjfaphipihgomaaGreatDoorAmD
import Derived.Below
import Derived.Sort.Grow
import Derived.Lib.ItoaNum
import Derived.Lib.LaidTab
import Derived.Lib.Join
import Derived.Deep.Draws
import Derived.Lib.AtoiErrMem
import Derived.Lib.AtoiAll
import Derived.Lib.SplitLaws
import Derived.Lib.Strings
import Derived.Handed
import Derived.Maps.OwnOps
import Derived.Maps.Views
import Derived.Lib.Replace
set_option linter.unusedVariables false
set_option linter.unusedSimpArgs false
open Array renaming all_eq_true' → EY, getD_eq_getD_getElem? → lY, getElem?_eq_getElem → qd, getElem?_eq_none → xD, replicate → uj
open Bool renaming and_eq_true → aw, not_eq_true' → A0, or_eq_true → pw
open Go.Lib renaming atoiAll → I0, count → FA, countB → sX, cut → C8, index → jK, join → kV, pow10Tab → Nb, splitK → I1
open Go.Maps renaming atKey_put_other → I2, atKey_put_same → I3
open Go.Region renaming binds → sN, ready → qp, wanted → nC
open Go.Result renaming andThen → C9
open Go.WideAt renaming IsKeyLit → I4
open Go.World renaming cell? → I5, cell?_of_block → Nc, frozen?_of_block → TF, grownBy_alloc → Nd
open List renaming all_eq_true → gp, countP_eq_length_filter → TG, filter_cons → I6, getElem?_eq_getElem → dU, getElem?_eq_some_iff → dV, getElem?_map → xV, length_cons → aQ, mem_cons → fZ, mem_cons_of_mem → jO, mem_cons_self → I7, mem_map → kb, mem_of_getElem? → TH
open Nat renaming eq_of_beq_eq_true → bm, le_of_ble_eq_true → gh, le_of_eq → yA, le_refl → cj, le_trans → ru, lt_of_le_of_lt → Nf, lt_of_lt_of_le → nk, lt_or_ge → jP, testBit → dY
open Option renaming isSome_iff_exists → Ng, map_eq_some_iff → vw
open Option.some renaming inj → aW, injEq → aF
namespace Go.Am
open Go
open Go.RowKit
theorem TI {w:World} {k:Nat} {o:Obj} (h:w.heap[k]? = some o):k<w.heap.size:=by
 rcases jP k w.heap.size with hh | hh
 ·exact hh
 rw [xD hh] at h; simp at h
theorem ab3 {F:Nat→Nat→Prop} {w w':World} (h:Below w.heap.size w w'):Fr F w w' where
 os:=h.os
 tape:=h.tape
 output:=h.output
 size:=h.size
 cells k c e f hk:=⟨c,by rw [h.block k (TI hk)]; exact hk,rfl,fun o _=>rfl⟩
 block k hk _:=h.block k hk
 kind k b hk _:=by rw [h.block k (TI hk)]; exact hk
theorem TJ {w:World} {a:Addr} {v:Value} (h:w.cell? a=some v):a.block<w.heap.size:=by
 rcases jP a.block w.heap.size with hh | hh
 ·exact hh
 exfalso;unfold I5 at h;rw [xD hh] at h;simp at h
theorem ab4 {w w':World} (h:Below w.heap.size w w') {a:Addr} {v:Value} (hv:w.cell? a=some v):w'.cell? a=some v:=by rw [h.cell (TJ hv)]; exact hv
theorem wD {g:Gh} {w w':World} {site:Nat} {m:au} {y:bZ (RK.bw m.rs++PK.outs m.ps)} {v:Value} (hb:Below w.heap.size w w')
  (hl:∀ b o q,g.lab b o=some q→b<w.heap.size)
  (v_:aV g w' (U' gE site) (match (gi site 0 m.rs (PK.outs m.ps) y).1 with | [v]=>v | vs=>.gN vs) v)
  (CU:(gi site 0 m.rs (PK.outs m.ps) y).2.1=[])
  (Nh:yl g w' 0 m.ps (gi site 0 m.rs (PK.outs m.ps) y).2.2):ym g w site m y v g w' where
 val:=v_
 aX id o h:=by rw [CU] at h; simp [look] at h
 outs:=Nh
 par _ _:=rfl
 shr b o hn v hv:=⟨ab4 hb hv,hn⟩
 n9 _ _ _ _ h _:=h
 b9 b o q h:=nk (hl b o q h) hb.size
 cB b o q _ h e:=by rw [e] at h; simp at h
 fr:=ab3 hb
theorem ab5 (w:World) (n:Nat):Below w.heap.size w (w.drewN n):=⟨rfl,rfl,rfl,cj _,fun _ _=>rfl⟩
theorem ab6 (w:World) (n:Nat) (os:Array Obj):Below w.heap.size w (Sort.grow (w.drewN n) os):=by refine ⟨rfl,rfl,rfl,by simp [Sort.grow],fun k hk=>?_⟩;show (w.heap++os)[k]? = w.heap[k]?;rw [Array.getElem?_append_left hk]
theorem ab7 {P:Program} {l:bW} {w:World} (hG:Gl P l w) {b:Nat} (hb:P.globalNamed "internal/strconv.uint64pow10" = some b):Lib.TabIs P w "internal/strconv.uint64pow10" .u64 Nb:=by obtain ⟨⟨vs,h3,h4⟩,_⟩:=hG "internal/strconv.uint64pow10" (fun vs=>vs=((List.range 20).map fun i=>Value.int .u64 ((10 ^ i:Nat):Int)).toArray) (by unfold pins; exact I7) b hb;unfold Lib.TabIs;rw [h3,h4];simp [Nb]
theorem ab8 {P:Program} {w:World} (h:∀ nm pr,(nm,pr)∈pins→(P.globalNamed nm).isSome=true→∃ vs,w.var? P nm=some vs∧pr vs):Gl P L0 w:=
 fun nm pr hm b hb=>⟨h nm pr hm (by rw [hb]; rfl),fun o=>rfl⟩
def yB (n:Int):Option (bZ [Ty.str]):=if -9223372036854775808≤n∧n≤9223372036854775807 then some (Lib.itoa n,()) else none
abbrev TL:au:=⟨[.val (.int .i64)],[.val .str],fun x=>yB x.1⟩
theorem ab9 {P:Program} {f:FuncId} (hg:(P.globalNamed "internal/strconv.uint64pow10").isSome=true)
  (K:∀ n:Int,-9223372036854775808≤n→n≤9223372036854775807→∀ w:World,Lib.TabIs P w "internal/strconv.uint64pow10" .u64 Nb→
   Calls P f #[.int .i64 n] w fun e w'=>e = .returned (.string ⟨(Lib.itoa n).toArray⟩)∧∃ k os,w'=Sort.grow (w.drewN k) os):Sound P f TL:=by
 intro x y hm _ site hs g w args E hG;obtain ⟨v1,r,ha,h1,h2⟩:=E.bI;obtain rfl:r=[]:=h2;obtain rfl:v1 = .int .i64 x.1:=h1;subst ha;replace hm:yB x.1=some y:=hm;unfold yB at hm;split at hm
 ·rename_i hr;obtain rfl:=aW hm;obtain ⟨b,hb⟩:=Ng.1 hg;have ht:=ab7 hG hb;refine (K x.1 hr.1 hr.2 w ht).mono fun e w' he=>?_;obtain ⟨he,k,os,hw⟩:=he;subst hw;exact ⟨_,g,he,wD (m:=TL) (ab6 w k os) E.b9 rfl rfl trivial⟩
 simp at hm
def FB (xs:List (List UInt8)) (sep:List UInt8):Option (bZ [Ty.str]):=
 if xs.length≤140737488355328∧(kV xs sep).length≤140737488355328 then some (kV xs sep,()) else none
abbrev TM:au:=⟨[.val (.sl .str),.val .str],[.val .str],fun x=>FB x.1 x.2.1⟩
theorem aca {P:Program} {f:FuncId} {g:Gh} {w:World} {xs:List (List UInt8)} {sep:List UInt8} {v1:Value} {Q:Ending→World→Prop}
  (K0:∀ (a:Option Addr) (c:Nat) (sep:ByteArray) (w:World),Calls P f #[.slice a 0 c,.string sep] w fun e w'=>e = .returned (.string ⟨#[]⟩)∧w'=w)
  (K:∀ (bk o c:Nat) (xs:List ByteArray) (sep:ByteArray) (w:World),(∀ (j:Nat) x,xs[j]? = some x→w.cell? ⟨bk,o+j,none⟩=some (.string x))→bk<w.heap.size→xs.length≤140737488355328→xs.length≤c→
   (kV (xs.map (·.data.toList)) sep.data.toList).length≤140737488355328→
   Calls P f #[.slice (some ⟨bk,o,none⟩) xs.length c,.string sep] w fun e w'=>e = .returned (.string ⟨(kV (xs.map (·.data.toList)) sep.data.toList).toArray⟩)∧Below w.heap.size w w')
  (h1:gT (α:=List UInt8) 1 (Sh g.lab w .str) xs v1) (hr:xs.length≤140737488355328∧(kV xs sep).length≤140737488355328)
  (fin:∀ w',Below w.heap.size w w'→Q (.returned (.string ⟨(kV xs sep).toArray⟩)) w'):Calls P f #[v1,.string ⟨sep.toArray⟩] w Q:=by
 obtain ⟨a,len,cap,e,hl,hc,hn,hx⟩:=h1;subst e;by_cases aA:xs=[]
 ·subst aA;simp only [List.length_nil] at hl;subst hl;refine (K0 a cap _ w).mono fun e w' he=>?_;obtain ⟨rfl,rfl⟩:=he;exact fin _ (Below.refl _ _)
 obtain ⟨b,o,rfl,hi⟩:=hx aA;have nB:∀ (j:Nat) x,(xs.map fun s=>(⟨s.toArray⟩:ByteArray))[j]? = some x→w.cell? ⟨b,o+j,none⟩=some (.string x):=by intro j x hj;simp only [xV,vw] at hj;obtain ⟨s,hs,rfl⟩:=hj;obtain ⟨ax,rfl⟩:=dV.1 hs;have:=(hi j ax).1;rw [Nat.mul_one] at this;exact this
 have hj:kV ((xs.map fun s=>(⟨s.toArray⟩:ByteArray)).map (·.data.toList)) (⟨sep.toArray⟩:ByteArray).data.toList=kV xs sep:=by simp [List.map_map,Function.comp_def]
 have hb:b<w.heap.size:=by obtain ⟨s,r,rfl⟩:=List.exists_cons_of_ne_nil aA;have:=TJ (nB 0 ⟨s.toArray⟩ (by simp));exact this
 have:=K b o cap (xs.map fun s=>(⟨s.toArray⟩:ByteArray)) ⟨sep.toArray⟩ w nB hb (by simpa using hr.1) (by simp; omega) (by rw [hj]; exact hr.2);rw [hj,List.length_map] at this;subst hl;refine this.mono fun e w' he=>?_;obtain ⟨rfl,hb⟩:=he;exact fin _ hb
theorem acb {P:Program} {f:FuncId}
  (K0:∀ (a:Option Addr) (c:Nat) (sep:ByteArray) (w:World),Calls P f #[.slice a 0 c,.string sep] w fun e w'=>e = .returned (.string ⟨#[]⟩)∧w'=w)
  (K:∀ (bk o c:Nat) (xs:List ByteArray) (sep:ByteArray) (w:World),(∀ (j:Nat) x,xs[j]? = some x→w.cell? ⟨bk,o+j,none⟩=some (.string x))→bk<w.heap.size→xs.length≤140737488355328→xs.length≤c→
   (kV (xs.map (·.data.toList)) sep.data.toList).length≤140737488355328→
   Calls P f #[.slice (some ⟨bk,o,none⟩) xs.length c,.string sep] w fun e w'=>e = .returned (.string ⟨(kV (xs.map (·.data.toList)) sep.data.toList).toArray⟩)∧Below w.heap.size w w'):Sound P f TM:=by
 intro x y hm _ site hs g w args E hG;obtain ⟨v1,r,ha,h1,v2,r2,sY,h2,h3⟩:=E.bI;obtain rfl:r2=[]:=h3;obtain rfl:v2 = .string ⟨(x.2.1:List UInt8).toArray⟩:=h2;subst sY;subst ha;replace hm:FB x.1 x.2.1=some y:=hm;unfold FB at hm;split at hm
 ·rename_i hr;obtain rfl:=aW hm;exact aca (g:=g) K0 K h1 hr (fun w' hb=>⟨_,g,rfl,wD (m:=TM) hb E.b9 rfl rfl trivial⟩)
 simp at hm
open Go.RowKit
theorem yC (s:List UInt8):(⟨s.toArray⟩:ByteArray).size=s.length:=by simp [ByteArray.size]
def uC (x:UInt8):List (List UInt8)→List (List UInt8)
 | []=>[[x]]
 | h::t=>(x::h)::t
def bt (c:UInt8):List UInt8→List (List UInt8)
 | []=>[[]]
 | x::xs=>if x=c then []::bt c xs else uC x (bt c xs)
theorem Ni (c:UInt8):∀ s:List UInt8,I1 [c] 0 (FA s [c]) s=bt c s
 | []=>by rw [Lib.count_miss (by simp [jK])]; rfl
 | x::xs=>by
  by_cases h:x=c
  ·subst h;have Ba:jK (x::xs) [x]=((0:Nat):Int):=by rw [jK]; simp [List.isPrefixOf]
   rw [Lib.count_cons_eq,Nat.add_comm,bt,if_pos rfl,← Ni x xs];rw [I1,Ba];simp
  rw [Lib.count_cons_ne x c xs h,bt,if_neg h,← Ni c xs];have hp:([c]:List UInt8).isPrefixOf (x::xs)=false:=by simp [List.isPrefixOf,Ne.symm h]
  have Ba:jK (x::xs) [c]=if jK xs [c]==-1 then -1 else jK xs [c]+1:=by rw [jK,hp]; simp
  by_cases hm:jK xs [c] = -1
  ·rw [Lib.count_miss hm]; rfl
  have CC:=Lib.index_ge xs [c];obtain ⟨j,hj⟩:∃ j:Nat,jK xs [c]=j:=⟨(jK xs [c]).toNat,by omega⟩
  have Nj:jK (x::xs) [c]=((j+1:Nat):Int):=by rw [Ba,if_neg (fun e=>hm (beq_iff_eq.1 e)),hj]; omega
  rw [Lib.count_hit (by simp) hj,Nat.add_comm,I1,I1,hj,Nj];have n1:(((j:Nat):Int)==-1)=false:=by simp
  have n2:(((j+1:Nat):Int)==-1)=false:=beq_eq_false_iff_ne.2 (by omega);rw [n1,n2];simp only [Bool.false_eq_true,if_false,Int.toNat_natCast,uC];simp
theorem mR (c:UInt8) (s:List UInt8):bt c s≠[]:=by
 cases s with
 | nil=>simp [bt]
 | cons x xs=>
  unfold bt;split
  ·simp
  cases bt c xs<;>simp [uC]
def Nk (s sep:List UInt8):Option (bZ [Ty.sl .str]):=match sep with | [c]=>if s.length<4294967281 then some (bt c s,()) else none | _=>none
abbrev TN:au:=⟨[.val .str,.val .str],[.sh (.sl .str)],fun x=>Nk x.1 x.2.1⟩
theorem Nl {P:Program} {l:bW} {w:World} (hG:Gl P l w) {b:Nat} (hb:P.globalNamed "internal/bytealg.MaxLen" = some b):∃ m,w.cell? ⟨b,0,none⟩=some (.int .i64 m):=by obtain ⟨⟨vs,h3,m,h4⟩,_⟩:=hG "internal/bytealg.MaxLen" (fun vs=>∃ m,vs[0]? = some (.int .i64 m)) (by unfold pins; exact jO _ I7) b hb;exact ⟨m,by rw [World.var?_cell hb h3 0]; exact h4⟩
theorem acd {P:Program} {n:String} {w:World} {g:Nat} {v:Value} (hg:P.globalNamed n=some g) (h:w.cell? ⟨g,0,none⟩=some v):∃ vs,w.var? P n=some vs∧vs[0]? = some v:=by
 unfold World.var?;rw [hg];simp only [Option.bind_some];unfold I5 at h;simp only at h;split at h
 ·rename_i cs _ _ he;rw [he];exact ⟨cs,rfl,by simpa using h⟩
 all_goals simp at h
theorem ace {P:Program} {l:bW} {w:World} (hG:Gl P l w) {b:Nat} (hb:P.globalNamed "strconv.ErrSyntax" = some b):∃ t p,w.var? P "strconv.ErrSyntax" = some #[.iface t p]:=by obtain ⟨⟨vs,h3,t,p,h4⟩,_⟩:=hG "strconv.ErrSyntax" (fun vs=>∃ t p,vs = #[.iface t p]) (by unfold pins; exact jO _ (jO _ I7)) b hb;exact ⟨t,p,by rw [h3,h4]⟩
theorem acf {P:Program} {l:bW} {w:World} (hG:Gl P l w) {b:Nat} (hb:P.globalNamed "strconv.ErrRange" = some b):∃ t p,w.var? P "strconv.ErrRange" = some #[.iface t p]:=by obtain ⟨⟨vs,h3,t,p,h4⟩,_⟩:=hG "strconv.ErrRange" (fun vs=>∃ t p,vs = #[.iface t p]) (by unfold pins; exact jO _ (jO _ (jO _ I7))) b hb;exact ⟨t,p,by rw [h3,h4]⟩
theorem TO (w:World) (o:Obj):Below w.heap.size w (w.alloc o):=(Below.refl _ w).alloc (cj _) o
theorem acg {g:Gh} {w:World} {e:TypeId} {xs:List ByteArray} {n:Nat} (hn:n=xs.length) (hl:∀ b o q,g.lab b o=some q→b<w.heap.size) :
  gT (α:=List UInt8) 1 (Sh g.lab (w.alloc (.cells (xs.map Value.string).toArray e)) .str) (xs.map (·.data.toList)) (.slice (some ⟨w.heap.size,0,none⟩) n n):=by
 refine ⟨_,_,_,rfl,(by simpa using hn),cj _,(fun h=>by cases h),fun _=>⟨w.heap.size,0,rfl,fun i hi=>?_⟩⟩;have gm:i<xs.length:=by simpa using hi
 refine ⟨?_,?_⟩
 ·have:(w.alloc (.cells (xs.map Value.string).toArray e)).cell? ⟨w.heap.size,0+i*1,none⟩=(xs.map Value.string).toArray[0+i*1]?:=kt.new (Er w (xs.map Value.string).toArray e) (0+i*1);show (w.alloc (.cells (xs.map Value.string).toArray e)).cell? ⟨w.heap.size,0+i*1,none⟩=_;rw [this];simp [gm]
 show g.lab w.heap.size _=none;cases h:g.lab w.heap.size (0+i*1) with
 | none=>rfl
 | some q=>exact absurd (hl _ _ _ h) (Nat.lt_irrefl _)
theorem ach {P:Program} {f:FuncId} {b:Nat} {e:TypeId} (hg:P.globalNamed "internal/bytealg.MaxLen" = some b)
  (K:∀ (s sep:ByteArray) (m:Int) (w:World),s.size<4294967281→w.cell? ⟨b,0,none⟩=some (.int .i64 m)→1≤sep.size→
   Calls P f #[.string s,.string sep] w fun ed w'=>ed = .returned (.slice (some ⟨w.heap.size,0,none⟩) (sX s sep+1) (sX s sep+1))∧w'=w.alloc (.cells ((Lib.splitB sep 0 (sX s sep) s).map Value.string).toArray e)):Sound P f TN:=by
 intro x y hm _ site hs g w args E hG;obtain ⟨v1,r,ha,h1,v2,r2,sY,h2,h3⟩:=E.bI;obtain rfl:r2=[]:=h3;obtain rfl:v2 = .string ⟨(x.2.1:List UInt8).toArray⟩:=h2;obtain rfl:v1 = .string ⟨(x.1:List UInt8).toArray⟩:=h1;subst sY;subst ha;obtain ⟨s,sep,⟨⟩⟩:=x;replace hm:Nk s sep=some y:=hm;have qk:∃ c,sep=[c]:=by
  match sep,hm with
  | [c],_=>exact ⟨c,rfl⟩
  | [],hm=>cases hm
  | _::_::_,hm=>cases hm
 obtain ⟨c,rfl⟩:=qk;replace hm:(if (s:List UInt8).length<4294967281 then some (bt c s,()) else none)=some y:=hm;split at hm
 ·rename_i hlen;obtain rfl:=aW hm;obtain ⟨m,FC⟩:=Nl hG hg;have bB:(⟨(s:List UInt8).toArray⟩:ByteArray).size<4294967281:=Nf (yA (yC s)) hlen;have h1:1≤(⟨#[c]⟩:ByteArray).size:=cj 1;refine (K ⟨(s:List UInt8).toArray⟩ ⟨#[c]⟩ m w bB FC h1).mono fun ed w' he=>?_;obtain ⟨rfl,rfl⟩:=he;have hc:sX (⟨(s:List UInt8).toArray⟩:ByteArray) ⟨#[c]⟩=FA s [c]:=by simp [sX]
  have hl:=Lib.splitB_all ⟨#[c]⟩ h1 0 _ ⟨(s:List UInt8).toArray⟩ rfl;have hd:=Lib.splitB_data ⟨#[c]⟩ 0 (sX (⟨(s:List UInt8).toArray⟩:ByteArray) ⟨#[c]⟩) ⟨(s:List UInt8).toArray⟩;have oq:(Lib.splitB ⟨#[c]⟩ 0 (sX (⟨(s:List UInt8).toArray⟩:ByteArray) ⟨#[c]⟩) ⟨(s:List UInt8).toArray⟩).map (·.data.toList)=bt c s:=by rw [hd,hc]; exact Ni c s
  refine ⟨_,g,rfl,wD (m:=TN) (TO w _) E.b9 ?_ rfl trivial⟩;show gT (α:=List UInt8) 1 (Sh g.lab _ .str) (bt c s) _;rw [← oq];exact acg hl.symm E.b9
 cases hm
def Bb (s:List UInt8):Option (bZ [Ty.int .i64,Ty.err]):=
 if s.length≤281474976710656 then (match I0 s with | .ok v=>some (v,true,()) | .«syntax»=>some ((0:Int),false,()) | .range=>some (Lib.atoiSat s,false,())) else none
abbrev Nn:au:=⟨[.val .str],[.val (.int .i64),.val .err],fun x=>Bb x.1⟩
theorem aci {P:Program} {f:FuncId} {e5:TypeId} (FD:(P.globalNamed "strconv.ErrSyntax").isSome=true) (FE:(P.globalNamed "strconv.ErrRange").isSome=true)
  (K1:∀ (s:ByteArray),s.size≤9223372036854775806→∀ (v:Int),I0 s.data.toList = .ok v→∀ w,Calls P f #[.string s] w fun e w'=>e = .returned (.tuple #[.int .i64 v,.nilIface])∧(w'=w∨∃ t,w'=Lib.bytesWorld w e5 t))
  (K2:∀ (s:ByteArray),s.size≤281474976710656→I0 s.data.toList = .«syntax»→∀ (tp:TypeId) (p:Value) (w:World),w.var? P "strconv.ErrSyntax" = some #[.iface tp p]→
   Calls P f #[.string s] w fun e w'=>∃ t p,e = .returned (.tuple #[.int .i64 0,.iface t p])∧Below w.heap.size w w')
  (K3:∀ (s:ByteArray),s.size≤281474976710656→I0 s.data.toList = .range→∀ (tp:TypeId) (p:Value) (w:World),w.var? P "strconv.ErrRange" = some #[.iface tp p]→
   Calls P f #[.string s] w fun e w'=>∃ t p,e = .returned (.tuple #[.int .i64 (Lib.atoiSat s.data.toList),.iface t p])∧Below w.heap.size w w'):Sound P f Nn:=by
 intro x y hm _ site hs g w args E hG;obtain ⟨b1,FD⟩:=Ng.1 FD;obtain ⟨b2,FE⟩:=Ng.1 FE;obtain ⟨v1,r,ha,h1,h2⟩:=E.bI;obtain rfl:r=[]:=h2;obtain rfl:v1 = .string ⟨(x.1:List UInt8).toArray⟩:=h1;subst ha;obtain ⟨s,⟨⟩⟩:=x;replace hm:Bb s=some y:=hm;unfold Bb at hm;split at hm
 ·rename_i hlen;have bB:(⟨(s:List UInt8).toArray⟩:ByteArray).size≤281474976710656:=ru (yA (yC s)) hlen;have fin:∀ (n:Int) (eb:Bool) (v:Value) (w':World),AB eb v→Below w.heap.size w w'→ym g w site Nn (n,eb,()) (.tuple #[.int .i64 n,v]) g w':=fun n eb v w' hv hb=>
   wD (m:=Nn) hb E.b9 ⟨[.int .i64 n,v],rfl,_,_,rfl,rfl,_,_,rfl,hv,rfl⟩ rfl trivial
  split at hm
  ·rename_i v hv;obtain rfl:=aW hm;refine (K1 ⟨(s:List UInt8).toArray⟩ (by omega) v hv w).mono fun e w' he=>?_;obtain ⟨rfl,hw⟩:=he;refine ⟨_,g,rfl,fin v true _ w' rfl ?_⟩;rcases hw with rfl | ⟨t,rfl⟩
   ·exact Below.refl _ _
   exact Lib.bytesWorld_below w e5 t
  ·rename_i hv;obtain rfl:=aW hm;obtain ⟨t,p,sZ⟩:=ace hG FD;refine (K2 ⟨(s:List UInt8).toArray⟩ bB hv t p w sZ).mono fun e w' he=>?_;obtain ⟨t',p',rfl,hw⟩:=he;exact ⟨_,g,rfl,fin 0 false _ w' ⟨t',p',rfl⟩ hw⟩
  rename_i hv;obtain rfl:=aW hm;obtain ⟨t,p,sZ⟩:=acf hG FE;refine (K3 ⟨(s:List UInt8).toArray⟩ bB hv t p w sZ).mono fun e w' he=>?_;obtain ⟨t',p',rfl,hw⟩:=he;exact ⟨_,g,rfl,fin _ false _ w' ⟨t',p',rfl⟩ hw⟩
 simp at hm
def Da (s p:List UInt8):Option (bZ [Ty.bool]):=if s.length≤9223372036854775807 then some (Lib.hasSuffix s p,()) else none
abbrev TP:au:=⟨[.val .str,.val .str],[.val .bool],fun x=>Da x.1 x.2.1⟩
theorem acj {P:Program} {f:FuncId}
  (K:∀ (s p:ByteArray) (w:World),s.size≤9223372036854775807→Calls P f #[.string s,.string p] w fun e w'=>e = .returned (.bool (Lib.hasSuffix s.data.toList p.data.toList))∧w'=w):Sound P f TP:=by
 intro x y hm _ site hs g w args E hG;obtain ⟨v1,r,ha,h1,v2,r2,sY,h2,h3⟩:=E.bI;obtain rfl:r2=[]:=h3;obtain rfl:v2 = .string ⟨(x.2.1:List UInt8).toArray⟩:=h2;obtain rfl:v1 = .string ⟨(x.1:List UInt8).toArray⟩:=h1;subst sY;subst ha;obtain ⟨s,sep,⟨⟩⟩:=x;replace hm:Da s sep=some y:=hm;unfold Da at hm;split at hm
 ·rename_i hlen;obtain rfl:=aW hm;refine (K ⟨(s:List UInt8).toArray⟩ ⟨(sep:List UInt8).toArray⟩ w (ru (yA (yC s)) hlen)).mono fun e w' he=>?_;obtain ⟨rfl,rfl⟩:=he;exact ⟨_,g,rfl,wD (m:=TP) (Below.refl _ _) E.b9 rfl rfl trivial⟩
 simp at hm
def FF (s p:List UInt8):Option (bZ [Ty.str]):=if s.length≤9223372036854775807 then some (Lib.trimSuffix s p,()) else none
abbrev TQ:au:=⟨[.val .str,.val .str],[.val .str],fun x=>FF x.1 x.2.1⟩
theorem ack {P:Program} {f:FuncId}
  (K:∀ (s p:ByteArray) (w:World),s.size≤9223372036854775807→Calls P f #[.string s,.string p] w fun e w'=>e = .returned (.string ⟨(Lib.trimSuffix s.data.toList p.data.toList).toArray⟩)∧w'=w):Sound P f TQ:=by
 intro x y hm _ site hs g w args E hG;obtain ⟨v1,r,ha,h1,v2,r2,sY,h2,h3⟩:=E.bI;obtain rfl:r2=[]:=h3;obtain rfl:v2 = .string ⟨(x.2.1:List UInt8).toArray⟩:=h2;obtain rfl:v1 = .string ⟨(x.1:List UInt8).toArray⟩:=h1;subst sY;subst ha;obtain ⟨s,sep,⟨⟩⟩:=x;replace hm:FF s sep=some y:=hm;unfold FF at hm;split at hm
 ·rename_i hlen;obtain rfl:=aW hm;refine (K ⟨(s:List UInt8).toArray⟩ ⟨(sep:List UInt8).toArray⟩ w (ru (yA (yC s)) hlen)).mono fun e w' he=>?_;obtain ⟨rfl,rfl⟩:=he;exact ⟨_,g,rfl,wD (m:=TQ) (Below.refl _ _) E.b9 rfl rfl trivial⟩
 simp at hm
def Db (s p:List UInt8):Option (bZ [Ty.str,Ty.str,Ty.bool]):=if s.length<4294967281 then some ((C8 s p).1,(C8 s p).2.1,(C8 s p).2.2,()) else none
abbrev TR:au:=⟨[.val .str,.val .str],[.val .str,.val .str,.val .bool],fun x=>Db x.1 x.2.1⟩
theorem acm {P:Program} {f:FuncId} {b:Nat} (hg:P.globalNamed "internal/bytealg.MaxLen" = some b)
  (K:∀ (s sep:ByteArray) (m:Int) (w:World),s.size<4294967281→w.cell? ⟨b,0,none⟩=some (.int .i64 m)→
   Calls P f #[.string s,.string sep] w fun e w'=>e = .returned (.tuple #[.string ⟨(C8 s.data.toList sep.data.toList).1.toArray⟩,.string ⟨(C8 s.data.toList sep.data.toList).2.1.toArray⟩,.bool (C8 s.data.toList sep.data.toList).2.2])∧∃ n,w'=w.drewN n):Sound P f TR:=by
 intro x y hm _ site hs g w args E hG;obtain ⟨v1,r,ha,h1,v2,r2,sY,h2,h3⟩:=E.bI;obtain rfl:r2=[]:=h3;obtain rfl:v2 = .string ⟨(x.2.1:List UInt8).toArray⟩:=h2;obtain rfl:v1 = .string ⟨(x.1:List UInt8).toArray⟩:=h1;subst sY;subst ha;obtain ⟨s,sep,⟨⟩⟩:=x;replace hm:Db s sep=some y:=hm;unfold Db at hm;split at hm
 ·rename_i hlen;obtain rfl:=aW hm;obtain ⟨m,FC⟩:=Nl hG hg;refine (K ⟨(s:List UInt8).toArray⟩ ⟨(sep:List UInt8).toArray⟩ m w (Nf (yA (yC s)) hlen) FC).mono fun e w' he=>?_;obtain ⟨rfl,n,rfl⟩:=he;exact ⟨_,g,rfl,wD (m:=TR) (ab5 w n) E.b9 ⟨_,rfl,_,_,rfl,rfl,_,_,rfl,rfl,_,_,rfl,rfl,rfl⟩ rfl trivial⟩
 simp at hm
theorem acn {H:Type} {enc:TypeId×Value→H} {a:Assume} {C:Checked} {os:Os} {f:FuncId} {fn:Func} {s:ChangeSpec} {conds:List PathCond} {apart fresh handsOn again:Bool} {X:World→Array Value→Prop}
  (hX:∀ (w w':World) (args:Array Value),w.heap=w'.heap→X w args→X w' args)
  (own:ownKnob C.prog.godebug=none) (started:os.Started) (aco:C.prog.inits.idxOf? f=none) (wy:C.prog.funcs[f]? = some fn)
  (witness:∃ (w:World) (tape:Tape) (i:Input),w.os=os∧(w.forCall tape i).Shaped C.prog∧i.vars=[]∧Input.okWide C.prog (w.forCall tape i) .any w.heap.size f i∧
   ((s.pre enc C.prog fn conds apart (w.forCall tape i).memory i.args∧X (w.forCall tape i).memory i.args)∧sizedMet enc C.prog fn (OpenSpec.ofChange s) apart (w.forCall tape i).memory i.args)∧a.holds C.prog (lone (Frame.enter C.prog f i.args .normal) [] (w.forCall tape i)))
  (acp:∀ (W:World) (base:Nat) (args:Array Value) (ds gs:List (DataW H)) (before:List MemPlace),
   (∀ (j:Nat) t v,fn.params[j]? = some t→args[j]? = some v→Value.okWide C.prog W .any base t v)→
   DataW.Whole enc C.prog fn.params.toList s.vars apart W args.toList ds gs before→
   W.ShapedOpen C.prog→X W args→
   Calls C.prog f args W fun e W'=>∃ v,e = .returned v∧s.post enc C.prog fn apart fresh handsOn again W args v W') :
  ReturnsInHanded a C os f .any (fun w args=>(s.pre enc C.prog fn conds apart w args∧X w args)∧sizedMet enc C.prog fn (OpenSpec.ofChange s) apart w args) (s.post enc C.prog fn apart fresh handsOn again):=by
 refine returnsInHanded_of_calls own started aco witness ?_;intro w tape i _ jc _ bF re agM;obtain ⟨_,_,_,fn',acq,_,_,_,_,v_⟩:=bF;have e:fn'=fn:=aW (acq.symm.trans wy);subst e;obtain ⟨⟨⟨ds,gs,before,hw,hc⟩,hx⟩,hz⟩:=re;have hw':=DataW.Whole.of_heap (w':=w.forCall tape i) (by rfl) hw;refine (acp (w.forCall tape i) w.heap.size i.args ds gs before v_ hw' jc (hX _ _ _ (by rfl) hx)).mono fun e W' ⟨v,he,hp⟩=>?_;subst he;exact ChangeSpec.post_blind hp
open Go.Maps (Keyed)
theorem TS {α:Type} {f:Oper→Option α} : ∀ (ops:List Oper) (i0:Nat) {i:Nat} {x:α},tS f ops i0=some (i,x)→∃ (j:Nat) (o:Oper),i=i0+j∧ops[j]? = some o∧f o=some x
 | [],_,_,_,h=>by simp [tS] at h
 | o::r,i0,i,x,h=>by
  unfold tS at h;split at h
  ·rename_i hy;simp only [aF,Prod.mk.injEq] at h;obtain ⟨rfl,rfl⟩:=h;exact ⟨0,o,rfl,rfl,hy⟩
  obtain ⟨j,o',h1,h2,h3⟩:=TS r (i0+1) h;exact ⟨j+1,o',by omega,by simpa using h2,h3⟩
theorem FG {α:Type} {f:Oper→Option α} {ops:List Oper} {i:Nat} {x:α} (h:tS f ops 0=some (i,x)):∃ o:Oper,ops[i]? = some o∧f o=some x:=by
 obtain ⟨j,o,h1,h2,h3⟩:=TS ops 0 h;obtain rfl:i=j:=by omega
 exact ⟨o,h2,h3⟩
theorem No {α:Type} {f:Nat→Oper→Option α} : ∀ (ops:List Oper) (i0:Nat) {x:α},x∈vI f ops i0→∃ (j:Nat) (o:Oper),ops[j]? = some o∧f (i0+j) o=some x
 | [],_,_,h=>by simp [vI] at h
 | o::r,i0,x,h=>by
  unfold vI at h;split at h
  ·rename_i hy;rcases fZ.1 h with rfl | h
   ·exact ⟨0,o,rfl,hy⟩
   obtain ⟨j,o',h2,h3⟩:=No r (i0+1) h;exact ⟨j+1,o',by simpa using h2,by rw [show i0+(j+1)=i0+1+j by omega]; exact h3⟩
  obtain ⟨j,o',h2,h3⟩:=No r (i0+1) h;exact ⟨j+1,o',by simpa using h2,by rw [show i0+(j+1)=i0+1+j by omega]; exact h3⟩
theorem TT {f : Nat → Oper → Bool} : ∀ (ops : List Oper) (i0 : Nat), Hn f ops i0 = true → ∀ (j : Nat) (o : Oper), ops[j]? = some o → f (i0 + j) o = true
  | [], _, _, j, o, h => by simp at h
  | o :: r, i0, h, j, o', hj => by
    unfold Hn at h;simp only [aw] at h;cases j with
    | zero => obtain rfl : o = o' := by simpa using hj
              exact h.1
    | succ j =>
      have := TT r (i0 + 1) h.2 j o' (by simpa using hj);rw [show i0 + (j + 1) = i0 + 1 + j by omega]; exact this
theorem TU:∀ a:List UInt8,Hl a a=true
 | []=>rfl
 | x::r=>by simp [Hl,TU r]
theorem TV:∀ {l:List pc},Hm l=true→∀ {x y:pc},x∈l→y∈l→x.key=y.key→x=y
 | [],_,x,_,hx,_,_=>by simp at hx
 | z::r,h,x,y,hx,hy,e=>by
  unfold Hm at h;simp only [aw,gp,A0] at h;have key:∀ u∈r,z.key≠u.key:=fun u hu e=>by have:=h.1 u hu;rw [e,TU] at this;simp at this
  rcases fZ.1 hx with h1 | h1<;>rcases fZ.1 hy with h2 | h2
  ·rw [h1,h2]
  ·rw [h1] at e; exact absurd e (key y h2)
  ·rw [h2] at e; exact absurd e.symm (key x h1)
  exact TV h.2 h1 h2 e
theorem acr {o:Oper} {j:Nat} (h:mH o j=true):∃ e∈o.after.toList,sN .any e=true∧e.on=j:=by unfold mH at h;obtain ⟨e,h1,h2⟩:=List.any_eq_true.1 h;simp only [aw] at h2;exact ⟨e,h1,h2.1,bm h2.2⟩
theorem Np {f:Oper→Bool} {i:Nat} {ops:List Oper} (h:Ec f i ops=true):∃ o:Oper,ops[i]? = some o∧f o=true:=by
 unfold Ec at h;split at h
 ·rename_i o ho; exact ⟨o,ho,h⟩
 cases h
theorem I8 {t:Nat} {o:Oper} : tT t o=true↔o.dst=some t:=by
 unfold tT;cases o.dst with
 | none=>simp
 | some d=>simp only [Nat.beq_eq,aF]
theorem TW {ρ:Type} {r:ρ} {s:List UInt8} {f:Nat→Option ρ} : ∀ {l:List pc},Ee s f l=some r→∃ x∈l,x.key=s∧f x.v=some r
 | [],h=>by simp [Ee] at h
 | x::l,h=>by
  unfold Ee at h;by_cases hk:s=x.key
  ·rw [decide_eq_true hk] at h;exact ⟨x,by simp,hk.symm,h⟩
  rw [decide_eq_false hk] at h;obtain ⟨y,h1,h2,h3⟩:=TW h;exact ⟨y,by simp [h1],h2,h3⟩
structure Nq (T:Nat) (ops:List Oper) (mf:vH):Prop where
 guard:∀ (i:Nat) (o:Oper),ops[i]? = some o→o.guard=none
 make:∀ (i:Nat) (o:Oper) t r,ops[i]? = some o→o.op = .makeMap t r→t=T∧r=none∧i=mf.im∧o.dst=some mf.tm
 insert:∀ (i:Nat) (o:Oper) t m k v,ops[i]? = some o→o.op = .insert t m k v→t=T∧m = .tmp mf.tm∧o.dst=none∧∃ x∈mf.ins,∃ s:ByteArray,x.i=i∧k = .const (.string s)∧s.data.toList=x.key∧s.size≤1000∧v = .tmp x.v∧mH o mf.im=true∧mH o x.p=true
 look:∀ (i:Nat) (o:Oper) t m k c,ops[i]? = some o→o.op = .lookup t m k c→t=T∧m = .tmp mf.tk∧k = .tmp mf.tq∧c=false∧i=mf.il∧mH o mf.ik=true∧mH o mf.iq=true
 move:∃ o:Oper,ops[mf.ik]? = some o∧o.op = .move (.tmp mf.tm)∧o.dst=some mf.tk∧mH o mf.im=true∧∀ x∈mf.ins,mH o x.i=true
 src:∃ o:Oper,ops[mf.iq]? = some o∧o.op = .move (.tmp mf.t1)∧o.dst=some mf.tq
 prod:∀ x∈mf.ins,∃ o:Oper,ops[x.p]? = some o∧o.dst=some x.v
 Nr:∀ (i:Nat) (o:Oper),ops[i]? = some o→o.dst=some mf.tm→i=mf.im
 Ns:∀ (i:Nat) (o:Oper),ops[i]? = some o→o.dst=some mf.tk→i=mf.ik
 Nt:∀ (i:Nat) (o:Oper),ops[i]? = some o→o.dst=some mf.tq→i=mf.iq
 FH:∀ (i:Nat) (o:Oper),ops[i]? = some o→o.dst≠some mf.t1
 dv:∀ x∈mf.ins,∀ (i:Nat) (o:Oper),ops[i]? = some o→o.dst=some x.v→i=x.p
 keys:∀ x∈mf.ins,∀ y∈mf.ins,x.key=y.key→x=y
 few:mf.ins.length≤1000
 Nu:∃ (o:Oper) (t:Nat) (r:Option Operand),ops[mf.im]? = some o∧o.op = .makeMap t r
 I9:∀ x∈mf.ins,∃ (o:Oper) (t:Nat) (m v:Operand) (s:ByteArray),ops[x.i]? = some o∧o.op = .insert t m (.const (.string s)) v∧s.data.toList=x.key
theorem acs {T:Nat} {ops:List Oper} {mf:vH} (hf:Eb ops=some mf) (h:Ed T ops mf=true):Nq T ops mf:=by
 unfold Eb at hf;split at hf
 ·cases hf
 rename_i im tm e1;split at hf
 ·cases hf
 rename_i ik tk e2;split at hf
 ·cases hf
 rename_i il tq _;split at hf
 ·cases hf
 rename_i iq t1 e4;obtain rfl:=aW hf;unfold Ed at h;simp only [aw,gp] at h;obtain ⟨h1,h2,h3,h4,h5,h6⟩:=h;have hp:∀ (i:Nat) (o:Oper),ops[i]? = some o→Cj T ⟨im,tm,ik,tk,iq,tq,t1,il,vI (Ea ops) ops 0⟩ i o=true:=fun i o ho=>by have:=TT ops 0 h1 i o ho;rwa [Nat.zero_add] at this
 have pk:∀ x∈vI (Ea ops) ops 0,∃ (o:Oper) (t:Nat) (m:Nat) (s:ByteArray),ops[x.i]? = some o∧o.op = .insert t (.tmp m) (.const (.string s)) (.tmp x.v)∧x.key=s.data.toList∧∃ op:Oper,ops[x.p]? = some op∧op.dst=some x.v:=fun x hx=>by
  obtain ⟨j,o,ho,p9⟩:=No ops 0 hx;rw [Nat.zero_add] at p9;unfold Ea at p9;split at p9
  ·rename_i t m s v aH;split at p9
   ·rename_i p _ yb;obtain rfl:=aW p9;obtain ⟨op,h7,h8⟩:=FG yb;refine ⟨o,t,m,s,ho,aH,rfl,op,h7,?_⟩;unfold QP at h8;split at h8
    ·rename_i hd; exact I8.1 hd
    cases h8
   cases p9
  cases p9
 have fS:∀ (i:Nat) (o:Oper),ops[i]? = some o→o.guard=none∧(o.dst=some tm→i=im)∧(o.dst=some tk→i=ik)∧(o.dst=some tq→i=iq)∧o.dst≠some t1∧∀ x∈vI (Ea ops) ops 0,o.dst=some x.v→i=x.p:=fun i o ho=>by
  have:=hp i o ho;unfold Cj at this;simp only [aw,pw,A0,gp] at this;obtain ⟨⟨g1,-⟩,g2,g3,g4,g5,g6⟩:=this;have q:∀ {t j:Nat},(tT t o=false∨Nat.beq i j=true)→o.dst=some t→i=j:=fun h hd=>by
   rcases h with h | h
   ·rw [I8.2 hd] at h; cases h
   exact bm h
  refine ⟨by simpa using g1,q g2,q g3,q g4,fun hd=>?_,fun x hx=>q (g6 x hx)⟩;rw [I8.2 hd] at g5; cases g5
 refine ⟨fun i o ho=>(fS i o ho).1,fun i o t r ho aH=>?_,fun i o t m k v ho aH=>?_,fun i o t m k c ho aH=>?_,?_,?_,fun x hx=>?_,fun i o ho=>(fS i o ho).2.1,fun i o ho=>(fS i o ho).2.2.1,fun i o ho=>(fS i o ho).2.2.2.1,fun i o ho=>(fS i o ho).2.2.2.2.1,fun x hx i o ho=>(fS i o ho).2.2.2.2.2 x hx,fun x hx y hy=>TV h5 hx hy,gh h6,?_,fun x hx=>?_⟩
 ·have:=hp i o ho;unfold Cj at this;simp only [aw] at this;have h7:=this.1.2;rw [aH] at h7;cases r with
  | some r=>cases h7
  | none=>
   simp only [aw] at h7;have hi:=bm h7.2;obtain ⟨o',h8,h9⟩:=FG e1;have hi:i=im:=hi;subst hi;rw [ho] at h8;obtain rfl:=aW h8;unfold KL at h9;rw [aH] at h9;exact ⟨bm h7.1,rfl,rfl,h9⟩
 ·have:=hp i o ho;unfold Cj at this;simp only [aw] at this;have h7:=this.1.2;rw [aH] at h7;obtain ⟨m',rfl⟩:∃ m',m = .tmp m':=by cases m<;>first | exact ⟨_,rfl⟩ | (cases h7; done) | (exfalso; revert h7; simp)
  obtain ⟨s',rfl⟩:∃ s',k = .const (.string s'):=by
   cases k with
   | const cv=>cases cv<;>first | exact ⟨_,rfl⟩ | (cases h7; done) | (exfalso; revert h7; simp)
   | _=>first | (cases h7; done) | (exfalso; revert h7; simp)
  obtain ⟨v',rfl⟩:∃ v',v = .tmp v':=by cases v<;>first | exact ⟨_,rfl⟩ | (cases h7; done) | (exfalso; revert h7; simp)
  ·skip
   simp only [aw] at h7;obtain ⟨q1,q2,q3,q4,q5⟩:=h7;obtain ⟨x,hx,FI⟩:=List.any_eq_true.1 q4;have FI:=bm FI;obtain ⟨o',t',m'',s'',r1,r2,r3,-⟩:=pk x hx;rw [FI,ho] at r1;obtain rfl:=aW r1;rw [aH] at r2;injection r2 with b1 b2 b3 b4;have b5:s'=s'':=by injection b3 with b3; injection b3
   subst b5;obtain ⟨o2,h8,h9⟩:=Np (h4 x hx);rw [FI,ho] at h8;obtain rfl:=aW h8;simp only [aw] at h9;refine ⟨bm q1,by rw [bm q2],by simpa using q3,x,hx,s',FI,rfl,r3.symm,?_,b4,h9.1,h9.2⟩;have:s'.data.toList.length≤1000:=gh q5;show s'.data.size≤1000;rw [← Array.length_toList]; exact this
 ·have:=hp i o ho;unfold Cj at this;simp only [aw] at this;have h7:=this.1.2;rw [aH] at h7;obtain ⟨m',rfl⟩:∃ m',m = .tmp m':=by cases m<;>first | exact ⟨_,rfl⟩ | (cases h7; done) | (exfalso; revert h7; simp)
  obtain ⟨k',rfl⟩:∃ k',k = .tmp k':=by cases k<;>first | exact ⟨_,rfl⟩ | (cases h7; done) | (exfalso; revert h7; simp)
  obtain rfl:c=false:=by cases c<;>first | rfl | (cases h7; done) | (exfalso; revert h7; simp)
  ·simp only [aw] at h7;obtain ⟨q1,q2,q3,q4⟩:=h7;have q2:=bm q2;obtain ⟨o2,h8,h9⟩:=Np h3;have q2:i=il:=q2;subst q2;rw [ho] at h8;obtain rfl:=aW h8;simp only [aw] at h9;exact ⟨bm q1,by rw [bm q3],by rw [bm q4],rfl,rfl,h9.1,h9.2⟩
 ·obtain ⟨o,h8,h9⟩:=FG e2;unfold QN at h9;split at h9
  ·rename_i s aH;split at h9
   ·rename_i hs;obtain ⟨o2,kr,jG⟩:=Np h2;rw [h8] at kr;obtain rfl:=aW kr;simp only [aw] at jG;exact ⟨o,h8,by rw [aH,bm hs],h9,jG.1,gp.1 jG.2⟩
   cases h9
  cases h9
 ·obtain ⟨o,h8,h9⟩:=FG e4;unfold QO at h9;split at h9
  ·rename_i s aH;split at h9
   ·rename_i hs;obtain rfl:=aW h9;exact ⟨o,h8,aH,I8.1 hs⟩
   cases h9
  cases h9
 ·obtain ⟨o,t,m,s,-,-,-,op,h7,h8⟩:=pk x hx;exact ⟨op,h7,h8⟩
 ·obtain ⟨o,h8,h9⟩:=FG e1;unfold KL at h9;split at h9
  ·rename_i t aH; exact ⟨o,t,none,h8,aH⟩
  cases h9
 obtain ⟨o,t,m,s,h7,h8,h9,-⟩:=pk x hx;exact ⟨o,t,_,_,s,h7,h8,h9.symm⟩
section
variable {P:Program} {c:ba} {w0:World} {F:bW} {N:Nat} {g g':Gh} {w w':World} {U U':Nat→Prop} {st:St} {a:Act}
theorem acu (hc:fY P c) (hG:Gl P F w0) {all:List Oper} (hN:∀ o∈all,∀ x,o.dst=some x→x<N) {es:List cH} (D0:oD c all st all.length es) (hp:p8 es.length.pred es=true)
  {g0:Gh} {U0:Nat→Prop} {D:Nat→Bool} {i:Nat} {o:Oper} (ho:all[i]? = some o) (sV:o.guard=none) (hi:D i=false) (hr:∀ e∈o.after.toList,sN .any e=true→D e.on=true)
  (I:Inv w0 F N g0 U0 st es D g U a w):∃ e,eU es i=some e∧¬ U (st.nxt+i)∧
   (∃ rs,dp P c g w U rs a∧eE c rs (st.nxt+i) o.op some=some e.bq∧∀ t∈lx o.op.operands.toList,look rs.env t=look (cb st D es).env t)∧
   (∀ v w' g' U',dL g w U (st.nxt+i) e.bq v w' g' U'→Inv w0 F N g0 U0 st es (fun j=>D j||j==i) g' U' (a.put o.dst v) w'):=by
 have hlen:=D0.len;have Ft:i<es.length:=by rw [hlen]; exact (dV.1 ho).1
 obtain ⟨e,he⟩:∃ e,eU es i=some e:=⟨_,dU (by simpa using Ft)⟩
 obtain ⟨fs,pre,o',mP,re,iy,hf⟩:=D0.at i e he;rw [ho] at iy;obtain rfl:=aW iy;have wz:∀ m,dY e.mask m=true→m<i∧D m=true:=by
  intro m hm;rw [hf.mask] at hm;obtain ⟨ed,h1,h2,h3,h4⟩:=MP _ hm;have hD:=hr ed h1 h2;rcases h4 with rfl | h4
  ·exact ⟨h3,hD⟩
  have ax:ed.on<pre.length:=by omega
  obtain ⟨f,A7⟩:∃ f,eU pre ed.on=some f:=⟨_,dU (by simpa using ax)⟩
  have yd:(pre.reverse.map (·.mask)).getD ed.on 0=f.mask:=by rw [List.getD_eq_getElem?_getD,xV];unfold eU at A7;rw [A7]; rfl
  rw [yd] at h4;have:=I.wg ed.on f (by rw [mP,Tl ax]; exact A7) hD m h4;exact ⟨by omega,this.2⟩
 have wA:∀ j f,eU es j=some f→D j=true→dY e.mask j=false→Fs e f∨Fs f e:=by
  intro j f hj fM hm;have aA:j≠i:=fun h=>by subst h; rw [hi] at fM; simp at fM
  rcases Nat.lt_or_gt_of_ne aA with h | h
  ·rcases Fq es hp j i f e h hj he with h1 | h1
   ·rw [hm] at h1; simp at h1
   exact .inl (IW h1)
  rcases Fq es hp i j e f h he hj with h1 | h1
  ·have:=(I.wg j f hj fM i h1).2;rw [hi] at this; simp at this
  exact .inr (IW h1)
 have A8:∀ j,pre.length≤j→dY e.mask j=false:=by
  intro j hj;cases h:dY e.mask j with
  | false=>rfl
  | true=>have:=(wz j h).1; omega
 have IY:lS st e.mask i.pred pre=cb st (dY e.mask) es:=by rw [ML pre i re,mP];exact (MN (fs++[e]) pre A8).symm.trans (by rw [List.append_assoc]; rfl)
 have C2:∀ t,(t∈e.o9)→look (cb st (dY e.mask) es).env t=look (cb st D es).env t:=by
  intro t ht;refine Fo es (fun j f hj=>?_);cases hm:dY e.mask j with
  | true=>exact .inl (wz j hm).2.symm
  | false=>
   cases fM:D j with
   | false=>exact .inl rfl
   | true=>
    refine .inr (fun hd=>?_);rcases wA j f hj fM hm with hq | hq
    ·exact hq.u2 t hd ht
    exact hq.u1 t hd ht
 have Fu:∀ id,id∈e.reads→(cb st (dY e.mask) es).obj id=(cb st D es).obj id:=by
  intro id hid;refine Fp es (fun j f hj=>?_);cases hm:dY e.mask j with
  | true=>exact .inl (wz j hm).2.symm
  | false=>
   cases fM:D j with
   | false=>exact .inl rfl
   | true=>
    refine .inr (fun hd=>?_);rcases wA j f hj fM hm with hq | hq
    ·exact hq.t2 id hd hid
    exact hq.t1 id hd hid
 have later:∀ j f,i<j→eU es j=some f→∀ {t:Nat},((e.dst≠some t→False)→(fun j=>D j||j==i) j=false∨f.dst≠some t):=by
  intro j f hj ke t ht;cases fM:D j with
  | false=>exact .inl (by first | (show (D j||j==i)=false; rw [fM]; simp; omega) | (show (false||j==i)=false; simp; omega) | (simp [fM]; omega))
  | true=>
   have hm:dY e.mask j=false:=A8 j (by omega);have Fv:e.dst=some t:=Classical.not_not.1 ht;rcases wA j f ke fM hm with hq | hq
   ·exact .inr (hq.d1 t Fv)
   exact .inr (fun h=>hq.d1 t h Fv)
 have Fw:¬ U (st.nxt+i):=by
  intro h;rcases I.used _ h with h | ⟨j,h1,h2,h3⟩
  ·omega
  have:j=i:=by omega
  subst this; rw [hi] at h2; simp at h2
 have after:∀ v w' g' U',dL g w U (st.nxt+i) e.bq v w' g' U'→Inv w0 F N g0 U0 st es (fun j=>D j||j==i) g' U' (a.put o.dst v) w':=by
  intro v w' g' U' nD;refine ⟨?_,fun s h=>?_,fun j f hj fM m hm=>?_,fun s h=>nD.iZ.sub s (I.sub s h),fun id ver p h1 h2=>?_⟩
  ·refine I.rel.MR (hN o (TH ho)) nD (fun t=>?_) (fun id=>?_) (fun s h=>?_)
   ·by_cases l_:o.dst=some t
    ·rw [if_pos l_];show look (cb st (fun j=>D j||j==i) es).env t=_;have gV:look (cb st (fun j=>D j||j==i) es).env t=look (cb st (fun j=>D j||j==i) (e::pre)).env t:=by rw [mP];refine MS (e::pre) fs (fun j f hj ke=>?_);rw [← mP] at ke;simp only [aQ] at hj;exact later j f (by omega) ke (fun hd=>hd (by rw [hf.dst]; exact l_))
     rw [gV];simp only [cb,re,beq_self_eq_true,Bool.or_true,yx];rw [if_pos (by rw [hf.dst]; exact l_)]
    rw [if_neg l_];refine Fo es (fun j f hj=>?_);by_cases gq:j=i
    ·subst gq;rw [he] at hj;obtain rfl:=aW hj;exact .inr (by rw [hf.dst]; exact l_)
    exact .inl (by simp [gq])
   ·show (cb st (fun j=>D j||j==i) es).obj id=_;cases iN:look e.bq.aX id with
    | none=>
     refine Fp es (fun j f hj=>?_);by_cases gq:j=i
     ·subst gq;rw [he] at hj;obtain rfl:=aW hj;refine .inr (fun hm=>?_);obtain ⟨q,hq,wa⟩:=kb.1 hm;exact Tm hq wa iN
     exact .inl (by simp [gq])
    | some x=>
     have gV:(cb st (fun j=>D j||j==i) es).obj id=(cb st (fun j=>D j||j==i) (e::pre)).obj id:=by
      rw [mP];refine MU (e::pre) fs (fun j f hj ke=>?_);rw [← mP] at ke;simp only [aQ] at hj;cases fM:D j with
      | false=>exact .inl (by first | (show (D j||j==i)=false; rw [fM]; simp; omega) | (show (false||j==i)=false; simp; omega) | (simp [fM]; omega))
      | true=>
       have hm:dY e.mask j=false:=A8 j (by omega);have hid:id∈pb e:=kb.2 ⟨_,ky iN,rfl⟩;rcases wA j f ke fM hm with hq | hq
       ·exact .inr (fun h=>hq.t3 id hid h)
       exact .inr (fun h=>hq.t3 id h hid)
     rw [gV];simp only [cb,re,beq_self_eq_true,Bool.or_true,C1,iN]
   rcases nD.used s h with h | h
   ·have:=I.rel.used s h; exact this
   show s<st.nxt+es.length; omega
  ·rcases nD.used s h with h | h
   ·rcases I.used s h with h | ⟨j,h1,h2,h3⟩
    ·exact .inl h
    exact .inr ⟨j,h1,by simp [h2],h3⟩
   exact .inr ⟨i,Ft,by simp,h⟩
  ·by_cases gq:j=i
   ·subst gq;rw [he] at hj;obtain rfl:=aW hj;obtain ⟨h1,h2⟩:=wz m hm;exact ⟨h1,by simp [h2]⟩
   have MV:D j=true:=by simpa [gq] using fM
   obtain ⟨h1,h2⟩:=I.wg j f hj MV m hm;exact ⟨h1,by simp [h2]⟩
  rw [nD.iZ.hd _ _ _ (I.sub _ h1) (I.sub _ h2),I.hd id ver p h1 h2]
 obtain ⟨runs,hg,C3⟩:=hf.act;rw [sV] at hg;have hg:runs=true:=hg;subst hg;obtain ⟨hu,nE⟩:=C3;rw [IY] at nE;have S:dp P c g w U (restrict (cb st (dY e.mask) es) (lx o.op.operands.toList) e.reads) a:=by
  refine ⟨hc,fun t v h=>?_,fun id ob h=>?_,I.rel.b9,I.rel.u0,I.rel.nr,fun id h=>?_,I.rel.gl hG⟩
  ·rw [show (restrict (cb st (dY e.mask) es) (lx o.op.operands.toList) e.reads).env=iY (cb st (dY e.mask) es) (lx o.op.operands.toList) from rfl,CP] at h;split at h
   ·rename_i ht;rw [C2 t (hu t ht)] at h;exact I.rel.env t v h
   simp at h
  ·have h':(if id∈e.reads then (cb st (dY e.mask) es).obj id else none)=some ob:=by rw [← AZ]; exact h
   split at h'
   ·rename_i hid;rw [Fu id hid] at h';exact I.rel.heap id ob h'
   simp at h'
  have h':(if id∈e.reads then (cb st (dY e.mask) es).obj id else none)≠none:=by rw [← AZ]; exact h
  split at h'
  ·rename_i hid;rw [Fu id hid] at h';exact I.rel.nf id h'
  exact absurd rfl h'
 refine ⟨e,he,Fw,⟨_,S,nE,fun t ht=>?_⟩,after⟩;rw [show (restrict (cb st (dY e.mask) es) (lx o.op.operands.toList) e.reads).env=iY (cb st (dY e.mask) es) (lx o.op.operands.toList) from rfl,CP,if_pos ht];exact C2 t (hu t ht)
theorem acv {ops:Array Oper} {all:List Oper} (Bc:all.length=ops.size) (haf:∀ (i:Nat) (o:Oper),ops[i]? = some o→∃ o':Oper,all[i]? = some o'∧o'.after=o.after) {es:List cH} (D0:oD c all st all.length es)
  {g0:Gh} {U0:Nat→Prop} {Q:Exit→Act→World→Prop} {J:(Nat→Bool)→Act→World→Prop}
  (hS:∀ (D:Nat→Bool) (a:Act) (w:World) (g:Gh) (U:Nat→Prop) (i:Nat) (o:Oper),ops[i]? = some o→D i=false→(∀ e∈o.after.toList,sN .any e=true→D e.on=true)→Inv w0 F N g0 U0 st es D g U a w→J D a w→∀ K:Act→World→Prop,
   (∀ a' w' g' U',Inv w0 F N g0 U0 st es (fun j=>D j||j==i) g' U' a' w'→J (fun j=>D j||j==i) a' w'→K a' w')→if nC o (yielded ops a.tmps) then o.wp P a w K Q∨(o.asks P a w∧LetsOut Q) else K (a.put o.dst undef) w)
  (hQ:∀ a' w' g' U' (D:Nat→Bool),(∀ i,i<es.length→D i=true)→Inv w0 F N g0 U0 st es D g' U' a' w'→Q .normal a' w') :
  ∀ (fuel:Nat) (listed:Array Bool) (a:Act) (w:World) (g:Gh) (U:Nat→Prop),listed.size=ops.size→kA (fun i=>listed.getD i true) ops.size≤fuel→
   Inv w0 F N g0 U0 st es (fun i=>listed.getD i true) g U a w→J (fun i=>listed.getD i true) a w→wpAny P .any ops Q fuel listed a w:=by
 have hlen:=D0.len;have mP:es.length=ops.size:=by rw [hlen]; exact Bc
 intro fuel;have ready:∀ (listed:Array Bool) (i:Nat),i∈qp .any ops listed→i<ops.size∧listed.getD i true=false∧∀ o,ops[i]? = some o→∀ e∈o.after.toList,sN .any e=true→listed.getD e.on false=true:=by intro listed i h;unfold qp at h;obtain ⟨h1,h2⟩:=List.mem_filter.1 h;simp only [aw,A0] at h2;refine ⟨by simpa using h1,h2.1,fun o ho e he hb=>?_⟩;have h3:=h2.2;rw [ho] at h3;simp only [Option.map_some,Option.getD_some] at h3;have:=(EY.1 h3) e (by simpa using he);simpa [hb] using this
 have least:∀ (listed:Array Bool),listed.size=ops.size→qp .any ops listed=[]→∀ i,i<ops.size→listed.getD i true=true:=by
  intro listed hs hr;refine C4 ops.size ?_;by_cases h0:kA (fun i=>listed.getD i true) ops.size=0
  ·exact h0
  exfalso;obtain ⟨i,h1,h2,h3⟩:=MX _ h0;have cC:i∈qp .any ops listed:=by
   unfold qp;refine List.mem_filter.2 ⟨by simpa using h1,?_⟩;obtain ⟨o,ho⟩:∃ o,ops[i]? = some o:=⟨_,qd h1⟩
   obtain ⟨o'',iy,acw⟩:=haf i o ho;obtain ⟨e,he⟩:∃ e,eU es i=some e:=⟨_,dU (by simpa [mP] using h1)⟩
   obtain ⟨fs,pre,o',-,-,sQ,hf⟩:=D0.at i e he;rw [iy] at sQ;obtain rfl:=aW sQ;simp only [h2,Bool.not_false,Bool.true_and,ho,Option.map_some,Option.getD_some];refine EY.2 (fun ed C0=>?_);cases hb:sN .any ed with
   | false=>rfl
   | true=>
    have ax:=MQ hf.Th ed (by rw [acw]; simpa using C0) hb;have:=h3 ed.on ax;simp only [Bool.not_true,Bool.false_or];have MY:ed.on<listed.size:=by omega
    simpa [lY,qd MY] using this
  rw [hr] at cC;simp at cC
 induction fuel with
 | zero=>
  intro listed a w g U hs Fx I hJ;have cI:=C4 ops.size (Nat.le_zero.1 Fx);refine ⟨?_,hQ a w g U _ (fun i hi=>cI i (by omega)) I⟩;cases hr:qp .any ops listed with
  | nil=>rfl
  | cons i l=>
   obtain ⟨h1,h2,-⟩:=ready listed i (by rw [hr]; simp);rw [cI i h1] at h2;simp at h2
 | succ fuel ih=>
  intro listed a w g U hs Fx I hJ;refine ⟨fun hr=>hQ a w g U _ (fun i hi=>least listed hs hr i (by omega)) I,fun i hi=>?_⟩;obtain ⟨h1,h2,h3⟩:=ready listed i hi;obtain ⟨o,ho⟩:∃ o,ops[i]? = some o:=⟨_,qd h1⟩
  unfold wpOp;rw [ho];simp only;have lV:∀ j,(listed.setIfInBounds i true).getD j true=(listed.getD j true||j==i):=by
   intro j;simp only [lY,Array.getElem?_setIfInBounds];by_cases gq:i=j
   ·subst gq;rw [if_pos rfl];simp [hs,h1]
   rw [if_neg gq];have:(j==i)=false:=by simp; exact fun e=>gq e.symm
   rw [this,Bool.or_false]
  have e:(fun j=>(listed.setIfInBounds i true).getD j true)=(fun j=>listed.getD j true||j==i):=funext lV;refine hS (fun i=>listed.getD i true) a w g U i o ho h2 (fun e he hb=>?_) I hJ _ (fun a' w' g' U' I' J'=>ih _ a' w' g' U' (by simp [hs]) ?_ (by rw [e]; exact I') (by rw [e]; exact J'))
  ·have hf:=h3 o ho e he hb;simp only [lY] at hf ⊢;cases hx:listed[e.on]? with
   | none=>rfl
   | some b=>rw [hx] at hf; exact hf
  have:=(MW (D:=fun j=>listed.getD j true) h2 ops.size).1 h1;rw [e]; omega
end
end Go.Am
namespace Go.Am
open Go
open Go.Maps (Keyed)
theorem TX {w:World} {a:Addr} {v:Value} (h:w.cell? a=some v):a.block<w.heap.size:=by
 rcases jP a.block w.heap.size with hh | hh
 ·exact hh
 exfalso;unfold I5 at h;rw [xD hh] at h;simp at h
theorem Ja {w:World} {k:Nat} {o:Obj} (h:w.heap[k]? = some o):k<w.heap.size:=(Array.getElem?_eq_some_iff.1 h).1
structure Nv (P:Program) (T K E:TypeId):Prop where
 TY:P.underlying T=some (.map K E)
 key:P.underlying K=some .string
 el:P.underlying E=some .string
 zero:∀ w,(zeroValue E).run P w = .ok (.string ⟨#[]⟩) w
theorem TZ {H:Type} {P:Program} {e:TypeId} (he:P.underlying e=some .string) {v:Value} {z:DataW H×List MemPlace} (h:plainElem P e v=some z):∃ s:ByteArray,v = .string s∧z=(.lit (.string s.data.toList),[]):=by unfold plainElem at h;rw [he] at h;cases v<;>simp at h;exact ⟨_,rfl,h.2.symm⟩
section
variable {H:Type} {P:Program} {k:TypeId} {R:Value→Option (DataW H×List MemPlace)} {w w':World} {b n:Nat} {D:DataW H}
theorem acx {F:Nat→Nat→Prop} (h:w.ownsMap P k R b n D) (fr:Fr F w w'):w'.ownsMap P k R b n D:=by obtain ⟨es,clock,hb,r⟩:=h;exact ⟨es,clock,fr.kind b _ hb (fun c e f=>by simp),r⟩
theorem acy (h:w.ownsMap P k R b n D):Maps.IsMap D:=by obtain ⟨es,clock,hb,F,hs,hD⟩:=h;exact ⟨_,hD⟩
theorem T_ (h:w.ownsMap P k R b n D):∃ es clock,w.heap[b]? = some (.map es clock):=by obtain ⟨es,clock,hb,r⟩:=h;exact ⟨es,clock,hb⟩
end
section
variable {P:Program} {c:ba} {w0:World} {F:bW} {N:Nat} {g:Gh} {w w':World} {U:Nat→Prop} {st:St} {a:Act}
theorem Rel.grown (R:Rel w0 F N g U st a w) {b:Nat} {T3 T4:Array MapEntry} {T5 T6:Nat} (h1:w.heap[b]? = some (.map T3 T5)) (h2:w'.heap[b]? = some (.map T4 T6)) (hg:w.grownBy w' (some b)) (hb:w0.heap.size≤b):Rel w0 F N g U st a w':=by
 have nB:∀ b' o,b'<w.heap.size→w'.cell? (ad b' o)=w.cell? (ad b' o)∧w'.frozen? (ad b' o)=w.frozen? (ad b' o):=by
  intro b' o ax;by_cases e:b'=b
  ·subst e;unfold I5 World.frozen?;simp [ad,h1,h2]
  have:=hg.block b' ax (fun h=>e (aW h));exact ⟨Nc (w:=w) this,TF (w:=w) this⟩
 have S:eJ (fun _=>False) g w U g w' U:=⟨fun _ h=>h,fun _ _ _ _ _=>rfl,fun b' o hl v hv=>⟨by rw [(nB b' o (TX hv)).1]; exact hv,hl⟩,fun b' o id p hl _=>⟨hl,nB b' o (R.b9 b' o _ hl)⟩⟩
 refine ⟨fun t v h=>S.tV _ _ (R.env t v h),fun id o h=>?_,R.used,fun b o q h=>nk (R.b9 b o q h) hg.size,R.cB,R.n9,?_,R.defers,R.size,R.u0,R.nr,R.nf⟩
 ·obtain ⟨h1,h2⟩:=R.heap id o h;exact ⟨h1,Hx S (fun h=>h) h1 o h2⟩
 have hk:∀ k,k<w0.heap.size→w'.heap[k]? = w.heap[k]?:=fun k hk=>hg.block k (nk hk R.fr.size) (fun e=>by cases e; omega);refine ⟨hg.os.trans R.fr.os,hg.tape.trans R.fr.tape,hg.output.trans R.fr.output,ru R.fr.size hg.size,fun k c e f hc=>?_,fun k ax hn=>?_,fun k o ho hn=>?_⟩
 ·rw [hk k (Ja hc)]; exact R.fr.cells k c e f hc
 ·rw [hk k ax]; exact R.fr.block k ax hn
 rw [hk k (Ja ho)]; exact R.fr.kind k o ho hn
structure MJ (P:Program) (K E:TypeId) (w0:World) (mf:vH) (s:List UInt8) (es:List cH) (D:Nat→Bool) (a:Act) (w:World):Prop where
 key:a.eval (.tmp mf.t1) = .string ⟨s.toArray⟩
 tq:D mf.iq=true→a.eval (.tmp mf.tq) = .string ⟨s.toArray⟩
 tk:D mf.ik=true→a.eval (.tmp mf.tk)=a.eval (.tmp mf.tm)∧D mf.im=true∧∀ x∈mf.ins,D x.i=true
 done:∀ x∈mf.ins,D x.i=true→D x.p=true∧D mf.im=true
 map:D mf.im=true→∃ (b n:Nat) (Dm:DataW Unit),a.eval (.tmp mf.tm) = .map (some b)∧w0.heap.size≤b∧w.ownsMap P K (plainElem P E) b n Dm∧n≤(mf.ins.filter (fun x=>D x.i)).length∧
  ∀ x∈mf.ins,D x.i=true→∃ e sx,eU es x.p=some e∧e.bq.val = .str sx∧Dm.atKey (.string x.key) (.lit (.string [])) = .lit (.string sx)
theorem Jb {l:List pc} {p q:pc→Bool} (h:∀ x∈l,p x=true→q x=true):(l.filter p).length≤(l.filter q).length:=by rw [← TG,← TG];exact List.countP_mono_left h
theorem acz {l:List pc} {p q:pc→Bool} (h:∀ x∈l,p x=true→q x=true) {x:pc} (hx:x∈l) (h1:p x=false) (h2:q x=true):(l.filter p).length+1≤(l.filter q).length:=by
 induction l with
 | nil=>cases hx
 | cons y r ih=>
  have hr:∀ x∈r,p x=true→q x=true:=fun z hz=>h z (by simp [hz]);rcases fZ.1 hx with rfl | hx
  ·have:=Jb hr;rw [I6,I6,if_neg (by simp [h1]),if_pos h2,aQ];omega
  have ih:=ih hr hx;rw [I6,I6];by_cases hp:p y=true
  ·rw [if_pos hp,if_pos (h y (by simp) hp),aQ,aQ]; omega
  rw [if_neg hp];split
  ·rw [aQ]; omega
  exact ih
theorem MJ.step {T K E:TypeId} {mf:vH} {s:List UInt8} {es:List cH} {ops:List Oper} {D:Nat→Bool} (M:Nq T ops mf) (J:MJ P K E w0 mf s es D a w) {i:Nat} {o:Oper} (ho:ops[i]? = some o) (hd:∀ x,o.dst=some x→x<a.tmps.size)
  (n1:i≠mf.im) (n2:i≠mf.ik) (n3:i≠mf.iq) (n4:∀ x∈mf.ins,i≠x.i) {F':Nat→Nat→Prop} (fr:Fr F' w w') (v:Value):MJ P K E w0 mf s es (fun j=>D j||j==i) (a.put o.dst v) w':=by
 have ev:∀ t,o.dst≠some t→(a.put o.dst v).eval (.tmp t)=a.eval (.tmp t):=fun t ht=>by rw [wc hd,if_neg ht]
 have dd:∀ {j:Nat},i≠j→(D j||j==i)=true→D j=true:=fun aA h=>by
  rw [pw] at h;rcases h with h | h
  ·exact h
  exact absurd (by simpa using h:_=i).symm aA
 have up:∀ {j:Nat},D j=true→(D j||j==i)=true:=fun h=>by rw [h]; rfl
 have T7:o.dst≠some mf.tm:=fun h=>n1 (M.Nr i o ho h);refine ⟨by rw [ev _ (M.FH i o ho)]; exact J.key,fun h=>?_,fun h=>?_,fun x hx h=>?_,fun h=>?_⟩
 ·rw [ev _ (fun e=>n3 (M.Nt i o ho e))]; exact J.tq (dd n3 h)
 ·obtain ⟨q1,q2,q3⟩:=J.tk (dd n2 h);rw [ev _ (fun e=>n2 (M.Ns i o ho e)),ev _ T7];exact ⟨q1,up q2,fun x hx=>up (q3 x hx)⟩
 ·obtain ⟨q1,q2⟩:=J.done x hx (dd (n4 x hx) h);exact ⟨up q1,up q2⟩
 obtain ⟨b,n,Dm,q1,q2,q3,q4,q5⟩:=J.map (dd n1 h);refine ⟨b,n,Dm,by rw [ev _ T7]; exact q1,q2,acx q3 fr,ru q4 (Jb fun x _ h=>up h),fun x hx h=>q5 x hx (dd (n4 x hx) h)⟩
theorem Nw (v:Nat) (o:Oper):(jU v o).dst=o.dst:=by unfold jU; split<;>rfl
theorem T8 (v:Nat) (o:Oper):(jU v o).after=o.after:=by unfold jU; split<;>rfl
theorem acA (v:Nat) (o:Oper):(jU v o).guard=o.guard:=by unfold jU; split<;>rfl
theorem T9 {ρ:Type} {r:ρ} {es:List cH} {k:Option ρ} : ∀ {l:List pc},Hp es k l=some r→k=some r∧∀ x∈l,∃ e sx,eU es x.i=some e∧e.bq.val = .str sx∧sx.length<bU
 | [],h=>⟨h,fun x hx=>by cases hx⟩
 | x::l,h=>by
  unfold Hp at h;split at h
  ·rename_i s _ _ _ he;unfold ab at h;split at h
   ·rename_i ax;obtain ⟨h1,h2⟩:=T9 h;refine ⟨h1,fun y hy=>?_⟩;rcases fZ.1 hy with rfl | hy
    ·exact ⟨_,s,he,rfl,ax⟩
    exact h2 y hy
   cases h
  cases h
theorem Ua {st:St} {D:Nat→Bool} {t p:Nat} {f:cH} : ∀ {es:List cH},eU es p=some f→f.dst=some t→D p=true→(∀ j e,eU es j=some e→e.dst=some t→j=p)→look (cb st D es).env t=some f.bq.val
 | [],h,_,_,_=>by simp [eU] at h
 | e::es,h,hd,hD,hu=>by
  rw [pC] at h;split at h
  ·rename_i ax;have ih:=Ua (st:=st) (D:=D) h hd hD (fun j e' xU gC=>hu j e' (by
    rw [pC];have:j<es.length:=by have:=(dV.1 xU).1; simpa using this
    rw [if_pos this]; exact xU) gC)
   have aA:e.dst≠some t:=fun gC=>by have:=hu es.length e (by rw [pC]; simp) gC;omega
   simp only [cb];cases D es.length with
   | true=>rw [yx,if_neg aA]; exact ih
   | false=>exact ih
  split at h
  ·rename_i he;obtain rfl:=aW h;subst he;simp only [cb,hD,yx,if_pos hd]
  cases h
theorem acB (hm:P.follows .mixedOrders=true) (H:yg P c) (hc:fY P c) {T K E:TypeId} (MT:Nv P T K E) {ρ:Type} {r:ρ} {w0:World} {F:bW} {N:Nat} (id:Nat) (ops:Array Oper) (st:St) (a:Act) (w:World) (g:Gh) (U:Nat→Prop)
  (k:St→Option ρ) (Q:Exit→Act→World→Prop) (hN:∀ o∈ops.toList,∀ x,o.dst=some x→x<N) (hG:Gl P F w0) (R:Rel w0 F N g U st a w) {mf:vH} (M:Nq T ops.toList mf) (e:Ef c mf ops.toList st k=some r)
  (hQ:∀ st' a' w' g' U',Rel w0 F N g' U' st' a' w'→Ext g U st g' U' st'→k st'=some r→Q .normal a' w'):(Code.region id ops true).wp P Q a w:=by
 unfold Ef at e;split at e
 case h_2=>cases e
 rename_i s hs;obtain ⟨x0,uf,pf,e⟩:=TW e;obtain ⟨all,cI⟩:∃ all,all=ops.toList.map (jU x0.v):=⟨_,rfl⟩
 rw [← cI] at e;have Bc:all.length=ops.size:=by rw [cI]; simp
 have od:∀ (i:Nat) (o:Oper),ops[i]? = some o→ops.toList[i]? = some o∧all[i]? = some (jU x0.v o):=fun i o ho=>by
  have h1:ops.toList[i]? = some o:=by rw [Array.getElem?_toList]; exact ho
  refine ⟨h1,?_⟩;rw [cI,xV,h1]; rfl
 have hN':∀ o∈all,∀ x,o.dst=some x→x<N:=fun o ho x hx=>by rw [cI] at ho;obtain ⟨o',h1,rfl⟩:=kb.1 ho;exact hN o' h1 x (by rw [← Nw x0.v o']; exact hx)
 obtain ⟨es,D0,e⟩:=IV all 0 [] _ .nil rfl e;have hlen:=D0.len;split at e
 case h_2=>cases e
 rename_i hp;obtain ⟨e,acC⟩:=T9 e;have hp:p8 es.length.pred es=true:=by
  have:ops.toList.length-1=es.length.pred:=by rw [hlen,Bc]; simp
  rw [← this]; exact hp
 have ke:∀ (i:Nat) (f:cH),eU es i=some f→∃ o,ops.toList[i]? = some o∧f.dst=o.dst:=fun i f hf=>by obtain ⟨fs,pre,o',-,-,h3,h4⟩:=D0.at i f hf;rw [cI,xV] at h3;obtain ⟨o,h5,h6⟩:=vw.1 h3;exact ⟨o,h5,by rw [h4.dst,← h6,Nw]⟩
 have v_:∀ x∈mf.ins,∀ (D:Nat→Bool),D x.p=true→∃ f,eU es x.p=some f∧look (cb st D es).env x.v=some f.bq.val:=fun x hx D hD=>by
  obtain ⟨o,h1,h2⟩:=M.prod x hx;have ax:x.p<es.length:=by rw [hlen,Bc]; have:=(dV.1 h1).1; simpa using this
  obtain ⟨f,hf⟩:∃ f,eU es x.p=some f:=⟨_,dU (by simpa using ax)⟩
  obtain ⟨o',h3,h4⟩:=ke x.p f hf;rw [h1] at h3;obtain rfl:=aW h3;refine ⟨f,hf,Ua hf (by rw [h4]; exact h2) hD (fun j e' xU gC=>?_)⟩;obtain ⟨o2,h5,h6⟩:=ke j e' xU;exact M.dv x hx j o2 h5 (by rw [← h6]; exact gC)
 have Rd:Rel w0 F N g U st a { w with drawn:=w.drawn+1 }:=R.drawn;have FJ:a.eval (.tmp mf.t1) = .string ⟨s.toArray⟩:=by have:=(R.Ia hc hG).ev (.tmp mf.t1);rw [hs] at this; exact this
 refine wp_region_any hm (acv (w0:=w0) (F:=F) (N:=N) (J:=MJ P K E w0 mf s es) Bc (fun i o ho=>⟨_,(od i o ho).2,T8 _ _⟩) D0 (g0:=g) (U0:=U) (fun D a w g' U' i o ho hi hr I J KK hK=>?_) (fun a' w' g' U' D hD I=>?_) ops.size _ a _ g U (by simp) ?_ ⟨?_,fun s h=>.inl (R.used s h),fun i f hf hi=>?_,fun s h=>h,fun _ _ _ _ _=>rfl⟩ ⟨FJ,fun h=>?_,fun h=>?_,fun x hx h=>?_,fun h=>?_⟩)
 ·
  obtain ⟨ig,sQ⟩:=od i o ho;have sV:=M.guard i o ig;have hw:nC o (yielded ops a.tmps)=true:=by simp [nC,sV]
  rw [hw];simp only [if_true];refine .inl ?_;obtain ⟨f,hf,Fw,⟨rs,S,nE,rm⟩,after⟩:=acu hc hG hN' D0 hp sQ (by rw [acA]; exact sV) hi (fun e he hb=>hr e (by rw [← T8 x0.v o]; exact he) hb) I;have pv:∀ x,o.dst=some x→x<a.tmps.size:=fun x hx=>by rw [I.rel.size]; exact hN o (TH ig) x hx
  rw [Nw] at after;have yD:∀ {j:Nat},mH o j=true→D j=true:=fun h=>by obtain ⟨e,h1,h2,h3⟩:=acr h;rw [← h3]; exact hr e h1 h2
  have up:∀ {j:Nat},D j=true→(D j||j==i)=true:=fun h=>by rw [h]; rfl
  have mv:∀ {y:Operand},o.op = .move y→(o.wp P a w KK Q↔KK (a.put o.dst (a.eval y)) w):=fun {y} aH=>by unfold Oper.wp;simp [execOp,aH,C9];exact Iff.rfl
  have Ub:∀ {y:Operand},(jU x0.v o).op = .move y→∀ v,aV g' w U' (rs.ev y) v→Inv w0 F N g U st es (fun j=>D j||j==i) g' U' (a.put o.dst v) w:=fun {y} aH v hv=>by rw [aH] at nE;have he:f.bq=⟨rs.ev y,[]⟩:=(aW nE).symm;exact after v w g' U' (by rw [he]; exact dL.same S.b9 hv)
  have Dc:∀ {i':Nat},i'=mf.im→i=i'→∃ t r,o.op = .makeMap t r:=fun h1 h2=>by obtain ⟨o',t,r,h3,h4⟩:=M.Nu;rw [← h1,← h2,ig] at h3;obtain rfl:=aW h3;exact ⟨t,r,h4⟩
  have FK:∀ x∈mf.ins,i=x.i→∃ t m k v,o.op = .insert t m k v:=fun x hx h2=>by obtain ⟨o',t,m,v,s',h3,h4,-⟩:=M.I9 x hx;rw [← h2,ig] at h3;obtain rfl:=aW h3;exact ⟨t,m,_,v,h4⟩
  have acD:i=mf.ik→o.op = .move (.tmp mf.tm)∧o.dst=some mf.tk∧mH o mf.im=true∧∀ x∈mf.ins,mH o x.i=true:=fun h=>by obtain ⟨o',h3,h4⟩:=M.move;rw [← h,ig] at h3;obtain rfl:=aW h3;exact h4
  have Uc:i=mf.iq→o.op = .move (.tmp mf.t1)∧o.dst=some mf.tq:=fun h=>by obtain ⟨o',h3,h4⟩:=M.src;rw [← h,ig] at h3;obtain rfl:=aW h3;exact h4
  by_cases c1:i=mf.ik
  ·
   obtain ⟨aH,hd,e1,e2⟩:=acD c1;have l7:jU x0.v o=o:=by unfold jU; rw [aH]
   refine (mv aH).2 (hK _ _ g' U' (Ub (by rw [l7]; exact aH) _ (S.ev _)) ?_);have ev:∀ t,t≠mf.tk→(a.put o.dst (a.eval (.tmp mf.tm))).eval (.tmp t)=a.eval (.tmp t):=fun t ht=>by rw [wc pv,if_neg (by rw [hd]; exact fun h=>ht (aW h).symm)]
   have FL:mf.tm≠mf.tk:=fun h=>by have:=M.Nr i o ig (by rw [hd,h]);obtain ⟨t,r,h9⟩:=Dc this rfl;rw [aH] at h9; cases h9
   have Nx:mf.iq≠i→mf.tq≠mf.tk:=fun h1 h=>h1 (M.Nt i o ig (by rw [hd,h])).symm;have n1:i≠mf.im:=fun h=>by obtain ⟨t,r,h9⟩:=Dc h rfl; rw [aH] at h9; cases h9
   have n4:∀ x∈mf.ins,i≠x.i:=fun x hx h=>by obtain ⟨t,m,k,v,h9⟩:=FK x hx h; rw [aH] at h9; cases h9
   have n3:i≠mf.iq:=fun h=>by have:=(Uc h).1;rw [aH] at this;injection this with this;injection this with this;obtain ⟨o',t,r,h3,h4⟩:=M.Nu;exact M.FH mf.im o' h3 (by rw [← this]; exact (M.make mf.im o' t r h3 h4).2.2.2)
   have dd:∀ {j:Nat},i≠j→(D j||j==i)=true→D j=true:=fun aA h=>by
    rw [pw] at h;rcases h with h | h
    ·exact h
    exact absurd (by simpa using h:_=i).symm aA
   refine ⟨?_,fun h=>?_,fun _=>⟨?_,up (yD e1),fun x hx=>up (yD (e2 x hx))⟩,fun x hx h=>?_,fun h=>?_⟩
   ·rw [ev _ (fun h=>M.FH i o ig (by rw [hd,h]))]; exact J.key
   ·rw [ev _ (Nx (fun h=>n3 h.symm))]; exact J.tq (dd n3 h)
   ·rw [wc pv,if_pos hd,ev _ FL]
   ·obtain ⟨q1,q2⟩:=J.done x hx (dd (n4 x hx) h);exact ⟨up q1,up q2⟩
   obtain ⟨b,n,Dm,q1,q2,q3,q4,q5⟩:=J.map (dd n1 h);exact ⟨b,n,Dm,by rw [ev _ FL]; exact q1,q2,q3,ru q4 (Jb fun x _ h=>up h),fun x hx h=>q5 x hx (dd (n4 x hx) h)⟩
  by_cases c2:i=mf.iq
  ·
   obtain ⟨aH,hd⟩:=Uc c2;have l7:jU x0.v o=o:=by unfold jU; rw [aH]
   refine (mv aH).2 (hK _ _ g' U' (Ub (by rw [l7]; exact aH) _ (S.ev _)) ?_);have ev:∀ t,t≠mf.tq→(a.put o.dst (a.eval (.tmp mf.t1))).eval (.tmp t)=a.eval (.tmp t):=fun t ht=>by rw [wc pv,if_neg (by rw [hd]; exact fun h=>ht (aW h).symm)]
   have FL:mf.tm≠mf.tq:=fun h=>by have:=M.Nr i o ig (by rw [hd,h]);obtain ⟨t,r,h9⟩:=Dc this rfl;rw [aH] at h9; cases h9
   have Ud:mf.tk≠mf.tq:=fun h=>c1 (M.Ns i o ig (by rw [hd,h]));have n1:i≠mf.im:=fun h=>by obtain ⟨t,r,h9⟩:=Dc h rfl; rw [aH] at h9; cases h9
   have n4:∀ x∈mf.ins,i≠x.i:=fun x hx h=>by obtain ⟨t,m,k,v,h9⟩:=FK x hx h; rw [aH] at h9; cases h9
   have dd:∀ {j:Nat},i≠j→(D j||j==i)=true→D j=true:=fun aA h=>by
    rw [pw] at h;rcases h with h | h
    ·exact h
    exact absurd (by simpa using h:_=i).symm aA
   refine ⟨?_,fun h=>?_,fun h=>?_,fun x hx h=>?_,fun h=>?_⟩
   ·rw [ev _ (fun h=>M.FH i o ig (by rw [hd,h]))]; exact J.key
   ·rw [wc pv,if_pos hd]; exact J.key
   ·obtain ⟨q1,q2,q3⟩:=J.tk (dd c1 h);rw [ev _ Ud,ev _ FL];exact ⟨q1,up q2,fun x hx=>up (q3 x hx)⟩
   ·obtain ⟨q1,q2⟩:=J.done x hx (dd (n4 x hx) h);exact ⟨up q1,up q2⟩
   obtain ⟨b,n,Dm,q1,q2,q3,q4,q5⟩:=J.map (dd n1 h);exact ⟨b,n,Dm,by rw [ev _ FL]; exact q1,q2,q3,ru q4 (Jb fun x _ h=>up h),fun x hx h=>q5 x hx (dd (n4 x hx) h)⟩
  have dd:∀ {j:Nat},i≠j→(D j||j==i)=true→D j=true:=fun aA h=>by
   rw [pw] at h;rcases h with h | h
   ·exact h
   exact absurd (by simpa using h:_=i).symm aA
  have normal:jU x0.v o=o→i≠mf.im→(∀ x∈mf.ins,i≠x.i)→o.wp P a w KK Q:=fun l7 n1 n4=>by rw [l7] at nE;obtain ⟨bq,h1,h2⟩:=H S Fw nE;obtain rfl:=aW h1;exact h2 _ _ (fun v w' g2 U2 nD=>hK _ _ g2 U2 (after v w' g2 U2 nD) (J.step M ig pv n1 c1 c2 n4 nD.fr v))
  by_cases c3:∃ t r,o.op = .makeMap t r
  ·
   obtain ⟨t,rr,aH⟩:=c3;obtain ⟨rfl,rfl,rfl,hd⟩:=M.make i o t rr ig aH;have l7:(jU x0.v o).op = .move (.const (.map none)):=by unfold jU; rw [aH]
   rw [l7] at nE;have he:f.bq=⟨.undef,[]⟩:=(aW nE).symm;have acE:∀ (b o:Nat) v,w.cell? (ad b o)=some v→(w.alloc (.map #[] 0)).cell? (ad b o)=some v:=fun b o v hv=>by rw [Nc (w:=w) ((Nd w (.map #[] 0) none).block b (TX hv) (by simp))]; exact hv
   have FM:∀ k,k<w.heap.size→(w.alloc (.map #[] 0)).heap[k]? = w.heap[k]?:=fun k hk=>(Nd w (.map #[] 0) none).block k hk (by simp);have bB:w.heap.size≤(w.alloc (.map #[] 0)).heap.size:=(Nd w (.map #[] 0) none).size;have nD:dL g' w U' (st.nxt+mf.im) f.bq (.map (some w.heap.size)) (w.alloc (.map #[] 0)) g' U':=by
    rw [he];refine ⟨⟨fun _ h=>h,fun _ _ _ _ _=>rfl,fun b o hl v hv=>⟨acE b o v hv,hl⟩,fun b o id p hl _=>⟨hl,?_,?_⟩⟩,trivial,fun id o h=>by simp [look] at h,fun s h=>.inl h,fun b o q h=>nk (S.b9 b o q h) bB,fun b o q _ h=>by rw [h]; simp,⟨rfl,rfl,rfl,bB,fun k c e f hk=>⟨c,by rw [FM k (Ja hk)]; exact hk,rfl,fun _ _=>rfl⟩,fun k hk _=>FM k hk,fun k b hk _=>by rw [FM k (Ja hk)]; exact hk⟩,fun id h=>by simp [look] at h⟩
    ·exact Nc (w:=w) (FM b (S.b9 b o _ hl))
    exact TF (w:=w) (FM b (S.b9 b o _ hl))
   have FN:o.wp P a w KK Q↔KK (a.put o.dst (.map (some w.heap.size))) (w.alloc (.map #[] 0)):=by have df:(Instr.makeMap t none).run P w = .ok (.map (some w.heap.size)) (w.alloc (.map #[] 0)):=rfl;unfold Oper.wp;simp [execOp,aH,df,C9];exact Iff.rfl
   refine FN.2 (hK _ _ g' U' (after _ _ g' U' nD) ?_);have ev:∀ t,t≠mf.tm→(a.put o.dst (.map (some w.heap.size))).eval (.tmp t)=a.eval (.tmp t):=fun t ht=>by rw [wc pv,if_neg (by rw [hd]; exact fun h=>ht (aW h).symm)]
   have n4:∀ x∈mf.ins,mf.im≠x.i:=fun x hx h=>by obtain ⟨t,m,k,v,h9⟩:=FK x hx h; rw [aH] at h9; cases h9
   have Ud:mf.tk≠mf.tm:=fun h=>c1 (M.Ns _ o ig (by rw [hd,h]));have Nx:mf.tq≠mf.tm:=fun h=>c2 (M.Nt _ o ig (by rw [hd,h]));refine ⟨?_,fun h=>?_,fun h=>?_,fun x hx h=>?_,fun h=>?_⟩
   ·rw [ev _ (fun h=>M.FH _ o ig (by rw [hd,h]))]; exact J.key
   ·rw [ev _ Nx]; exact J.tq (dd c2 h)
   ·have:=(J.tk (dd c1 h)).2.1;rw [hi] at this; cases this
   ·have:=(J.done x hx (dd (n4 x hx) h)).2;rw [hi] at this; cases this
   refine ⟨w.heap.size,0,.map [],by rw [wc pv,if_pos hd],I.rel.fr.size,World.ownsMap_made w P K _,Nat.zero_le _,fun x hx h=>?_⟩;have:=(J.done x hx (dd (n4 x hx) h)).2;rw [hi] at this; cases this
  by_cases c4:∃ t m k v,o.op = .insert t m k v
  ·
   obtain ⟨t,m,kk,v,aH⟩:=c4;obtain ⟨rfl,rfl,hd,x,hx,sk,rfl,rfl,gV,Ue,rfl,e1,e2⟩:=M.insert i o t m kk v ig aH;have l7:(jU x0.v o).op = .move (.tmp x.v):=by unfold jU; rw [aH]
   rw [l7] at nE rm;have he:f.bq=⟨rs.ev (.tmp x.v),[]⟩:=(aW nE).symm;obtain ⟨f',sx,HT,Ug,ax⟩:=acC x hx;rw [hf] at HT;obtain rfl:=aW HT;have Dd:rs.ev (.tmp x.v) = .str sx:=by rw [he] at Ug; exact Ug
   have hvv:a.eval (.tmp x.v) = .string ⟨sx.toArray⟩:=by have:=S.ev (.tmp x.v);rw [Dd] at this; exact this
   obtain ⟨fp,Jc,Ny⟩:=v_ x hx D (yD e2);have iN:look rs.env x.v=some (.str sx):=by
    simp only [St.ev] at Dd;split at Dd
    ·rename_i y hy; rw [hy,Dd]
    cases Dd
   have xQ:fp.bq.val = .str sx:=by have h1:=rm x.v (by simp [Op.operands,lx]);rw [iN,Ny] at h1;exact (aW h1).symm
   obtain ⟨b,n,Dm,q1,q2,q3,q4,q5⟩:=J.map (yD e1);have hn:n≤1000:=ru q4 (ru (List.length_filter_le _ _) M.few);have acF:sk.size≤maxLen:=by unfold maxLen; omega
   have Nz:keyOf P K (.string sk)=some (.string x.key):=by rw [← gV]; exact Go.WideMaps.keyOf_string_mk MT.key acF
   have hbs:(⟨sx.toArray⟩:ByteArray).size≤maxLen:=by
    have:(⟨sx.toArray⟩:ByteArray).size=sx.length:=by simp [ByteArray.size]
    rw [this]; unfold maxLen; unfold bU at ax; omega
   obtain ⟨w',df,r1,r2⟩:=q3.update (Maps.string_keyed MT.key) MT.TY (by unfold maxLen; omega) Nz (plainElem_string MT.el hbs);have FN:o.wp P a w KK Q↔KK (a.put o.dst undef) w':=by unfold Oper.wp;have ek:a.eval (.const (.string sk)) = .string sk:=rfl;simp [execOp,aH,q1,hvv,ek,df,C9];exact Iff.rfl
   have hI:=after (.string ⟨sx.toArray⟩) w g' U' (by rw [he,Dd]; exact dL.same S.b9 rfl);rw [hd] at hI;obtain ⟨T3,T5,gj⟩:=T_ q3;obtain ⟨T4,T6,dE⟩:=T_ r1;refine FN.2 (hK _ _ g' U' ?_ ?_)
   ·rw [hd];exact ⟨hI.rel.grown gj dE r2 q2,hI.used,hI.wg,hI.sub,hI.hd⟩
   rw [hd];have same:∀ y∈mf.ins,y.i=x.i→y=x:=fun y hy yE=>by
    obtain ⟨o',t',m',v',s',h3,h4,h5⟩:=M.I9 y hy;rw [yE,ig] at h3;obtain rfl:=aW h3;rw [aH] at h4;injection h4 with b1 b2 b3 b4;have b5:sk=s':=by injection b3 with b3; injection b3
    exact M.keys y hy x hx (by rw [← h5,← gV,b5])
   refine ⟨J.key,fun h=>J.tq (dd c2 h),fun h=>?_,fun y hy h=>?_,fun h=>⟨b,n+1,_,q1,q2,r1,?_,fun y hy h=>?_⟩⟩
   ·obtain ⟨p1,p2,p3⟩:=J.tk (dd c1 h);exact ⟨p1,up p2,fun y hy=>up (p3 y hy)⟩
   ·by_cases yE:y.i=x.i
    ·obtain rfl:=same y hy yE;exact ⟨up (yD e2),up (yD e1)⟩
    obtain ⟨p1,p2⟩:=J.done y hy (dd (fun h=>yE h.symm) h);exact ⟨up p1,up p2⟩
   ·refine ru (Nat.add_le_add_right q4 1) (acz (fun y _ h=>up h) hx hi (by simp))
   by_cases yE:y.i=x.i
   ·obtain rfl:=same y hy yE;refine ⟨fp,sx,Jc,xQ,?_⟩;rw [I3 (acy q3) (show I4 (.string _) from trivial)]
   obtain ⟨e',sy,p1,p2,p3⟩:=q5 y hy (dd (fun h=>yE h.symm) h);refine ⟨e',sy,p1,p2,?_⟩;rw [I2 (fun h=>yE (by
    have h:y.key=x.key:=by injection h
    rw [M.keys y hy x hx h]))]
   exact p3
  by_cases c5:∃ t m k c,o.op = .lookup t m k c
  ·
   obtain ⟨t,m,kk,cc,aH⟩:=c5;obtain ⟨rfl,rfl,rfl,rfl,hil,e1,e2⟩:=M.look i o t m kk cc ig aH;have l7:(jU x0.v o).op = .move (.tmp x0.v):=by unfold jU; rw [aH]
   rw [l7] at nE rm;have he:f.bq=⟨rs.ev (.tmp x0.v),[]⟩:=(aW nE).symm;obtain ⟨p1,p2,p3⟩:=J.tk (yD e1);have hq:=J.tq (yD e2);obtain ⟨b,n,Dm,q1,q2,q3,q4,q5⟩:=J.map p2;obtain ⟨fe,sx,h1,h2,h3⟩:=q5 x0 uf (p3 x0 uf);obtain ⟨fp,Jc,Ny⟩:=v_ x0 uf D (J.done x0 uf (p3 x0 uf)).1;rw [h1] at Jc;obtain rfl:=aW Jc;have hrs:rs.ev (.tmp x0.v) = .str sx:=by have h4:=rm x0.v (by simp [Op.operands,lx]);rw [Ny,h2] at h4;simp only [St.ev,h4]
   have Ue:(⟨s.toArray⟩:ByteArray).size≤maxLen:=by
    obtain ⟨o',t',m',v',s',h5,h6,h7⟩:=M.I9 x0 uf;obtain ⟨-,-,-,x',hx',s2,h8,h9,kr,jG,-⟩:=M.insert x0.i o' t' m' _ v' h5 h6;have e7:s'=s2:=by injection h9 with h9; injection h9
    have e8:s'=⟨s.toArray⟩:=by rw [← pf,← h7]
    rw [← e8,e7];unfold maxLen; omega
   have Nz:keyOf P K (.string ⟨s.toArray⟩)=some (.string x0.key):=by rw [pf];have:=Go.WideMaps.keyOf_string_mk MT.key Ue;simpa using this
   obtain ⟨v,ps,df,hv⟩:=q3.lookup (Maps.string_keyed MT.key) MT.TY (MT.zero w) (plainElem_string MT.el (by decide)) Nz;obtain ⟨cv,rfl,hcv⟩:=TZ MT.el hv;have e3:Dm.atKey (.string x0.key) (.lit (.string [])) = .lit (.string cv.data.toList):=congrArg Prod.fst hcv;rw [h3] at e3;have e4:sx=cv.data.toList:=by injection e3 with e3; injection e3
   have kq:Value.string cv = .string ⟨sx.toArray⟩:=by rw [e4]
   have FN:o.wp P a w KK Q↔KK (a.put o.dst (.string cv)) w:=by unfold Oper.wp;simp [execOp,aH,p1,q1,hq,df,C9];exact Iff.rfl
   have n1:i≠mf.im:=fun h=>by obtain ⟨t,r,h9⟩:=Dc h rfl; rw [aH] at h9; cases h9
   have n4:∀ x∈mf.ins,i≠x.i:=fun x hx h=>by obtain ⟨t,m,k,v,h9⟩:=FK x hx h; rw [aH] at h9; cases h9
   refine FN.2 (hK _ _ g' U' (after _ w g' U' (by rw [he,hrs]; exact dL.same S.b9 kq)) (J.step M ig pv n1 c1 c2 n4 (Fr.refl (fun _ _=>False) w) _))
  refine normal ?_ (fun h=>c3 (Dc h rfl)) (fun x hx h=>c4 (FK x hx h));unfold jU;split
  ·rename_i t r aH; exact absurd ⟨t,r,aH⟩ c3
  ·rename_i t m k v aH; exact absurd ⟨t,m,k,v,aH⟩ c4
  ·rename_i t m k cc aH; exact absurd ⟨t,m,k,cc,aH⟩ c5
  rfl
 ·
  have cI:=MM (st0:=st) es hD;refine hQ (lT st es) a' w' g' U' (I.rel.same (fun t=>by rw [cI]) (fun id=>by rw [cI]; rfl) (fun s hs=>?_)) (MZ I.sub I.hd R.u0 es) e;rw [M_];exact I.rel.used s hs
 ·have:∀ (D:Nat→Bool) n,kA D n≤n:=by
   intro D n;induction n with
   | zero=>exact cj _
   | succ n ih=>simp only [kA]; split<;>omega
  exact this _ _
 ·have M3:∀ iM:List cH,iM.length≤ops.size→cb st (fun i=>(uj ops.size false).getD i true) iM=st:=by
   intro iM;induction iM with
   | nil=>intro _; rfl
   | cons f iM ih=>
    intro hl;simp only [aQ] at hl;have ax:iM.length<ops.size:=by omega
    have hb:(uj ops.size false).getD iM.length true=false:=by simp [lY,ax]
    simp only [cb,hb];exact ih (by omega)
  have dz:=M3 es (by rw [hlen,Bc]; exact cj _);refine Rd.same (fun t=>by rw [dz]) (fun id=>by rw [dz]; rfl) (fun s hs=>?_);have:=R.used s hs;show s<st.nxt+es.length;omega
 ·exfalso;have ax:i<ops.size:=by have:=(dV.1 hf).1;simp only [List.length_reverse,hlen,Bc] at this;exact this
  have hb:(uj ops.size false).getD i true=false:=by simp [lY,ax]
  rw [hb] at hi; simp at hi
 all_goals
  exfalso;have none:∀ {i:Nat} {o:Oper},ops.toList[i]? = some o→(uj ops.size false).getD i true=false:=fun {i o} h=>by
   have ax:i<ops.size:=by have:=(dV.1 h).1; simpa using this
   simp [lY,ax]
 ·obtain ⟨o,h1,-⟩:=M.src;rw [none h1] at h; cases h
 ·obtain ⟨o,h1,-⟩:=M.move;rw [none h1] at h; cases h
 ·obtain ⟨o,t,m,v,s',h1,-⟩:=M.I9 x hx;rw [none h1] at h; cases h
 obtain ⟨o,t,r,h1,-⟩:=M.Nu;rw [none h1] at h; cases h
theorem acG (hm:P.follows .mixedOrders=true) (H:yg P c) (hc:fY P c) {T K E:TypeId} (hT:vJ c=some T) (MT:Nv P T K E):A_ P c:=by
 intro ρ r w0 F N id ops draw st a w g U k Q hN hG R e hQ;cases draw with
 | false=>exact wp_region_list (Io H hc hG hN ops.toList st a w g U k (fun o h=>h) R e hQ)
 | true=>
  have e:(match vJ c with | none=>Ax c ops st k | some T=>match Eb ops.toList with | none=>Ax c ops st k | some mf=>match Ed T ops.toList mf with | true=>Ef c mf ops.toList st k | false=>none)=some r:=e;rw [hT] at e;simp only at e;split at e
  ·exact Tn hm H hc id ops st a w g U k Q hN hG R e hQ
  rename_i mf hf;split at e
  ·rename_i bF;exact acB hm H hc MT id ops st a w g U k Q hN hG R (acs hf bF) e hQ
  cases e
end
end Go.Am
namespace Go.Am
open Go
open Go.RowKit
open Go.Maps (Keyed)
theorem acH {H:Type} {P:Program} (w:World) {ops:Array Oper} {rest:List Oper} {o:Oper} {a:Act} {Q:Exit→Act→World→Prop}
  (hg:o.guard=none) (m x:Operand) (t:TypeId) (aH:o.op=Op.lookup t m x false)
  (k e:TypeId) (K:Keyed P k) (ht:P.underlying t=some (.map k e)) (he:P.underlying e=some .string) (hz:(zeroValue e).run P w = .ok (.string ⟨#[]⟩) w) (b n:Nat) (D:DataW H)
  (hm:a.eval m = .map (some b)) (vP:w.ownsMap P k (plainElem P e) b n D) (key:Value) (kl:Lit) (hx:a.eval x=key) (FJ:keyOf P k key=some kl) (s:List UInt8) (ke:D.atKey kl (.lit (.string [])) = .lit (.string s))
  (hK:wpList P ops Q rest (a.put o.dst (.string ⟨s.toArray⟩)) w) :
  wpList P ops Q (o::rest) a w:=by
 refine wpList_plain hg fun K' NA=>?_;obtain ⟨v,ps,df,hv⟩:=vP.lookup K ht hz (plainElem_string he (by decide)) FJ;obtain ⟨c,rfl,hc⟩:=TZ he hv;have e1:D.atKey kl (.lit (.string [])) = .lit (.string c.data.toList):=congrArg Prod.fst hc;rw [ke] at e1;have e2:s=c.data.toList:=by injection e1 with e1; injection e1
 subst e2;unfold Oper.wp;simp [execOp,aH,hm,hx,df,C9];exact NA _ _ hK
theorem NB {H:Type} {P:Program} (w:World) {ops:Array Oper} {rest:List Oper} {o:Oper} {a:Act} {Q:Exit→Act→World→Prop}
  (hg:o.guard=none) (m x v:Operand) (t:TypeId) (aH:o.op=Op.insert t m x v)
  (k e:TypeId) (K:Keyed P k) (ht:P.underlying t=some (.map k e)) (R:Value→Option (DataW H×List MemPlace)) (b n:Nat) (D:DataW H)
  (hm:a.eval m = .map (some b)) (vP:w.ownsMap P k R b n D) (hn:n<maxLen) (key val:Value) (kl:Lit) (hx:a.eval x=key) (hv:a.eval v=val) (FJ:keyOf P k key=some kl)
  (d:DataW H) (ps:List MemPlace) (v_:R val=some (d,ps))
  (hK:∀ w',w'.ownsMap P k R b (n+1) (D.put kl d)→w.grownBy w' (some b)→wpList P ops Q rest (a.put o.dst undef) w') :
  wpList P ops Q (o::rest) a w:=by
 refine wpList_plain hg fun K' NA=>?_;obtain ⟨w',df,r1,r2⟩:=vP.update K ht hn FJ v_;unfold Oper.wp;simp [execOp,aH,hm,hx,hv,df,C9];exact NA _ _ (hK w' r1 r2)
theorem NC {w w1 w2:World} {b:Nat} (h:Below w.heap.size w w1) (hg:w1.grownBy w2 (some b)) (hb:w.heap.size≤b):Below w.heap.size w w2:=h.grown hg h.size (fun k e=>by cases e; exact hb)
def FO (s cB new:List UInt8):Option (bZ [Ty.str]):=if s.length<4294967281∧1≤cB.length∧s.length+FA s cB*new.length≤140737488355328 then some (Lib.replaceAll s cB new,()) else none
abbrev Uh:au:=⟨[.val .str,.val .str,.val .str],[.val .str],fun x=>FO x.1 x.2.1 x.2.2.1⟩
theorem acI {P:Program} {f:FuncId} {b:Nat} (hg:P.globalNamed "internal/bytealg.MaxLen" = some b)
  (K:∀ (s cB new:ByteArray) (m:Int) (w:World),s.size<4294967281→w.cell? ⟨b,0,none⟩=some (.int .i64 m)→1≤cB.size→s.size+sX s cB*new.size≤140737488355328→
   Calls P f #[.string s,.string cB,.string new] w fun e w'=>e = .returned (.string ⟨(Lib.replaceAll s.data.toList cB.data.toList new.data.toList).toArray⟩)∧Below w.heap.size w w'):Sound P f Uh:=by
 intro x y hm _ site hs g w args E hG;obtain ⟨v1,r,ha,h1,v2,r2,sY,h2,v3,r3,hr3,h3,h4⟩:=E.bI;obtain rfl:r3=[]:=h4;obtain rfl:v3 = .string ⟨(x.2.2.1:List UInt8).toArray⟩:=h3;obtain rfl:v2 = .string ⟨(x.2.1:List UInt8).toArray⟩:=h2;obtain rfl:v1 = .string ⟨(x.1:List UInt8).toArray⟩:=h1;subst hr3;subst sY;subst ha;obtain ⟨s,cB,new,⟨⟩⟩:=x;replace hm:FO s cB new=some y:=hm;unfold FO at hm;split at hm
 ·rename_i hr;obtain rfl:=aW hm;obtain ⟨m,FC⟩:=Nl hG hg;have bB:(⟨(s:List UInt8).toArray⟩:ByteArray).size=(s:List UInt8).length:=yC s;have Jd:(⟨(cB:List UInt8).toArray⟩:ByteArray).size=(cB:List UInt8).length:=yC cB;have hsn:(⟨(new:List UInt8).toArray⟩:ByteArray).size=(new:List UInt8).length:=yC new;have hc:sX (⟨(s:List UInt8).toArray⟩:ByteArray) ⟨(cB:List UInt8).toArray⟩=FA (s:List UInt8) (cB:List UInt8):=by simp [sX]
  have e3:(⟨(s:List UInt8).toArray⟩:ByteArray).size+sX (⟨(s:List UInt8).toArray⟩:ByteArray) ⟨(cB:List UInt8).toArray⟩*(⟨(new:List UInt8).toArray⟩:ByteArray).size=(s:List UInt8).length+FA (s:List UInt8) (cB:List UInt8)*(new:List UInt8).length:=by rw [hc,hsn,bB]
  refine (K ⟨(s:List UInt8).toArray⟩ ⟨(cB:List UInt8).toArray⟩ ⟨(new:List UInt8).toArray⟩ m w (Nf (yA bB) hr.1) FC (ru hr.2.1 (yA Jd.symm)) (ru (yA e3) hr.2.2)).mono fun e w' he=>?_;obtain ⟨he,hb⟩:=he;exact ⟨_,g,he,wD (m:=Uh) hb E.b9 rfl rfl trivial⟩
 simp at hm
def qw (x:Int):List UInt8:=if x=1 then [113,117,105,101,116] else if x=2 then [106,97,109,109,101,100] else if x=3 then [98,117,115,121] else []
def FP (x:Int):Option (bZ [Ty.str]):=if -9223372036854775808≤x∧x<9223372036854775808 then some (qw x,()) else none
abbrev Ui:au:=⟨[.val (.int .i64)],[.val .str],fun x=>FP x.1⟩
theorem acJ {H:Type} (n:Int):((((DataW.map []:DataW H).put (.int .i64 1) (.lit (.string [113,117,105,101,116]))).put (.int .i64 2) (.lit (.string [106,97,109,109,101,100]))).put (.int .i64 3) (.lit (.string [98,117,115,121]))).atKey (.int .i64 n) (.lit (.string [])) = .lit (.string (qw n)):=by
 have m0:Maps.IsMap (DataW.map []:DataW H):=Maps.isMap_empty;unfold qw;by_cases h3:n=3
 ·subst h3;rw [I3 ((m0.put _ _).put _ _) (show I4 (.int _ _) from trivial)]; rfl
 rw [I2 (by simp [h3])];by_cases h2:n=2
 ·subst h2;rw [I3 (m0.put _ _) (show I4 (.int _ _) from trivial)]; rfl
 rw [I2 (by simp [h2])];by_cases h1:n=1
 ·subst h1;rw [I3 m0 (show I4 (.int _ _) from trivial)]; rfl
 rw [I2 (by simp [h1]),if_neg h1,if_neg h2,if_neg h3]; rfl
theorem acK {P:Program} {f:FuncId}
  (K:∀ n:Int,-9223372036854775808≤n→n<9223372036854775808→∀ w:World,Calls P f #[.int .i64 n] w fun e w'=>e = .returned (.string ⟨(qw n).toArray⟩)∧Below w.heap.size w w'):Sound P f Ui:=by
 intro x y hm _ site hs g w args E hG;obtain ⟨v1,r,ha,h1,h2⟩:=E.bI;obtain rfl:r=[]:=h2;obtain rfl:v1 = .int .i64 x.1:=h1;subst ha;replace hm:FP x.1=some y:=hm;unfold FP at hm;split at hm
 ·rename_i hr;obtain rfl:=aW hm;refine (K x.1 hr.1 hr.2 w).mono fun e w' he=>?_;obtain ⟨he,hb⟩:=he;exact ⟨_,g,he,wD (m:=Ui) hb E.b9 rfl rfl trivial⟩
 simp at hm
end Go.Am
