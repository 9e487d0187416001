/- Library functions by the contracts of the shelf, for the abstract machine. No condition. -/
import Derived.Test.YtfoamipegmbcgaaGreatDoorAmD
import Derived.Below
import Derived.Sort.Grow
import Derived.Lib.ItoaNum
import Derived.Lib.LaidTab
import Derived.Lib.Join
import Derived.Deep.Draws
import Derived.Lib.AtoiErrMem
import Derived.Lib.AtoiAll
import Derived.Lib.SplitLaws
import Derived.Lib.Strings
import Derived.Handed
import Derived.Maps.OwnOps
import Derived.Maps.Views
import Derived.Lib.Replace
set_option linter.unusedVariables false
set_option linter.unusedSimpArgs false
namespace Go.Am
open Go
open Go.RowKit
theorem LS {w:World} {k:Nat} {o:Obj} (h:w.heap[k]? = some o):k<w.heap.size:=by
 rcases Nat.lt_or_ge k w.heap.size with hh | hh
 ·exact hh
 ·rw [Array.getElem?_eq_none hh] at h; simp at h
theorem TX {F:Nat→Nat→Prop} {w w':World} (h:Below w.heap.size w w'):Fr F w w' where
 os:=h.os
 tape:=h.tape
 output:=h.output
 size:=h.size
 cells k c e f hk:=⟨c,by rw [h.block k (LS hk)]; exact hk,rfl,fun o _=>rfl⟩
 block k hk _:=h.block k hk
 kind k b hk _:=by rw [h.block k (LS hk)]; exact hk
theorem LU {w:World} {a:Addr} {v:Value} (h:w.cell? a=some v):a.block<w.heap.size:=by
 rcases Nat.lt_or_ge a.block w.heap.size with hh | hh
 ·exact hh
 ·exfalso
  unfold World.cell? at h
  rw [Array.getElem?_eq_none hh] at h
  simp at h
theorem TY {w w':World} (h:Below w.heap.size w w') {a:Addr} {v:Value} (hv:w.cell? a=some v):w'.cell? a=some v:=by
 rw [h.cell (LU hv)]; exact hv
theorem sB {g:Gh} {w w':World} {site:Nat} {m:ar} {y:bz (RK.aV m.rs++PK.outs m.ps)} {v:Value} (hb:Below w.heap.size w w')
  (hl:∀ b o q,g.lab b o=some q→b<w.heap.size)
  (r_:ay g w' (U' eZ site) (match (eJ site 0 m.rs (PK.outs m.ps) y).1 with | [v]=>v | vs=>.fb vs) v)
  (yL:(eJ site 0 m.rs (PK.outs m.ps) y).2.1=[])
  (G8:ug g w' 0 m.ps (eJ site 0 m.rs (PK.outs m.ps) y).2.2):uh g w site m y v g w' where
 val:=r_
 aE id o h:=by rw [yL] at h; simp [look] at h
 outs:=G8
 par _ _:=rfl
 shr b o hn v hv:=⟨TY hb hv,hn⟩
 kX _ _ _ _ h _:=h
 bB b o q h:=Nat.lt_of_lt_of_le (hl b o q h) hb.size
 bP b o q _ h e:=by rw [e] at h; simp at h
 fr:=TX hb
theorem TZ (w:World) (n:Nat):Below w.heap.size w (w.drewN n):=⟨rfl,rfl,rfl,Nat.le_refl _,fun _ _=>rfl⟩
theorem T_ (w:World) (n:Nat) (os:Array Obj):Below w.heap.size w (Sort.grow (w.drewN n) os):=by
 refine ⟨rfl,rfl,rfl,by simp [Sort.grow],fun k hk=>?_⟩
 show (w.heap++os)[k]? = w.heap[k]?
 rw [Array.getElem?_append_left hk]
theorem T3 {P:Program} {l:bt} {w:World} (hG:Gl P l w) {b:Nat} (hb:P.globalNamed "internal/strconv.uint64pow10" = some b):Lib.TabIs P w "internal/strconv.uint64pow10" .u64 Lib.pow10Tab:=by
 obtain ⟨⟨vs,h3,h4⟩,_⟩:=hG "internal/strconv.uint64pow10" (fun vs=>vs=((List.range 20).map fun i=>Value.int .u64 ((10 ^ i:Nat):Int)).toArray) (by unfold pins; exact List.mem_cons_self) b hb
 unfold Lib.TabIs
 rw [h3,h4]
 simp [Lib.pow10Tab]
theorem T4 {P:Program} {w:World} (h:∀ nm pr,(nm,pr)∈pins→(P.globalNamed nm).isSome=true→∃ vs,w.var? P nm=some vs∧pr vs):Gl P L0 w:=
 fun nm pr hm b hb=>⟨h nm pr hm (by rw [hb]; rfl),fun o=>rfl⟩
def uA (n:Int):Option (bz [Ty.str]):=if -9223372036854775808≤n∧n≤9223372036854775807 then some (Lib.itoa n,()) else none
abbrev LV:ar:=⟨[.val (.int .i64)],[.val .str],fun x=>uA x.1⟩
theorem T5 {P:Program} {f:FuncId} (hg:(P.globalNamed "internal/strconv.uint64pow10").isSome=true)
  (K:∀ n:Int,-9223372036854775808≤n→n≤9223372036854775807→∀ w:World,Lib.TabIs P w "internal/strconv.uint64pow10" .u64 Lib.pow10Tab→
   Calls P f #[.int .i64 n] w fun e w'=>e = .returned (.string ⟨(Lib.itoa n).toArray⟩)∧∃ k os,w'=Sort.grow (w.drewN k) os):Sound P f LV:=by
 intro x y hm _ site hs g w args E hG
 obtain ⟨v1,r,ha,h1,h2⟩:=E.bd
 obtain rfl:r=[]:=h2
 obtain rfl:v1 = .int .i64 x.1:=h1
 subst ha
 replace hm:uA x.1=some y:=hm
 unfold uA at hm
 split at hm
 ·rename_i hr
  obtain rfl:=Option.some.inj hm
  obtain ⟨b,hb⟩:=Option.isSome_iff_exists.1 hg
  have ht:=T3 hG hb
  refine (K x.1 hr.1 hr.2 w ht).mono fun e w' he=>?_
  obtain ⟨he,k,os,hw⟩:=he
  subst hw
  exact ⟨_,g,he,sB (m:=LV) (T_ w k os) E.bB rfl rfl trivial⟩
 ·simp at hm
def Bo (xs:List (List UInt8)) (sep:List UInt8):Option (bz [Ty.str]):=
 if xs.length≤140737488355328∧(Lib.join xs sep).length≤140737488355328 then some (Lib.join xs sep,()) else none
abbrev LW:ar:=⟨[.val (.sl .str),.val .str],[.val .str],fun x=>Bo x.1 x.2.1⟩
theorem T6 {P:Program} {f:FuncId} {g:Gh} {w:World} {xs:List (List UInt8)} {sep:List UInt8} {v1:Value} {Q:Ending→World→Prop}
  (K0:∀ (a:Option Addr) (c:Nat) (sep:ByteArray) (w:World),Calls P f #[.slice a 0 c,.string sep] w fun e w'=>e = .returned (.string ⟨#[]⟩)∧w'=w)
  (K:∀ (bk o c:Nat) (xs:List ByteArray) (sep:ByteArray) (w:World),(∀ (j:Nat) x,xs[j]? = some x→w.cell? ⟨bk,o+j,none⟩=some (.string x))→bk<w.heap.size→xs.length≤140737488355328→xs.length≤c→
   (Lib.join (xs.map (·.data.toList)) sep.data.toList).length≤140737488355328→
   Calls P f #[.slice (some ⟨bk,o,none⟩) xs.length c,.string sep] w fun e w'=>e = .returned (.string ⟨(Lib.join (xs.map (·.data.toList)) sep.data.toList).toArray⟩)∧Below w.heap.size w w')
  (h1:fj (α:=List UInt8) 1 (Sh g.lab w .str) xs v1) (hr:xs.length≤140737488355328∧(Lib.join xs sep).length≤140737488355328)
  (fin:∀ w',Below w.heap.size w w'→Q (.returned (.string ⟨(Lib.join xs sep).toArray⟩)) w'):Calls P f #[v1,.string ⟨sep.toArray⟩] w Q:=by
 obtain ⟨a,len,cap,e,hl,hc,hn,hx⟩:=h1
 subst e
 by_cases av:xs=[]
 ·subst av
  simp only [List.length_nil] at hl
  subst hl
  refine (K0 a cap _ w).mono fun e w' he=>?_
  obtain ⟨rfl,rfl⟩:=he
  exact fin _ (Below.refl _ _)
 ·obtain ⟨b,o,rfl,hi⟩:=hx av
  have kE:∀ (j:Nat) x,(xs.map fun s=>(⟨s.toArray⟩:ByteArray))[j]? = some x→w.cell? ⟨b,o+j,none⟩=some (.string x):=by
   intro j x hj
   simp only [List.getElem?_map,Option.map_eq_some_iff] at hj
   obtain ⟨s,hs,rfl⟩:=hj
   obtain ⟨ao,rfl⟩:=List.getElem?_eq_some_iff.1 hs
   have:=(hi j ao).1
   rw [Nat.mul_one] at this
   exact this
  have hj:Lib.join ((xs.map fun s=>(⟨s.toArray⟩:ByteArray)).map (·.data.toList)) (⟨sep.toArray⟩:ByteArray).data.toList=Lib.join xs sep:=by
   simp [List.map_map,Function.comp_def]
  have hb:b<w.heap.size:=by
   obtain ⟨s,r,rfl⟩:=List.exists_cons_of_ne_nil av
   have:=LU (kE 0 ⟨s.toArray⟩ (by simp))
   exact this
  have:=K b o cap (xs.map fun s=>(⟨s.toArray⟩:ByteArray)) ⟨sep.toArray⟩ w kE hb (by simpa using hr.1) (by simp; omega) (by rw [hj]; exact hr.2)
  rw [hj,List.length_map] at this
  subst hl
  refine this.mono fun e w' he=>?_
  obtain ⟨rfl,hb⟩:=he
  exact fin _ hb
theorem T7 {P:Program} {f:FuncId}
  (K0:∀ (a:Option Addr) (c:Nat) (sep:ByteArray) (w:World),Calls P f #[.slice a 0 c,.string sep] w fun e w'=>e = .returned (.string ⟨#[]⟩)∧w'=w)
  (K:∀ (bk o c:Nat) (xs:List ByteArray) (sep:ByteArray) (w:World),(∀ (j:Nat) x,xs[j]? = some x→w.cell? ⟨bk,o+j,none⟩=some (.string x))→bk<w.heap.size→xs.length≤140737488355328→xs.length≤c→
   (Lib.join (xs.map (·.data.toList)) sep.data.toList).length≤140737488355328→
   Calls P f #[.slice (some ⟨bk,o,none⟩) xs.length c,.string sep] w fun e w'=>e = .returned (.string ⟨(Lib.join (xs.map (·.data.toList)) sep.data.toList).toArray⟩)∧Below w.heap.size w w'):Sound P f LW:=by
 intro x y hm _ site hs g w args E hG
 obtain ⟨v1,r,ha,h1,v2,r2,pv,h2,h3⟩:=E.bd
 obtain rfl:r2=[]:=h3
 obtain rfl:v2 = .string ⟨(x.2.1:List UInt8).toArray⟩:=h2
 subst pv
 subst ha
 replace hm:Bo x.1 x.2.1=some y:=hm
 unfold Bo at hm
 split at hm
 ·rename_i hr
  obtain rfl:=Option.some.inj hm
  exact T6 (g:=g) K0 K h1 hr (fun w' hb=>⟨_,g,rfl,sB (m:=LW) hb E.bB rfl rfl trivial⟩)
 ·simp at hm
end Go.Am
namespace Go.Am
open Go
open Go.RowKit
theorem uB (s:List UInt8):(⟨s.toArray⟩:ByteArray).size=s.length:=by simp [ByteArray.size]
def y0 (x:UInt8):List (List UInt8)→List (List UInt8)
 | []=>[[x]]
 | h::t=>(x::h)::t
def cC (c:UInt8):List UInt8→List (List UInt8)
 | []=>[[]]
 | x::xs=>if x=c then []::cC c xs else y0 x (cC c xs)
theorem G9 (c:UInt8):∀ s:List UInt8,Lib.splitK [c] 0 (Lib.count s [c]) s=cC c s
 | []=>by rw [Lib.count_miss (by simp [Lib.index])]; rfl
 | x::xs=>by
  by_cases h:x=c
  ·subst h
   have wZ:Lib.index (x::xs) [x]=((0:Nat):Int):=by rw [Lib.index]; simp [List.isPrefixOf]
   rw [Lib.count_cons_eq,Nat.add_comm,cC,if_pos rfl,← G9 x xs]
   rw [Lib.splitK,wZ]
   simp
  ·rw [Lib.count_cons_ne x c xs h,cC,if_neg h,← G9 c xs]
   have hp:([c]:List UInt8).isPrefixOf (x::xs)=false:=by simp [List.isPrefixOf,Ne.symm h]
   have wZ:Lib.index (x::xs) [c]=if Lib.index xs [c]==-1 then -1 else Lib.index xs [c]+1:=by rw [Lib.index,hp]; simp
   by_cases hm:Lib.index xs [c] = -1
   ·rw [Lib.count_miss hm]; rfl
   ·have yv:=Lib.index_ge xs [c]
    obtain ⟨j,hj⟩:∃ j:Nat,Lib.index xs [c]=j:=⟨(Lib.index xs [c]).toNat,by omega⟩
    have Ha:Lib.index (x::xs) [c]=((j+1:Nat):Int):=by rw [wZ,if_neg (fun e=>hm (beq_iff_eq.1 e)),hj]; omega
    rw [Lib.count_hit (by simp) hj,Nat.add_comm,Lib.splitK,Lib.splitK,hj,Ha]
    have n1:(((j:Nat):Int)==-1)=false:=by simp
    have n2:(((j+1:Nat):Int)==-1)=false:=beq_eq_false_iff_ne.2 (by omega)
    rw [n1,n2]
    simp only [Bool.false_eq_true,if_false,Int.toNat_natCast,y0]
    simp
theorem DW (c:UInt8) (s:List UInt8):cC c s≠[]:=by
 cases s with
 | nil=>simp [cC]
 | cons x xs=>
  unfold cC
  split
  ·simp
  ·cases cC c xs<;>simp [y0]
def Hb (s sep:List UInt8):Option (bz [Ty.sl .str]):=match sep with | [c]=>if s.length<4294967281 then some (cC c s,()) else none | _=>none
abbrev LX:ar:=⟨[.val .str,.val .str],[.sh (.sl .str)],fun x=>Hb x.1 x.2.1⟩
theorem Hc {P:Program} {l:bt} {w:World} (hG:Gl P l w) {b:Nat} (hb:P.globalNamed "internal/bytealg.MaxLen" = some b):∃ m,w.cell? ⟨b,0,none⟩=some (.int .i64 m):=by
 obtain ⟨⟨vs,h3,m,h4⟩,_⟩:=hG "internal/bytealg.MaxLen" (fun vs=>∃ m,vs[0]? = some (.int .i64 m)) (by unfold pins; exact List.mem_cons_of_mem _ List.mem_cons_self) b hb
 exact ⟨m,by rw [World.var?_cell hb h3 0]; exact h4⟩
theorem T8 {P:Program} {n:String} {w:World} {g:Nat} {v:Value} (hg:P.globalNamed n=some g) (h:w.cell? ⟨g,0,none⟩=some v):∃ vs,w.var? P n=some vs∧vs[0]? = some v:=by
 unfold World.var?
 rw [hg]
 simp only [Option.bind_some]
 unfold World.cell? at h
 simp only at h
 split at h
 ·rename_i cs t fz he
  rw [he]
  exact ⟨cs,rfl,by simpa using h⟩
 all_goals simp at h
theorem T9 {P:Program} {l:bt} {w:World} (hG:Gl P l w) {b:Nat} (hb:P.globalNamed "strconv.ErrSyntax" = some b):∃ t p,w.var? P "strconv.ErrSyntax" = some #[.iface t p]:=by
 obtain ⟨⟨vs,h3,t,p,h4⟩,_⟩:=hG "strconv.ErrSyntax" (fun vs=>∃ t p,vs = #[.iface t p]) (by unfold pins; exact List.mem_cons_of_mem _ (List.mem_cons_of_mem _ List.mem_cons_self)) b hb
 exact ⟨t,p,by rw [h3,h4]⟩
theorem Ua {P:Program} {l:bt} {w:World} (hG:Gl P l w) {b:Nat} (hb:P.globalNamed "strconv.ErrRange" = some b):∃ t p,w.var? P "strconv.ErrRange" = some #[.iface t p]:=by
 obtain ⟨⟨vs,h3,t,p,h4⟩,_⟩:=hG "strconv.ErrRange" (fun vs=>∃ t p,vs = #[.iface t p]) (by unfold pins; exact List.mem_cons_of_mem _ (List.mem_cons_of_mem _ (List.mem_cons_of_mem _ List.mem_cons_self))) b hb
 exact ⟨t,p,by rw [h3,h4]⟩
theorem LY (w:World) (o:Obj):Below w.heap.size w (w.alloc o):=(Below.refl _ w).alloc (Nat.le_refl _) o
theorem Ub {g:Gh} {w:World} {e:TypeId} {xs:List ByteArray} {n:Nat} (hn:n=xs.length) (hl:∀ b o q,g.lab b o=some q→b<w.heap.size) :
  fj (α:=List UInt8) 1 (Sh g.lab (w.alloc (.cells (xs.map Value.string).toArray e)) .str) (xs.map (·.data.toList)) (.slice (some ⟨w.heap.size,0,none⟩) n n):=by
 refine ⟨_,_,_,rfl,(by simpa using hn),Nat.le_refl _,(fun h=>by cases h),fun _=>⟨w.heap.size,0,rfl,fun i hi=>?_⟩⟩
 have mW:i<xs.length:=by simpa using hi
 refine ⟨?_,?_⟩
 ·have:(w.alloc (.cells (xs.map Value.string).toArray e)).cell? ⟨w.heap.size,0+i*1,none⟩=(xs.map Value.string).toArray[0+i*1]?:=iL.new (At w (xs.map Value.string).toArray e) (0+i*1)
  show (w.alloc (.cells (xs.map Value.string).toArray e)).cell? ⟨w.heap.size,0+i*1,none⟩=_
  rw [this]
  simp [mW]
 ·show g.lab w.heap.size _=none
  cases h:g.lab w.heap.size (0+i*1) with
  | none=>rfl
  | some q=>exact absurd (hl _ _ _ h) (Nat.lt_irrefl _)
theorem Uc {P:Program} {f:FuncId} {b:Nat} {e:TypeId} (hg:P.globalNamed "internal/bytealg.MaxLen" = some b)
  (K:∀ (s sep:ByteArray) (m:Int) (w:World),s.size<4294967281→w.cell? ⟨b,0,none⟩=some (.int .i64 m)→1≤sep.size→
   Calls P f #[.string s,.string sep] w fun ed w'=>ed = .returned (.slice (some ⟨w.heap.size,0,none⟩) (Lib.countB s sep+1) (Lib.countB s sep+1))∧w'=w.alloc (.cells ((Lib.splitB sep 0 (Lib.countB s sep) s).map Value.string).toArray e)):Sound P f LX:=by
 intro x y hm _ site hs g w args E hG
 obtain ⟨v1,r,ha,h1,v2,r2,pv,h2,h3⟩:=E.bd
 obtain rfl:r2=[]:=h3
 obtain rfl:v2 = .string ⟨(x.2.1:List UInt8).toArray⟩:=h2
 obtain rfl:v1 = .string ⟨(x.1:List UInt8).toArray⟩:=h1
 subst pv
 subst ha
 obtain ⟨s,sep,⟨⟩⟩:=x
 replace hm:Hb s sep=some y:=hm
 have AK:∃ c,sep=[c]:=by
  match sep,hm with
  | [c],_=>exact ⟨c,rfl⟩
  | [],hm=>cases hm
  | _::_::_,hm=>cases hm
 obtain ⟨c,rfl⟩:=AK
 replace hm:(if (s:List UInt8).length<4294967281 then some (cC c s,()) else none)=some y:=hm
 split at hm
 ·rename_i hlen
  obtain rfl:=Option.some.inj hm
  obtain ⟨m,Bp⟩:=Hc hG hg
  have aX:(⟨(s:List UInt8).toArray⟩:ByteArray).size<4294967281:=Nat.lt_of_le_of_lt (Nat.le_of_eq (uB s)) hlen
  have h1:1≤(⟨#[c]⟩:ByteArray).size:=Nat.le_refl 1
  refine (K ⟨(s:List UInt8).toArray⟩ ⟨#[c]⟩ m w aX Bp h1).mono fun ed w' he=>?_
  obtain ⟨rfl,rfl⟩:=he
  have hc:Lib.countB (⟨(s:List UInt8).toArray⟩:ByteArray) ⟨#[c]⟩=Lib.count s [c]:=by simp [Lib.countB]
  have hl:=Lib.splitB_all ⟨#[c]⟩ h1 0 _ ⟨(s:List UInt8).toArray⟩ rfl
  have hd:=Lib.splitB_data ⟨#[c]⟩ 0 (Lib.countB (⟨(s:List UInt8).toArray⟩:ByteArray) ⟨#[c]⟩) ⟨(s:List UInt8).toArray⟩
  have lk:(Lib.splitB ⟨#[c]⟩ 0 (Lib.countB (⟨(s:List UInt8).toArray⟩:ByteArray) ⟨#[c]⟩) ⟨(s:List UInt8).toArray⟩).map (·.data.toList)=cC c s:=by
   rw [hd,hc]; exact G9 c s
  refine ⟨_,g,rfl,sB (m:=LX) (LY w _) E.bB ?_ rfl trivial⟩
  show fj (α:=List UInt8) 1 (Sh g.lab _ .str) (cC c s) _
  rw [← lk]
  exact Ub hl.symm E.bB
 ·cases hm
def uC (s:List UInt8):Option (bz [Ty.int .i64,Ty.err]):=
 if s.length≤281474976710656 then (match Lib.atoiAll s with | .ok v=>some (v,(true,())) | .«syntax»=>some ((0:Int),(false,())) | .range=>some (Lib.atoiSat s,(false,()))) else none
abbrev He:ar:=⟨[.val .str],[.val (.int .i64),.val .err],fun x=>uC x.1⟩
theorem Ud {P:Program} {f:FuncId} {e5:TypeId} (Bq:(P.globalNamed "strconv.ErrSyntax").isSome=true) (Br:(P.globalNamed "strconv.ErrRange").isSome=true)
  (K1:∀ (s:ByteArray),s.size≤9223372036854775806→∀ (v:Int),Lib.atoiAll s.data.toList = .ok v→∀ w,Calls P f #[.string s] w fun e w'=>e = .returned (.tuple #[.int .i64 v,.nilIface])∧(w'=w∨∃ t,w'=Lib.bytesWorld w e5 t))
  (K2:∀ (s:ByteArray),s.size≤281474976710656→Lib.atoiAll s.data.toList = .«syntax»→∀ (tp:TypeId) (p:Value) (w:World),w.var? P "strconv.ErrSyntax" = some #[.iface tp p]→
   Calls P f #[.string s] w fun e w'=>∃ t p,e = .returned (.tuple #[.int .i64 0,.iface t p])∧Below w.heap.size w w')
  (K3:∀ (s:ByteArray),s.size≤281474976710656→Lib.atoiAll s.data.toList = .range→∀ (tp:TypeId) (p:Value) (w:World),w.var? P "strconv.ErrRange" = some #[.iface tp p]→
   Calls P f #[.string s] w fun e w'=>∃ t p,e = .returned (.tuple #[.int .i64 (Lib.atoiSat s.data.toList),.iface t p])∧Below w.heap.size w w'):Sound P f He:=by
 intro x y hm _ site hs g w args E hG
 obtain ⟨b1,Bq⟩:=Option.isSome_iff_exists.1 Bq
 obtain ⟨b2,Br⟩:=Option.isSome_iff_exists.1 Br
 obtain ⟨v1,r,ha,h1,h2⟩:=E.bd
 obtain rfl:r=[]:=h2
 obtain rfl:v1 = .string ⟨(x.1:List UInt8).toArray⟩:=h1
 subst ha
 obtain ⟨s,⟨⟩⟩:=x
 replace hm:uC s=some y:=hm
 unfold uC at hm
 split at hm
 ·rename_i hlen
  have aX:(⟨(s:List UInt8).toArray⟩:ByteArray).size≤281474976710656:=Nat.le_trans (Nat.le_of_eq (uB s)) hlen
  have fin:∀ (n:Int) (eb:Bool) (v:Value) (w':World),wj eb v→Below w.heap.size w w'→uh g w site He (n,(eb,())) (.tuple #[.int .i64 n,v]) g w':=fun n eb v w' hv hb=>
   sB (m:=He) hb E.bB ⟨[.int .i64 n,v],rfl,_,_,rfl,rfl,_,_,rfl,hv,rfl⟩ rfl trivial
  split at hm
  ·rename_i v hv
   obtain rfl:=Option.some.inj hm
   refine (K1 ⟨(s:List UInt8).toArray⟩ (by omega) v hv w).mono fun e w' he=>?_
   obtain ⟨rfl,hw⟩:=he
   refine ⟨_,g,rfl,fin v true _ w' rfl ?_⟩
   rcases hw with rfl | ⟨t,rfl⟩
   ·exact Below.refl _ _
   ·exact Lib.bytesWorld_below w e5 t
  ·rename_i hv
   obtain rfl:=Option.some.inj hm
   obtain ⟨t,p,pw⟩:=T9 hG Bq
   refine (K2 ⟨(s:List UInt8).toArray⟩ aX hv t p w pw).mono fun e w' he=>?_
   obtain ⟨t',p',rfl,hw⟩:=he
   exact ⟨_,g,rfl,fin 0 false _ w' ⟨t',p',rfl⟩ hw⟩
  ·rename_i hv
   obtain rfl:=Option.some.inj hm
   obtain ⟨t,p,pw⟩:=Ua hG Br
   refine (K3 ⟨(s:List UInt8).toArray⟩ aX hv t p w pw).mono fun e w' he=>?_
   obtain ⟨t',p',rfl,hw⟩:=he
   exact ⟨_,g,rfl,fin _ false _ w' ⟨t',p',rfl⟩ hw⟩
 ·simp at hm
def za (s p:List UInt8):Option (bz [Ty.bool]):=if s.length≤9223372036854775807 then some (Lib.hasSuffix s p,()) else none
abbrev LZ:ar:=⟨[.val .str,.val .str],[.val .bool],fun x=>za x.1 x.2.1⟩
theorem Ue {P:Program} {f:FuncId}
  (K:∀ (s p:ByteArray) (w:World),s.size≤9223372036854775807→Calls P f #[.string s,.string p] w fun e w'=>e = .returned (.bool (Lib.hasSuffix s.data.toList p.data.toList))∧w'=w):Sound P f LZ:=by
 intro x y hm _ site hs g w args E hG
 obtain ⟨v1,r,ha,h1,v2,r2,pv,h2,h3⟩:=E.bd
 obtain rfl:r2=[]:=h3
 obtain rfl:v2 = .string ⟨(x.2.1:List UInt8).toArray⟩:=h2
 obtain rfl:v1 = .string ⟨(x.1:List UInt8).toArray⟩:=h1
 subst pv
 subst ha
 obtain ⟨s,sep,⟨⟩⟩:=x
 replace hm:za s sep=some y:=hm
 unfold za at hm
 split at hm
 ·rename_i hlen
  obtain rfl:=Option.some.inj hm
  refine (K ⟨(s:List UInt8).toArray⟩ ⟨(sep:List UInt8).toArray⟩ w (Nat.le_trans (Nat.le_of_eq (uB s)) hlen)).mono fun e w' he=>?_
  obtain ⟨rfl,rfl⟩:=he
  exact ⟨_,g,rfl,sB (m:=LZ) (Below.refl _ _) E.bB rfl rfl trivial⟩
 ·simp at hm
def Bs (s p:List UInt8):Option (bz [Ty.str]):=if s.length≤9223372036854775807 then some (Lib.trimSuffix s p,()) else none
abbrev L_:ar:=⟨[.val .str,.val .str],[.val .str],fun x=>Bs x.1 x.2.1⟩
theorem Ug {P:Program} {f:FuncId}
  (K:∀ (s p:ByteArray) (w:World),s.size≤9223372036854775807→Calls P f #[.string s,.string p] w fun e w'=>e = .returned (.string ⟨(Lib.trimSuffix s.data.toList p.data.toList).toArray⟩)∧w'=w):Sound P f L_:=by
 intro x y hm _ site hs g w args E hG
 obtain ⟨v1,r,ha,h1,v2,r2,pv,h2,h3⟩:=E.bd
 obtain rfl:r2=[]:=h3
 obtain rfl:v2 = .string ⟨(x.2.1:List UInt8).toArray⟩:=h2
 obtain rfl:v1 = .string ⟨(x.1:List UInt8).toArray⟩:=h1
 subst pv
 subst ha
 obtain ⟨s,sep,⟨⟩⟩:=x
 replace hm:Bs s sep=some y:=hm
 unfold Bs at hm
 split at hm
 ·rename_i hlen
  obtain rfl:=Option.some.inj hm
  refine (K ⟨(s:List UInt8).toArray⟩ ⟨(sep:List UInt8).toArray⟩ w (Nat.le_trans (Nat.le_of_eq (uB s)) hlen)).mono fun e w' he=>?_
  obtain ⟨rfl,rfl⟩:=he
  exact ⟨_,g,rfl,sB (m:=L_) (Below.refl _ _) E.bB rfl rfl trivial⟩
 ·simp at hm
def Bt (s p:List UInt8):Option (bz [Ty.str,Ty.str,Ty.bool]):=if s.length<4294967281 then some ((Lib.cut s p).1,((Lib.cut s p).2.1,((Lib.cut s p).2.2,()))) else none
abbrev L1:ar:=⟨[.val .str,.val .str],[.val .str,.val .str,.val .bool],fun x=>Bt x.1 x.2.1⟩
theorem Uh {P:Program} {f:FuncId} {b:Nat} (hg:P.globalNamed "internal/bytealg.MaxLen" = some b)
  (K:∀ (s sep:ByteArray) (m:Int) (w:World),s.size<4294967281→w.cell? ⟨b,0,none⟩=some (.int .i64 m)→
   Calls P f #[.string s,.string sep] w fun e w'=>e = .returned (.tuple #[.string ⟨(Lib.cut s.data.toList sep.data.toList).1.toArray⟩,.string ⟨(Lib.cut s.data.toList sep.data.toList).2.1.toArray⟩,.bool (Lib.cut s.data.toList sep.data.toList).2.2])∧∃ n,w'=w.drewN n):Sound P f L1:=by
 intro x y hm _ site hs g w args E hG
 obtain ⟨v1,r,ha,h1,v2,r2,pv,h2,h3⟩:=E.bd
 obtain rfl:r2=[]:=h3
 obtain rfl:v2 = .string ⟨(x.2.1:List UInt8).toArray⟩:=h2
 obtain rfl:v1 = .string ⟨(x.1:List UInt8).toArray⟩:=h1
 subst pv
 subst ha
 obtain ⟨s,sep,⟨⟩⟩:=x
 replace hm:Bt s sep=some y:=hm
 unfold Bt at hm
 split at hm
 ·rename_i hlen
  obtain rfl:=Option.some.inj hm
  obtain ⟨m,Bp⟩:=Hc hG hg
  refine (K ⟨(s:List UInt8).toArray⟩ ⟨(sep:List UInt8).toArray⟩ m w (Nat.lt_of_le_of_lt (Nat.le_of_eq (uB s)) hlen) Bp).mono fun e w' he=>?_
  obtain ⟨rfl,n,rfl⟩:=he
  exact ⟨_,g,rfl,sB (m:=L1) (TZ w n) E.bB ⟨_,rfl,_,_,rfl,rfl,_,_,rfl,rfl,_,_,rfl,rfl,rfl⟩ rfl trivial⟩
 ·simp at hm
theorem Ui {H:Type} {enc:TypeId×Value→H} {a:Assume} {C:Checked} {os:Os} {f:FuncId} {fn:Func} {s:ChangeSpec} {conds:List PathCond} {apart fresh handsOn again:Bool} {X:World→Array Value→Prop}
  (hX:∀ (w w':World) (args:Array Value),w.heap=w'.heap→X w args→X w' args)
  (own:ownKnob C.prog.godebug=none) (started:os.Started) (Uj:C.prog.inits.idxOf? f=none) (sq:C.prog.funcs[f]? = some fn)
  (witness:∃ (w:World) (tape:Tape) (i:Input),w.os=os∧(w.forCall tape i).Shaped C.prog∧i.vars=[]∧Input.okWide C.prog (w.forCall tape i) .any w.heap.size f i∧
   ((s.pre enc C.prog fn conds apart (w.forCall tape i).memory i.args∧X (w.forCall tape i).memory i.args)∧sizedMet enc C.prog fn (OpenSpec.ofChange s) apart (w.forCall tape i).memory i.args)∧a.holds C.prog (lone (Frame.enter C.prog f i.args .normal) [] (w.forCall tape i)))
  (Uk:∀ (W:World) (base:Nat) (args:Array Value) (ds gs:List (DataW H)) (before:List MemPlace),
   (∀ (j:Nat) t v,fn.params[j]? = some t→args[j]? = some v→Value.okWide C.prog W .any base t v)→
   DataW.Whole enc C.prog fn.params.toList s.vars apart W args.toList ds gs before→
   W.ShapedOpen C.prog→X W args→
   Calls C.prog f args W fun e W'=>∃ v,e = .returned v∧s.post enc C.prog fn apart fresh handsOn again W args v W') :
  ReturnsInHanded a C os f .any (fun w args=>(s.pre enc C.prog fn conds apart w args∧X w args)∧sizedMet enc C.prog fn (OpenSpec.ofChange s) apart w args) (s.post enc C.prog fn apart fresh handsOn again):=by
 refine returnsInHanded_of_calls own started Uj witness ?_
 intro w tape i _ gm _ bb nT aae
 obtain ⟨_,_,_,Ul,Um,_,_,_,_,r_⟩:=bb
 have e:Ul=fn:=Option.some.inj (Um.symm.trans sq)
 subst e
 obtain ⟨⟨⟨ds,gs,before,hw,hc⟩,hx⟩,hz⟩:=nT
 have Un:=DataW.Whole.of_heap (w':=w.forCall tape i) (by rfl) hw
 refine (Uk (w.forCall tape i) w.heap.size i.args ds gs before r_ Un gm (hX _ _ _ (by rfl) hx)).mono fun e W' ⟨v,he,hp⟩=>?_
 subst he
 exact ChangeSpec.post_blind hp
end Go.Am
namespace Go.Am
open Go
open Go.Maps (Keyed)
theorem L2 {α:Type} {f:Oper→Option α} : ∀ (ops:List Oper) (i0:Nat) {i:Nat} {x:α},qb f ops i0=some (i,x)→∃ (j:Nat) (o:Oper),i=i0+j∧ops[j]? = some o∧f o=some x
 | [],_,_,_,h=>by simp [qb] at h
 | o::r,i0,i,x,h=>by
  unfold qb at h
  split at h
  ·rename_i y hy
   simp only [Option.some.injEq,Prod.mk.injEq] at h
   obtain ⟨rfl,rfl⟩:=h
   exact ⟨0,o,rfl,rfl,hy⟩
  ·obtain ⟨j,o',h1,h2,h3⟩:=L2 r (i0+1) h
   exact ⟨j+1,o',by omega,by simpa using h2,h3⟩
theorem Bu {α:Type} {f:Oper→Option α} {ops:List Oper} {i:Nat} {x:α} (h:qb f ops 0=some (i,x)):∃ o:Oper,ops[i]? = some o∧f o=some x:=by
 obtain ⟨j,o,h1,h2,h3⟩:=L2 ops 0 h
 obtain rfl:i=j:=by omega
 exact ⟨o,h2,h3⟩
theorem Hf {α:Type} {f:Nat→Oper→Option α} : ∀ (ops:List Oper) (i0:Nat) {x:α},x∈rH f ops i0→∃ (j:Nat) (o:Oper),ops[j]? = some o∧f (i0+j) o=some x
 | [],_,_,h=>by simp [rH] at h
 | o::r,i0,x,h=>by
  unfold rH at h
  split at h
  ·rename_i y hy
   rcases List.mem_cons.1 h with rfl | h
   ·exact ⟨0,o,rfl,hy⟩
   ·obtain ⟨j,o',h2,h3⟩:=Hf r (i0+1) h
    exact ⟨j+1,o',by simpa using h2,by rw [show i0+(j+1)=i0+1+j by omega]; exact h3⟩
  ·obtain ⟨j,o',h2,h3⟩:=Hf r (i0+1) h
   exact ⟨j+1,o',by simpa using h2,by rw [show i0+(j+1)=i0+1+j by omega]; exact h3⟩
theorem L3 {f : Nat → Oper → Bool} : ∀ (ops : List Oper) (i0 : Nat), Cv f ops i0 = true → ∀ (j : Nat) (o : Oper), ops[j]? = some o → f (i0 + j) o = true
  | [], _, _, j, o, h => by simp at h
  | o :: r, i0, h, j, o', hj => by
    unfold Cv at h
    simp only [Bool.and_eq_true] at h
    cases j with
    | zero => obtain rfl : o = o' := by simpa using hj
              exact h.1
    | succ j =>
      have := L3 r (i0 + 1) h.2 j o' (by simpa using hj)
      rw [show i0 + (j + 1) = i0 + 1 + j by omega]; exact this
theorem L4:∀ a:List UInt8,Ct a a=true
 | []=>rfl
 | x::r=>by simp [Ct,L4 r]
theorem L5:∀ {l:List lW},Cu l=true→∀ {x y:lW},x∈l→y∈l→x.key=y.key→x=y
 | [],_,x,_,hx,_,_=>by simp at hx
 | z::r,h,x,y,hx,hy,e=>by
  unfold Cu at h
  simp only [Bool.and_eq_true,List.all_eq_true,Bool.not_eq_true'] at h
  have key:∀ u∈r,z.key≠u.key:=fun u hu e=>by
   have:=h.1 u hu
   rw [e,L4] at this
   simp at this
  rcases List.mem_cons.1 hx with h1 | h1<;>rcases List.mem_cons.1 hy with h2 | h2
  ·rw [h1,h2]
  ·rw [h1] at e; exact absurd e (key y h2)
  ·rw [h2] at e; exact absurd e.symm (key x h1)
  ·exact L5 h.2 h1 h2 e
theorem Uo {o:Oper} {j:Nat} (h:j9 o j=true):∃ e∈o.after.toList,Region.binds .any e=true∧e.on=j:=by
 unfold j9 at h
 obtain ⟨e,h1,h2⟩:=List.any_eq_true.1 h
 simp only [Bool.and_eq_true] at h2
 exact ⟨e,h1,h2.1,Nat.eq_of_beq_eq_true h2.2⟩
theorem Hg {f:Oper→Bool} {i:Nat} {ops:List Oper} (h:Ab f i ops=true):∃ o:Oper,ops[i]? = some o∧f o=true:=by
 unfold Ab at h
 split at h
 ·rename_i o ho; exact ⟨o,ho,h⟩
 ·cases h
theorem DX {t:Nat} {o:Oper} : qc t o=true↔o.dst=some t:=by
 unfold qc
 cases o.dst with
 | none=>simp
 | some d=>simp only [Nat.beq_eq,Option.some.injEq]
theorem L6 {ρ:Type} {r:ρ} {s:List UInt8} {f:Nat→Option ρ} : ∀ {l:List lW},Ad s f l=some r→∃ x∈l,x.key=s∧f x.v=some r
 | [],h=>by simp [Ad] at h
 | x::l,h=>by
  unfold Ad at h
  by_cases hk:s=x.key
  ·rw [decide_eq_true hk] at h
   exact ⟨x,by simp,hk.symm,h⟩
  ·rw [decide_eq_false hk] at h
   obtain ⟨y,h1,h2,h3⟩:=L6 h
   exact ⟨y,by simp [h1],h2,h3⟩
structure Hh (T:Nat) (ops:List Oper) (mf:rG):Prop where
 guard:∀ (i:Nat) (o:Oper),ops[i]? = some o→o.guard=none
 make:∀ (i:Nat) (o:Oper) t r,ops[i]? = some o→o.op = .makeMap t r→t=T∧r=none∧i=mf.im∧o.dst=some mf.tm
 insert:∀ (i:Nat) (o:Oper) t m k v,ops[i]? = some o→o.op = .insert t m k v→t=T∧m = .tmp mf.tm∧o.dst=none∧∃ x∈mf.ins,∃ s:ByteArray,x.i=i∧k = .const (.string s)∧s.data.toList=x.key∧s.size≤1000∧v = .tmp x.v∧j9 o mf.im=true∧j9 o x.p=true
 look:∀ (i:Nat) (o:Oper) t m k c,ops[i]? = some o→o.op = .lookup t m k c→t=T∧m = .tmp mf.tk∧k = .tmp mf.tq∧c=false∧i=mf.il∧j9 o mf.ik=true∧j9 o mf.iq=true
 move:∃ o:Oper,ops[mf.ik]? = some o∧o.op = .move (.tmp mf.tm)∧o.dst=some mf.tk∧j9 o mf.im=true∧∀ x∈mf.ins,j9 o x.i=true
 src:∃ o:Oper,ops[mf.iq]? = some o∧o.op = .move (.tmp mf.t1)∧o.dst=some mf.tq
 prod:∀ x∈mf.ins,∃ o:Oper,ops[x.p]? = some o∧o.dst=some x.v
 Hi:∀ (i:Nat) (o:Oper),ops[i]? = some o→o.dst=some mf.tm→i=mf.im
 Hj:∀ (i:Nat) (o:Oper),ops[i]? = some o→o.dst=some mf.tk→i=mf.ik
 Hk:∀ (i:Nat) (o:Oper),ops[i]? = some o→o.dst=some mf.tq→i=mf.iq
 Bv:∀ (i:Nat) (o:Oper),ops[i]? = some o→o.dst≠some mf.t1
 dv:∀ x∈mf.ins,∀ (i:Nat) (o:Oper),ops[i]? = some o→o.dst=some x.v→i=x.p
 keys:∀ x∈mf.ins,∀ y∈mf.ins,x.key=y.key→x=y
 Up:mf.ins.length≤1000
 Hl:∃ (o:Oper) (t:Nat) (r:Option Operand),ops[mf.im]? = some o∧o.op = .makeMap t r
 DY:∀ x∈mf.ins,∃ (o:Oper) (t:Nat) (m v:Operand) (s:ByteArray),ops[x.i]? = some o∧o.op = .insert t m (.const (.string s)) v∧s.data.toList=x.key
theorem Uq {T:Nat} {ops:List Oper} {mf:rG} (hf:Aa ops=some mf) (h:Ac T ops mf=true):Hh T ops mf:=by
 unfold Aa at hf
 split at hf
 ·cases hf
 rename_i im tm e1
 split at hf
 ·cases hf
 rename_i ik tk e2
 split at hf
 ·cases hf
 rename_i il tq e3
 split at hf
 ·cases hf
 rename_i iq t1 e4
 obtain rfl:=Option.some.inj hf
 unfold Ac at h
 simp only [Bool.and_eq_true,List.all_eq_true] at h
 obtain ⟨h1,h2,h3,h4,h5,h6⟩:=h
 have hp:∀ (i:Nat) (o:Oper),ops[i]? = some o→yb T ⟨im,tm,ik,tk,iq,tq,t1,il,rH (z8 ops) ops 0⟩ i o=true:=fun i o ho=>by
  have:=L3 ops 0 h1 i o ho
  rwa [Nat.zero_add] at this
 have l7:∀ x∈rH (z8 ops) ops 0,∃ (o:Oper) (t:Nat) (m:Nat) (s:ByteArray),ops[x.i]? = some o∧o.op = .insert t (.tmp m) (.const (.string s)) (.tmp x.v)∧x.key=s.data.toList∧∃ op:Oper,ops[x.p]? = some op∧op.dst=some x.v:=fun x hx=>by
  obtain ⟨j,o,ho,mT⟩:=Hf ops 0 hx
  rw [Nat.zero_add] at mT
  unfold z8 at mT
  split at mT
  ·rename_i t m s v aw
   split at mT
   ·rename_i p u ua
    obtain rfl:=Option.some.inj mT
    obtain ⟨op,h7,h8⟩:=Bu ua
    refine ⟨o,t,m,s,ho,aw,rfl,op,h7,?_⟩
    unfold Je at h8
    split at h8
    ·rename_i hd; exact DX.1 hd
    ·cases h8
   ·cases mT
  ·cases mT
 have dL:∀ (i:Nat) (o:Oper),ops[i]? = some o→o.guard=none∧(o.dst=some tm→i=im)∧(o.dst=some tk→i=ik)∧(o.dst=some tq→i=iq)∧o.dst≠some t1∧∀ x∈rH (z8 ops) ops 0,o.dst=some x.v→i=x.p:=fun i o ho=>by
  have:=hp i o ho
  unfold yb at this
  simp only [Bool.and_eq_true,Bool.or_eq_true,Bool.not_eq_true',List.all_eq_true] at this
  obtain ⟨⟨g1,-⟩,g2,g3,g4,g5,g6⟩:=this
  have q:∀ {t j:Nat},(qc t o=false∨Nat.beq i j=true)→o.dst=some t→i=j:=fun h hd=>by
   rcases h with h | h
   ·rw [DX.2 hd] at h; cases h
   ·exact Nat.eq_of_beq_eq_true h
  refine ⟨by simpa using g1,q g2,q g3,q g4,fun hd=>?_,fun x hx=>q (g6 x hx)⟩
  rw [DX.2 hd] at g5; cases g5
 refine ⟨fun i o ho=>(dL i o ho).1,fun i o t r ho aw=>?_,fun i o t m k v ho aw=>?_,fun i o t m k c ho aw=>?_,?_,?_,fun x hx=>?_,fun i o ho=>(dL i o ho).2.1,fun i o ho=>(dL i o ho).2.2.1,fun i o ho=>(dL i o ho).2.2.2.1,fun i o ho=>(dL i o ho).2.2.2.2.1,fun x hx i o ho=>(dL i o ho).2.2.2.2.2 x hx,fun x hx y hy=>L5 h5 hx hy,Nat.le_of_ble_eq_true h6,?_,fun x hx=>?_⟩
 ·have:=hp i o ho
  unfold yb at this
  simp only [Bool.and_eq_true] at this
  have h7:=this.1.2
  rw [aw] at h7
  cases r with
  | some r=>cases h7
  | none=>
   simp only [Bool.and_eq_true] at h7
   have hi:=Nat.eq_of_beq_eq_true h7.2
   obtain ⟨o',h8,h9⟩:=Bu e1
   have hi:i=im:=hi
   subst hi
   rw [ho] at h8
   obtain rfl:=Option.some.inj h8
   unfold EV at h9
   rw [aw] at h9
   exact ⟨Nat.eq_of_beq_eq_true h7.1,rfl,rfl,h9⟩
 ·have:=hp i o ho
  unfold yb at this
  simp only [Bool.and_eq_true] at this
  have h7:=this.1.2
  rw [aw] at h7
  obtain ⟨m',rfl⟩:∃ m',m = .tmp m':=by cases m<;>first | exact ⟨_,rfl⟩ | (cases h7; done) | (exfalso; revert h7; simp)
  obtain ⟨s',rfl⟩:∃ s',k = .const (.string s'):=by
   cases k with
   | const cv=>cases cv<;>first | exact ⟨_,rfl⟩ | (cases h7; done) | (exfalso; revert h7; simp)
   | _=>first | (cases h7; done) | (exfalso; revert h7; simp)
  obtain ⟨v',rfl⟩:∃ v',v = .tmp v':=by cases v<;>first | exact ⟨_,rfl⟩ | (cases h7; done) | (exfalso; revert h7; simp)
  ·skip
   simp only [Bool.and_eq_true] at h7
   obtain ⟨q1,q2,q3,q4,q5⟩:=h7
   obtain ⟨x,hx,zb⟩:=List.any_eq_true.1 q4
   have zb:=Nat.eq_of_beq_eq_true zb
   obtain ⟨o',t',m'',Ur,r1,r2,r3,-⟩:=l7 x hx
   rw [zb,ho] at r1
   obtain rfl:=Option.some.inj r1
   rw [aw] at r2
   injection r2 with b1 b2 b3 b4
   have b5:s'=Ur:=by injection b3 with b3; injection b3
   subst b5
   obtain ⟨o2,h8,h9⟩:=Hg (h4 x hx)
   rw [zb,ho] at h8
   obtain rfl:=Option.some.inj h8
   simp only [Bool.and_eq_true] at h9
   refine ⟨Nat.eq_of_beq_eq_true q1,by rw [Nat.eq_of_beq_eq_true q2],by simpa using q3,x,hx,s',zb,rfl,r3.symm,?_,b4,h9.1,h9.2⟩
   have:s'.data.toList.length≤1000:=Nat.le_of_ble_eq_true q5
   show s'.data.size≤1000
   rw [← Array.length_toList]; exact this
 ·have:=hp i o ho
  unfold yb at this
  simp only [Bool.and_eq_true] at this
  have h7:=this.1.2
  rw [aw] at h7
  obtain ⟨m',rfl⟩:∃ m',m = .tmp m':=by cases m<;>first | exact ⟨_,rfl⟩ | (cases h7; done) | (exfalso; revert h7; simp)
  obtain ⟨k',rfl⟩:∃ k',k = .tmp k':=by cases k<;>first | exact ⟨_,rfl⟩ | (cases h7; done) | (exfalso; revert h7; simp)
  obtain rfl:c=false:=by cases c<;>first | rfl | (cases h7; done) | (exfalso; revert h7; simp)
  ·simp only [Bool.and_eq_true] at h7
   obtain ⟨q1,q2,q3,q4⟩:=h7
   have q2:=Nat.eq_of_beq_eq_true q2
   obtain ⟨o2,h8,h9⟩:=Hg h3
   have q2:i=il:=q2
   subst q2
   rw [ho] at h8
   obtain rfl:=Option.some.inj h8
   simp only [Bool.and_eq_true] at h9
   exact ⟨Nat.eq_of_beq_eq_true q1,by rw [Nat.eq_of_beq_eq_true q3],by rw [Nat.eq_of_beq_eq_true q4],rfl,rfl,h9.1,h9.2⟩
 ·obtain ⟨o,h8,h9⟩:=Bu e2
  unfold Jc at h9
  split at h9
  ·rename_i s aw
   split at h9
   ·rename_i hs
    obtain ⟨o2,iv,gE⟩:=Hg h2
    rw [h8] at iv
    obtain rfl:=Option.some.inj iv
    simp only [Bool.and_eq_true] at gE
    exact ⟨o,h8,by rw [aw,Nat.eq_of_beq_eq_true hs],h9,gE.1,List.all_eq_true.1 gE.2⟩
   ·cases h9
  ·cases h9
 ·obtain ⟨o,h8,h9⟩:=Bu e4
  unfold Jd at h9
  split at h9
  ·rename_i s aw
   split at h9
   ·rename_i hs
    obtain rfl:=Option.some.inj h9
    exact ⟨o,h8,aw,DX.1 hs⟩
   ·cases h9
  ·cases h9
 ·obtain ⟨o,t,m,s,-,-,-,op,h7,h8⟩:=l7 x hx
  exact ⟨op,h7,h8⟩
 ·obtain ⟨o,h8,h9⟩:=Bu e1
  unfold EV at h9
  split at h9
  ·rename_i t aw; exact ⟨o,t,none,h8,aw⟩
  ·cases h9
 ·obtain ⟨o,t,m,s,h7,h8,h9,-⟩:=l7 x hx
  exact ⟨o,t,_,_,s,h7,h8,h9.symm⟩
section
variable {P:Program} {c:aP} {w0:World} {F:bt} {N:Nat} {g g':Gh} {w w':World} {U U':Nat→Prop} {st:St} {a:Act}
theorem Us (hc:eu P c) (hG:Gl P F w0) {all:List Oper} (hN:∀ o∈all,∀ x,o.dst=some x→x<N) {es:List bU} (D0:lu c all st all.length es) (hp:mS es.length.pred es=true)
  {g0:Gh} {U0:Nat→Prop} {D:Nat→Bool} {i:Nat} {o:Oper} (ho:all[i]? = some o) (pn:o.guard=none) (hi:D i=false) (hr:∀ e∈o.after.toList,Region.binds .any e=true→D e.on=true)
  (I:Inv w0 F N g0 U0 st es D g U a w):∃ e,dF es i=some e∧¬ U (st.nxt+i)∧
   (∃ rs,cB P c g w U rs a∧dk c rs (st.nxt+i) o.op some=some e.aT∧∀ t∈jl o.op.operands.toList,look rs.env t=look (bD st D es).env t)∧
   (∀ v w' g' U',cR g w U (st.nxt+i) e.aT v w' g' U'→Inv w0 F N g0 U0 st es (fun j=>D j||j==i) g' U' (a.put o.dst v) w'):=by
 have hlen:=D0.len
 have Bh:i<es.length:=by rw [hlen]; exact (List.getElem?_eq_some_iff.1 ho).1
 obtain ⟨e,he⟩:∃ e,dF es i=some e:=⟨_,List.getElem?_eq_getElem (by simpa using Bh)⟩
 obtain ⟨fs,pre,o',kj,nT,fL,hf⟩:=D0.at i e he
 rw [ho] at fL
 obtain rfl:=Option.some.inj fL
 have sv:∀ m,Nat.testBit e.mask m=true→m<i∧D m=true:=by
  intro m hm
  rw [hf.mask] at hm
  obtain ⟨ed,h1,h2,h3,h4⟩:=GP _ hm
  have hD:=hr ed h1 h2
  rcases h4 with rfl | h4
  ·exact ⟨h3,hD⟩
  ·have ao:ed.on<pre.length:=by omega
   obtain ⟨f,wT⟩:∃ f,dF pre ed.on=some f:=⟨_,List.getElem?_eq_getElem (by simpa using ao)⟩
   have AJ:(pre.reverse.map (·.mask)).getD ed.on 0=f.mask:=by
    rw [List.getD_eq_getElem?_getD,List.getElem?_map]
    unfold dF at wT
    rw [wT]; rfl
   rw [AJ] at h4
   have:=I.sd ed.on f (by rw [kj,LB ao]; exact wT) hD m h4
   exact ⟨by omega,this.2⟩
 have sw:∀ j f,dF es j=some f→D j=true→Nat.testBit e.mask j=false→Bg e f∨Bg f e:=by
  intro j f hj ea hm
  have av:j≠i:=fun h=>by subst h; rw [hi] at ea; simp at ea
  rcases Nat.lt_or_gt_of_ne av with h | h
  ·rcases Bf es hp j i f e h hj he with h1 | h1
   ·rw [hm] at h1; simp at h1
   ·exact .inl (DR h1)
  ·rcases Bf es hp i j e f h he hj with h1 | h1
   ·have:=(I.sd j f hj ea i h1).2
    rw [hi] at this; simp at this
   ·exact .inr (DR h1)
 have wU:∀ j,pre.length≤j→Nat.testBit e.mask j=false:=by
  intro j hj
  cases h:Nat.testBit e.mask j with
  | false=>rfl
  | true=>have:=(sv j h).1; omega
 have DT:jC st e.mask i.pred pre=bD st (Nat.testBit e.mask) es:=by
  rw [GL pre i nT,kj]
  exact (GN (fs++[e]) pre wU).symm.trans (by rw [List.append_assoc]; rfl)
 have yV:∀ t,(t∈e.lT)→look (bD st (Nat.testBit e.mask) es).env t=look (bD st D es).env t:=by
  intro t ht
  refine Bd es (fun j f hj=>?_)
  cases hm:Nat.testBit e.mask j with
  | true=>exact .inl (sv j hm).2.symm
  | false=>
   cases ea:D j with
   | false=>exact .inl rfl
   | true=>
    refine .inr (fun hd=>?_)
    rcases sw j f hj ea hm with hq | hq
    ·exact hq.u2 t hd ht
    ·exact hq.u1 t hd ht
 have Bi:∀ id,id∈e.reads→(bD st (Nat.testBit e.mask) es).obj id=(bD st D es).obj id:=by
  intro id hid
  refine Be es (fun j f hj=>?_)
  cases hm:Nat.testBit e.mask j with
  | true=>exact .inl (sv j hm).2.symm
  | false=>
   cases ea:D j with
   | false=>exact .inl rfl
   | true=>
    refine .inr (fun hd=>?_)
    rcases sw j f hj ea hm with hq | hq
    ·exact hq.t2 id hd hid
    ·exact hq.t1 id hd hid
 have later:∀ j f,i<j→dF es j=some f→∀ {t:Nat},((e.dst≠some t→False)→(fun j=>D j||j==i) j=false∨f.dst≠some t):=by
  intro j f hj iy t ht
  cases ea:D j with
  | false=>exact .inl (by first | (show (D j||j==i)=false; rw [ea]; simp; omega) | (show (false||j==i)=false; simp; omega) | (simp [ea]; omega))
  | true=>
   have hm:Nat.testBit e.mask j=false:=wU j (by omega)
   have Bj:e.dst=some t:=Classical.not_not.1 ht
   rcases sw j f iy ea hm with hq | hq
   ·exact .inr (hq.d1 t Bj)
   ·exact .inr (fun h=>hq.d1 t h Bj)
 have Bk:¬ U (st.nxt+i):=by
  intro h
  rcases I.used _ h with h | ⟨j,h1,h2,h3⟩
  ·omega
  ·have:j=i:=by omega
   subst this; rw [hi] at h2; simp at h2
 have after:∀ v w' g' U',cR g w U (st.nxt+i) e.aT v w' g' U'→Inv w0 F N g0 U0 st es (fun j=>D j||j==i) g' U' (a.put o.dst v) w':=by
  intro v w' g' U' kG
  refine ⟨?_,fun s h=>?_,fun j f hj ea m hm=>?_,fun s h=>kG.gh.sub s (I.sub s h),fun id ver p h1 h2=>?_⟩
  ·refine I.rel.GR (hN o (List.mem_of_getElem? ho)) kG (fun t=>?_) (fun id=>?_) (fun s h=>?_)
   ·by_cases jK:o.dst=some t
    ·rw [if_pos jK]
     show look (bD st (fun j=>D j||j==i) es).env t=_
     have fl:look (bD st (fun j=>D j||j==i) es).env t=look (bD st (fun j=>D j||j==i) (e::pre)).env t:=by
      rw [kj]
      refine GS (e::pre) fs (fun j f hj iy=>?_)
      rw [← kj] at iy
      simp only [List.length_cons] at hj
      exact later j f (by omega) iy (fun hd=>hd (by rw [hf.dst]; exact jK))
     rw [fl]
     simp only [bD,nT,beq_self_eq_true,Bool.or_true,ur]
     rw [if_pos (by rw [hf.dst]; exact jK)]
    ·rw [if_neg jK]
     refine Bd es (fun j f hj=>?_)
     by_cases eO:j=i
     ·subst eO
      rw [he] at hj
      obtain rfl:=Option.some.inj hj
      exact .inr (by rw [hf.dst]; exact jK)
     ·exact .inl (by simp [eO])
   ·show (bD st (fun j=>D j||j==i) es).obj id=_
    cases gM:look e.aT.aE id with
    | none=>
     refine Be es (fun j f hj=>?_)
     by_cases eO:j=i
     ·subst eO
      rw [he] at hj
      obtain rfl:=Option.some.inj hj
      refine .inr (fun hm=>?_)
      obtain ⟨q,hq,sa⟩:=List.mem_map.1 hm
      exact LC hq sa gM
     ·exact .inl (by simp [eO])
    | some x=>
     have fl:(bD st (fun j=>D j||j==i) es).obj id=(bD st (fun j=>D j||j==i) (e::pre)).obj id:=by
      rw [kj]
      refine GU (e::pre) fs (fun j f hj iy=>?_)
      rw [← kj] at iy
      simp only [List.length_cons] at hj
      cases ea:D j with
      | false=>exact .inl (by first | (show (D j||j==i)=false; rw [ea]; simp; omega) | (show (false||j==i)=false; simp; omega) | (simp [ea]; omega))
      | true=>
       have hm:Nat.testBit e.mask j=false:=wU j (by omega)
       have hid:id∈lV e:=List.mem_map.2 ⟨_,iN gM,rfl⟩
       rcases sw j f iy ea hm with hq | hq
       ·exact .inr (fun h=>hq.t3 id hid h)
       ·exact .inr (fun h=>hq.t3 id h hid)
     rw [fl]
     simp only [bD,nT,beq_self_eq_true,Bool.or_true,yU,gM]
   ·rcases kG.used s h with h | h
    ·have:=I.rel.used s h; exact this
    ·show s<st.nxt+es.length; omega
  ·rcases kG.used s h with h | h
   ·rcases I.used s h with h | ⟨j,h1,h2,h3⟩
    ·exact .inl h
    ·exact .inr ⟨j,h1,by simp [h2],h3⟩
   ·exact .inr ⟨i,Bh,by simp,h⟩
  ·by_cases eO:j=i
   ·subst eO
    rw [he] at hj
    obtain rfl:=Option.some.inj hj
    obtain ⟨h1,h2⟩:=sv m hm
    exact ⟨h1,by simp [h2]⟩
   ·have GV:D j=true:=by simpa [eO] using ea
    obtain ⟨h1,h2⟩:=I.sd j f hj GV m hm
    exact ⟨h1,by simp [h2]⟩
  ·rw [kG.gh.hd _ _ _ (I.sub _ h1) (I.sub _ h2),I.hd id ver p h1 h2]
 obtain ⟨runs,hg,yW⟩:=hf.act
 rw [pn] at hg
 have hg:runs=true:=hg
 subst hg
 obtain ⟨hu,kH⟩:=yW
 rw [DT] at kH
 have S:cB P c g w U (restrict (bD st (Nat.testBit e.mask) es) (jl o.op.operands.toList) e.reads) a:=by
  refine ⟨hc,fun t v h=>?_,fun id ob h=>?_,I.rel.bB,I.rel.u0,I.rel.ky,fun id h=>?_,I.rel.gl hG⟩
  ·rw [show (restrict (bD st (Nat.testBit e.mask) es) (jl o.op.operands.toList) e.reads).env=gg (bD st (Nat.testBit e.mask) es) (jl o.op.operands.toList) from rfl,yI] at h
   split at h
   ·rename_i ht
    rw [yV t (hu t ht)] at h
    exact I.rel.env t v h
   ·simp at h
  ·have h':(if id∈e.reads then (bD st (Nat.testBit e.mask) es).obj id else none)=some ob:=by rw [← wM]; exact h
   split at h'
   ·rename_i hid
    rw [Bi id hid] at h'
    exact I.rel.heap id ob h'
   ·simp at h'
  ·have h':(if id∈e.reads then (bD st (Nat.testBit e.mask) es).obj id else none)≠none:=by rw [← wM]; exact h
   split at h'
   ·rename_i hid
    rw [Bi id hid] at h'
    exact I.rel.nf id h'
   ·exact absurd rfl h'
 refine ⟨e,he,Bk,⟨_,S,kH,fun t ht=>?_⟩,after⟩
 rw [show (restrict (bD st (Nat.testBit e.mask) es) (jl o.op.operands.toList) e.reads).env=gg (bD st (Nat.testBit e.mask) es) (jl o.op.operands.toList) from rfl,yI,if_pos ht]
 exact yV t (hu t ht)
theorem Ut {ops:Array Oper} {all:List Oper} (w_:all.length=ops.size) (Uu:∀ (i:Nat) (o:Oper),ops[i]? = some o→∃ o':Oper,all[i]? = some o'∧o'.after=o.after) {es:List bU} (D0:lu c all st all.length es)
  {g0:Gh} {U0:Nat→Prop} {Q:Exit→Act→World→Prop} {J:(Nat→Bool)→Act→World→Prop}
  (hS:∀ (D:Nat→Bool) (a:Act) (w:World) (g:Gh) (U:Nat→Prop) (i:Nat) (o:Oper),ops[i]? = some o→D i=false→(∀ e∈o.after.toList,Region.binds .any e=true→D e.on=true)→Inv w0 F N g0 U0 st es D g U a w→J D a w→∀ K:Act→World→Prop,
   (∀ a' w' g' U',Inv w0 F N g0 U0 st es (fun j=>D j||j==i) g' U' a' w'→J (fun j=>D j||j==i) a' w'→K a' w')→if Region.wanted o (yielded ops a.tmps) then o.wp P a w K Q∨(o.asks P a w∧LetsOut Q) else K (a.put o.dst undef) w)
  (hQ:∀ a' w' g' U' (D:Nat→Bool),(∀ i,i<es.length→D i=true)→Inv w0 F N g0 U0 st es D g' U' a' w'→Q .normal a' w') :
  ∀ (fuel:Nat) (listed:Array Bool) (a:Act) (w:World) (g:Gh) (U:Nat→Prop),listed.size=ops.size→iO (fun i=>listed.getD i true) ops.size≤fuel→
   Inv w0 F N g0 U0 st es (fun i=>listed.getD i true) g U a w→J (fun i=>listed.getD i true) a w→wpAny P .any ops Q fuel listed a w:=by
 have hlen:=D0.len
 have kj:es.length=ops.size:=by rw [hlen]; exact w_
 intro fuel
 have ready:∀ (listed:Array Bool) (i:Nat),i∈Region.ready .any ops listed→i<ops.size∧listed.getD i true=false∧∀ o,ops[i]? = some o→∀ e∈o.after.toList,Region.binds .any e=true→listed.getD e.on false=true:=by
  intro listed i h
  unfold Region.ready at h
  obtain ⟨h1,h2⟩:=List.mem_filter.1 h
  simp only [Bool.and_eq_true,Bool.not_eq_true'] at h2
  refine ⟨by simpa using h1,h2.1,fun o ho e he hb=>?_⟩
  have h3:=h2.2
  rw [ho] at h3
  simp only [Option.map_some,Option.getD_some] at h3
  have:=(Array.all_eq_true'.1 h3) e (by simpa using he)
  simpa [hb] using this
 have least:∀ (listed:Array Bool),listed.size=ops.size→Region.ready .any ops listed=[]→∀ i,i<ops.size→listed.getD i true=true:=by
  intro listed hs hr
  refine yX ops.size ?_
  by_cases h0:iO (fun i=>listed.getD i true) ops.size=0
  ·exact h0
  ·exfalso
   obtain ⟨i,h1,h2,h3⟩:=GX _ h0
   have bV:i∈Region.ready .any ops listed:=by
    unfold Region.ready
    refine List.mem_filter.2 ⟨by simpa using h1,?_⟩
    obtain ⟨o,ho⟩:∃ o,ops[i]? = some o:=⟨_,Array.getElem?_eq_getElem h1⟩
    obtain ⟨o'',fL,Uv⟩:=Uu i o ho
    obtain ⟨e,he⟩:∃ e,dF es i=some e:=⟨_,List.getElem?_eq_getElem (by simpa [kj] using h1)⟩
    obtain ⟨fs,pre,o',-,-,pj,hf⟩:=D0.at i e he
    rw [fL] at pj
    obtain rfl:=Option.some.inj pj
    simp only [h2,Bool.not_false,Bool.true_and,ho,Option.map_some,Option.getD_some]
    refine Array.all_eq_true'.2 (fun ed yT=>?_)
    cases hb:Region.binds .any ed with
    | false=>rfl
    | true=>
     have ao:=GQ hf.Lx ed (by rw [Uv]; simpa using yT) hb
     have:=h3 ed.on ao
     simp only [Bool.not_true,Bool.false_or]
     have GY:ed.on<listed.size:=by omega
     simpa [Array.getD_eq_getD_getElem?,Array.getElem?_eq_getElem GY] using this
   rw [hr] at bV
   simp at bV
 induction fuel with
 | zero=>
  intro listed a w g U hs Bl I hJ
  have eM:=yX ops.size (Nat.le_zero.1 Bl)
  refine ⟨?_,hQ a w g U _ (fun i hi=>eM i (by omega)) I⟩
  cases hr:Region.ready .any ops listed with
  | nil=>rfl
  | cons i l=>
   obtain ⟨h1,h2,-⟩:=ready listed i (by rw [hr]; simp)
   rw [eM i h1] at h2
   simp at h2
 | succ fuel ih=>
  intro listed a w g U hs Bl I hJ
  refine ⟨fun hr=>hQ a w g U _ (fun i hi=>least listed hs hr i (by omega)) I,fun i hi=>?_⟩
  obtain ⟨h1,h2,h3⟩:=ready listed i hi
  obtain ⟨o,ho⟩:∃ o,ops[i]? = some o:=⟨_,Array.getElem?_eq_getElem h1⟩
  unfold wpOp
  rw [ho]
  simp only
  have jG:∀ j,(listed.setIfInBounds i true).getD j true=(listed.getD j true||j==i):=by
   intro j
   simp only [Array.getD_eq_getD_getElem?,Array.getElem?_setIfInBounds]
   by_cases eO:i=j
   ·subst eO
    rw [if_pos rfl]
    simp [hs,h1]
   ·rw [if_neg eO]
    have:(j==i)=false:=by simp; exact fun e=>eO e.symm
    rw [this,Bool.or_false]
  have e:(fun j=>(listed.setIfInBounds i true).getD j true)=(fun j=>listed.getD j true||j==i):=funext jG
  refine hS (fun i=>listed.getD i true) a w g U i o ho h2 (fun e he hb=>?_) I hJ _ (fun a' w' g' U' I' J'=>ih _ a' w' g' U' (by simp [hs]) ?_ (by rw [e]; exact I') (by rw [e]; exact J'))
  ·have hf:=h3 o ho e he hb
   simp only [Array.getD_eq_getD_getElem?] at hf ⊢
   cases hx:listed[e.on]? with
   | none=>rfl
   | some b=>rw [hx] at hf; exact hf
  ·have:=(GW (D:=fun j=>listed.getD j true) h2 ops.size).1 h1
   rw [e]; omega
end
end Go.Am
namespace Go.Am
open Go
open Go.Maps (Keyed)
theorem L7 {w:World} {a:Addr} {v:Value} (h:w.cell? a=some v):a.block<w.heap.size:=by
 rcases Nat.lt_or_ge a.block w.heap.size with hh | hh
 ·exact hh
 ·exfalso
  unfold World.cell? at h
  rw [Array.getElem?_eq_none hh] at h
  simp at h
theorem DZ {w:World} {k:Nat} {o:Obj} (h:w.heap[k]? = some o):k<w.heap.size:=(Array.getElem?_eq_some_iff.1 h).1
structure Hm (P:Program) (T K E:TypeId):Prop where
 L8:P.underlying T=some (.map K E)
 key:P.underlying K=some .string
 el:P.underlying E=some .string
 zero:∀ w,(zeroValue E).run P w = .ok (.string ⟨#[]⟩) w
theorem L9 {H:Type} {P:Program} {e:TypeId} (he:P.underlying e=some .string) {v:Value} {z:DataW H×List MemPlace} (h:plainElem P e v=some z):∃ s:ByteArray,v = .string s∧z=(.lit (.string s.data.toList),[]):=by
 unfold plainElem at h
 rw [he] at h
 cases v<;>simp at h
 exact ⟨_,rfl,h.2.symm⟩
section
variable {H:Type} {P:Program} {k:TypeId} {R:Value→Option (DataW H×List MemPlace)} {w w':World} {b n:Nat} {D:DataW H}
theorem Uw {F:Nat→Nat→Prop} (h:w.ownsMap P k R b n D) (fr:Fr F w w'):w'.ownsMap P k R b n D:=by
 obtain ⟨es,clock,hb,r⟩:=h
 exact ⟨es,clock,fr.kind b _ hb (fun c e f=>by simp),r⟩
theorem Ux (h:w.ownsMap P k R b n D):Maps.IsMap D:=by
 obtain ⟨es,clock,hb,F,hs,hD⟩:=h
 exact ⟨_,hD⟩
theorem Ma (h:w.ownsMap P k R b n D):∃ es clock,w.heap[b]? = some (.map es clock):=by
 obtain ⟨es,clock,hb,r⟩:=h
 exact ⟨es,clock,hb⟩
end
section
variable {P:Program} {c:aP} {w0:World} {F:bt} {N:Nat} {g:Gh} {w w':World} {U:Nat→Prop} {st:St} {a:Act}
theorem Rel.grown (R:Rel w0 F N g U st a w) {b:Nat} {Mb Mc:Array MapEntry} {Md Me:Nat} (h1:w.heap[b]? = some (.map Mb Md)) (h2:w'.heap[b]? = some (.map Mc Me)) (hg:w.grownBy w' (some b)) (hb:w0.heap.size≤b):Rel w0 F N g U st a w':=by
 have kE:∀ b' o,b'<w.heap.size→w'.cell? (ad b' o)=w.cell? (ad b' o)∧w'.frozen? (ad b' o)=w.frozen? (ad b' o):=by
  intro b' o ao
  by_cases e:b'=b
  ·subst e
   unfold World.cell? World.frozen?
   simp [ad,h1,h2]
  ·have:=hg.block b' ao (fun h=>e (Option.some.inj h))
   exact ⟨World.cell?_of_block (w:=w) this,World.frozen?_of_block (w:=w) this⟩
 have S:du (fun _=>False) g w U g w' U:=⟨fun _ h=>h,fun _ _ _ _ _=>rfl,fun b' o hl v hv=>⟨by rw [(kE b' o (L7 hv)).1]; exact hv,hl⟩,fun b' o id p hl _=>⟨hl,kE b' o (R.bB b' o _ hl)⟩⟩
 refine ⟨fun t v h=>S.qe _ _ (R.env t v h),fun id o h=>?_,R.used,fun b o q h=>Nat.lt_of_lt_of_le (R.bB b o q h) hg.size,R.bP,R.kX,?_,R.defers,R.size,R.u0,R.ky,R.nf⟩
 ·obtain ⟨h1,h2⟩:=R.heap id o h
  exact ⟨h1,CE S (fun h=>h) h1 o h2⟩
 ·have hk:∀ k,k<w0.heap.size→w'.heap[k]? = w.heap[k]?:=fun k hk=>hg.block k (Nat.lt_of_lt_of_le hk R.fr.size) (fun e=>by cases e; omega)
  refine ⟨hg.os.trans R.fr.os,hg.tape.trans R.fr.tape,hg.output.trans R.fr.output,Nat.le_trans R.fr.size hg.size,fun k c e f hc=>?_,fun k ao hn=>?_,fun k o ho hn=>?_⟩
  ·rw [hk k (DZ hc)]; exact R.fr.cells k c e f hc
  ·rw [hk k ao]; exact R.fr.block k ao hn
  ·rw [hk k (DZ ho)]; exact R.fr.kind k o ho hn
structure MJ (P:Program) (K E:TypeId) (w0:World) (mf:rG) (s:List UInt8) (es:List bU) (D:Nat→Bool) (a:Act) (w:World):Prop where
 key:a.eval (.tmp mf.t1) = .string ⟨s.toArray⟩
 tq:D mf.iq=true→a.eval (.tmp mf.tq) = .string ⟨s.toArray⟩
 tk:D mf.ik=true→a.eval (.tmp mf.tk)=a.eval (.tmp mf.tm)∧D mf.im=true∧∀ x∈mf.ins,D x.i=true
 done:∀ x∈mf.ins,D x.i=true→D x.p=true∧D mf.im=true
 map:D mf.im=true→∃ (b n:Nat) (Dm:DataW Unit),a.eval (.tmp mf.tm) = .map (some b)∧w0.heap.size≤b∧w.ownsMap P K (plainElem P E) b n Dm∧n≤(mf.ins.filter (fun x=>D x.i)).length∧
  ∀ x∈mf.ins,D x.i=true→∃ e sx,dF es x.p=some e∧e.aT.val = .str sx∧Dm.atKey (.string x.key) (.lit (.string [])) = .lit (.string sx)
theorem D_ {l:List lW} {p q:lW→Bool} (h:∀ x∈l,p x=true→q x=true):(l.filter p).length≤(l.filter q).length:=by
 rw [← List.countP_eq_length_filter,← List.countP_eq_length_filter]
 exact List.countP_mono_left h
theorem Uy {l:List lW} {p q:lW→Bool} (h:∀ x∈l,p x=true→q x=true) {x:lW} (hx:x∈l) (h1:p x=false) (h2:q x=true):(l.filter p).length+1≤(l.filter q).length:=by
 induction l with
 | nil=>cases hx
 | cons y r ih=>
  have hr:∀ x∈r,p x=true→q x=true:=fun z hz=>h z (by simp [hz])
  rcases List.mem_cons.1 hx with rfl | hx
  ·have:=D_ hr
   rw [List.filter_cons,List.filter_cons,if_neg (by simp [h1]),if_pos h2,List.length_cons]
   omega
  ·have ih:=ih hr hx
   rw [List.filter_cons,List.filter_cons]
   by_cases hp:p y=true
   ·rw [if_pos hp,if_pos (h y (by simp) hp),List.length_cons,List.length_cons]; omega
   ·rw [if_neg hp]
    split
    ·rw [List.length_cons]; omega
    ·exact ih
theorem MJ.step {T K E:TypeId} {mf:rG} {s:List UInt8} {es:List bU} {ops:List Oper} {D:Nat→Bool} (M:Hh T ops mf) (J:MJ P K E w0 mf s es D a w) {i:Nat} {o:Oper} (ho:ops[i]? = some o) (hd:∀ x,o.dst=some x→x<a.tmps.size)
  (n1:i≠mf.im) (n2:i≠mf.ik) (n3:i≠mf.iq) (n4:∀ x∈mf.ins,i≠x.i) {F':Nat→Nat→Prop} (fr:Fr F' w w') (v:Value):MJ P K E w0 mf s es (fun j=>D j||j==i) (a.put o.dst v) w':=by
 have ev:∀ t,o.dst≠some t→(a.put o.dst v).eval (.tmp t)=a.eval (.tmp t):=fun t ht=>by rw [sb hd,if_neg ht]
 have dd:∀ {j:Nat},i≠j→(D j||j==i)=true→D j=true:=fun av h=>by
  rw [Bool.or_eq_true] at h
  rcases h with h | h
  ·exact h
  ·exact absurd (by simpa using h:_=i).symm av
 have up:∀ {j:Nat},D j=true→(D j||j==i)=true:=fun h=>by rw [h]; rfl
 have Mf:o.dst≠some mf.tm:=fun h=>n1 (M.Hi i o ho h)
 refine ⟨by rw [ev _ (M.Bv i o ho)]; exact J.key,fun h=>?_,fun h=>?_,fun x hx h=>?_,fun h=>?_⟩
 ·rw [ev _ (fun e=>n3 (M.Hk i o ho e))]; exact J.tq (dd n3 h)
 ·obtain ⟨q1,q2,q3⟩:=J.tk (dd n2 h)
  rw [ev _ (fun e=>n2 (M.Hj i o ho e)),ev _ Mf]
  exact ⟨q1,up q2,fun x hx=>up (q3 x hx)⟩
 ·obtain ⟨q1,q2⟩:=J.done x hx (dd (n4 x hx) h)
  exact ⟨up q1,up q2⟩
 ·obtain ⟨b,n,Dm,q1,q2,q3,q4,q5⟩:=J.map (dd n1 h)
  refine ⟨b,n,Dm,by rw [ev _ Mf]; exact q1,q2,Uw q3 fr,Nat.le_trans q4 (D_ fun x _ h=>up h),fun x hx h=>q5 x hx (dd (n4 x hx) h)⟩
theorem Hn (v:Nat) (o:Oper):(gY v o).dst=o.dst:=by unfold gY; split<;>rfl
theorem Mg (v:Nat) (o:Oper):(gY v o).after=o.after:=by unfold gY; split<;>rfl
theorem Uz (v:Nat) (o:Oper):(gY v o).guard=o.guard:=by unfold gY; split<;>rfl
theorem Mh {ρ:Type} {r:ρ} {es:List bU} {k:Option ρ} : ∀ {l:List lW},Cw es k l=some r→k=some r∧∀ x∈l,∃ e sx,dF es x.i=some e∧e.aT.val = .str sx∧sx.length<aU
 | [],h=>⟨h,fun x hx=>by cases hx⟩
 | x::l,h=>by
  unfold Cw at h
  split at h
  ·rename_i m d s os rs us he
   unfold ab at h
   split at h
   ·rename_i ao
    obtain ⟨h1,h2⟩:=Mh h
    refine ⟨h1,fun y hy=>?_⟩
    rcases List.mem_cons.1 hy with rfl | hy
    ·exact ⟨_,s,he,rfl,ao⟩
    ·exact h2 y hy
   ·cases h
  ·cases h
theorem Mi {st:St} {D:Nat→Bool} {t p:Nat} {f:bU} : ∀ {es:List bU},dF es p=some f→f.dst=some t→D p=true→(∀ j e,dF es j=some e→e.dst=some t→j=p)→look (bD st D es).env t=some f.aT.val
 | [],h,_,_,_=>by simp [dF] at h
 | e::es,h,hd,hD,hu=>by
  rw [mh] at h
  split at h
  ·rename_i ao
   have ih:=Mi (st:=st) (D:=D) h hd hD (fun j e' tU fx=>hu j e' (by
    rw [mh]
    have:j<es.length:=by have:=(List.getElem?_eq_some_iff.1 tU).1; simpa using this
    rw [if_pos this]; exact tU) fx)
   have av:e.dst≠some t:=fun fx=>by
    have:=hu es.length e (by rw [mh]; simp) fx
    omega
   simp only [bD]
   cases D es.length with
   | true=>rw [ur,if_neg av]; exact ih
   | false=>exact ih
  ·split at h
   ·rename_i he
    obtain rfl:=Option.some.inj h
    subst he
    simp only [bD,hD,ur,if_pos hd]
   ·cases h
theorem UA (hm:P.follows .mixedOrders=true) (H:uc P c) (hc:eu P c) {T K E:TypeId} (MT:Hm P T K E) {ρ:Type} {r:ρ} {w0:World} {F:bt} {N:Nat} (id:Nat) (ops:Array Oper) (st:St) (a:Act) (w:World) (g:Gh) (U:Nat→Prop)
  (k:St→Option ρ) (Q:Exit→Act→World→Prop) (hN:∀ o∈ops.toList,∀ x,o.dst=some x→x<N) (hG:Gl P F w0) (R:Rel w0 F N g U st a w) {mf:rG} (M:Hh T ops.toList mf) (e:Ae c mf ops.toList st k=some r)
  (hQ:∀ st' a' w' g' U',Rel w0 F N g' U' st' a' w'→Ext g U st g' U' st'→k st'=some r→Q .normal a' w'):(Code.region id ops true).wp P Q a w:=by
 unfold Ae at e
 split at e
 case h_2=>cases e
 rename_i s hs
 obtain ⟨x0,qp,lZ,e⟩:=L6 e
 obtain ⟨all,eM⟩:∃ all,all=ops.toList.map (gY x0.v):=⟨_,rfl⟩
 rw [← eM] at e
 have w_:all.length=ops.size:=by rw [eM]; simp
 have k9:∀ (i:Nat) (o:Oper),ops[i]? = some o→ops.toList[i]? = some o∧all[i]? = some (gY x0.v o):=fun i o ho=>by
  have h1:ops.toList[i]? = some o:=by rw [Array.getElem?_toList]; exact ho
  refine ⟨h1,?_⟩
  rw [eM,List.getElem?_map,h1]; rfl
 have UB:∀ o∈all,∀ x,o.dst=some x→x<N:=fun o ho x hx=>by
  rw [eM] at ho
  obtain ⟨o',h1,rfl⟩:=List.mem_map.1 ho
  exact hN o' h1 x (by rw [← Hn x0.v o']; exact hx)
 obtain ⟨es,D0,e⟩:=DQ all 0 [] _ .nil rfl e
 have hlen:=D0.len
 split at e
 case h_2=>cases e
 rename_i hp
 obtain ⟨e,UC⟩:=Mh e
 have hp:mS es.length.pred es=true:=by
  have:ops.toList.length-1=es.length.pred:=by rw [hlen,w_]; simp
  rw [← this]; exact hp
 have iy:∀ (i:Nat) (f:bU),dF es i=some f→∃ o,ops.toList[i]? = some o∧f.dst=o.dst:=fun i f hf=>by
  obtain ⟨fs,pre,o',-,-,h3,h4⟩:=D0.at i f hf
  rw [eM,List.getElem?_map] at h3
  obtain ⟨o,h5,h6⟩:=Option.map_eq_some_iff.1 h3
  exact ⟨o,h5,by rw [h4.dst,← h6,Hn]⟩
 have r_:∀ x∈mf.ins,∀ (D:Nat→Bool),D x.p=true→∃ f,dF es x.p=some f∧look (bD st D es).env x.v=some f.aT.val:=fun x hx D hD=>by
  obtain ⟨o,h1,h2⟩:=M.prod x hx
  have ao:x.p<es.length:=by rw [hlen,w_]; have:=(List.getElem?_eq_some_iff.1 h1).1; simpa using this
  obtain ⟨f,hf⟩:∃ f,dF es x.p=some f:=⟨_,List.getElem?_eq_getElem (by simpa using ao)⟩
  obtain ⟨o',h3,h4⟩:=iy x.p f hf
  rw [h1] at h3
  obtain rfl:=Option.some.inj h3
  refine ⟨f,hf,Mi hf (by rw [h4]; exact h2) hD (fun j e' tU fx=>?_)⟩
  obtain ⟨o2,h5,h6⟩:=iy j e' tU
  exact M.dv x hx j o2 h5 (by rw [← h6]; exact fx)
 have Rd:Rel w0 F N g U st a { w with drawn:=w.drawn+1 }:=R.drawn
 have Bw:a.eval (.tmp mf.t1) = .string ⟨s.toArray⟩:=by
  have:=(R.Db hc hG).ev (.tmp mf.t1)
  rw [hs] at this; exact this
 refine wp_region_any hm (Ut (w0:=w0) (F:=F) (N:=N) (J:=MJ P K E w0 mf s es) w_ (fun i o ho=>⟨_,(k9 i o ho).2,Mg _ _⟩) D0 (g0:=g) (U0:=U) (fun D a w g' U' i o ho hi hr I J KK hK=>?_) (fun a' w' g' U' D hD I=>?_) ops.size _ a _ g U (by simp) ?_ ⟨?_,fun s h=>.inl (R.used s h),fun i f hf hi=>?_,fun s h=>h,fun _ _ _ _ _=>rfl⟩ ⟨Bw,fun h=>?_,fun h=>?_,fun x hx h=>?_,fun h=>?_⟩)
 ·
  obtain ⟨fy,pj⟩:=k9 i o ho
  have pn:=M.guard i o fy
  have hw:Region.wanted o (yielded ops a.tmps)=true:=by simp [Region.wanted,pn]
  rw [hw]
  simp only [if_true]
  refine .inl ?_
  obtain ⟨f,hf,Bk,⟨rs,S,kH,nV⟩,after⟩:=Us hc hG UB D0 hp pj (by rw [Uz]; exact pn) hi (fun e he hb=>hr e (by rw [← Mg x0.v o]; exact he) hb) I
  have mc:∀ x,o.dst=some x→x<a.tmps.size:=fun x hx=>by rw [I.rel.size]; exact hN o (List.mem_of_getElem? fy) x hx
  rw [Hn] at after
  have uD:∀ {j:Nat},j9 o j=true→D j=true:=fun h=>by
   obtain ⟨e,h1,h2,h3⟩:=Uo h
   rw [← h3]; exact hr e h1 h2
  have up:∀ {j:Nat},D j=true→(D j||j==i)=true:=fun h=>by rw [h]; rfl
  have mv:∀ {y:Operand},o.op = .move y→(o.wp P a w KK Q↔KK (a.put o.dst (a.eval y)) w):=fun {y} aw=>by
   unfold Oper.wp
   simp [execOp,aw,Result.andThen]
   exact Iff.rfl
  have Mj:∀ {y:Operand},(gY x0.v o).op = .move y→∀ v,ay g' w U' (rs.ev y) v→Inv w0 F N g U st es (fun j=>D j||j==i) g' U' (a.put o.dst v) w:=fun {y} aw v hv=>by
   rw [aw] at kH
   have he:f.aT=⟨rs.ev y,[]⟩:=(Option.some.inj kH).symm
   exact after v w g' U' (by rw [he]; exact cR.same S.bB hv)
  have zc:∀ {i':Nat},i'=mf.im→i=i'→∃ t r,o.op = .makeMap t r:=fun h1 h2=>by
   obtain ⟨o',t,r,h3,h4⟩:=M.Hl
   rw [← h1,← h2,fy] at h3
   obtain rfl:=Option.some.inj h3
   exact ⟨t,r,h4⟩
  have Bx:∀ x∈mf.ins,i=x.i→∃ t m k v,o.op = .insert t m k v:=fun x hx h2=>by
   obtain ⟨o',t,m,v,s',h3,h4,-⟩:=M.DY x hx
   rw [← h2,fy] at h3
   obtain rfl:=Option.some.inj h3
   exact ⟨t,m,_,v,h4⟩
  have UD:i=mf.ik→o.op = .move (.tmp mf.tm)∧o.dst=some mf.tk∧j9 o mf.im=true∧∀ x∈mf.ins,j9 o x.i=true:=fun h=>by
   obtain ⟨o',h3,h4⟩:=M.move
   rw [← h,fy] at h3
   obtain rfl:=Option.some.inj h3
   exact h4
  have Mk:i=mf.iq→o.op = .move (.tmp mf.t1)∧o.dst=some mf.tq:=fun h=>by
   obtain ⟨o',h3,h4⟩:=M.src
   rw [← h,fy] at h3
   obtain rfl:=Option.some.inj h3
   exact h4
  by_cases c1:i=mf.ik
  ·
   obtain ⟨aw,hd,e1,e2⟩:=UD c1
   have jL:gY x0.v o=o:=by unfold gY; rw [aw]
   refine (mv aw).2 (hK _ _ g' U' (Mj (by rw [jL]; exact aw) _ (S.ev _)) ?_)
   have ev:∀ t,t≠mf.tk→(a.put o.dst (a.eval (.tmp mf.tm))).eval (.tmp t)=a.eval (.tmp t):=fun t ht=>by rw [sb mc,if_neg (by rw [hd]; exact fun h=>ht (Option.some.inj h).symm)]
   have By:mf.tm≠mf.tk:=fun h=>by
    have:=M.Hi i o fy (by rw [hd,h])
    obtain ⟨t,r,h9⟩:=zc this rfl
    rw [aw] at h9; cases h9
   have Hp:mf.iq≠i→mf.tq≠mf.tk:=fun h1 h=>h1 (M.Hk i o fy (by rw [hd,h])).symm
   have n1:i≠mf.im:=fun h=>by obtain ⟨t,r,h9⟩:=zc h rfl; rw [aw] at h9; cases h9
   have n4:∀ x∈mf.ins,i≠x.i:=fun x hx h=>by obtain ⟨t,m,k,v,h9⟩:=Bx x hx h; rw [aw] at h9; cases h9
   have n3:i≠mf.iq:=fun h=>by
    have:=(Mk h).1
    rw [aw] at this
    injection this with this
    injection this with this
    obtain ⟨o',t,r,h3,h4⟩:=M.Hl
    exact M.Bv mf.im o' h3 (by rw [← this]; exact (M.make mf.im o' t r h3 h4).2.2.2)
   have dd:∀ {j:Nat},i≠j→(D j||j==i)=true→D j=true:=fun av h=>by
    rw [Bool.or_eq_true] at h
    rcases h with h | h
    ·exact h
    ·exact absurd (by simpa using h:_=i).symm av
   refine ⟨?_,fun h=>?_,fun _=>⟨?_,up (uD e1),fun x hx=>up (uD (e2 x hx))⟩,fun x hx h=>?_,fun h=>?_⟩
   ·rw [ev _ (fun h=>M.Bv i o fy (by rw [hd,h]))]; exact J.key
   ·rw [ev _ (Hp (fun h=>n3 h.symm))]; exact J.tq (dd n3 h)
   ·rw [sb mc,if_pos hd,ev _ By]
   ·obtain ⟨q1,q2⟩:=J.done x hx (dd (n4 x hx) h)
    exact ⟨up q1,up q2⟩
   ·obtain ⟨b,n,Dm,q1,q2,q3,q4,q5⟩:=J.map (dd n1 h)
    exact ⟨b,n,Dm,by rw [ev _ By]; exact q1,q2,q3,Nat.le_trans q4 (D_ fun x _ h=>up h),fun x hx h=>q5 x hx (dd (n4 x hx) h)⟩
  ·by_cases c2:i=mf.iq
   ·
    obtain ⟨aw,hd⟩:=Mk c2
    have jL:gY x0.v o=o:=by unfold gY; rw [aw]
    refine (mv aw).2 (hK _ _ g' U' (Mj (by rw [jL]; exact aw) _ (S.ev _)) ?_)
    have ev:∀ t,t≠mf.tq→(a.put o.dst (a.eval (.tmp mf.t1))).eval (.tmp t)=a.eval (.tmp t):=fun t ht=>by rw [sb mc,if_neg (by rw [hd]; exact fun h=>ht (Option.some.inj h).symm)]
    have By:mf.tm≠mf.tq:=fun h=>by
     have:=M.Hi i o fy (by rw [hd,h])
     obtain ⟨t,r,h9⟩:=zc this rfl
     rw [aw] at h9; cases h9
    have Ml:mf.tk≠mf.tq:=fun h=>c1 (M.Hj i o fy (by rw [hd,h]))
    have n1:i≠mf.im:=fun h=>by obtain ⟨t,r,h9⟩:=zc h rfl; rw [aw] at h9; cases h9
    have n4:∀ x∈mf.ins,i≠x.i:=fun x hx h=>by obtain ⟨t,m,k,v,h9⟩:=Bx x hx h; rw [aw] at h9; cases h9
    have dd:∀ {j:Nat},i≠j→(D j||j==i)=true→D j=true:=fun av h=>by
     rw [Bool.or_eq_true] at h
     rcases h with h | h
     ·exact h
     ·exact absurd (by simpa using h:_=i).symm av
    refine ⟨?_,fun h=>?_,fun h=>?_,fun x hx h=>?_,fun h=>?_⟩
    ·rw [ev _ (fun h=>M.Bv i o fy (by rw [hd,h]))]; exact J.key
    ·rw [sb mc,if_pos hd]; exact J.key
    ·obtain ⟨q1,q2,q3⟩:=J.tk (dd c1 h)
     rw [ev _ Ml,ev _ By]
     exact ⟨q1,up q2,fun x hx=>up (q3 x hx)⟩
    ·obtain ⟨q1,q2⟩:=J.done x hx (dd (n4 x hx) h)
     exact ⟨up q1,up q2⟩
    ·obtain ⟨b,n,Dm,q1,q2,q3,q4,q5⟩:=J.map (dd n1 h)
     exact ⟨b,n,Dm,by rw [ev _ By]; exact q1,q2,q3,Nat.le_trans q4 (D_ fun x _ h=>up h),fun x hx h=>q5 x hx (dd (n4 x hx) h)⟩
   ·have dd:∀ {j:Nat},i≠j→(D j||j==i)=true→D j=true:=fun av h=>by
     rw [Bool.or_eq_true] at h
     rcases h with h | h
     ·exact h
     ·exact absurd (by simpa using h:_=i).symm av
    have normal:gY x0.v o=o→i≠mf.im→(∀ x∈mf.ins,i≠x.i)→o.wp P a w KK Q:=fun jL n1 n4=>by
     rw [jL] at kH
     obtain ⟨aT,h1,h2⟩:=H S Bk kH
     obtain rfl:=Option.some.inj h1
     exact h2 _ _ (fun v w' g2 U2 kG=>hK _ _ g2 U2 (after v w' g2 U2 kG) (J.step M fy mc n1 c1 c2 n4 kG.fr v))
    by_cases c3:∃ t r,o.op = .makeMap t r
    ·
     obtain ⟨t,rr,aw⟩:=c3
     obtain ⟨rfl,rfl,rfl,hd⟩:=M.make i o t rr fy aw
     have jL:(gY x0.v o).op = .move (.const (.map none)):=by unfold gY; rw [aw]
     rw [jL] at kH
     have he:f.aT=⟨.undef,[]⟩:=(Option.some.inj kH).symm
     have UE:∀ (b o:Nat) v,w.cell? (ad b o)=some v→(w.alloc (.map #[] 0)).cell? (ad b o)=some v:=fun b o v hv=>by
      rw [World.cell?_of_block (w:=w) ((World.grownBy_alloc w (.map #[] 0) none).block b (L7 hv) (by simp))]; exact hv
     have Bz:∀ k,k<w.heap.size→(w.alloc (.map #[] 0)).heap[k]? = w.heap[k]?:=fun k hk=>(World.grownBy_alloc w (.map #[] 0) none).block k hk (by simp)
     have aX:w.heap.size≤(w.alloc (.map #[] 0)).heap.size:=(World.grownBy_alloc w (.map #[] 0) none).size
     have kG:cR g' w U' (st.nxt+mf.im) f.aT (.map (some w.heap.size)) (w.alloc (.map #[] 0)) g' U':=by
      rw [he]
      refine ⟨⟨fun _ h=>h,fun _ _ _ _ _=>rfl,fun b o hl v hv=>⟨UE b o v hv,hl⟩,fun b o id p hl _=>⟨hl,?_,?_⟩⟩,trivial,fun id o h=>by simp [look] at h,fun s h=>.inl h,fun b o q h=>Nat.lt_of_lt_of_le (S.bB b o q h) aX,fun b o q _ h=>by rw [h]; simp,⟨rfl,rfl,rfl,aX,fun k c e f hk=>⟨c,by rw [Bz k (DZ hk)]; exact hk,rfl,fun _ _=>rfl⟩,fun k hk _=>Bz k hk,fun k b hk _=>by rw [Bz k (DZ hk)]; exact hk⟩,fun id h=>by simp [look] at h⟩
      ·exact World.cell?_of_block (w:=w) (Bz b (S.bB b o _ hl))
      ·exact World.frozen?_of_block (w:=w) (Bz b (S.bB b o _ hl))
     have BA:o.wp P a w KK Q↔KK (a.put o.dst (.map (some w.heap.size))) (w.alloc (.map #[] 0)):=by
      have cx:(Instr.makeMap t none).run P w = .ok (.map (some w.heap.size)) (w.alloc (.map #[] 0)):=rfl
      unfold Oper.wp
      simp [execOp,aw,cx,Result.andThen]
      exact Iff.rfl
     refine BA.2 (hK _ _ g' U' (after _ _ g' U' kG) ?_)
     have ev:∀ t,t≠mf.tm→(a.put o.dst (.map (some w.heap.size))).eval (.tmp t)=a.eval (.tmp t):=fun t ht=>by rw [sb mc,if_neg (by rw [hd]; exact fun h=>ht (Option.some.inj h).symm)]
     have n4:∀ x∈mf.ins,mf.im≠x.i:=fun x hx h=>by obtain ⟨t,m,k,v,h9⟩:=Bx x hx h; rw [aw] at h9; cases h9
     have Ml:mf.tk≠mf.tm:=fun h=>c1 (M.Hj _ o fy (by rw [hd,h]))
     have Hp:mf.tq≠mf.tm:=fun h=>c2 (M.Hk _ o fy (by rw [hd,h]))
     refine ⟨?_,fun h=>?_,fun h=>?_,fun x hx h=>?_,fun h=>?_⟩
     ·rw [ev _ (fun h=>M.Bv _ o fy (by rw [hd,h]))]; exact J.key
     ·rw [ev _ Hp]; exact J.tq (dd c2 h)
     ·have:=(J.tk (dd c1 h)).2.1
      rw [hi] at this; cases this
     ·have:=(J.done x hx (dd (n4 x hx) h)).2
      rw [hi] at this; cases this
     ·refine ⟨w.heap.size,0,.map [],by rw [sb mc,if_pos hd],I.rel.fr.size,World.ownsMap_made w P K _,Nat.zero_le _,fun x hx h=>?_⟩
      have:=(J.done x hx (dd (n4 x hx) h)).2
      rw [hi] at this; cases this
    ·by_cases c4:∃ t m k v,o.op = .insert t m k v
     ·
      obtain ⟨t,m,kk,v,aw⟩:=c4
      obtain ⟨rfl,rfl,hd,x,hx,sk,rfl,rfl,fl,Mm,rfl,e1,e2⟩:=M.insert i o t m kk v fy aw
      have jL:(gY x0.v o).op = .move (.tmp x.v):=by unfold gY; rw [aw]
      rw [jL] at kH nV
      have he:f.aT=⟨rs.ev (.tmp x.v),[]⟩:=(Option.some.inj kH).symm
      obtain ⟨f',sx,CU,Mn,ao⟩:=UC x hx
      rw [hf] at CU
      obtain rfl:=Option.some.inj CU
      have zd:rs.ev (.tmp x.v) = .str sx:=by rw [he] at Mn; exact Mn
      have UF:a.eval (.tmp x.v) = .string ⟨sx.toArray⟩:=by
       have:=S.ev (.tmp x.v)
       rw [zd] at this; exact this
      obtain ⟨fp,D1,Hq⟩:=r_ x hx D (uD e2)
      have gM:look rs.env x.v=some (.str sx):=by
       simp only [St.ev] at zd
       split at zd
       ·rename_i y hy; rw [hy,zd]
       ·cases zd
      have tR:fp.aT.val = .str sx:=by
       have h1:=nV x.v (by simp [Op.operands,jl])
       rw [gM,Hq] at h1
       exact (Option.some.inj h1).symm
      obtain ⟨b,n,Dm,q1,q2,q3,q4,q5⟩:=J.map (uD e1)
      have hn:n≤1000:=Nat.le_trans q4 (Nat.le_trans (List.length_filter_le _ _) M.Up)
      have UG:sk.size≤maxLen:=by unfold maxLen; omega
      have Hr:keyOf P K (.string sk)=some (.string x.key):=by rw [← fl]; exact Go.WideMaps.keyOf_string_mk MT.key UG
      have UH:(⟨sx.toArray⟩:ByteArray).size≤maxLen:=by
       have:(⟨sx.toArray⟩:ByteArray).size=sx.length:=by simp [ByteArray.size]
       rw [this]; unfold maxLen; unfold aU at ao; omega
      obtain ⟨w',cx,r1,r2⟩:=q3.update (Maps.string_keyed MT.key) MT.L8 (by unfold maxLen; omega) Hr (plainElem_string MT.el UH)
      have BA:o.wp P a w KK Q↔KK (a.put o.dst undef) w':=by
       unfold Oper.wp
       have ek:a.eval (.const (.string sk)) = .string sk:=rfl
       simp [execOp,aw,q1,UF,ek,cx,Result.andThen]
       exact Iff.rfl
      have hI:=after (.string ⟨sx.toArray⟩) w g' U' (by rw [he,zd]; exact cR.same S.bB rfl)
      rw [hd] at hI
      obtain ⟨Mb,Md,g_⟩:=Ma q3
      obtain ⟨Mc,Me,cS⟩:=Ma r1
      refine BA.2 (hK _ _ g' U' ?_ ?_)
      ·rw [hd]
       exact ⟨hI.rel.grown g_ cS r2 q2,hI.used,hI.sd,hI.sub,hI.hd⟩
      ·rw [hd]
       have same:∀ y∈mf.ins,y.i=x.i→y=x:=fun y hy uE=>by
        obtain ⟨o',t',m',v',s',h3,h4,h5⟩:=M.DY y hy
        rw [uE,fy] at h3
        obtain rfl:=Option.some.inj h3
        rw [aw] at h4
        injection h4 with b1 b2 b3 b4
        have b5:sk=s':=by injection b3 with b3; injection b3
        exact M.keys y hy x hx (by rw [← h5,← fl,b5])
       refine ⟨J.key,fun h=>J.tq (dd c2 h),fun h=>?_,fun y hy h=>?_,fun h=>⟨b,n+1,_,q1,q2,r1,?_,fun y hy h=>?_⟩⟩
       ·obtain ⟨p1,p2,p3⟩:=J.tk (dd c1 h)
        exact ⟨p1,up p2,fun y hy=>up (p3 y hy)⟩
       ·by_cases uE:y.i=x.i
        ·obtain rfl:=same y hy uE
         exact ⟨up (uD e2),up (uD e1)⟩
        ·obtain ⟨p1,p2⟩:=J.done y hy (dd (fun h=>uE h.symm) h)
         exact ⟨up p1,up p2⟩
       ·refine Nat.le_trans (Nat.add_le_add_right q4 1) (Uy (fun y _ h=>up h) hx hi (by simp))
       ·by_cases uE:y.i=x.i
        ·obtain rfl:=same y hy uE
         refine ⟨fp,sx,D1,tR,?_⟩
         rw [Maps.atKey_put_same (Ux q3) (show WideAt.IsKeyLit (.string _) from trivial)]
        ·obtain ⟨e',sy,p1,p2,p3⟩:=q5 y hy (dd (fun h=>uE h.symm) h)
         refine ⟨e',sy,p1,p2,?_⟩
         rw [Maps.atKey_put_other (fun h=>uE (by
          have h:y.key=x.key:=by injection h
          rw [M.keys y hy x hx h]))]
         exact p3
     ·by_cases c5:∃ t m k c,o.op = .lookup t m k c
      ·
       obtain ⟨t,m,kk,cc,aw⟩:=c5
       obtain ⟨rfl,rfl,rfl,rfl,hil,e1,e2⟩:=M.look i o t m kk cc fy aw
       have jL:(gY x0.v o).op = .move (.tmp x0.v):=by unfold gY; rw [aw]
       rw [jL] at kH nV
       have he:f.aT=⟨rs.ev (.tmp x0.v),[]⟩:=(Option.some.inj kH).symm
       obtain ⟨p1,p2,p3⟩:=J.tk (uD e1)
       have hq:=J.tq (uD e2)
       obtain ⟨b,n,Dm,q1,q2,q3,q4,q5⟩:=J.map p2
       obtain ⟨fe,sx,h1,h2,h3⟩:=q5 x0 qp (p3 x0 qp)
       obtain ⟨fp,D1,Hq⟩:=r_ x0 qp D (J.done x0 qp (p3 x0 qp)).1
       rw [h1] at D1
       obtain rfl:=Option.some.inj D1
       have UI:rs.ev (.tmp x0.v) = .str sx:=by
        have h4:=nV x0.v (by simp [Op.operands,jl])
        rw [Hq,h2] at h4
        simp only [St.ev,h4]
       have Mm:(⟨s.toArray⟩:ByteArray).size≤maxLen:=by
        obtain ⟨o',t',m',v',s',h5,h6,h7⟩:=M.DY x0 qp
        obtain ⟨-,-,-,x',hx',s2,h8,h9,iv,gE,-⟩:=M.insert x0.i o' t' m' _ v' h5 h6
        have e7:s'=s2:=by injection h9 with h9; injection h9
        have e8:s'=⟨s.toArray⟩:=by rw [← lZ,← h7]
        rw [← e8,e7]
        unfold maxLen; omega
       have Hr:keyOf P K (.string ⟨s.toArray⟩)=some (.string x0.key):=by
        rw [lZ]
        have:=Go.WideMaps.keyOf_string_mk MT.key Mm
        simpa using this
       obtain ⟨v,ps,cx,hv⟩:=q3.lookup (Maps.string_keyed MT.key) MT.L8 (MT.zero w) (plainElem_string MT.el (by decide)) Hr
       obtain ⟨cv,rfl,UJ⟩:=L9 MT.el hv
       have e3:Dm.atKey (.string x0.key) (.lit (.string [])) = .lit (.string cv.data.toList):=congrArg Prod.fst UJ
       rw [h3] at e3
       have e4:sx=cv.data.toList:=by injection e3 with e3; injection e3
       have iJ:Value.string cv = .string ⟨sx.toArray⟩:=by rw [e4]
       have BA:o.wp P a w KK Q↔KK (a.put o.dst (.string cv)) w:=by
        unfold Oper.wp
        simp [execOp,aw,p1,q1,hq,cx,Result.andThen]
        exact Iff.rfl
       have n1:i≠mf.im:=fun h=>by obtain ⟨t,r,h9⟩:=zc h rfl; rw [aw] at h9; cases h9
       have n4:∀ x∈mf.ins,i≠x.i:=fun x hx h=>by obtain ⟨t,m,k,v,h9⟩:=Bx x hx h; rw [aw] at h9; cases h9
       refine BA.2 (hK _ _ g' U' (after _ w g' U' (by rw [he,UI]; exact cR.same S.bB iJ)) (J.step M fy mc n1 c1 c2 n4 (Fr.refl (fun _ _=>False) w) _))
      ·refine normal ?_ (fun h=>c3 (zc h rfl)) (fun x hx h=>c4 (Bx x hx h))
       unfold gY
       split
       ·rename_i t r aw; exact absurd ⟨t,r,aw⟩ c3
       ·rename_i t m k v aw; exact absurd ⟨t,m,k,v,aw⟩ c4
       ·rename_i t m k cc aw; exact absurd ⟨t,m,k,cc,aw⟩ c5
       ·rfl
 ·
  have eM:=GM (st0:=st) es hD
  refine hQ (jD st es) a' w' g' U' (I.rel.same (fun t=>by rw [eM]) (fun id=>by rw [eM]; rfl) (fun s hs=>?_)) (GZ I.sub I.hd R.u0 es) e
  rw [G_]
  exact I.rel.used s hs
 ·have:∀ (D:Nat→Bool) n,iO D n≤n:=by
   intro D n
   induction n with
   | zero=>exact Nat.le_refl _
   | succ n ih=>simp only [iO]; split<;>omega
  exact this _ _
 ·have G0:∀ fX:List bU,fX.length≤ops.size→bD st (fun i=>(Array.replicate ops.size false).getD i true) fX=st:=by
   intro fX
   induction fX with
   | nil=>intro _; rfl
   | cons f fX ih=>
    intro hl
    simp only [List.length_cons] at hl
    have ao:fX.length<ops.size:=by omega
    have hb:(Array.replicate ops.size false).getD fX.length true=false:=by
     simp [Array.getD_eq_getD_getElem?,ao]
    simp only [bD,hb]
    exact ih (by omega)
  have cI:=G0 es (by rw [hlen,w_]; exact Nat.le_refl _)
  refine Rd.same (fun t=>by rw [cI]) (fun id=>by rw [cI]; rfl) (fun s hs=>?_)
  have:=R.used s hs
  show s<st.nxt+es.length
  omega
 ·exfalso
  have ao:i<ops.size:=by
   have:=(List.getElem?_eq_some_iff.1 hf).1
   simp only [List.length_reverse,hlen,w_] at this
   exact this
  have hb:(Array.replicate ops.size false).getD i true=false:=by
   simp [Array.getD_eq_getD_getElem?,ao]
  rw [hb] at hi; simp at hi
 all_goals
  exfalso
  have none:∀ {i:Nat} {o:Oper},ops.toList[i]? = some o→(Array.replicate ops.size false).getD i true=false:=fun {i o} h=>by
   have ao:i<ops.size:=by have:=(List.getElem?_eq_some_iff.1 h).1; simpa using this
   simp [Array.getD_eq_getD_getElem?,ao]
 ·obtain ⟨o,h1,-⟩:=M.src
  rw [none h1] at h; cases h
 ·obtain ⟨o,h1,-⟩:=M.move
  rw [none h1] at h; cases h
 ·obtain ⟨o,t,m,v,s',h1,-⟩:=M.DY x hx
  rw [none h1] at h; cases h
 ·obtain ⟨o,t,r,h1,-⟩:=M.Hl
  rw [none h1] at h; cases h
theorem UK (hm:P.follows .mixedOrders=true) (H:uc P c) (hc:eu P c) {T K E:TypeId} (hT:rI c=some T) (MT:Hm P T K E):wN P c:=by
 intro ρ r w0 F N id ops draw st a w g U k Q hN hG R e hQ
 cases draw with
 | false=>exact wp_region_list (Dn H hc hG hN ops.toList st a w g U k (fun o h=>h) R e hQ)
 | true=>
  have e:(match rI c with | none=>we c ops st k | some T=>match Aa ops.toList with | none=>we c ops st k | some mf=>match Ac T ops.toList mf with | true=>Ae c mf ops.toList st k | false=>none)=some r:=e
  rw [hT] at e
  simp only at e
  split at e
  ·exact LD hm H hc id ops st a w g U k Q hN hG R e hQ
  ·rename_i mf hf
   split at e
   ·rename_i bb
    exact UA hm H hc MT id ops st a w g U k Q hN hG R (Uq hf bb) e hQ
   ·cases e
end
end Go.Am
namespace Go.Am
open Go
open Go.RowKit
open Go.Maps (Keyed)
theorem UL {H:Type} {P:Program} (w:World) {ops:Array Oper} {rest:List Oper} {o:Oper} {a:Act} {Q:Exit→Act→World→Prop}
  (hg:o.guard=none) (m x:Operand) (t:TypeId) (aw:o.op=Op.lookup t m x false)
  (k e:TypeId) (K:Keyed P k) (ht:P.underlying t=some (.map k e)) (he:P.underlying e=some .string) (hz:(zeroValue e).run P w = .ok (.string ⟨#[]⟩) w) (b n:Nat) (D:DataW H)
  (hm:a.eval m = .map (some b)) (rO:w.ownsMap P k (plainElem P e) b n D) (key:Value) (kl:Lit) (hx:a.eval x=key) (Bw:keyOf P k key=some kl) (s:List UInt8) (iy:D.atKey kl (.lit (.string [])) = .lit (.string s))
  (hK:wpList P ops Q rest (a.put o.dst (.string ⟨s.toArray⟩)) w) :
  wpList P ops Q (o::rest) a w:=by
 refine wpList_plain hg fun K' Hs=>?_
 obtain ⟨v,ps,cx,hv⟩:=rO.lookup K ht hz (plainElem_string he (by decide)) Bw
 obtain ⟨c,rfl,hc⟩:=L9 he hv
 have e1:D.atKey kl (.lit (.string [])) = .lit (.string c.data.toList):=congrArg Prod.fst hc
 rw [iy] at e1
 have e2:s=c.data.toList:=by injection e1 with e1; injection e1
 subst e2
 unfold Oper.wp
 simp [execOp,aw,hm,hx,cx,Result.andThen]
 exact Hs _ _ hK
theorem Ht {H:Type} {P:Program} (w:World) {ops:Array Oper} {rest:List Oper} {o:Oper} {a:Act} {Q:Exit→Act→World→Prop}
  (hg:o.guard=none) (m x v:Operand) (t:TypeId) (aw:o.op=Op.insert t m x v)
  (k e:TypeId) (K:Keyed P k) (ht:P.underlying t=some (.map k e)) (R:Value→Option (DataW H×List MemPlace)) (b n:Nat) (D:DataW H)
  (hm:a.eval m = .map (some b)) (rO:w.ownsMap P k R b n D) (hn:n<maxLen) (key val:Value) (kl:Lit) (hx:a.eval x=key) (hv:a.eval v=val) (Bw:keyOf P k key=some kl)
  (d:DataW H) (ps:List MemPlace) (r_:R val=some (d,ps))
  (hK:∀ w',w'.ownsMap P k R b (n+1) (D.put kl d)→w.grownBy w' (some b)→wpList P ops Q rest (a.put o.dst undef) w') :
  wpList P ops Q (o::rest) a w:=by
 refine wpList_plain hg fun K' Hs=>?_
 obtain ⟨w',cx,r1,r2⟩:=rO.update K ht hn Bw r_
 unfold Oper.wp
 simp [execOp,aw,hm,hx,hv,cx,Result.andThen]
 exact Hs _ _ (hK w' r1 r2)
theorem Hu {w w1 w2:World} {b:Nat} (h:Below w.heap.size w w1) (hg:w1.grownBy w2 (some b)) (hb:w.heap.size≤b):Below w.heap.size w w2:=h.grown hg h.size (fun k e=>by cases e; exact hb)
def BB (s bP new:List UInt8):Option (bz [Ty.str]):=if s.length<4294967281∧1≤bP.length∧s.length+Lib.count s bP*new.length≤140737488355328 then some (Lib.replaceAll s bP new,()) else none
abbrev Mo:ar:=⟨[.val .str,.val .str,.val .str],[.val .str],fun x=>BB x.1 x.2.1 x.2.2.1⟩
theorem UM {P:Program} {f:FuncId} {b:Nat} (hg:P.globalNamed "internal/bytealg.MaxLen" = some b)
  (K:∀ (s bP new:ByteArray) (m:Int) (w:World),s.size<4294967281→w.cell? ⟨b,0,none⟩=some (.int .i64 m)→1≤bP.size→s.size+Lib.countB s bP*new.size≤140737488355328→
   Calls P f #[.string s,.string bP,.string new] w fun e w'=>e = .returned (.string ⟨(Lib.replaceAll s.data.toList bP.data.toList new.data.toList).toArray⟩)∧Below w.heap.size w w'):Sound P f Mo:=by
 intro x y hm _ site hs g w args E hG
 obtain ⟨v1,r,ha,h1,v2,r2,pv,h2,v3,r3,UN,h3,h4⟩:=E.bd
 obtain rfl:r3=[]:=h4
 obtain rfl:v3 = .string ⟨(x.2.2.1:List UInt8).toArray⟩:=h3
 obtain rfl:v2 = .string ⟨(x.2.1:List UInt8).toArray⟩:=h2
 obtain rfl:v1 = .string ⟨(x.1:List UInt8).toArray⟩:=h1
 subst UN
 subst pv
 subst ha
 obtain ⟨s,bP,new,⟨⟩⟩:=x
 replace hm:BB s bP new=some y:=hm
 unfold BB at hm
 split at hm
 ·rename_i hr
  obtain rfl:=Option.some.inj hm
  obtain ⟨m,Bp⟩:=Hc hG hg
  have aX:(⟨(s:List UInt8).toArray⟩:ByteArray).size=(s:List UInt8).length:=uB s
  have pz:(⟨(bP:List UInt8).toArray⟩:ByteArray).size=(bP:List UInt8).length:=uB bP
  have UO:(⟨(new:List UInt8).toArray⟩:ByteArray).size=(new:List UInt8).length:=uB new
  have hc:Lib.countB (⟨(s:List UInt8).toArray⟩:ByteArray) ⟨(bP:List UInt8).toArray⟩=Lib.count (s:List UInt8) (bP:List UInt8):=by simp [Lib.countB]
  have e3:(⟨(s:List UInt8).toArray⟩:ByteArray).size+Lib.countB (⟨(s:List UInt8).toArray⟩:ByteArray) ⟨(bP:List UInt8).toArray⟩*(⟨(new:List UInt8).toArray⟩:ByteArray).size=(s:List UInt8).length+Lib.count (s:List UInt8) (bP:List UInt8)*(new:List UInt8).length:=by rw [hc,UO,aX]
  refine (K ⟨(s:List UInt8).toArray⟩ ⟨(bP:List UInt8).toArray⟩ ⟨(new:List UInt8).toArray⟩ m w (Nat.lt_of_le_of_lt (Nat.le_of_eq aX) hr.1) Bp (Nat.le_trans hr.2.1 (Nat.le_of_eq pz.symm)) (Nat.le_trans (Nat.le_of_eq e3) hr.2.2)).mono fun e w' he=>?_
  obtain ⟨he,hb⟩:=he
  exact ⟨_,g,he,sB (m:=Mo) hb E.bB rfl rfl trivial⟩
 ·simp at hm
def sC (x:Int):List UInt8:=if x=1 then [113,117,105,101,116] else if x=2 then [106,97,109,109,101,100] else if x=3 then [98,117,115,121] else []
def BC (x:Int):Option (bz [Ty.str]):=if -9223372036854775808≤x∧x<9223372036854775808 then some (sC x,()) else none
abbrev Mq:ar:=⟨[.val (.int .i64)],[.val .str],fun x=>BC x.1⟩
theorem UP {H:Type} (n:Int):((((DataW.map []:DataW H).put (.int .i64 1) (.lit (.string [113,117,105,101,116]))).put (.int .i64 2) (.lit (.string [106,97,109,109,101,100]))).put (.int .i64 3) (.lit (.string [98,117,115,121]))).atKey (.int .i64 n) (.lit (.string [])) = .lit (.string (sC n)):=by
 have m0:Maps.IsMap (DataW.map []:DataW H):=Maps.isMap_empty
 unfold sC
 by_cases h3:n=3
 ·subst h3
  rw [Maps.atKey_put_same ((m0.put _ _).put _ _) (show WideAt.IsKeyLit (.int _ _) from trivial)]; rfl
 ·rw [Maps.atKey_put_other (by simp [h3])]
  by_cases h2:n=2
  ·subst h2
   rw [Maps.atKey_put_same (m0.put _ _) (show WideAt.IsKeyLit (.int _ _) from trivial)]; rfl
  ·rw [Maps.atKey_put_other (by simp [h2])]
   by_cases h1:n=1
   ·subst h1
    rw [Maps.atKey_put_same m0 (show WideAt.IsKeyLit (.int _ _) from trivial)]; rfl
   ·rw [Maps.atKey_put_other (by simp [h1]),if_neg h1,if_neg h2,if_neg h3]; rfl
theorem UQ {P:Program} {f:FuncId}
  (K:∀ n:Int,-9223372036854775808≤n→n<9223372036854775808→∀ w:World,Calls P f #[.int .i64 n] w fun e w'=>e = .returned (.string ⟨(sC n).toArray⟩)∧Below w.heap.size w w'):Sound P f Mq:=by
 intro x y hm _ site hs g w args E hG
 obtain ⟨v1,r,ha,h1,h2⟩:=E.bd
 obtain rfl:r=[]:=h2
 obtain rfl:v1 = .int .i64 x.1:=h1
 subst ha
 replace hm:BC x.1=some y:=hm
 unfold BC at hm
 split at hm
 ·rename_i hr
  obtain rfl:=Option.some.inj hm
  refine (K x.1 hr.1 hr.2 w).mono fun e w' he=>?_
  obtain ⟨he,hb⟩:=he
  exact ⟨_,g,he,sB (m:=Mq) hb E.bB rfl rfl trivial⟩
 ·simp at hm
end Go.Am
