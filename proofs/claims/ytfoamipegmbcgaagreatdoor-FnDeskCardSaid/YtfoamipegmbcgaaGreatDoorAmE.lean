/- Library functions by the contracts of the shelf, for the abstract machine. No condition. -/
import Derived.Test.YtfoamipegmbcgaaGreatDoorAmD
import Derived.Below
import Derived.Sort.Grow
import Derived.Lib.ItoaNum
import Derived.Lib.LaidTab
import Derived.Lib.Join
import Derived.Deep.Draws
import Derived.Lib.AtoiErrMem
import Derived.Lib.AtoiAll
import Derived.Lib.SplitLaws
import Derived.Lib.Strings
import Derived.Handed
import Derived.Maps.OwnOps
import Derived.Maps.Views
import Derived.Lib.Replace
set_option linter.unusedVariables false
set_option linter.unusedSimpArgs false
namespace Go.Am
open Go
open Go.RowKit
theorem heap_lt {w:World} {k:Nat} {o:Obj} (h:w.heap[k]? = some o):k<w.heap.size:=by
 rcases Nat.lt_or_ge k w.heap.size with hh | hh
 ·exact hh
 ·rw [Array.getElem?_eq_none hh] at h; simp at h
theorem fr_below {F:Nat→Nat→Prop} {w w':World} (h:Below w.heap.size w w'):Fr F w w' where
 os:=h.os
 tape:=h.tape
 output:=h.output
 size:=h.size
 cells k c e f hk:=⟨c,by rw [h.block k (heap_lt hk)]; exact hk,rfl,fun o _=>rfl⟩
 block k hk _:=h.block k hk
 kind k b hk _:=by rw [h.block k (heap_lt hk)]; exact hk
theorem cell_lt' {w:World} {a:Addr} {v:Value} (h:w.cell? a=some v):a.block<w.heap.size:=by
 rcases Nat.lt_or_ge a.block w.heap.size with hh | hh
 ·exact hh
 ·exfalso
  unfold World.cell? at h
  rw [Array.getElem?_eq_none hh] at h
  simp at h
theorem below_cell {w w':World} (h:Below w.heap.size w w') {a:Addr} {v:Value} (hv:w.cell? a=some v):w'.cell? a=some v:=by
 rw [h.cell (cell_lt' hv)]; exact hv
theorem exit_below {g:Gh} {w w':World} {site:Nat} {m:Mng} {y:OTs (RK.tys m.rs++PK.outs m.ps)} {v:Value} (hb:Below w.heap.size w w')
  (hl:∀ b o q,g.lab b o=some q→b<w.heap.size)
  (hval:VRel g w' (U' U20 site) (match (resVals site 0 m.rs (PK.outs m.ps) y).1 with | [v]=>v | vs=>.tup vs) v)
  (hobjs:(resVals site 0 m.rs (PK.outs m.ps) y).2.1=[])
  (houts:OutOK g w' 0 m.ps (resVals site 0 m.rs (PK.outs m.ps) y).2.2):ExitOK g w site m y v g w' where
 val:=hval
 objs id o h:=by rw [hobjs] at h; simp [look] at h
 outs:=houts
 par _ _:=rfl
 shr b o hn v hv:=⟨below_cell hb hv,hn⟩
 frn _ _ _ _ h _:=h
 labs b o q h:=Nat.lt_of_lt_of_le (hl b o q h) hb.size
 old b o q _ h e:=by rw [e] at h; simp at h
 fr:=fr_below hb
theorem below_drewN (w:World) (n:Nat):Below w.heap.size w (w.drewN n):=⟨rfl,rfl,rfl,Nat.le_refl _,fun _ _=>rfl⟩
theorem below_grow (w:World) (n:Nat) (os:Array Obj):Below w.heap.size w (Sort.grow (w.drewN n) os):=by
 refine ⟨rfl,rfl,rfl,by simp [Sort.grow],fun k hk=>?_⟩
 show (w.heap++os)[k]? = w.heap[k]?
 rw [Array.getElem?_append_left hk]
theorem gl_pow10 {P:Program} {l:Lab} {w:World} (hG:Gl P l w) {b:Nat} (hb:P.globalNamed "internal/strconv.uint64pow10" = some b):Lib.TabIs P w "internal/strconv.uint64pow10" .u64 Lib.pow10Tab:=by
 obtain ⟨⟨vs,h3,h4⟩,_⟩:=hG "internal/strconv.uint64pow10" (fun vs=>vs=((List.range 20).map fun i=>Value.int .u64 ((10 ^ i:Nat):Int)).toArray) (by unfold pins; exact List.mem_cons_self) b hb
 unfold Lib.TabIs
 rw [h3,h4]
 simp [Lib.pow10Tab]
theorem gl_of {P:Program} {w:World} (h:∀ nm pr,(nm,pr)∈pins→(P.globalNamed nm).isSome=true→∃ vs,w.var? P nm=some vs∧pr vs):Gl P L0 w:=
 fun nm pr hm b hb=>⟨h nm pr hm (by rw [hb]; rfl),fun o=>rfl⟩
def itoaR (n:Int):Option (OTs [Ty.str]):=if -9223372036854775808≤n∧n≤9223372036854775807 then some (Lib.itoa n,()) else none
abbrev itoaM:Mng:=⟨[.val (.int .i64)],[.val .str],fun x=>itoaR x.1⟩
theorem itoa_sound {P:Program} {f:FuncId} (hg:(P.globalNamed "internal/strconv.uint64pow10").isSome=true)
  (K:∀ n:Int,-9223372036854775808≤n→n≤9223372036854775807→∀ w:World,Lib.TabIs P w "internal/strconv.uint64pow10" .u64 Lib.pow10Tab→
   Calls P f #[.int .i64 n] w fun e w'=>e = .returned (.string ⟨(Lib.itoa n).toArray⟩)∧∃ k os,w'=Sort.grow (w.drewN k) os):Sound P f itoaM:=by
 intro x y hm _ site hs g w args E hG
 obtain ⟨v1,r,ha,h1,h2⟩:=E.vals
 obtain rfl:r=[]:=h2
 obtain rfl:v1 = .int .i64 x.1:=h1
 subst ha
 replace hm:itoaR x.1=some y:=hm
 unfold itoaR at hm
 split at hm
 ·rename_i hr
  obtain rfl:=Option.some.inj hm
  obtain ⟨b,hb⟩:=Option.isSome_iff_exists.1 hg
  have ht:=gl_pow10 hG hb
  refine (K x.1 hr.1 hr.2 w ht).mono fun e w' he=>?_
  obtain ⟨he,k,os,hw⟩:=he
  subst hw
  exact ⟨_,g,he,exit_below (m:=itoaM) (below_grow w k os) E.labs rfl rfl trivial⟩
 ·simp at hm
def joinR (xs:List (List UInt8)) (sep:List UInt8):Option (OTs [Ty.str]):=
 if xs.length≤140737488355328∧(Lib.join xs sep).length≤140737488355328 then some (Lib.join xs sep,()) else none
abbrev joinM:Mng:=⟨[.val (.sl .str),.val .str],[.val .str],fun x=>joinR x.1 x.2.1⟩
theorem join_core {P:Program} {f:FuncId} {g:Gh} {w:World} {xs:List (List UInt8)} {sep:List UInt8} {v1:Value} {Q:Ending→World→Prop}
  (K0:∀ (a:Option Addr) (c:Nat) (sep:ByteArray) (w:World),Calls P f #[.slice a 0 c,.string sep] w fun e w'=>e = .returned (.string ⟨#[]⟩)∧w'=w)
  (K:∀ (bk o c:Nat) (xs:List ByteArray) (sep:ByteArray) (w:World),(∀ (j:Nat) x,xs[j]? = some x→w.cell? ⟨bk,o+j,none⟩=some (.string x))→bk<w.heap.size→xs.length≤140737488355328→xs.length≤c→
   (Lib.join (xs.map (·.data.toList)) sep.data.toList).length≤140737488355328→
   Calls P f #[.slice (some ⟨bk,o,none⟩) xs.length c,.string sep] w fun e w'=>e = .returned (.string ⟨(Lib.join (xs.map (·.data.toList)) sep.data.toList).toArray⟩)∧Below w.heap.size w w')
  (h1:shV (α:=List UInt8) 1 (Sh g.lab w .str) xs v1) (hr:xs.length≤140737488355328∧(Lib.join xs sep).length≤140737488355328)
  (fin:∀ w',Below w.heap.size w w'→Q (.returned (.string ⟨(Lib.join xs sep).toArray⟩)) w'):Calls P f #[v1,.string ⟨sep.toArray⟩] w Q:=by
 obtain ⟨a,len,cap,e,hl,hc,hn,hx⟩:=h1
 subst e
 by_cases hne:xs=[]
 ·subst hne
  simp only [List.length_nil] at hl
  subst hl
  refine (K0 a cap _ w).mono fun e w' he=>?_
  obtain ⟨rfl,rfl⟩:=he
  exact fin _ (Below.refl _ _)
 ·obtain ⟨b,o,rfl,hi⟩:=hx hne
  have hcell:∀ (j:Nat) x,(xs.map fun s=>(⟨s.toArray⟩:ByteArray))[j]? = some x→w.cell? ⟨b,o+j,none⟩=some (.string x):=by
   intro j x hj
   simp only [List.getElem?_map,Option.map_eq_some_iff] at hj
   obtain ⟨s,hs,rfl⟩:=hj
   obtain ⟨hlt,rfl⟩:=List.getElem?_eq_some_iff.1 hs
   have:=(hi j hlt).1
   rw [Nat.mul_one] at this
   exact this
  have hj:Lib.join ((xs.map fun s=>(⟨s.toArray⟩:ByteArray)).map (·.data.toList)) (⟨sep.toArray⟩:ByteArray).data.toList=Lib.join xs sep:=by
   simp [List.map_map,Function.comp_def]
  have hb:b<w.heap.size:=by
   obtain ⟨s,r,rfl⟩:=List.exists_cons_of_ne_nil hne
   have:=cell_lt' (hcell 0 ⟨s.toArray⟩ (by simp))
   exact this
  have:=K b o cap (xs.map fun s=>(⟨s.toArray⟩:ByteArray)) ⟨sep.toArray⟩ w hcell hb (by simpa using hr.1) (by simp; omega) (by rw [hj]; exact hr.2)
  rw [hj,List.length_map] at this
  subst hl
  refine this.mono fun e w' he=>?_
  obtain ⟨rfl,hb⟩:=he
  exact fin _ hb
theorem join_sound {P:Program} {f:FuncId}
  (K0:∀ (a:Option Addr) (c:Nat) (sep:ByteArray) (w:World),Calls P f #[.slice a 0 c,.string sep] w fun e w'=>e = .returned (.string ⟨#[]⟩)∧w'=w)
  (K:∀ (bk o c:Nat) (xs:List ByteArray) (sep:ByteArray) (w:World),(∀ (j:Nat) x,xs[j]? = some x→w.cell? ⟨bk,o+j,none⟩=some (.string x))→bk<w.heap.size→xs.length≤140737488355328→xs.length≤c→
   (Lib.join (xs.map (·.data.toList)) sep.data.toList).length≤140737488355328→
   Calls P f #[.slice (some ⟨bk,o,none⟩) xs.length c,.string sep] w fun e w'=>e = .returned (.string ⟨(Lib.join (xs.map (·.data.toList)) sep.data.toList).toArray⟩)∧Below w.heap.size w w'):Sound P f joinM:=by
 intro x y hm _ site hs g w args E hG
 obtain ⟨v1,r,ha,h1,v2,r2,hr2,h2,h3⟩:=E.vals
 obtain rfl:r2=[]:=h3
 obtain rfl:v2 = .string ⟨(x.2.1:List UInt8).toArray⟩:=h2
 subst hr2
 subst ha
 replace hm:joinR x.1 x.2.1=some y:=hm
 unfold joinR at hm
 split at hm
 ·rename_i hr
  obtain rfl:=Option.some.inj hm
  exact join_core (g:=g) K0 K h1 hr (fun w' hb=>⟨_,g,rfl,exit_below (m:=joinM) hb E.labs rfl rfl trivial⟩)
 ·simp at hm
end Go.Am
namespace Go.Am
open Go
open Go.RowKit
theorem ba_size (s:List UInt8):(⟨s.toArray⟩:ByteArray).size=s.length:=by simp [ByteArray.size]
def consH (x:UInt8):List (List UInt8)→List (List UInt8)
 | []=>[[x]]
 | h::t=>(x::h)::t
def splitR (c:UInt8):List UInt8→List (List UInt8)
 | []=>[[]]
 | x::xs=>if x=c then []::splitR c xs else consH x (splitR c xs)
theorem splitK_eq (c:UInt8):∀ s:List UInt8,Lib.splitK [c] 0 (Lib.count s [c]) s=splitR c s
 | []=>by rw [Lib.count_miss (by simp [Lib.index])]; rfl
 | x::xs=>by
  by_cases h:x=c
  ·subst h
   have hix:Lib.index (x::xs) [x]=((0:Nat):Int):=by rw [Lib.index]; simp [List.isPrefixOf]
   rw [Lib.count_cons_eq,Nat.add_comm,splitR,if_pos rfl,← splitK_eq x xs]
   rw [Lib.splitK,hix]
   simp
  ·rw [Lib.count_cons_ne x c xs h,splitR,if_neg h,← splitK_eq c xs]
   have hp:([c]:List UInt8).isPrefixOf (x::xs)=false:=by simp [List.isPrefixOf,Ne.symm h]
   have hix:Lib.index (x::xs) [c]=if Lib.index xs [c]==-1 then -1 else Lib.index xs [c]+1:=by rw [Lib.index,hp]; simp
   by_cases hm:Lib.index xs [c] = -1
   ·rw [Lib.count_miss hm]; rfl
   ·have hge:=Lib.index_ge xs [c]
    obtain ⟨j,hj⟩:∃ j:Nat,Lib.index xs [c]=j:=⟨(Lib.index xs [c]).toNat,by omega⟩
    have hix':Lib.index (x::xs) [c]=((j+1:Nat):Int):=by rw [hix,if_neg (fun e=>hm (beq_iff_eq.1 e)),hj]; omega
    rw [Lib.count_hit (by simp) hj,Nat.add_comm,Lib.splitK,Lib.splitK,hj,hix']
    have n1:(((j:Nat):Int)==-1)=false:=by simp
    have n2:(((j+1:Nat):Int)==-1)=false:=beq_eq_false_iff_ne.2 (by omega)
    rw [n1,n2]
    simp only [Bool.false_eq_true,if_false,Int.toNat_natCast,consH]
    simp
theorem splitR_ne (c:UInt8) (s:List UInt8):splitR c s≠[]:=by
 cases s with
 | nil=>simp [splitR]
 | cons x xs=>
  unfold splitR
  split
  ·simp
  ·cases splitR c xs<;>simp [consH]
def splitF (s sep:List UInt8):Option (OTs [Ty.sl .str]):=match sep with | [c]=>if s.length<4294967281 then some (splitR c s,()) else none | _=>none
abbrev splitM:Mng:=⟨[.val .str,.val .str],[.sh (.sl .str)],fun x=>splitF x.1 x.2.1⟩
theorem gl_maxLen {P:Program} {l:Lab} {w:World} (hG:Gl P l w) {b:Nat} (hb:P.globalNamed "internal/bytealg.MaxLen" = some b):∃ m,w.cell? ⟨b,0,none⟩=some (.int .i64 m):=by
 obtain ⟨⟨vs,h3,m,h4⟩,_⟩:=hG "internal/bytealg.MaxLen" (fun vs=>∃ m,vs[0]? = some (.int .i64 m)) (by unfold pins; exact List.mem_cons_of_mem _ List.mem_cons_self) b hb
 exact ⟨m,by rw [World.var?_cell hb h3 0]; exact h4⟩
theorem var_of_cell {P:Program} {n:String} {w:World} {g:Nat} {v:Value} (hg:P.globalNamed n=some g) (h:w.cell? ⟨g,0,none⟩=some v):∃ vs,w.var? P n=some vs∧vs[0]? = some v:=by
 unfold World.var?
 rw [hg]
 simp only [Option.bind_some]
 unfold World.cell? at h
 simp only at h
 split at h
 ·rename_i cs t fz he
  rw [he]
  exact ⟨cs,rfl,by simpa using h⟩
 all_goals simp at h
theorem gl_errSyntax {P:Program} {l:Lab} {w:World} (hG:Gl P l w) {b:Nat} (hb:P.globalNamed "strconv.ErrSyntax" = some b):∃ t p,w.var? P "strconv.ErrSyntax" = some #[.iface t p]:=by
 obtain ⟨⟨vs,h3,t,p,h4⟩,_⟩:=hG "strconv.ErrSyntax" (fun vs=>∃ t p,vs = #[.iface t p]) (by unfold pins; exact List.mem_cons_of_mem _ (List.mem_cons_of_mem _ List.mem_cons_self)) b hb
 exact ⟨t,p,by rw [h3,h4]⟩
theorem gl_errRange {P:Program} {l:Lab} {w:World} (hG:Gl P l w) {b:Nat} (hb:P.globalNamed "strconv.ErrRange" = some b):∃ t p,w.var? P "strconv.ErrRange" = some #[.iface t p]:=by
 obtain ⟨⟨vs,h3,t,p,h4⟩,_⟩:=hG "strconv.ErrRange" (fun vs=>∃ t p,vs = #[.iface t p]) (by unfold pins; exact List.mem_cons_of_mem _ (List.mem_cons_of_mem _ (List.mem_cons_of_mem _ List.mem_cons_self))) b hb
 exact ⟨t,p,by rw [h3,h4]⟩
theorem below_alloc (w:World) (o:Obj):Below w.heap.size w (w.alloc o):=(Below.refl _ w).alloc (Nat.le_refl _) o
theorem shV_new {g:Gh} {w:World} {e:TypeId} {xs:List ByteArray} {n:Nat} (hn:n=xs.length) (hl:∀ b o q,g.lab b o=some q→b<w.heap.size) :
  shV (α:=List UInt8) 1 (Sh g.lab (w.alloc (.cells (xs.map Value.string).toArray e)) .str) (xs.map (·.data.toList)) (.slice (some ⟨w.heap.size,0,none⟩) n n):=by
 refine ⟨_,_,_,rfl,(by simpa using hn),Nat.le_refl _,(fun h=>by cases h),fun _=>⟨w.heap.size,0,rfl,fun i hi=>?_⟩⟩
 have hi':i<xs.length:=by simpa using hi
 refine ⟨?_,?_⟩
 ·have:(w.alloc (.cells (xs.map Value.string).toArray e)).cell? ⟨w.heap.size,0+i*1,none⟩=(xs.map Value.string).toArray[0+i*1]?:=NewB.new (NewB_alloc w (xs.map Value.string).toArray e) (0+i*1)
  show (w.alloc (.cells (xs.map Value.string).toArray e)).cell? ⟨w.heap.size,0+i*1,none⟩=_
  rw [this]
  simp [hi']
 ·show g.lab w.heap.size _=none
  cases h:g.lab w.heap.size (0+i*1) with
  | none=>rfl
  | some q=>exact absurd (hl _ _ _ h) (Nat.lt_irrefl _)
theorem split_sound {P:Program} {f:FuncId} {b:Nat} {e:TypeId} (hg:P.globalNamed "internal/bytealg.MaxLen" = some b)
  (K:∀ (s sep:ByteArray) (m:Int) (w:World),s.size<4294967281→w.cell? ⟨b,0,none⟩=some (.int .i64 m)→1≤sep.size→
   Calls P f #[.string s,.string sep] w fun ed w'=>ed = .returned (.slice (some ⟨w.heap.size,0,none⟩) (Lib.countB s sep+1) (Lib.countB s sep+1))∧w'=w.alloc (.cells ((Lib.splitB sep 0 (Lib.countB s sep) s).map Value.string).toArray e)):Sound P f splitM:=by
 intro x y hm _ site hs g w args E hG
 obtain ⟨v1,r,ha,h1,v2,r2,hr2,h2,h3⟩:=E.vals
 obtain rfl:r2=[]:=h3
 obtain rfl:v2 = .string ⟨(x.2.1:List UInt8).toArray⟩:=h2
 obtain rfl:v1 = .string ⟨(x.1:List UInt8).toArray⟩:=h1
 subst hr2
 subst ha
 obtain ⟨s,sep,⟨⟩⟩:=x
 replace hm:splitF s sep=some y:=hm
 have hone:∃ c,sep=[c]:=by
  match sep,hm with
  | [c],_=>exact ⟨c,rfl⟩
  | [],hm=>cases hm
  | _::_::_,hm=>cases hm
 obtain ⟨c,rfl⟩:=hone
 replace hm:(if (s:List UInt8).length<4294967281 then some (splitR c s,()) else none)=some y:=hm
 split at hm
 ·rename_i hlen
  obtain rfl:=Option.some.inj hm
  obtain ⟨m,hmc⟩:=gl_maxLen hG hg
  have hsz:(⟨(s:List UInt8).toArray⟩:ByteArray).size<4294967281:=Nat.lt_of_le_of_lt (Nat.le_of_eq (ba_size s)) hlen
  have h1:1≤(⟨#[c]⟩:ByteArray).size:=Nat.le_refl 1
  refine (K ⟨(s:List UInt8).toArray⟩ ⟨#[c]⟩ m w hsz hmc h1).mono fun ed w' he=>?_
  obtain ⟨rfl,rfl⟩:=he
  have hc:Lib.countB (⟨(s:List UInt8).toArray⟩:ByteArray) ⟨#[c]⟩=Lib.count s [c]:=by simp [Lib.countB]
  have hl:=Lib.splitB_all ⟨#[c]⟩ h1 0 _ ⟨(s:List UInt8).toArray⟩ rfl
  have hd:=Lib.splitB_data ⟨#[c]⟩ 0 (Lib.countB (⟨(s:List UInt8).toArray⟩:ByteArray) ⟨#[c]⟩) ⟨(s:List UInt8).toArray⟩
  have hd2:(Lib.splitB ⟨#[c]⟩ 0 (Lib.countB (⟨(s:List UInt8).toArray⟩:ByteArray) ⟨#[c]⟩) ⟨(s:List UInt8).toArray⟩).map (·.data.toList)=splitR c s:=by
   rw [hd,hc]; exact splitK_eq c s
  refine ⟨_,g,rfl,exit_below (m:=splitM) (below_alloc w _) E.labs ?_ rfl trivial⟩
  show shV (α:=List UInt8) 1 (Sh g.lab _ .str) (splitR c s) _
  rw [← hd2]
  exact shV_new hl.symm E.labs
 ·cases hm
def atoiF (s:List UInt8):Option (OTs [Ty.int .i64,Ty.err]):=
 if s.length≤281474976710656 then (match Lib.atoiAll s with | .ok v=>some (v,(true,())) | .«syntax»=>some ((0:Int),(false,())) | .range=>some (Lib.atoiSat s,(false,()))) else none
abbrev atoiM:Mng:=⟨[.val .str],[.val (.int .i64),.val .err],fun x=>atoiF x.1⟩
theorem atoi_sound {P:Program} {f:FuncId} {e5:TypeId} (hg1:(P.globalNamed "strconv.ErrSyntax").isSome=true) (hg2:(P.globalNamed "strconv.ErrRange").isSome=true)
  (K1:∀ (s:ByteArray),s.size≤9223372036854775806→∀ (v:Int),Lib.atoiAll s.data.toList = .ok v→∀ w,Calls P f #[.string s] w fun e w'=>e = .returned (.tuple #[.int .i64 v,.nilIface])∧(w'=w∨∃ t,w'=Lib.bytesWorld w e5 t))
  (K2:∀ (s:ByteArray),s.size≤281474976710656→Lib.atoiAll s.data.toList = .«syntax»→∀ (tp:TypeId) (p:Value) (w:World),w.var? P "strconv.ErrSyntax" = some #[.iface tp p]→
   Calls P f #[.string s] w fun e w'=>∃ t p,e = .returned (.tuple #[.int .i64 0,.iface t p])∧Below w.heap.size w w')
  (K3:∀ (s:ByteArray),s.size≤281474976710656→Lib.atoiAll s.data.toList = .range→∀ (tp:TypeId) (p:Value) (w:World),w.var? P "strconv.ErrRange" = some #[.iface tp p]→
   Calls P f #[.string s] w fun e w'=>∃ t p,e = .returned (.tuple #[.int .i64 (Lib.atoiSat s.data.toList),.iface t p])∧Below w.heap.size w w'):Sound P f atoiM:=by
 intro x y hm _ site hs g w args E hG
 obtain ⟨b1,hg1⟩:=Option.isSome_iff_exists.1 hg1
 obtain ⟨b2,hg2⟩:=Option.isSome_iff_exists.1 hg2
 obtain ⟨v1,r,ha,h1,h2⟩:=E.vals
 obtain rfl:r=[]:=h2
 obtain rfl:v1 = .string ⟨(x.1:List UInt8).toArray⟩:=h1
 subst ha
 obtain ⟨s,⟨⟩⟩:=x
 replace hm:atoiF s=some y:=hm
 unfold atoiF at hm
 split at hm
 ·rename_i hlen
  have hsz:(⟨(s:List UInt8).toArray⟩:ByteArray).size≤281474976710656:=Nat.le_trans (Nat.le_of_eq (ba_size s)) hlen
  have fin:∀ (n:Int) (eb:Bool) (v:Value) (w':World),ErrV eb v→Below w.heap.size w w'→ExitOK g w site atoiM (n,(eb,())) (.tuple #[.int .i64 n,v]) g w':=fun n eb v w' hv hb=>
   exit_below (m:=atoiM) hb E.labs ⟨[.int .i64 n,v],rfl,_,_,rfl,rfl,_,_,rfl,hv,rfl⟩ rfl trivial
  split at hm
  ·rename_i v hv
   obtain rfl:=Option.some.inj hm
   refine (K1 ⟨(s:List UInt8).toArray⟩ (by omega) v hv w).mono fun e w' he=>?_
   obtain ⟨rfl,hw⟩:=he
   refine ⟨_,g,rfl,fin v true _ w' rfl ?_⟩
   rcases hw with rfl | ⟨t,rfl⟩
   ·exact Below.refl _ _
   ·exact Lib.bytesWorld_below w e5 t
  ·rename_i hv
   obtain rfl:=Option.some.inj hm
   obtain ⟨t,p,hvar⟩:=gl_errSyntax hG hg1
   refine (K2 ⟨(s:List UInt8).toArray⟩ hsz hv t p w hvar).mono fun e w' he=>?_
   obtain ⟨t',p',rfl,hw⟩:=he
   exact ⟨_,g,rfl,fin 0 false _ w' ⟨t',p',rfl⟩ hw⟩
  ·rename_i hv
   obtain rfl:=Option.some.inj hm
   obtain ⟨t,p,hvar⟩:=gl_errRange hG hg2
   refine (K3 ⟨(s:List UInt8).toArray⟩ hsz hv t p w hvar).mono fun e w' he=>?_
   obtain ⟨t',p',rfl,hw⟩:=he
   exact ⟨_,g,rfl,fin _ false _ w' ⟨t',p',rfl⟩ hw⟩
 ·simp at hm
def hasSufF (s p:List UInt8):Option (OTs [Ty.bool]):=if s.length≤9223372036854775807 then some (Lib.hasSuffix s p,()) else none
abbrev hasSufM:Mng:=⟨[.val .str,.val .str],[.val .bool],fun x=>hasSufF x.1 x.2.1⟩
theorem hasSuf_sound {P:Program} {f:FuncId}
  (K:∀ (s p:ByteArray) (w:World),s.size≤9223372036854775807→Calls P f #[.string s,.string p] w fun e w'=>e = .returned (.bool (Lib.hasSuffix s.data.toList p.data.toList))∧w'=w):Sound P f hasSufM:=by
 intro x y hm _ site hs g w args E hG
 obtain ⟨v1,r,ha,h1,v2,r2,hr2,h2,h3⟩:=E.vals
 obtain rfl:r2=[]:=h3
 obtain rfl:v2 = .string ⟨(x.2.1:List UInt8).toArray⟩:=h2
 obtain rfl:v1 = .string ⟨(x.1:List UInt8).toArray⟩:=h1
 subst hr2
 subst ha
 obtain ⟨s,sep,⟨⟩⟩:=x
 replace hm:hasSufF s sep=some y:=hm
 unfold hasSufF at hm
 split at hm
 ·rename_i hlen
  obtain rfl:=Option.some.inj hm
  refine (K ⟨(s:List UInt8).toArray⟩ ⟨(sep:List UInt8).toArray⟩ w (Nat.le_trans (Nat.le_of_eq (ba_size s)) hlen)).mono fun e w' he=>?_
  obtain ⟨rfl,rfl⟩:=he
  exact ⟨_,g,rfl,exit_below (m:=hasSufM) (Below.refl _ _) E.labs rfl rfl trivial⟩
 ·simp at hm
def trimSufF (s p:List UInt8):Option (OTs [Ty.str]):=if s.length≤9223372036854775807 then some (Lib.trimSuffix s p,()) else none
abbrev trimSufM:Mng:=⟨[.val .str,.val .str],[.val .str],fun x=>trimSufF x.1 x.2.1⟩
theorem trimSuf_sound {P:Program} {f:FuncId}
  (K:∀ (s p:ByteArray) (w:World),s.size≤9223372036854775807→Calls P f #[.string s,.string p] w fun e w'=>e = .returned (.string ⟨(Lib.trimSuffix s.data.toList p.data.toList).toArray⟩)∧w'=w):Sound P f trimSufM:=by
 intro x y hm _ site hs g w args E hG
 obtain ⟨v1,r,ha,h1,v2,r2,hr2,h2,h3⟩:=E.vals
 obtain rfl:r2=[]:=h3
 obtain rfl:v2 = .string ⟨(x.2.1:List UInt8).toArray⟩:=h2
 obtain rfl:v1 = .string ⟨(x.1:List UInt8).toArray⟩:=h1
 subst hr2
 subst ha
 obtain ⟨s,sep,⟨⟩⟩:=x
 replace hm:trimSufF s sep=some y:=hm
 unfold trimSufF at hm
 split at hm
 ·rename_i hlen
  obtain rfl:=Option.some.inj hm
  refine (K ⟨(s:List UInt8).toArray⟩ ⟨(sep:List UInt8).toArray⟩ w (Nat.le_trans (Nat.le_of_eq (ba_size s)) hlen)).mono fun e w' he=>?_
  obtain ⟨rfl,rfl⟩:=he
  exact ⟨_,g,rfl,exit_below (m:=trimSufM) (Below.refl _ _) E.labs rfl rfl trivial⟩
 ·simp at hm
def cutF (s p:List UInt8):Option (OTs [Ty.str,Ty.str,Ty.bool]):=if s.length<4294967281 then some ((Lib.cut s p).1,((Lib.cut s p).2.1,((Lib.cut s p).2.2,()))) else none
abbrev cutM:Mng:=⟨[.val .str,.val .str],[.val .str,.val .str,.val .bool],fun x=>cutF x.1 x.2.1⟩
theorem cut_sound {P:Program} {f:FuncId} {b:Nat} (hg:P.globalNamed "internal/bytealg.MaxLen" = some b)
  (K:∀ (s sep:ByteArray) (m:Int) (w:World),s.size<4294967281→w.cell? ⟨b,0,none⟩=some (.int .i64 m)→
   Calls P f #[.string s,.string sep] w fun e w'=>e = .returned (.tuple #[.string ⟨(Lib.cut s.data.toList sep.data.toList).1.toArray⟩,.string ⟨(Lib.cut s.data.toList sep.data.toList).2.1.toArray⟩,.bool (Lib.cut s.data.toList sep.data.toList).2.2])∧∃ n,w'=w.drewN n):Sound P f cutM:=by
 intro x y hm _ site hs g w args E hG
 obtain ⟨v1,r,ha,h1,v2,r2,hr2,h2,h3⟩:=E.vals
 obtain rfl:r2=[]:=h3
 obtain rfl:v2 = .string ⟨(x.2.1:List UInt8).toArray⟩:=h2
 obtain rfl:v1 = .string ⟨(x.1:List UInt8).toArray⟩:=h1
 subst hr2
 subst ha
 obtain ⟨s,sep,⟨⟩⟩:=x
 replace hm:cutF s sep=some y:=hm
 unfold cutF at hm
 split at hm
 ·rename_i hlen
  obtain rfl:=Option.some.inj hm
  obtain ⟨m,hmc⟩:=gl_maxLen hG hg
  refine (K ⟨(s:List UInt8).toArray⟩ ⟨(sep:List UInt8).toArray⟩ m w (Nat.lt_of_le_of_lt (Nat.le_of_eq (ba_size s)) hlen) hmc).mono fun e w' he=>?_
  obtain ⟨rfl,n,rfl⟩:=he
  exact ⟨_,g,rfl,exit_below (m:=cutM) (below_drewN w n) E.labs ⟨_,rfl,_,_,rfl,rfl,_,_,rfl,rfl,_,_,rfl,rfl,rfl⟩ rfl trivial⟩
 ·simp at hm
theorem returns_shaped_and {H:Type} {enc:TypeId×Value→H} {a:Assume} {C:Checked} {os:Os} {f:FuncId} {fn:Func} {s:ChangeSpec} {conds:List PathCond} {apart fresh handsOn again:Bool} {X:World→Array Value→Prop}
  (hX:∀ (w w':World) (args:Array Value),w.heap=w'.heap→X w args→X w' args)
  (own:ownKnob C.prog.godebug=none) (started:os.Started) (noInit:C.prog.inits.idxOf? f=none) (hfn:C.prog.funcs[f]? = some fn)
  (witness:∃ (w:World) (tape:Tape) (i:Input),w.os=os∧(w.forCall tape i).Shaped C.prog∧i.vars=[]∧Input.okWide C.prog (w.forCall tape i) .any w.heap.size f i∧
   ((s.pre enc C.prog fn conds apart (w.forCall tape i).memory i.args∧X (w.forCall tape i).memory i.args)∧sizedMet enc C.prog fn (OpenSpec.ofChange s) apart (w.forCall tape i).memory i.args)∧a.holds C.prog (lone (Frame.enter C.prog f i.args .normal) [] (w.forCall tape i)))
  (contract:∀ (W:World) (base:Nat) (args:Array Value) (ds gs:List (DataW H)) (before:List MemPlace),
   (∀ (j:Nat) t v,fn.params[j]? = some t→args[j]? = some v→Value.okWide C.prog W .any base t v)→
   DataW.Whole enc C.prog fn.params.toList s.vars apart W args.toList ds gs before→
   W.ShapedOpen C.prog→X W args→
   Calls C.prog f args W fun e W'=>∃ v,e = .returned v∧s.post enc C.prog fn apart fresh handsOn again W args v W') :
  ReturnsInHanded a C os f .any (fun w args=>(s.pre enc C.prog fn conds apart w args∧X w args)∧sizedMet enc C.prog fn (OpenSpec.ofChange s) apart w args) (s.post enc C.prog fn apart fresh handsOn again):=by
 refine returnsInHanded_of_calls own started noInit witness ?_
 intro w tape i _ hsh _ hok hpre hholds
 obtain ⟨_,_,_,fn',hfn',_,_,_,_,hval⟩:=hok
 have e:fn'=fn:=Option.some.inj (hfn'.symm.trans hfn)
 subst e
 obtain ⟨⟨⟨ds,gs,before,hw,hc⟩,hx⟩,hz⟩:=hpre
 have hw':=DataW.Whole.of_heap (w':=w.forCall tape i) (by rfl) hw
 refine (contract (w.forCall tape i) w.heap.size i.args ds gs before hval hw' hsh (hX _ _ _ (by rfl) hx)).mono fun e W' ⟨v,he,hp⟩=>?_
 subst he
 exact ChangeSpec.post_blind hp
end Go.Am
namespace Go.Am
open Go
open Go.Maps (Keyed)
theorem firstOf_ok {α:Type} {f:Oper→Option α} : ∀ (ops:List Oper) (i0:Nat) {i:Nat} {x:α},firstOf f ops i0=some (i,x)→∃ (j:Nat) (o:Oper),i=i0+j∧ops[j]? = some o∧f o=some x
 | [],_,_,_,h=>by simp [firstOf] at h
 | o::r,i0,i,x,h=>by
  unfold firstOf at h
  split at h
  ·rename_i y hy
   simp only [Option.some.injEq,Prod.mk.injEq] at h
   obtain ⟨rfl,rfl⟩:=h
   exact ⟨0,o,rfl,rfl,hy⟩
  ·obtain ⟨j,o',h1,h2,h3⟩:=firstOf_ok r (i0+1) h
   exact ⟨j+1,o',by omega,by simpa using h2,h3⟩
theorem firstOf_0 {α:Type} {f:Oper→Option α} {ops:List Oper} {i:Nat} {x:α} (h:firstOf f ops 0=some (i,x)):∃ o:Oper,ops[i]? = some o∧f o=some x:=by
 obtain ⟨j,o,h1,h2,h3⟩:=firstOf_ok ops 0 h
 obtain rfl:i=j:=by omega
 exact ⟨o,h2,h3⟩
theorem eachOf_ok {α:Type} {f:Nat→Oper→Option α} : ∀ (ops:List Oper) (i0:Nat) {x:α},x∈eachOf f ops i0→∃ (j:Nat) (o:Oper),ops[j]? = some o∧f (i0+j) o=some x
 | [],_,_,h=>by simp [eachOf] at h
 | o::r,i0,x,h=>by
  unfold eachOf at h
  split at h
  ·rename_i y hy
   rcases List.mem_cons.1 h with rfl | h
   ·exact ⟨0,o,rfl,hy⟩
   ·obtain ⟨j,o',h2,h3⟩:=eachOf_ok r (i0+1) h
    exact ⟨j+1,o',by simpa using h2,by rw [show i0+(j+1)=i0+1+j by omega]; exact h3⟩
  ·obtain ⟨j,o',h2,h3⟩:=eachOf_ok r (i0+1) h
   exact ⟨j+1,o',by simpa using h2,by rw [show i0+(j+1)=i0+1+j by omega]; exact h3⟩
theorem allB_ok {f : Nat → Oper → Bool} : ∀ (ops : List Oper) (i0 : Nat), allB f ops i0 = true → ∀ (j : Nat) (o : Oper), ops[j]? = some o → f (i0 + j) o = true
  | [], _, _, j, o, h => by simp at h
  | o :: r, i0, h, j, o', hj => by
    unfold allB at h
    simp only [Bool.and_eq_true] at h
    cases j with
    | zero => obtain rfl : o = o' := by simpa using hj
              exact h.1
    | succ j =>
      have := allB_ok r (i0 + 1) h.2 j o' (by simpa using hj)
      rw [show i0 + (j + 1) = i0 + 1 + j by omega]; exact this
theorem eqK_self:∀ a:List UInt8,eqK a a=true
 | []=>rfl
 | x::r=>by simp [eqK,eqK_self r]
theorem apart_ne:∀ {l:List MapI},apartB l=true→∀ {x y:MapI},x∈l→y∈l→x.key=y.key→x=y
 | [],_,x,_,hx,_,_=>by simp at hx
 | z::r,h,x,y,hx,hy,e=>by
  unfold apartB at h
  simp only [Bool.and_eq_true,List.all_eq_true,Bool.not_eq_true'] at h
  have key:∀ u∈r,z.key≠u.key:=fun u hu e=>by
   have:=h.1 u hu
   rw [e,eqK_self] at this
   simp at this
  rcases List.mem_cons.1 hx with h1 | h1<;>rcases List.mem_cons.1 hy with h2 | h2
  ·rw [h1,h2]
  ·rw [h1] at e; exact absurd e (key y h2)
  ·rw [h2] at e; exact absurd e.symm (key x h1)
  ·exact apart_ne h.2 h1 h2 e
theorem edgeB_ok {o:Oper} {j:Nat} (h:edgeB o j=true):∃ e∈o.after.toList,Region.binds .any e=true∧e.on=j:=by
 unfold edgeB at h
 obtain ⟨e,h1,h2⟩:=List.any_eq_true.1 h
 simp only [Bool.and_eq_true] at h2
 exact ⟨e,h1,h2.1,Nat.eq_of_beq_eq_true h2.2⟩
theorem opB_ok {f:Oper→Bool} {i:Nat} {ops:List Oper} (h:opB f i ops=true):∃ o:Oper,ops[i]? = some o∧f o=true:=by
 unfold opB at h
 split at h
 ·rename_i o ho; exact ⟨o,ho,h⟩
 ·cases h
theorem dstIs_iff {t:Nat} {o:Oper} : dstIs t o=true↔o.dst=some t:=by
 unfold dstIs
 cases o.dst with
 | none=>simp
 | some d=>simp only [Nat.beq_eq,Option.some.injEq]
theorem evSel_ok {ρ:Type} {r:ρ} {s:List UInt8} {f:Nat→Option ρ} : ∀ {l:List MapI},evSel s f l=some r→∃ x∈l,x.key=s∧f x.v=some r
 | [],h=>by simp [evSel] at h
 | x::l,h=>by
  unfold evSel at h
  by_cases hk:s=x.key
  ·rw [decide_eq_true hk] at h
   exact ⟨x,by simp,hk.symm,h⟩
  ·rw [decide_eq_false hk] at h
   obtain ⟨y,h1,h2,h3⟩:=evSel_ok h
   exact ⟨y,by simp [h1],h2,h3⟩
structure MapFacts (T:Nat) (ops:List Oper) (mf:MapF):Prop where
 guard:∀ (i:Nat) (o:Oper),ops[i]? = some o→o.guard=none
 make:∀ (i:Nat) (o:Oper) t r,ops[i]? = some o→o.op = .makeMap t r→t=T∧r=none∧i=mf.im∧o.dst=some mf.tm
 insert:∀ (i:Nat) (o:Oper) t m k v,ops[i]? = some o→o.op = .insert t m k v→t=T∧m = .tmp mf.tm∧o.dst=none∧∃ x∈mf.ins,∃ s:ByteArray,x.i=i∧k = .const (.string s)∧s.data.toList=x.key∧s.size≤1000∧v = .tmp x.v∧edgeB o mf.im=true∧edgeB o x.p=true
 look:∀ (i:Nat) (o:Oper) t m k c,ops[i]? = some o→o.op = .lookup t m k c→t=T∧m = .tmp mf.tk∧k = .tmp mf.tq∧c=false∧i=mf.il∧edgeB o mf.ik=true∧edgeB o mf.iq=true
 move:∃ o:Oper,ops[mf.ik]? = some o∧o.op = .move (.tmp mf.tm)∧o.dst=some mf.tk∧edgeB o mf.im=true∧∀ x∈mf.ins,edgeB o x.i=true
 src:∃ o:Oper,ops[mf.iq]? = some o∧o.op = .move (.tmp mf.t1)∧o.dst=some mf.tq
 prod:∀ x∈mf.ins,∃ o:Oper,ops[x.p]? = some o∧o.dst=some x.v
 dtm:∀ (i:Nat) (o:Oper),ops[i]? = some o→o.dst=some mf.tm→i=mf.im
 dtk:∀ (i:Nat) (o:Oper),ops[i]? = some o→o.dst=some mf.tk→i=mf.ik
 dtq:∀ (i:Nat) (o:Oper),ops[i]? = some o→o.dst=some mf.tq→i=mf.iq
 dt1:∀ (i:Nat) (o:Oper),ops[i]? = some o→o.dst≠some mf.t1
 dv:∀ x∈mf.ins,∀ (i:Nat) (o:Oper),ops[i]? = some o→o.dst=some x.v→i=x.p
 keys:∀ x∈mf.ins,∀ y∈mf.ins,x.key=y.key→x=y
 few:mf.ins.length≤1000
 atm:∃ (o:Oper) (t:Nat) (r:Option Operand),ops[mf.im]? = some o∧o.op = .makeMap t r
 inz:∀ x∈mf.ins,∃ (o:Oper) (t:Nat) (m v:Operand) (s:ByteArray),ops[x.i]? = some o∧o.op = .insert t m (.const (.string s)) v∧s.data.toList=x.key
theorem mapFacts {T:Nat} {ops:List Oper} {mf:MapF} (hf:mapForm ops=some mf) (h:mapOK T ops mf=true):MapFacts T ops mf:=by
 unfold mapForm at hf
 split at hf
 ·cases hf
 rename_i im tm e1
 split at hf
 ·cases hf
 rename_i ik tk e2
 split at hf
 ·cases hf
 rename_i il tq e3
 split at hf
 ·cases hf
 rename_i iq t1 e4
 obtain rfl:=Option.some.inj hf
 unfold mapOK at h
 simp only [Bool.and_eq_true,List.all_eq_true] at h
 obtain ⟨h1,h2,h3,h4,h5,h6⟩:=h
 have hp:∀ (i:Nat) (o:Oper),ops[i]? = some o→plainB T ⟨im,tm,ik,tk,iq,tq,t1,il,eachOf (insOf ops) ops 0⟩ i o=true:=fun i o ho=>by
  have:=allB_ok ops 0 h1 i o ho
  rwa [Nat.zero_add] at this
 have hmem:∀ x∈eachOf (insOf ops) ops 0,∃ (o:Oper) (t:Nat) (m:Nat) (s:ByteArray),ops[x.i]? = some o∧o.op = .insert t (.tmp m) (.const (.string s)) (.tmp x.v)∧x.key=s.data.toList∧∃ op:Oper,ops[x.p]? = some op∧op.dst=some x.v:=fun x hx=>by
  obtain ⟨j,o,ho,hfo⟩:=eachOf_ok ops 0 hx
  rw [Nat.zero_add] at hfo
  unfold insOf at hfo
  split at hfo
  ·rename_i t m s v hop
   split at hfo
   ·rename_i p u hp1
    obtain rfl:=Option.some.inj hfo
    obtain ⟨op,h7,h8⟩:=firstOf_0 hp1
    refine ⟨o,t,m,s,ho,hop,rfl,op,h7,?_⟩
    unfold wrtOf at h8
    split at h8
    ·rename_i hd; exact dstIs_iff.1 hd
    ·cases h8
   ·cases hfo
  ·cases hfo
 have hpl:∀ (i:Nat) (o:Oper),ops[i]? = some o→o.guard=none∧(o.dst=some tm→i=im)∧(o.dst=some tk→i=ik)∧(o.dst=some tq→i=iq)∧o.dst≠some t1∧∀ x∈eachOf (insOf ops) ops 0,o.dst=some x.v→i=x.p:=fun i o ho=>by
  have:=hp i o ho
  unfold plainB at this
  simp only [Bool.and_eq_true,Bool.or_eq_true,Bool.not_eq_true',List.all_eq_true] at this
  obtain ⟨⟨g1,-⟩,g2,g3,g4,g5,g6⟩:=this
  have q:∀ {t j:Nat},(dstIs t o=false∨Nat.beq i j=true)→o.dst=some t→i=j:=fun h hd=>by
   rcases h with h | h
   ·rw [dstIs_iff.2 hd] at h; cases h
   ·exact Nat.eq_of_beq_eq_true h
  refine ⟨by simpa using g1,q g2,q g3,q g4,fun hd=>?_,fun x hx=>q (g6 x hx)⟩
  rw [dstIs_iff.2 hd] at g5; cases g5
 refine ⟨fun i o ho=>(hpl i o ho).1,fun i o t r ho hop=>?_,fun i o t m k v ho hop=>?_,fun i o t m k c ho hop=>?_,?_,?_,fun x hx=>?_,fun i o ho=>(hpl i o ho).2.1,fun i o ho=>(hpl i o ho).2.2.1,fun i o ho=>(hpl i o ho).2.2.2.1,fun i o ho=>(hpl i o ho).2.2.2.2.1,fun x hx i o ho=>(hpl i o ho).2.2.2.2.2 x hx,fun x hx y hy=>apart_ne h5 hx hy,Nat.le_of_ble_eq_true h6,?_,fun x hx=>?_⟩
 ·have:=hp i o ho
  unfold plainB at this
  simp only [Bool.and_eq_true] at this
  have h7:=this.1.2
  rw [hop] at h7
  cases r with
  | some r=>cases h7
  | none=>
   simp only [Bool.and_eq_true] at h7
   have hi:=Nat.eq_of_beq_eq_true h7.2
   obtain ⟨o',h8,h9⟩:=firstOf_0 e1
   have hi:i=im:=hi
   subst hi
   rw [ho] at h8
   obtain rfl:=Option.some.inj h8
   unfold makerOf at h9
   rw [hop] at h9
   exact ⟨Nat.eq_of_beq_eq_true h7.1,rfl,rfl,h9⟩
 ·have:=hp i o ho
  unfold plainB at this
  simp only [Bool.and_eq_true] at this
  have h7:=this.1.2
  rw [hop] at h7
  obtain ⟨m',rfl⟩:∃ m',m = .tmp m':=by cases m<;>first | exact ⟨_,rfl⟩ | (cases h7; done) | (exfalso; revert h7; simp)
  obtain ⟨s',rfl⟩:∃ s',k = .const (.string s'):=by
   cases k with
   | const cv=>cases cv<;>first | exact ⟨_,rfl⟩ | (cases h7; done) | (exfalso; revert h7; simp)
   | _=>first | (cases h7; done) | (exfalso; revert h7; simp)
  obtain ⟨v',rfl⟩:∃ v',v = .tmp v':=by cases v<;>first | exact ⟨_,rfl⟩ | (cases h7; done) | (exfalso; revert h7; simp)
  ·skip
   simp only [Bool.and_eq_true] at h7
   obtain ⟨q1,q2,q3,q4,q5⟩:=h7
   obtain ⟨x,hx,hxi⟩:=List.any_eq_true.1 q4
   have hxi:=Nat.eq_of_beq_eq_true hxi
   obtain ⟨o',t',m'',s'',r1,r2,r3,-⟩:=hmem x hx
   rw [hxi,ho] at r1
   obtain rfl:=Option.some.inj r1
   rw [hop] at r2
   injection r2 with b1 b2 b3 b4
   have b5:s'=s'':=by injection b3 with b3; injection b3
   subst b5
   obtain ⟨o2,h8,h9⟩:=opB_ok (h4 x hx)
   rw [hxi,ho] at h8
   obtain rfl:=Option.some.inj h8
   simp only [Bool.and_eq_true] at h9
   refine ⟨Nat.eq_of_beq_eq_true q1,by rw [Nat.eq_of_beq_eq_true q2],by simpa using q3,x,hx,s',hxi,rfl,r3.symm,?_,b4,h9.1,h9.2⟩
   have:s'.data.toList.length≤1000:=Nat.le_of_ble_eq_true q5
   show s'.data.size≤1000
   rw [← Array.length_toList]; exact this
 ·have:=hp i o ho
  unfold plainB at this
  simp only [Bool.and_eq_true] at this
  have h7:=this.1.2
  rw [hop] at h7
  obtain ⟨m',rfl⟩:∃ m',m = .tmp m':=by cases m<;>first | exact ⟨_,rfl⟩ | (cases h7; done) | (exfalso; revert h7; simp)
  obtain ⟨k',rfl⟩:∃ k',k = .tmp k':=by cases k<;>first | exact ⟨_,rfl⟩ | (cases h7; done) | (exfalso; revert h7; simp)
  obtain rfl:c=false:=by cases c<;>first | rfl | (cases h7; done) | (exfalso; revert h7; simp)
  ·simp only [Bool.and_eq_true] at h7
   obtain ⟨q1,q2,q3,q4⟩:=h7
   have q2:=Nat.eq_of_beq_eq_true q2
   obtain ⟨o2,h8,h9⟩:=opB_ok h3
   have q2:i=il:=q2
   subst q2
   rw [ho] at h8
   obtain rfl:=Option.some.inj h8
   simp only [Bool.and_eq_true] at h9
   exact ⟨Nat.eq_of_beq_eq_true q1,by rw [Nat.eq_of_beq_eq_true q3],by rw [Nat.eq_of_beq_eq_true q4],rfl,rfl,h9.1,h9.2⟩
 ·obtain ⟨o,h8,h9⟩:=firstOf_0 e2
  unfold moverOf at h9
  split at h9
  ·rename_i s hop
   split at h9
   ·rename_i hs
    obtain ⟨o2,h10,h11⟩:=opB_ok h2
    rw [h8] at h10
    obtain rfl:=Option.some.inj h10
    simp only [Bool.and_eq_true] at h11
    exact ⟨o,h8,by rw [hop,Nat.eq_of_beq_eq_true hs],h9,h11.1,List.all_eq_true.1 h11.2⟩
   ·cases h9
  ·cases h9
 ·obtain ⟨o,h8,h9⟩:=firstOf_0 e4
  unfold srcOf at h9
  split at h9
  ·rename_i s hop
   split at h9
   ·rename_i hs
    obtain rfl:=Option.some.inj h9
    exact ⟨o,h8,hop,dstIs_iff.1 hs⟩
   ·cases h9
  ·cases h9
 ·obtain ⟨o,t,m,s,-,-,-,op,h7,h8⟩:=hmem x hx
  exact ⟨op,h7,h8⟩
 ·obtain ⟨o,h8,h9⟩:=firstOf_0 e1
  unfold makerOf at h9
  split at h9
  ·rename_i t hop; exact ⟨o,t,none,h8,hop⟩
  ·cases h9
 ·obtain ⟨o,t,m,s,h7,h8,h9,-⟩:=hmem x hx
  exact ⟨o,t,_,_,s,h7,h8,h9.symm⟩
section
variable {P:Program} {c:Cfg} {w0:World} {F:Lab} {N:Nat} {g g':Gh} {w w':World} {U U':Nat→Prop} {st:St} {a:Act}
theorem step_core (hc:TysOK P c) (hG:Gl P F w0) {all:List Oper} (hN:∀ o∈all,∀ x,o.dst=some x→x<N) {es:List EffI} (D0:Drawn c all st all.length es) (hp:pairsOk es.length.pred es=true)
  {g0:Gh} {U0:Nat→Prop} {D:Nat→Bool} {i:Nat} {o:Oper} (ho:all[i]? = some o) (hgd:o.guard=none) (hi:D i=false) (hr:∀ e∈o.after.toList,Region.binds .any e=true→D e.on=true)
  (I:Inv w0 F N g0 U0 st es D g U a w):∃ e,atE es i=some e∧¬ U (st.nxt+i)∧
   (∃ rs,Sit P c g w U rs a∧evOp c rs (st.nxt+i) o.op some=some e.eff∧∀ t∈opTmps o.op.operands.toList,look rs.env t=look (selL st D es).env t)∧
   (∀ v w' g' U',Post g w U (st.nxt+i) e.eff v w' g' U'→Inv w0 F N g0 U0 st es (fun j=>D j||j==i) g' U' (a.put o.dst v) w'):=by
 have hlen:=D0.len
 have hilt:i<es.length:=by rw [hlen]; exact (List.getElem?_eq_some_iff.1 ho).1
 obtain ⟨e,he⟩:∃ e,atE es i=some e:=⟨_,List.getElem?_eq_getElem (by simpa using hilt)⟩
 obtain ⟨fs,pre,o',hes,hpre,ho',hf⟩:=D0.at i e he
 rw [ho] at ho'
 obtain rfl:=Option.some.inj ho'
 have hmask:∀ m,Nat.testBit e.mask m=true→m<i∧D m=true:=by
  intro m hm
  rw [hf.mask] at hm
  obtain ⟨ed,h1,h2,h3,h4⟩:=maskOf_bit _ hm
  have hD:=hr ed h1 h2
  rcases h4 with rfl | h4
  ·exact ⟨h3,hD⟩
  ·have hlt:ed.on<pre.length:=by omega
   obtain ⟨f,hfa⟩:∃ f,atE pre ed.on=some f:=⟨_,List.getElem?_eq_getElem (by simpa using hlt)⟩
   have hf2:(pre.reverse.map (·.mask)).getD ed.on 0=f.mask:=by
    rw [List.getD_eq_getElem?_getD,List.getElem?_map]
    unfold atE at hfa
    rw [hfa]; rfl
   rw [hf2] at h4
   have:=I.clos ed.on f (by rw [hes,atE_pre hlt]; exact hfa) hD m h4
   exact ⟨by omega,this.2⟩
 have hapart:∀ j f,atE es j=some f→D j=true→Nat.testBit e.mask j=false→Apt e f∨Apt f e:=by
  intro j f hj hDj hm
  have hne:j≠i:=fun h=>by subst h; rw [hi] at hDj; simp at hDj
  rcases Nat.lt_or_gt_of_ne hne with h | h
  ·rcases pairs_ok es hp j i f e h hj he with h1 | h1
   ·rw [hm] at h1; simp at h1
   ·exact .inl (pairOk_ok h1)
  ·rcases pairs_ok es hp i j e f h he hj with h1 | h1
   ·have:=(I.clos j f hj hDj i h1).2
    rw [hi] at this; simp at this
   ·exact .inr (pairOk_ok h1)
 have hmf:∀ j,pre.length≤j→Nat.testBit e.mask j=false:=by
  intro j hj
  cases h:Nat.testBit e.mask j with
  | false=>rfl
  | true=>have:=(hmask j h).1; omega
 have hsel:applyE st e.mask i.pred pre=selL st (Nat.testBit e.mask) es:=by
  rw [applyE_sel pre i hpre,hes]
  exact (sel_pre (fs++[e]) pre hmf).symm.trans (by rw [List.append_assoc]; rfl)
 have env_eq:∀ t,(t∈e.uses)→look (selL st (Nat.testBit e.mask) es).env t=look (selL st D es).env t:=by
  intro t ht
  refine sel_env es (fun j f hj=>?_)
  cases hm:Nat.testBit e.mask j with
  | true=>exact .inl (hmask j hm).2.symm
  | false=>
   cases hDj:D j with
   | false=>exact .inl rfl
   | true=>
    refine .inr (fun hd=>?_)
    rcases hapart j f hj hDj hm with hq | hq
    ·exact hq.u2 t hd ht
    ·exact hq.u1 t hd ht
 have obj_eq:∀ id,id∈e.reads→(selL st (Nat.testBit e.mask) es).obj id=(selL st D es).obj id:=by
  intro id hid
  refine sel_obj es (fun j f hj=>?_)
  cases hm:Nat.testBit e.mask j with
  | true=>exact .inl (hmask j hm).2.symm
  | false=>
   cases hDj:D j with
   | false=>exact .inl rfl
   | true=>
    refine .inr (fun hd=>?_)
    rcases hapart j f hj hDj hm with hq | hq
    ·exact hq.t2 id hd hid
    ·exact hq.t1 id hd hid
 have later:∀ j f,i<j→atE es j=some f→∀ {t:Nat},((e.dst≠some t→False)→(fun j=>D j||j==i) j=false∨f.dst≠some t):=by
  intro j f hj hat t ht
  cases hDj:D j with
  | false=>exact .inl (by first | (show (D j||j==i)=false; rw [hDj]; simp; omega) | (show (false||j==i)=false; simp; omega) | (simp [hDj]; omega))
  | true=>
   have hm:Nat.testBit e.mask j=false:=hmf j (by omega)
   have ht':e.dst=some t:=Classical.not_not.1 ht
   rcases hapart j f hat hDj hm with hq | hq
   ·exact .inr (hq.d1 t ht')
   ·exact .inr (fun h=>hq.d1 t h ht')
 have hfresh:¬ U (st.nxt+i):=by
  intro h
  rcases I.used _ h with h | ⟨j,h1,h2,h3⟩
  ·omega
  ·have:j=i:=by omega
   subst this; rw [hi] at h2; simp at h2
 have after:∀ v w' g' U',Post g w U (st.nxt+i) e.eff v w' g' U'→Inv w0 F N g0 U0 st es (fun j=>D j||j==i) g' U' (a.put o.dst v) w':=by
  intro v w' g' U' hpost
  refine ⟨?_,fun s h=>?_,fun j f hj hDj m hm=>?_,fun s h=>hpost.stp.sub s (I.sub s h),fun id ver p h1 h2=>?_⟩
  ·refine I.rel.put_gen (hN o (List.mem_of_getElem? ho)) hpost (fun t=>?_) (fun id=>?_) (fun s h=>?_)
   ·by_cases hdt:o.dst=some t
    ·rw [if_pos hdt]
     show look (selL st (fun j=>D j||j==i) es).env t=_
     have hsk:look (selL st (fun j=>D j||j==i) es).env t=look (selL st (fun j=>D j||j==i) (e::pre)).env t:=by
      rw [hes]
      refine sel_skip_env (e::pre) fs (fun j f hj hat=>?_)
      rw [← hes] at hat
      simp only [List.length_cons] at hj
      exact later j f (by omega) hat (fun hd=>hd (by rw [hf.dst]; exact hdt))
     rw [hsk]
     simp only [selL,hpre,beq_self_eq_true,Bool.or_true,put_look]
     rw [if_pos (by rw [hf.dst]; exact hdt)]
    ·rw [if_neg hdt]
     refine sel_env es (fun j f hj=>?_)
     by_cases hji:j=i
     ·subst hji
      rw [he] at hj
      obtain rfl:=Option.some.inj hj
      exact .inr (by rw [hf.dst]; exact hdt)
     ·exact .inl (by simp [hji])
   ·show (selL st (fun j=>D j||j==i) es).obj id=_
    cases hlk:look e.eff.objs id with
    | none=>
     refine sel_obj es (fun j f hj=>?_)
     by_cases hji:j=i
     ·subst hji
      rw [he] at hj
      obtain rfl:=Option.some.inj hj
      refine .inr (fun hm=>?_)
      obtain ⟨q,hq,hqe⟩:=List.mem_map.1 hm
      exact look_ne hq hqe hlk
     ·exact .inl (by simp [hji])
    | some x=>
     have hsk:(selL st (fun j=>D j||j==i) es).obj id=(selL st (fun j=>D j||j==i) (e::pre)).obj id:=by
      rw [hes]
      refine sel_skip_obj (e::pre) fs (fun j f hj hat=>?_)
      rw [← hes] at hat
      simp only [List.length_cons] at hj
      cases hDj:D j with
      | false=>exact .inl (by first | (show (D j||j==i)=false; rw [hDj]; simp; omega) | (show (false||j==i)=false; simp; omega) | (simp [hDj]; omega))
      | true=>
       have hm:Nat.testBit e.mask j=false:=hmf j (by omega)
       have hid:id∈touched e:=List.mem_map.2 ⟨_,look_mem hlk,rfl⟩
       rcases hapart j f hat hDj hm with hq | hq
       ·exact .inr (fun h=>hq.t3 id hid h)
       ·exact .inr (fun h=>hq.t3 id h hid)
     rw [hsk]
     simp only [selL,hpre,beq_self_eq_true,Bool.or_true,put_obj,hlk]
   ·rcases hpost.used s h with h | h
    ·have:=I.rel.used s h; exact this
    ·show s<st.nxt+es.length; omega
  ·rcases hpost.used s h with h | h
   ·rcases I.used s h with h | ⟨j,h1,h2,h3⟩
    ·exact .inl h
    ·exact .inr ⟨j,h1,by simp [h2],h3⟩
   ·exact .inr ⟨i,hilt,by simp,h⟩
  ·by_cases hji:j=i
   ·subst hji
    rw [he] at hj
    obtain rfl:=Option.some.inj hj
    obtain ⟨h1,h2⟩:=hmask m hm
    exact ⟨h1,by simp [h2]⟩
   ·have hDj':D j=true:=by simpa [hji] using hDj
    obtain ⟨h1,h2⟩:=I.clos j f hj hDj' m hm
    exact ⟨h1,by simp [h2]⟩
  ·rw [hpost.stp.hd _ _ _ (I.sub _ h1) (I.sub _ h2),I.hd id ver p h1 h2]
 obtain ⟨runs,hg,hact⟩:=hf.act
 rw [hgd] at hg
 have hg:runs=true:=hg
 subst hg
 obtain ⟨hu,hev⟩:=hact
 rw [hsel] at hev
 have S:Sit P c g w U (restrict (selL st (Nat.testBit e.mask) es) (opTmps o.op.operands.toList) e.reads) a:=by
  refine ⟨hc,fun t v h=>?_,fun id ob h=>?_,I.rel.labs,I.rel.u0,I.rel.u20,fun id h=>?_,I.rel.gl hG⟩
  ·rw [show (restrict (selL st (Nat.testBit e.mask) es) (opTmps o.op.operands.toList) e.reads).env=keepE (selL st (Nat.testBit e.mask) es) (opTmps o.op.operands.toList) from rfl,look_keepE] at h
   split at h
   ·rename_i ht
    rw [env_eq t (hu t ht)] at h
    exact I.rel.env t v h
   ·simp at h
  ·have h':(if id∈e.reads then (selL st (Nat.testBit e.mask) es).obj id else none)=some ob:=by rw [← look_keepH]; exact h
   split at h'
   ·rename_i hid
    rw [obj_eq id hid] at h'
    exact I.rel.heap id ob h'
   ·simp at h'
  ·have h':(if id∈e.reads then (selL st (Nat.testBit e.mask) es).obj id else none)≠none:=by rw [← look_keepH]; exact h
   split at h'
   ·rename_i hid
    rw [obj_eq id hid] at h'
    exact I.rel.nf id h'
   ·exact absurd rfl h'
 refine ⟨e,he,hfresh,⟨_,S,hev,fun t ht=>?_⟩,after⟩
 rw [show (restrict (selL st (Nat.testBit e.mask) es) (opTmps o.op.operands.toList) e.reads).env=keepE (selL st (Nat.testBit e.mask) es) (opTmps o.op.operands.toList) from rfl,look_keepE,if_pos ht]
 exact env_eq t (hu t ht)
theorem draw_anyJ {ops:Array Oper} {all:List Oper} (hal:all.length=ops.size) (haf:∀ (i:Nat) (o:Oper),ops[i]? = some o→∃ o':Oper,all[i]? = some o'∧o'.after=o.after) {es:List EffI} (D0:Drawn c all st all.length es)
  {g0:Gh} {U0:Nat→Prop} {Q:Exit→Act→World→Prop} {J:(Nat→Bool)→Act→World→Prop}
  (hS:∀ (D:Nat→Bool) (a:Act) (w:World) (g:Gh) (U:Nat→Prop) (i:Nat) (o:Oper),ops[i]? = some o→D i=false→(∀ e∈o.after.toList,Region.binds .any e=true→D e.on=true)→Inv w0 F N g0 U0 st es D g U a w→J D a w→∀ K:Act→World→Prop,
   (∀ a' w' g' U',Inv w0 F N g0 U0 st es (fun j=>D j||j==i) g' U' a' w'→J (fun j=>D j||j==i) a' w'→K a' w')→if Region.wanted o (yielded ops a.tmps) then o.wp P a w K Q∨(o.asks P a w∧LetsOut Q) else K (a.put o.dst undef) w)
  (hQ:∀ a' w' g' U' (D:Nat→Bool),(∀ i,i<es.length→D i=true)→Inv w0 F N g0 U0 st es D g' U' a' w'→Q .normal a' w') :
  ∀ (fuel:Nat) (listed:Array Bool) (a:Act) (w:World) (g:Gh) (U:Nat→Prop),listed.size=ops.size→cnt (fun i=>listed.getD i true) ops.size≤fuel→
   Inv w0 F N g0 U0 st es (fun i=>listed.getD i true) g U a w→J (fun i=>listed.getD i true) a w→wpAny P .any ops Q fuel listed a w:=by
 have hlen:=D0.len
 have hes:es.length=ops.size:=by rw [hlen]; exact hal
 intro fuel
 have ready:∀ (listed:Array Bool) (i:Nat),i∈Region.ready .any ops listed→i<ops.size∧listed.getD i true=false∧∀ o,ops[i]? = some o→∀ e∈o.after.toList,Region.binds .any e=true→listed.getD e.on false=true:=by
  intro listed i h
  unfold Region.ready at h
  obtain ⟨h1,h2⟩:=List.mem_filter.1 h
  simp only [Bool.and_eq_true,Bool.not_eq_true'] at h2
  refine ⟨by simpa using h1,h2.1,fun o ho e he hb=>?_⟩
  have h3:=h2.2
  rw [ho] at h3
  simp only [Option.map_some,Option.getD_some] at h3
  have:=(Array.all_eq_true'.1 h3) e (by simpa using he)
  simpa [hb] using this
 have least:∀ (listed:Array Bool),listed.size=ops.size→Region.ready .any ops listed=[]→∀ i,i<ops.size→listed.getD i true=true:=by
  intro listed hs hr
  refine cnt_zero ops.size ?_
  by_cases h0:cnt (fun i=>listed.getD i true) ops.size=0
  ·exact h0
  ·exfalso
   obtain ⟨i,h1,h2,h3⟩:=cnt_least _ h0
   have hin:i∈Region.ready .any ops listed:=by
    unfold Region.ready
    refine List.mem_filter.2 ⟨by simpa using h1,?_⟩
    obtain ⟨o,ho⟩:∃ o,ops[i]? = some o:=⟨_,Array.getElem?_eq_getElem h1⟩
    obtain ⟨o'',ho',haf'⟩:=haf i o ho
    obtain ⟨e,he⟩:∃ e,atE es i=some e:=⟨_,List.getElem?_eq_getElem (by simpa [hes] using h1)⟩
    obtain ⟨fs,pre,o',-,-,ho2,hf⟩:=D0.at i e he
    rw [ho'] at ho2
    obtain rfl:=Option.some.inj ho2
    simp only [h2,Bool.not_false,Bool.true_and,ho,Option.map_some,Option.getD_some]
    refine Array.all_eq_true'.2 (fun ed hed=>?_)
    cases hb:Region.binds .any ed with
    | false=>rfl
    | true=>
     have hlt:=edgesB_ok hf.edges ed (by rw [haf']; simpa using hed) hb
     have:=h3 ed.on hlt
     simp only [Bool.not_true,Bool.false_or]
     have hlt2:ed.on<listed.size:=by omega
     simpa [Array.getD_eq_getD_getElem?,Array.getElem?_eq_getElem hlt2] using this
   rw [hr] at hin
   simp at hin
 induction fuel with
 | zero=>
  intro listed a w g U hs hcn I hJ
  have hall:=cnt_zero ops.size (Nat.le_zero.1 hcn)
  refine ⟨?_,hQ a w g U _ (fun i hi=>hall i (by omega)) I⟩
  cases hr:Region.ready .any ops listed with
  | nil=>rfl
  | cons i l=>
   obtain ⟨h1,h2,-⟩:=ready listed i (by rw [hr]; simp)
   rw [hall i h1] at h2
   simp at h2
 | succ fuel ih=>
  intro listed a w g U hs hcn I hJ
  refine ⟨fun hr=>hQ a w g U _ (fun i hi=>least listed hs hr i (by omega)) I,fun i hi=>?_⟩
  obtain ⟨h1,h2,h3⟩:=ready listed i hi
  obtain ⟨o,ho⟩:∃ o,ops[i]? = some o:=⟨_,Array.getElem?_eq_getElem h1⟩
  unfold wpOp
  rw [ho]
  simp only
  have hset:∀ j,(listed.setIfInBounds i true).getD j true=(listed.getD j true||j==i):=by
   intro j
   simp only [Array.getD_eq_getD_getElem?,Array.getElem?_setIfInBounds]
   by_cases hji:i=j
   ·subst hji
    rw [if_pos rfl]
    simp [hs,h1]
   ·rw [if_neg hji]
    have:(j==i)=false:=by simp; exact fun e=>hji e.symm
    rw [this,Bool.or_false]
  have e:(fun j=>(listed.setIfInBounds i true).getD j true)=(fun j=>listed.getD j true||j==i):=funext hset
  refine hS (fun i=>listed.getD i true) a w g U i o ho h2 (fun e he hb=>?_) I hJ _ (fun a' w' g' U' I' J'=>ih _ a' w' g' U' (by simp [hs]) ?_ (by rw [e]; exact I') (by rw [e]; exact J'))
  ·have hf:=h3 o ho e he hb
   simp only [Array.getD_eq_getD_getElem?] at hf ⊢
   cases hx:listed[e.on]? with
   | none=>rfl
   | some b=>rw [hx] at hf; exact hf
  ·have:=(cnt_set (D:=fun j=>listed.getD j true) h2 ops.size).1 h1
   rw [e]; omega
end
end Go.Am
namespace Go.Am
open Go
open Go.Maps (Keyed)
theorem cell_in {w:World} {a:Addr} {v:Value} (h:w.cell? a=some v):a.block<w.heap.size:=by
 rcases Nat.lt_or_ge a.block w.heap.size with hh | hh
 ·exact hh
 ·exfalso
  unfold World.cell? at h
  rw [Array.getElem?_eq_none hh] at h
  simp at h
theorem obj_in {w:World} {k:Nat} {o:Obj} (h:w.heap[k]? = some o):k<w.heap.size:=(Array.getElem?_eq_some_iff.1 h).1
structure MapTy (P:Program) (T K E:TypeId):Prop where
 und:P.underlying T=some (.map K E)
 key:P.underlying K=some .string
 el:P.underlying E=some .string
 zero:∀ w,(zeroValue E).run P w = .ok (.string ⟨#[]⟩) w
theorem str_inv {H:Type} {P:Program} {e:TypeId} (he:P.underlying e=some .string) {v:Value} {z:DataW H×List MemPlace} (h:plainElem P e v=some z):∃ s:ByteArray,v = .string s∧z=(.lit (.string s.data.toList),[]):=by
 unfold plainElem at h
 rw [he] at h
 cases v<;>simp at h
 exact ⟨_,rfl,h.2.symm⟩
section
variable {H:Type} {P:Program} {k:TypeId} {R:Value→Option (DataW H×List MemPlace)} {w w':World} {b n:Nat} {D:DataW H}
theorem ownsMap_fr {F:Nat→Nat→Prop} (h:w.ownsMap P k R b n D) (fr:Fr F w w'):w'.ownsMap P k R b n D:=by
 obtain ⟨es,clock,hb,r⟩:=h
 exact ⟨es,clock,fr.kind b _ hb (fun c e f=>by simp),r⟩
theorem ownsMap_is (h:w.ownsMap P k R b n D):Maps.IsMap D:=by
 obtain ⟨es,clock,hb,F,hs,hD⟩:=h
 exact ⟨_,hD⟩
theorem ownsMap_at (h:w.ownsMap P k R b n D):∃ es clock,w.heap[b]? = some (.map es clock):=by
 obtain ⟨es,clock,hb,r⟩:=h
 exact ⟨es,clock,hb⟩
end
section
variable {P:Program} {c:Cfg} {w0:World} {F:Lab} {N:Nat} {g:Gh} {w w':World} {U:Nat→Prop} {st:St} {a:Act}
theorem Rel.grown (R:Rel w0 F N g U st a w) {b:Nat} {es1 es2:Array MapEntry} {cl1 cl2:Nat} (h1:w.heap[b]? = some (.map es1 cl1)) (h2:w'.heap[b]? = some (.map es2 cl2)) (hg:w.grownBy w' (some b)) (hb:w0.heap.size≤b):Rel w0 F N g U st a w':=by
 have hcell:∀ b' o,b'<w.heap.size→w'.cell? (ad b' o)=w.cell? (ad b' o)∧w'.frozen? (ad b' o)=w.frozen? (ad b' o):=by
  intro b' o hlt
  by_cases e:b'=b
  ·subst e
   unfold World.cell? World.frozen?
   simp [ad,h1,h2]
  ·have:=hg.block b' hlt (fun h=>e (Option.some.inj h))
   exact ⟨World.cell?_of_block (w:=w) this,World.frozen?_of_block (w:=w) this⟩
 have S:Stp (fun _=>False) g w U g w' U:=⟨fun _ h=>h,fun _ _ _ _ _=>rfl,fun b' o hl v hv=>⟨by rw [(hcell b' o (cell_in hv)).1]; exact hv,hl⟩,fun b' o id p hl _=>⟨hl,hcell b' o (R.labs b' o _ hl)⟩⟩
 refine ⟨fun t v h=>S.vrel _ _ (R.env t v h),fun id o h=>?_,R.used,fun b o q h=>Nat.lt_of_lt_of_le (R.labs b o q h) hg.size,R.old,R.frn,?_,R.defers,R.size,R.u0,R.u20,R.nf⟩
 ·obtain ⟨h1,h2⟩:=R.heap id o h
  exact ⟨h1,ORel_step S (fun h=>h) h1 o h2⟩
 ·have hk:∀ k,k<w0.heap.size→w'.heap[k]? = w.heap[k]?:=fun k hk=>hg.block k (Nat.lt_of_lt_of_le hk R.fr.size) (fun e=>by cases e; omega)
  refine ⟨hg.os.trans R.fr.os,hg.tape.trans R.fr.tape,hg.output.trans R.fr.output,Nat.le_trans R.fr.size hg.size,fun k c e f hc=>?_,fun k hlt hn=>?_,fun k o ho hn=>?_⟩
  ·rw [hk k (obj_in hc)]; exact R.fr.cells k c e f hc
  ·rw [hk k hlt]; exact R.fr.block k hlt hn
  ·rw [hk k (obj_in ho)]; exact R.fr.kind k o ho hn
structure MJ (P:Program) (K E:TypeId) (w0:World) (mf:MapF) (s:List UInt8) (es:List EffI) (D:Nat→Bool) (a:Act) (w:World):Prop where
 key:a.eval (.tmp mf.t1) = .string ⟨s.toArray⟩
 tq:D mf.iq=true→a.eval (.tmp mf.tq) = .string ⟨s.toArray⟩
 tk:D mf.ik=true→a.eval (.tmp mf.tk)=a.eval (.tmp mf.tm)∧D mf.im=true∧∀ x∈mf.ins,D x.i=true
 done:∀ x∈mf.ins,D x.i=true→D x.p=true∧D mf.im=true
 map:D mf.im=true→∃ (b n:Nat) (Dm:DataW Unit),a.eval (.tmp mf.tm) = .map (some b)∧w0.heap.size≤b∧w.ownsMap P K (plainElem P E) b n Dm∧n≤(mf.ins.filter (fun x=>D x.i)).length∧
  ∀ x∈mf.ins,D x.i=true→∃ e sx,atE es x.p=some e∧e.eff.val = .str sx∧Dm.atKey (.string x.key) (.lit (.string [])) = .lit (.string sx)
theorem filt_le {l:List MapI} {p q:MapI→Bool} (h:∀ x∈l,p x=true→q x=true):(l.filter p).length≤(l.filter q).length:=by
 rw [← List.countP_eq_length_filter,← List.countP_eq_length_filter]
 exact List.countP_mono_left h
theorem filt_lt {l:List MapI} {p q:MapI→Bool} (h:∀ x∈l,p x=true→q x=true) {x:MapI} (hx:x∈l) (h1:p x=false) (h2:q x=true):(l.filter p).length+1≤(l.filter q).length:=by
 induction l with
 | nil=>cases hx
 | cons y r ih=>
  have hr:∀ x∈r,p x=true→q x=true:=fun z hz=>h z (by simp [hz])
  rcases List.mem_cons.1 hx with rfl | hx
  ·have:=filt_le hr
   rw [List.filter_cons,List.filter_cons,if_neg (by simp [h1]),if_pos h2,List.length_cons]
   omega
  ·have ih:=ih hr hx
   rw [List.filter_cons,List.filter_cons]
   by_cases hp:p y=true
   ·rw [if_pos hp,if_pos (h y (by simp) hp),List.length_cons,List.length_cons]; omega
   ·rw [if_neg hp]
    split
    ·rw [List.length_cons]; omega
    ·exact ih
theorem MJ.step {T K E:TypeId} {mf:MapF} {s:List UInt8} {es:List EffI} {ops:List Oper} {D:Nat→Bool} (M:MapFacts T ops mf) (J:MJ P K E w0 mf s es D a w) {i:Nat} {o:Oper} (ho:ops[i]? = some o) (hd:∀ x,o.dst=some x→x<a.tmps.size)
  (n1:i≠mf.im) (n2:i≠mf.ik) (n3:i≠mf.iq) (n4:∀ x∈mf.ins,i≠x.i) {F':Nat→Nat→Prop} (fr:Fr F' w w') (v:Value):MJ P K E w0 mf s es (fun j=>D j||j==i) (a.put o.dst v) w':=by
 have ev:∀ t,o.dst≠some t→(a.put o.dst v).eval (.tmp t)=a.eval (.tmp t):=fun t ht=>by rw [put_eval hd,if_neg ht]
 have dd:∀ {j:Nat},i≠j→(D j||j==i)=true→D j=true:=fun hne h=>by
  rw [Bool.or_eq_true] at h
  rcases h with h | h
  ·exact h
  ·exact absurd (by simpa using h:_=i).symm hne
 have up:∀ {j:Nat},D j=true→(D j||j==i)=true:=fun h=>by rw [h]; rfl
 have etm:o.dst≠some mf.tm:=fun h=>n1 (M.dtm i o ho h)
 refine ⟨by rw [ev _ (M.dt1 i o ho)]; exact J.key,fun h=>?_,fun h=>?_,fun x hx h=>?_,fun h=>?_⟩
 ·rw [ev _ (fun e=>n3 (M.dtq i o ho e))]; exact J.tq (dd n3 h)
 ·obtain ⟨q1,q2,q3⟩:=J.tk (dd n2 h)
  rw [ev _ (fun e=>n2 (M.dtk i o ho e)),ev _ etm]
  exact ⟨q1,up q2,fun x hx=>up (q3 x hx)⟩
 ·obtain ⟨q1,q2⟩:=J.done x hx (dd (n4 x hx) h)
  exact ⟨up q1,up q2⟩
 ·obtain ⟨b,n,Dm,q1,q2,q3,q4,q5⟩:=J.map (dd n1 h)
  refine ⟨b,n,Dm,by rw [ev _ etm]; exact q1,q2,ownsMap_fr q3 fr,Nat.le_trans q4 (filt_le fun x _ h=>up h),fun x hx h=>q5 x hx (dd (n4 x hx) h)⟩
theorem subOp_dst (v:Nat) (o:Oper):(subOp v o).dst=o.dst:=by unfold subOp; split<;>rfl
theorem subOp_after (v:Nat) (o:Oper):(subOp v o).after=o.after:=by unfold subOp; split<;>rfl
theorem subOp_guard (v:Nat) (o:Oper):(subOp v o).guard=o.guard:=by unfold subOp; split<;>rfl
theorem insChk_ok {ρ:Type} {r:ρ} {es:List EffI} {k:Option ρ} : ∀ {l:List MapI},insChk es k l=some r→k=some r∧∀ x∈l,∃ e sx,atE es x.i=some e∧e.eff.val = .str sx∧sx.length<maxS
 | [],h=>⟨h,fun x hx=>by cases hx⟩
 | x::l,h=>by
  unfold insChk at h
  split at h
  ·rename_i m d s os rs us he
   unfold chk at h
   split at h
   ·rename_i hlt
    obtain ⟨h1,h2⟩:=insChk_ok h
    refine ⟨h1,fun y hy=>?_⟩
    rcases List.mem_cons.1 hy with rfl | hy
    ·exact ⟨_,s,he,rfl,hlt⟩
    ·exact h2 y hy
   ·cases h
  ·cases h
theorem sel_val {st:St} {D:Nat→Bool} {t p:Nat} {f:EffI} : ∀ {es:List EffI},atE es p=some f→f.dst=some t→D p=true→(∀ j e,atE es j=some e→e.dst=some t→j=p)→look (selL st D es).env t=some f.eff.val
 | [],h,_,_,_=>by simp [atE] at h
 | e::es,h,hd,hD,hu=>by
  rw [atE_cons] at h
  split at h
  ·rename_i hlt
   have ih:=sel_val (st:=st) (D:=D) h hd hD (fun j e' he' hd'=>hu j e' (by
    rw [atE_cons]
    have:j<es.length:=by have:=(List.getElem?_eq_some_iff.1 he').1; simpa using this
    rw [if_pos this]; exact he') hd')
   have hne:e.dst≠some t:=fun hd'=>by
    have:=hu es.length e (by rw [atE_cons]; simp) hd'
    omega
   simp only [selL]
   cases D es.length with
   | true=>rw [put_look,if_neg hne]; exact ih
   | false=>exact ih
  ·split at h
   ·rename_i he
    obtain rfl:=Option.some.inj h
    subst he
    simp only [selL,hD,put_look,if_pos hd]
   ·cases h
theorem evMap_sound (hm:P.follows .mixedOrders=true) (H:OpOK P c) (hc:TysOK P c) {T K E:TypeId} (MT:MapTy P T K E) {ρ:Type} {r:ρ} {w0:World} {F:Lab} {N:Nat} (id:Nat) (ops:Array Oper) (st:St) (a:Act) (w:World) (g:Gh) (U:Nat→Prop)
  (k:St→Option ρ) (Q:Exit→Act→World→Prop) (hN:∀ o∈ops.toList,∀ x,o.dst=some x→x<N) (hG:Gl P F w0) (R:Rel w0 F N g U st a w) {mf:MapF} (M:MapFacts T ops.toList mf) (e:evMap c mf ops.toList st k=some r)
  (hQ:∀ st' a' w' g' U',Rel w0 F N g' U' st' a' w'→Ext g U st g' U' st'→k st'=some r→Q .normal a' w'):(Code.region id ops true).wp P Q a w:=by
 unfold evMap at e
 split at e
 case h_2=>cases e
 rename_i s hs
 obtain ⟨x0,hx0,hk0,e⟩:=evSel_ok e
 obtain ⟨all,hall⟩:∃ all,all=ops.toList.map (subOp x0.v):=⟨_,rfl⟩
 rw [← hall] at e
 have hal:all.length=ops.size:=by rw [hall]; simp
 have hget:∀ (i:Nat) (o:Oper),ops[i]? = some o→ops.toList[i]? = some o∧all[i]? = some (subOp x0.v o):=fun i o ho=>by
  have h1:ops.toList[i]? = some o:=by rw [Array.getElem?_toList]; exact ho
  refine ⟨h1,?_⟩
  rw [hall,List.getElem?_map,h1]; rfl
 have hN':∀ o∈all,∀ x,o.dst=some x→x<N:=fun o ho x hx=>by
  rw [hall] at ho
  obtain ⟨o',h1,rfl⟩:=List.mem_map.1 ho
  exact hN o' h1 x (by rw [← subOp_dst x0.v o']; exact hx)
 obtain ⟨es,D0,e⟩:=evDraw_ok all 0 [] _ .nil rfl e
 have hlen:=D0.len
 split at e
 case h_2=>cases e
 rename_i hp
 obtain ⟨e,hstr⟩:=insChk_ok e
 have hp:pairsOk es.length.pred es=true:=by
  have:ops.toList.length-1=es.length.pred:=by rw [hlen,hal]; simp
  rw [← this]; exact hp
 have hat:∀ (i:Nat) (f:EffI),atE es i=some f→∃ o,ops.toList[i]? = some o∧f.dst=o.dst:=fun i f hf=>by
  obtain ⟨fs,pre,o',-,-,h3,h4⟩:=D0.at i f hf
  rw [hall,List.getElem?_map] at h3
  obtain ⟨o,h5,h6⟩:=Option.map_eq_some_iff.1 h3
  exact ⟨o,h5,by rw [h4.dst,← h6,subOp_dst]⟩
 have hval:∀ x∈mf.ins,∀ (D:Nat→Bool),D x.p=true→∃ f,atE es x.p=some f∧look (selL st D es).env x.v=some f.eff.val:=fun x hx D hD=>by
  obtain ⟨o,h1,h2⟩:=M.prod x hx
  have hlt:x.p<es.length:=by rw [hlen,hal]; have:=(List.getElem?_eq_some_iff.1 h1).1; simpa using this
  obtain ⟨f,hf⟩:∃ f,atE es x.p=some f:=⟨_,List.getElem?_eq_getElem (by simpa using hlt)⟩
  obtain ⟨o',h3,h4⟩:=hat x.p f hf
  rw [h1] at h3
  obtain rfl:=Option.some.inj h3
  refine ⟨f,hf,sel_val hf (by rw [h4]; exact h2) hD (fun j e' he' hd'=>?_)⟩
  obtain ⟨o2,h5,h6⟩:=hat j e' he'
  exact M.dv x hx j o2 h5 (by rw [← h6]; exact hd')
 have Rd:Rel w0 F N g U st a { w with drawn:=w.drawn+1 }:=R.drawn
 have hkey:a.eval (.tmp mf.t1) = .string ⟨s.toArray⟩:=by
  have:=(R.sit hc hG).ev (.tmp mf.t1)
  rw [hs] at this; exact this
 refine wp_region_any hm (draw_anyJ (w0:=w0) (F:=F) (N:=N) (J:=MJ P K E w0 mf s es) hal (fun i o ho=>⟨_,(hget i o ho).2,subOp_after _ _⟩) D0 (g0:=g) (U0:=U) (fun D a w g' U' i o ho hi hr I J KK hK=>?_) (fun a' w' g' U' D hD I=>?_) ops.size _ a _ g U (by simp) ?_ ⟨?_,fun s h=>.inl (R.used s h),fun i f hf hi=>?_,fun s h=>h,fun _ _ _ _ _=>rfl⟩ ⟨hkey,fun h=>?_,fun h=>?_,fun x hx h=>?_,fun h=>?_⟩)
 ·
  obtain ⟨ho1,ho2⟩:=hget i o ho
  have hgd:=M.guard i o ho1
  have hw:Region.wanted o (yielded ops a.tmps)=true:=by simp [Region.wanted,hgd]
  rw [hw]
  simp only [if_true]
  refine .inl ?_
  obtain ⟨f,hf,hfresh,⟨rs,S,hev,henv⟩,after⟩:=step_core hc hG hN' D0 hp ho2 (by rw [subOp_guard]; exact hgd) hi (fun e he hb=>hr e (by rw [← subOp_after x0.v o]; exact he) hb) I
  have hdst:∀ x,o.dst=some x→x<a.tmps.size:=fun x hx=>by rw [I.rel.size]; exact hN o (List.mem_of_getElem? ho1) x hx
  rw [subOp_dst] at after
  have edg:∀ {j:Nat},edgeB o j=true→D j=true:=fun h=>by
   obtain ⟨e,h1,h2,h3⟩:=edgeB_ok h
   rw [← h3]; exact hr e h1 h2
  have up:∀ {j:Nat},D j=true→(D j||j==i)=true:=fun h=>by rw [h]; rfl
  have mv:∀ {y:Operand},o.op = .move y→(o.wp P a w KK Q↔KK (a.put o.dst (a.eval y)) w):=fun {y} hop=>by
   unfold Oper.wp
   simp [execOp,hop,Result.andThen]
   exact Iff.rfl
  have mvI:∀ {y:Operand},(subOp x0.v o).op = .move y→∀ v,VRel g' w U' (rs.ev y) v→Inv w0 F N g U st es (fun j=>D j||j==i) g' U' (a.put o.dst v) w:=fun {y} hop v hv=>by
   rw [hop] at hev
   have he:f.eff=⟨rs.ev y,[]⟩:=(Option.some.inj hev).symm
   exact after v w g' U' (by rw [he]; exact Post.same S.labs hv)
  have notmap:∀ {i':Nat},i'=mf.im→i=i'→∃ t r,o.op = .makeMap t r:=fun h1 h2=>by
   obtain ⟨o',t,r,h3,h4⟩:=M.atm
   rw [← h1,← h2,ho1] at h3
   obtain rfl:=Option.some.inj h3
   exact ⟨t,r,h4⟩
  have notins:∀ x∈mf.ins,i=x.i→∃ t m k v,o.op = .insert t m k v:=fun x hx h2=>by
   obtain ⟨o',t,m,v,s',h3,h4,-⟩:=M.inz x hx
   rw [← h2,ho1] at h3
   obtain rfl:=Option.some.inj h3
   exact ⟨t,m,_,v,h4⟩
  have atik:i=mf.ik→o.op = .move (.tmp mf.tm)∧o.dst=some mf.tk∧edgeB o mf.im=true∧∀ x∈mf.ins,edgeB o x.i=true:=fun h=>by
   obtain ⟨o',h3,h4⟩:=M.move
   rw [← h,ho1] at h3
   obtain rfl:=Option.some.inj h3
   exact h4
  have atiq:i=mf.iq→o.op = .move (.tmp mf.t1)∧o.dst=some mf.tq:=fun h=>by
   obtain ⟨o',h3,h4⟩:=M.src
   rw [← h,ho1] at h3
   obtain rfl:=Option.some.inj h3
   exact h4
  by_cases c1:i=mf.ik
  ·
   obtain ⟨hop,hd,e1,e2⟩:=atik c1
   have hs':subOp x0.v o=o:=by unfold subOp; rw [hop]
   refine (mv hop).2 (hK _ _ g' U' (mvI (by rw [hs']; exact hop) _ (S.ev _)) ?_)
   have ev:∀ t,t≠mf.tk→(a.put o.dst (a.eval (.tmp mf.tm))).eval (.tmp t)=a.eval (.tmp t):=fun t ht=>by rw [put_eval hdst,if_neg (by rw [hd]; exact fun h=>ht (Option.some.inj h).symm)]
   have ntm:mf.tm≠mf.tk:=fun h=>by
    have:=M.dtm i o ho1 (by rw [hd,h])
    obtain ⟨t,r,h9⟩:=notmap this rfl
    rw [hop] at h9; cases h9
   have ntq:mf.iq≠i→mf.tq≠mf.tk:=fun h1 h=>h1 (M.dtq i o ho1 (by rw [hd,h])).symm
   have n1:i≠mf.im:=fun h=>by obtain ⟨t,r,h9⟩:=notmap h rfl; rw [hop] at h9; cases h9
   have n4:∀ x∈mf.ins,i≠x.i:=fun x hx h=>by obtain ⟨t,m,k,v,h9⟩:=notins x hx h; rw [hop] at h9; cases h9
   have n3:i≠mf.iq:=fun h=>by
    have:=(atiq h).1
    rw [hop] at this
    injection this with this
    injection this with this
    obtain ⟨o',t,r,h3,h4⟩:=M.atm
    exact M.dt1 mf.im o' h3 (by rw [← this]; exact (M.make mf.im o' t r h3 h4).2.2.2)
   have dd:∀ {j:Nat},i≠j→(D j||j==i)=true→D j=true:=fun hne h=>by
    rw [Bool.or_eq_true] at h
    rcases h with h | h
    ·exact h
    ·exact absurd (by simpa using h:_=i).symm hne
   refine ⟨?_,fun h=>?_,fun _=>⟨?_,up (edg e1),fun x hx=>up (edg (e2 x hx))⟩,fun x hx h=>?_,fun h=>?_⟩
   ·rw [ev _ (fun h=>M.dt1 i o ho1 (by rw [hd,h]))]; exact J.key
   ·rw [ev _ (ntq (fun h=>n3 h.symm))]; exact J.tq (dd n3 h)
   ·rw [put_eval hdst,if_pos hd,ev _ ntm]
   ·obtain ⟨q1,q2⟩:=J.done x hx (dd (n4 x hx) h)
    exact ⟨up q1,up q2⟩
   ·obtain ⟨b,n,Dm,q1,q2,q3,q4,q5⟩:=J.map (dd n1 h)
    exact ⟨b,n,Dm,by rw [ev _ ntm]; exact q1,q2,q3,Nat.le_trans q4 (filt_le fun x _ h=>up h),fun x hx h=>q5 x hx (dd (n4 x hx) h)⟩
  ·by_cases c2:i=mf.iq
   ·
    obtain ⟨hop,hd⟩:=atiq c2
    have hs':subOp x0.v o=o:=by unfold subOp; rw [hop]
    refine (mv hop).2 (hK _ _ g' U' (mvI (by rw [hs']; exact hop) _ (S.ev _)) ?_)
    have ev:∀ t,t≠mf.tq→(a.put o.dst (a.eval (.tmp mf.t1))).eval (.tmp t)=a.eval (.tmp t):=fun t ht=>by rw [put_eval hdst,if_neg (by rw [hd]; exact fun h=>ht (Option.some.inj h).symm)]
    have ntm:mf.tm≠mf.tq:=fun h=>by
     have:=M.dtm i o ho1 (by rw [hd,h])
     obtain ⟨t,r,h9⟩:=notmap this rfl
     rw [hop] at h9; cases h9
    have ntk:mf.tk≠mf.tq:=fun h=>c1 (M.dtk i o ho1 (by rw [hd,h]))
    have n1:i≠mf.im:=fun h=>by obtain ⟨t,r,h9⟩:=notmap h rfl; rw [hop] at h9; cases h9
    have n4:∀ x∈mf.ins,i≠x.i:=fun x hx h=>by obtain ⟨t,m,k,v,h9⟩:=notins x hx h; rw [hop] at h9; cases h9
    have dd:∀ {j:Nat},i≠j→(D j||j==i)=true→D j=true:=fun hne h=>by
     rw [Bool.or_eq_true] at h
     rcases h with h | h
     ·exact h
     ·exact absurd (by simpa using h:_=i).symm hne
    refine ⟨?_,fun h=>?_,fun h=>?_,fun x hx h=>?_,fun h=>?_⟩
    ·rw [ev _ (fun h=>M.dt1 i o ho1 (by rw [hd,h]))]; exact J.key
    ·rw [put_eval hdst,if_pos hd]; exact J.key
    ·obtain ⟨q1,q2,q3⟩:=J.tk (dd c1 h)
     rw [ev _ ntk,ev _ ntm]
     exact ⟨q1,up q2,fun x hx=>up (q3 x hx)⟩
    ·obtain ⟨q1,q2⟩:=J.done x hx (dd (n4 x hx) h)
     exact ⟨up q1,up q2⟩
    ·obtain ⟨b,n,Dm,q1,q2,q3,q4,q5⟩:=J.map (dd n1 h)
     exact ⟨b,n,Dm,by rw [ev _ ntm]; exact q1,q2,q3,Nat.le_trans q4 (filt_le fun x _ h=>up h),fun x hx h=>q5 x hx (dd (n4 x hx) h)⟩
   ·have dd:∀ {j:Nat},i≠j→(D j||j==i)=true→D j=true:=fun hne h=>by
     rw [Bool.or_eq_true] at h
     rcases h with h | h
     ·exact h
     ·exact absurd (by simpa using h:_=i).symm hne
    have normal:subOp x0.v o=o→i≠mf.im→(∀ x∈mf.ins,i≠x.i)→o.wp P a w KK Q:=fun hs' n1 n4=>by
     rw [hs'] at hev
     obtain ⟨eff,h1,h2⟩:=H S hfresh hev
     obtain rfl:=Option.some.inj h1
     exact h2 _ _ (fun v w' g2 U2 hpost=>hK _ _ g2 U2 (after v w' g2 U2 hpost) (J.step M ho1 hdst n1 c1 c2 n4 hpost.fr v))
    by_cases c3:∃ t r,o.op = .makeMap t r
    ·
     obtain ⟨t,rr,hop⟩:=c3
     obtain ⟨rfl,rfl,rfl,hd⟩:=M.make i o t rr ho1 hop
     have hs':(subOp x0.v o).op = .move (.const (.map none)):=by unfold subOp; rw [hop]
     rw [hs'] at hev
     have he:f.eff=⟨.undef,[]⟩:=(Option.some.inj hev).symm
     have hbel:∀ (b o:Nat) v,w.cell? (ad b o)=some v→(w.alloc (.map #[] 0)).cell? (ad b o)=some v:=fun b o v hv=>by
      rw [World.cell?_of_block (w:=w) ((World.grownBy_alloc w (.map #[] 0) none).block b (cell_in hv) (by simp))]; exact hv
     have hblk:∀ k,k<w.heap.size→(w.alloc (.map #[] 0)).heap[k]? = w.heap[k]?:=fun k hk=>(World.grownBy_alloc w (.map #[] 0) none).block k hk (by simp)
     have hsz:w.heap.size≤(w.alloc (.map #[] 0)).heap.size:=(World.grownBy_alloc w (.map #[] 0) none).size
     have hpost:Post g' w U' (st.nxt+mf.im) f.eff (.map (some w.heap.size)) (w.alloc (.map #[] 0)) g' U':=by
      rw [he]
      refine ⟨⟨fun _ h=>h,fun _ _ _ _ _=>rfl,fun b o hl v hv=>⟨hbel b o v hv,hl⟩,fun b o id p hl _=>⟨hl,?_,?_⟩⟩,trivial,fun id o h=>by simp [look] at h,fun s h=>.inl h,fun b o q h=>Nat.lt_of_lt_of_le (S.labs b o q h) hsz,fun b o q _ h=>by rw [h]; simp,⟨rfl,rfl,rfl,hsz,fun k c e f hk=>⟨c,by rw [hblk k (obj_in hk)]; exact hk,rfl,fun _ _=>rfl⟩,fun k hk _=>hblk k hk,fun k b hk _=>by rw [hblk k (obj_in hk)]; exact hk⟩,fun id h=>by simp [look] at h⟩
      ·exact World.cell?_of_block (w:=w) (hblk b (S.labs b o _ hl))
      ·exact World.frozen?_of_block (w:=w) (hblk b (S.labs b o _ hl))
     have hwp:o.wp P a w KK Q↔KK (a.put o.dst (.map (some w.heap.size))) (w.alloc (.map #[] 0)):=by
      have hrun:(Instr.makeMap t none).run P w = .ok (.map (some w.heap.size)) (w.alloc (.map #[] 0)):=rfl
      unfold Oper.wp
      simp [execOp,hop,hrun,Result.andThen]
      exact Iff.rfl
     refine hwp.2 (hK _ _ g' U' (after _ _ g' U' hpost) ?_)
     have ev:∀ t,t≠mf.tm→(a.put o.dst (.map (some w.heap.size))).eval (.tmp t)=a.eval (.tmp t):=fun t ht=>by rw [put_eval hdst,if_neg (by rw [hd]; exact fun h=>ht (Option.some.inj h).symm)]
     have n4:∀ x∈mf.ins,mf.im≠x.i:=fun x hx h=>by obtain ⟨t,m,k,v,h9⟩:=notins x hx h; rw [hop] at h9; cases h9
     have ntk:mf.tk≠mf.tm:=fun h=>c1 (M.dtk _ o ho1 (by rw [hd,h]))
     have ntq:mf.tq≠mf.tm:=fun h=>c2 (M.dtq _ o ho1 (by rw [hd,h]))
     refine ⟨?_,fun h=>?_,fun h=>?_,fun x hx h=>?_,fun h=>?_⟩
     ·rw [ev _ (fun h=>M.dt1 _ o ho1 (by rw [hd,h]))]; exact J.key
     ·rw [ev _ ntq]; exact J.tq (dd c2 h)
     ·have:=(J.tk (dd c1 h)).2.1
      rw [hi] at this; cases this
     ·have:=(J.done x hx (dd (n4 x hx) h)).2
      rw [hi] at this; cases this
     ·refine ⟨w.heap.size,0,.map [],by rw [put_eval hdst,if_pos hd],I.rel.fr.size,World.ownsMap_made w P K _,Nat.zero_le _,fun x hx h=>?_⟩
      have:=(J.done x hx (dd (n4 x hx) h)).2
      rw [hi] at this; cases this
    ·by_cases c4:∃ t m k v,o.op = .insert t m k v
     ·
      obtain ⟨t,m,kk,v,hop⟩:=c4
      obtain ⟨rfl,rfl,hd,x,hx,sk,rfl,rfl,hsk,hsl,rfl,e1,e2⟩:=M.insert i o t m kk v ho1 hop
      have hs':(subOp x0.v o).op = .move (.tmp x.v):=by unfold subOp; rw [hop]
      rw [hs'] at hev henv
      have he:f.eff=⟨rs.ev (.tmp x.v),[]⟩:=(Option.some.inj hev).symm
      obtain ⟨f',sx,hf',hsx,hlt⟩:=hstr x hx
      rw [hf] at hf'
      obtain rfl:=Option.some.inj hf'
      have hev2:rs.ev (.tmp x.v) = .str sx:=by rw [he] at hsx; exact hsx
      have hvv:a.eval (.tmp x.v) = .string ⟨sx.toArray⟩:=by
       have:=S.ev (.tmp x.v)
       rw [hev2] at this; exact this
      obtain ⟨fp,hfp,hlp⟩:=hval x hx D (edg e2)
      have hlk:look rs.env x.v=some (.str sx):=by
       simp only [St.ev] at hev2
       split at hev2
       ·rename_i y hy; rw [hy,hev2]
       ·cases hev2
      have hfs:fp.eff.val = .str sx:=by
       have h1:=henv x.v (by simp [Op.operands,opTmps])
       rw [hlk,hlp] at h1
       exact (Option.some.inj h1).symm
      obtain ⟨b,n,Dm,q1,q2,q3,q4,q5⟩:=J.map (edg e1)
      have hn:n≤1000:=Nat.le_trans q4 (Nat.le_trans (List.length_filter_le _ _) M.few)
      have hszk:sk.size≤maxLen:=by unfold maxLen; omega
      have hkof:keyOf P K (.string sk)=some (.string x.key):=by rw [← hsk]; exact Go.WideMaps.keyOf_string_mk MT.key hszk
      have hbs:(⟨sx.toArray⟩:ByteArray).size≤maxLen:=by
       have:(⟨sx.toArray⟩:ByteArray).size=sx.length:=by simp [ByteArray.size]
       rw [this]; unfold maxLen; unfold maxS at hlt; omega
      obtain ⟨w',hrun,r1,r2⟩:=q3.update (Maps.string_keyed MT.key) MT.und (by unfold maxLen; omega) hkof (plainElem_string MT.el hbs)
      have hwp:o.wp P a w KK Q↔KK (a.put o.dst undef) w':=by
       unfold Oper.wp
       have ek:a.eval (.const (.string sk)) = .string sk:=rfl
       simp [execOp,hop,q1,hvv,ek,hrun,Result.andThen]
       exact Iff.rfl
      have hI:=after (.string ⟨sx.toArray⟩) w g' U' (by rw [he,hev2]; exact Post.same S.labs rfl)
      rw [hd] at hI
      obtain ⟨es1,cl1,hb1⟩:=ownsMap_at q3
      obtain ⟨es2,cl2,hb2⟩:=ownsMap_at r1
      refine hwp.2 (hK _ _ g' U' ?_ ?_)
      ·rw [hd]
       exact ⟨hI.rel.grown hb1 hb2 r2 q2,hI.used,hI.clos,hI.sub,hI.hd⟩
      ·rw [hd]
       have same:∀ y∈mf.ins,y.i=x.i→y=x:=fun y hy hyi=>by
        obtain ⟨o',t',m',v',s',h3,h4,h5⟩:=M.inz y hy
        rw [hyi,ho1] at h3
        obtain rfl:=Option.some.inj h3
        rw [hop] at h4
        injection h4 with b1 b2 b3 b4
        have b5:sk=s':=by injection b3 with b3; injection b3
        exact M.keys y hy x hx (by rw [← h5,← hsk,b5])
       refine ⟨J.key,fun h=>J.tq (dd c2 h),fun h=>?_,fun y hy h=>?_,fun h=>⟨b,n+1,_,q1,q2,r1,?_,fun y hy h=>?_⟩⟩
       ·obtain ⟨p1,p2,p3⟩:=J.tk (dd c1 h)
        exact ⟨p1,up p2,fun y hy=>up (p3 y hy)⟩
       ·by_cases hyi:y.i=x.i
        ·obtain rfl:=same y hy hyi
         exact ⟨up (edg e2),up (edg e1)⟩
        ·obtain ⟨p1,p2⟩:=J.done y hy (dd (fun h=>hyi h.symm) h)
         exact ⟨up p1,up p2⟩
       ·refine Nat.le_trans (Nat.add_le_add_right q4 1) (filt_lt (fun y _ h=>up h) hx hi (by simp))
       ·by_cases hyi:y.i=x.i
        ·obtain rfl:=same y hy hyi
         refine ⟨fp,sx,hfp,hfs,?_⟩
         rw [Maps.atKey_put_same (ownsMap_is q3) (show WideAt.IsKeyLit (.string _) from trivial)]
        ·obtain ⟨e',sy,p1,p2,p3⟩:=q5 y hy (dd (fun h=>hyi h.symm) h)
         refine ⟨e',sy,p1,p2,?_⟩
         rw [Maps.atKey_put_other (fun h=>hyi (by
          have h:y.key=x.key:=by injection h
          rw [M.keys y hy x hx h]))]
         exact p3
     ·by_cases c5:∃ t m k c,o.op = .lookup t m k c
      ·
       obtain ⟨t,m,kk,cc,hop⟩:=c5
       obtain ⟨rfl,rfl,rfl,rfl,hil,e1,e2⟩:=M.look i o t m kk cc ho1 hop
       have hs':(subOp x0.v o).op = .move (.tmp x0.v):=by unfold subOp; rw [hop]
       rw [hs'] at hev henv
       have he:f.eff=⟨rs.ev (.tmp x0.v),[]⟩:=(Option.some.inj hev).symm
       obtain ⟨p1,p2,p3⟩:=J.tk (edg e1)
       have hq:=J.tq (edg e2)
       obtain ⟨b,n,Dm,q1,q2,q3,q4,q5⟩:=J.map p2
       obtain ⟨fe,sx,h1,h2,h3⟩:=q5 x0 hx0 (p3 x0 hx0)
       obtain ⟨fp,hfp,hlp⟩:=hval x0 hx0 D (J.done x0 hx0 (p3 x0 hx0)).1
       rw [h1] at hfp
       obtain rfl:=Option.some.inj hfp
       have hrs:rs.ev (.tmp x0.v) = .str sx:=by
        have h4:=henv x0.v (by simp [Op.operands,opTmps])
        rw [hlp,h2] at h4
        simp only [St.ev,h4]
       have hsl:(⟨s.toArray⟩:ByteArray).size≤maxLen:=by
        obtain ⟨o',t',m',v',s',h5,h6,h7⟩:=M.inz x0 hx0
        obtain ⟨-,-,-,x',hx',s2,h8,h9,h10,h11,-⟩:=M.insert x0.i o' t' m' _ v' h5 h6
        have e7:s'=s2:=by injection h9 with h9; injection h9
        have e8:s'=⟨s.toArray⟩:=by rw [← hk0,← h7]
        rw [← e8,e7]
        unfold maxLen; omega
       have hkof:keyOf P K (.string ⟨s.toArray⟩)=some (.string x0.key):=by
        rw [hk0]
        have:=Go.WideMaps.keyOf_string_mk MT.key hsl
        simpa using this
       obtain ⟨v,ps,hrun,hv⟩:=q3.lookup (Maps.string_keyed MT.key) MT.und (MT.zero w) (plainElem_string MT.el (by decide)) hkof
       obtain ⟨cv,rfl,hcv⟩:=str_inv MT.el hv
       have e3:Dm.atKey (.string x0.key) (.lit (.string [])) = .lit (.string cv.data.toList):=congrArg Prod.fst hcv
       rw [h3] at e3
       have e4:sx=cv.data.toList:=by injection e3 with e3; injection e3
       have hcs:Value.string cv = .string ⟨sx.toArray⟩:=by rw [e4]
       have hwp:o.wp P a w KK Q↔KK (a.put o.dst (.string cv)) w:=by
        unfold Oper.wp
        simp [execOp,hop,p1,q1,hq,hrun,Result.andThen]
        exact Iff.rfl
       have n1:i≠mf.im:=fun h=>by obtain ⟨t,r,h9⟩:=notmap h rfl; rw [hop] at h9; cases h9
       have n4:∀ x∈mf.ins,i≠x.i:=fun x hx h=>by obtain ⟨t,m,k,v,h9⟩:=notins x hx h; rw [hop] at h9; cases h9
       refine hwp.2 (hK _ _ g' U' (after _ w g' U' (by rw [he,hrs]; exact Post.same S.labs hcs)) (J.step M ho1 hdst n1 c1 c2 n4 (Fr.refl (fun _ _=>False) w) _))
      ·refine normal ?_ (fun h=>c3 (notmap h rfl)) (fun x hx h=>c4 (notins x hx h))
       unfold subOp
       split
       ·rename_i t r hop; exact absurd ⟨t,r,hop⟩ c3
       ·rename_i t m k v hop; exact absurd ⟨t,m,k,v,hop⟩ c4
       ·rename_i t m k cc hop; exact absurd ⟨t,m,k,cc,hop⟩ c5
       ·rfl
 ·
  have hall:=applyAll_sel (st0:=st) es hD
  refine hQ (applyAll st es) a' w' g' U' (I.rel.same (fun t=>by rw [hall]) (fun id=>by rw [hall]; rfl) (fun s hs=>?_)) (ext_all I.sub I.hd R.u0 es) e
  rw [applyAll_nxt]
  exact I.rel.used s hs
 ·have:∀ (D:Nat→Bool) n,cnt D n≤n:=by
   intro D n
   induction n with
   | zero=>exact Nat.le_refl _
   | succ n ih=>simp only [cnt]; split<;>omega
  exact this _ _
 ·have hnone:∀ es':List EffI,es'.length≤ops.size→selL st (fun i=>(Array.replicate ops.size false).getD i true) es'=st:=by
   intro es'
   induction es' with
   | nil=>intro _; rfl
   | cons f es' ih=>
    intro hl
    simp only [List.length_cons] at hl
    have hlt:es'.length<ops.size:=by omega
    have hb:(Array.replicate ops.size false).getD es'.length true=false:=by
     simp [Array.getD_eq_getD_getElem?,hlt]
    simp only [selL,hb]
    exact ih (by omega)
  have hst:=hnone es (by rw [hlen,hal]; exact Nat.le_refl _)
  refine Rd.same (fun t=>by rw [hst]) (fun id=>by rw [hst]; rfl) (fun s hs=>?_)
  have:=R.used s hs
  show s<st.nxt+es.length
  omega
 ·exfalso
  have hlt:i<ops.size:=by
   have:=(List.getElem?_eq_some_iff.1 hf).1
   simp only [List.length_reverse,hlen,hal] at this
   exact this
  have hb:(Array.replicate ops.size false).getD i true=false:=by
   simp [Array.getD_eq_getD_getElem?,hlt]
  rw [hb] at hi; simp at hi
 all_goals
  exfalso
  have none:∀ {i:Nat} {o:Oper},ops.toList[i]? = some o→(Array.replicate ops.size false).getD i true=false:=fun {i o} h=>by
   have hlt:i<ops.size:=by have:=(List.getElem?_eq_some_iff.1 h).1; simpa using this
   simp [Array.getD_eq_getD_getElem?,hlt]
 ·obtain ⟨o,h1,-⟩:=M.src
  rw [none h1] at h; cases h
 ·obtain ⟨o,h1,-⟩:=M.move
  rw [none h1] at h; cases h
 ·obtain ⟨o,t,m,v,s',h1,-⟩:=M.inz x hx
  rw [none h1] at h; cases h
 ·obtain ⟨o,t,r,h1,-⟩:=M.atm
  rw [none h1] at h; cases h
theorem regOKm (hm:P.follows .mixedOrders=true) (H:OpOK P c) (hc:TysOK P c) {T K E:TypeId} (hT:mapT c=some T) (MT:MapTy P T K E):RegOK P c:=by
 intro ρ r w0 F N id ops draw st a w g U k Q hN hG R e hQ
 cases draw with
 | false=>exact wp_region_list (evOps_sound H hc hG hN ops.toList st a w g U k (fun o h=>h) R e hQ)
 | true=>
  have e:(match mapT c with | none=>evAny c ops st k | some T=>match mapForm ops.toList with | none=>evAny c ops st k | some mf=>match mapOK T ops.toList mf with | true=>evMap c mf ops.toList st k | false=>none)=some r:=e
  rw [hT] at e
  simp only at e
  split at e
  ·exact regAny hm H hc id ops st a w g U k Q hN hG R e hQ
  ·rename_i mf hf
   split at e
   ·rename_i hok
    exact evMap_sound hm H hc MT id ops st a w g U k Q hN hG R (mapFacts hf hok) e hQ
   ·cases e
end
end Go.Am
namespace Go.Am
open Go
open Go.RowKit
open Go.Maps (Keyed)
theorem wpList_lookup_str {H:Type} {P:Program} (w:World) {ops:Array Oper} {rest:List Oper} {o:Oper} {a:Act} {Q:Exit→Act→World→Prop}
  (hg:o.guard=none) (m x:Operand) (t:TypeId) (hop:o.op=Op.lookup t m x false)
  (k e:TypeId) (K:Keyed P k) (ht:P.underlying t=some (.map k e)) (he:P.underlying e=some .string) (hz:(zeroValue e).run P w = .ok (.string ⟨#[]⟩) w) (b n:Nat) (D:DataW H)
  (hm:a.eval m = .map (some b)) (hown:w.ownsMap P k (plainElem P e) b n D) (key:Value) (kl:Lit) (hx:a.eval x=key) (hkey:keyOf P k key=some kl) (s:List UInt8) (hat:D.atKey kl (.lit (.string [])) = .lit (.string s))
  (hK:wpList P ops Q rest (a.put o.dst (.string ⟨s.toArray⟩)) w) :
  wpList P ops Q (o::rest) a w:=by
 refine wpList_plain hg fun K' hK'=>?_
 obtain ⟨v,ps,hrun,hv⟩:=hown.lookup K ht hz (plainElem_string he (by decide)) hkey
 obtain ⟨c,rfl,hc⟩:=str_inv he hv
 have e1:D.atKey kl (.lit (.string [])) = .lit (.string c.data.toList):=congrArg Prod.fst hc
 rw [hat] at e1
 have e2:s=c.data.toList:=by injection e1 with e1; injection e1
 subst e2
 unfold Oper.wp
 simp [execOp,hop,hm,hx,hrun,Result.andThen]
 exact hK' _ _ hK
theorem wpList_insert_own {H:Type} {P:Program} (w:World) {ops:Array Oper} {rest:List Oper} {o:Oper} {a:Act} {Q:Exit→Act→World→Prop}
  (hg:o.guard=none) (m x v:Operand) (t:TypeId) (hop:o.op=Op.insert t m x v)
  (k e:TypeId) (K:Keyed P k) (ht:P.underlying t=some (.map k e)) (R:Value→Option (DataW H×List MemPlace)) (b n:Nat) (D:DataW H)
  (hm:a.eval m = .map (some b)) (hown:w.ownsMap P k R b n D) (hn:n<maxLen) (key val:Value) (kl:Lit) (hx:a.eval x=key) (hv:a.eval v=val) (hkey:keyOf P k key=some kl)
  (d:DataW H) (ps:List MemPlace) (hval:R val=some (d,ps))
  (hK:∀ w',w'.ownsMap P k R b (n+1) (D.put kl d)→w.grownBy w' (some b)→wpList P ops Q rest (a.put o.dst undef) w') :
  wpList P ops Q (o::rest) a w:=by
 refine wpList_plain hg fun K' hK'=>?_
 obtain ⟨w',hrun,r1,r2⟩:=hown.update K ht hn hkey hval
 unfold Oper.wp
 simp [execOp,hop,hm,hx,hv,hrun,Result.andThen]
 exact hK' _ _ (hK w' r1 r2)
theorem below_grown {w w1 w2:World} {b:Nat} (h:Below w.heap.size w w1) (hg:w1.grownBy w2 (some b)) (hb:w.heap.size≤b):Below w.heap.size w w2:=h.grown hg h.size (fun k e=>by cases e; exact hb)
def replF (s old new:List UInt8):Option (OTs [Ty.str]):=if s.length<4294967281∧1≤old.length∧s.length+Lib.count s old*new.length≤140737488355328 then some (Lib.replaceAll s old new,()) else none
abbrev replM:Mng:=⟨[.val .str,.val .str,.val .str],[.val .str],fun x=>replF x.1 x.2.1 x.2.2.1⟩
theorem repl_sound {P:Program} {f:FuncId} {b:Nat} (hg:P.globalNamed "internal/bytealg.MaxLen" = some b)
  (K:∀ (s old new:ByteArray) (m:Int) (w:World),s.size<4294967281→w.cell? ⟨b,0,none⟩=some (.int .i64 m)→1≤old.size→s.size+Lib.countB s old*new.size≤140737488355328→
   Calls P f #[.string s,.string old,.string new] w fun e w'=>e = .returned (.string ⟨(Lib.replaceAll s.data.toList old.data.toList new.data.toList).toArray⟩)∧Below w.heap.size w w'):Sound P f replM:=by
 intro x y hm _ site hs g w args E hG
 obtain ⟨v1,r,ha,h1,v2,r2,hr2,h2,v3,r3,hr3,h3,h4⟩:=E.vals
 obtain rfl:r3=[]:=h4
 obtain rfl:v3 = .string ⟨(x.2.2.1:List UInt8).toArray⟩:=h3
 obtain rfl:v2 = .string ⟨(x.2.1:List UInt8).toArray⟩:=h2
 obtain rfl:v1 = .string ⟨(x.1:List UInt8).toArray⟩:=h1
 subst hr3
 subst hr2
 subst ha
 obtain ⟨s,old,new,⟨⟩⟩:=x
 replace hm:replF s old new=some y:=hm
 unfold replF at hm
 split at hm
 ·rename_i hr
  obtain rfl:=Option.some.inj hm
  obtain ⟨m,hmc⟩:=gl_maxLen hG hg
  have hsz:(⟨(s:List UInt8).toArray⟩:ByteArray).size=(s:List UInt8).length:=ba_size s
  have hso:(⟨(old:List UInt8).toArray⟩:ByteArray).size=(old:List UInt8).length:=ba_size old
  have hsn:(⟨(new:List UInt8).toArray⟩:ByteArray).size=(new:List UInt8).length:=ba_size new
  have hc:Lib.countB (⟨(s:List UInt8).toArray⟩:ByteArray) ⟨(old:List UInt8).toArray⟩=Lib.count (s:List UInt8) (old:List UInt8):=by simp [Lib.countB]
  have e3:(⟨(s:List UInt8).toArray⟩:ByteArray).size+Lib.countB (⟨(s:List UInt8).toArray⟩:ByteArray) ⟨(old:List UInt8).toArray⟩*(⟨(new:List UInt8).toArray⟩:ByteArray).size=(s:List UInt8).length+Lib.count (s:List UInt8) (old:List UInt8)*(new:List UInt8).length:=by rw [hc,hsn,hsz]
  refine (K ⟨(s:List UInt8).toArray⟩ ⟨(old:List UInt8).toArray⟩ ⟨(new:List UInt8).toArray⟩ m w (Nat.lt_of_le_of_lt (Nat.le_of_eq hsz) hr.1) hmc (Nat.le_trans hr.2.1 (Nat.le_of_eq hso.symm)) (Nat.le_trans (Nat.le_of_eq e3) hr.2.2)).mono fun e w' he=>?_
  obtain ⟨he,hb⟩:=he
  exact ⟨_,g,he,exit_below (m:=replM) hb E.labs rfl rfl trivial⟩
 ·simp at hm
def boundT (x:Int):List UInt8:=if x=1 then [113,117,105,101,116] else if x=2 then [106,97,109,109,101,100] else if x=3 then [98,117,115,121] else []
def boundF (x:Int):Option (OTs [Ty.str]):=if -9223372036854775808≤x∧x<9223372036854775808 then some (boundT x,()) else none
abbrev boundM:Mng:=⟨[.val (.int .i64)],[.val .str],fun x=>boundF x.1⟩
theorem bound_at {H:Type} (n:Int):((((DataW.map []:DataW H).put (.int .i64 1) (.lit (.string [113,117,105,101,116]))).put (.int .i64 2) (.lit (.string [106,97,109,109,101,100]))).put (.int .i64 3) (.lit (.string [98,117,115,121]))).atKey (.int .i64 n) (.lit (.string [])) = .lit (.string (boundT n)):=by
 have m0:Maps.IsMap (DataW.map []:DataW H):=Maps.isMap_empty
 unfold boundT
 by_cases h3:n=3
 ·subst h3
  rw [Maps.atKey_put_same ((m0.put _ _).put _ _) (show WideAt.IsKeyLit (.int _ _) from trivial)]; rfl
 ·rw [Maps.atKey_put_other (by simp [h3])]
  by_cases h2:n=2
  ·subst h2
   rw [Maps.atKey_put_same (m0.put _ _) (show WideAt.IsKeyLit (.int _ _) from trivial)]; rfl
  ·rw [Maps.atKey_put_other (by simp [h2])]
   by_cases h1:n=1
   ·subst h1
    rw [Maps.atKey_put_same m0 (show WideAt.IsKeyLit (.int _ _) from trivial)]; rfl
   ·rw [Maps.atKey_put_other (by simp [h1]),if_neg h1,if_neg h2,if_neg h3]; rfl
theorem bound_sound {P:Program} {f:FuncId}
  (K:∀ n:Int,-9223372036854775808≤n→n<9223372036854775808→∀ w:World,Calls P f #[.int .i64 n] w fun e w'=>e = .returned (.string ⟨(boundT n).toArray⟩)∧Below w.heap.size w w'):Sound P f boundM:=by
 intro x y hm _ site hs g w args E hG
 obtain ⟨v1,r,ha,h1,h2⟩:=E.vals
 obtain rfl:r=[]:=h2
 obtain rfl:v1 = .int .i64 x.1:=h1
 subst ha
 replace hm:boundF x.1=some y:=hm
 unfold boundF at hm
 split at hm
 ·rename_i hr
  obtain rfl:=Option.some.inj hm
  refine (K x.1 hr.1 hr.2 w).mono fun e w' he=>?_
  obtain ⟨he,hb⟩:=he
  exact ⟨_,g,he,exit_below (m:=boundM) hb E.labs rfl rfl trivial⟩
 ·simp at hm
end Go.Am
