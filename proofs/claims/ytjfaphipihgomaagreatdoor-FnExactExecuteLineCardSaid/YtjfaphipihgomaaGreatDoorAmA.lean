/- An abstract machine for the translated code: definitions; what its states say of memory; the first of its laws. No condition. -/
import Derived.WalkKit
set_option linter.unusedVariables false
set_option linter.unusedSimpArgs false
open Array renaming getElem?_eq_none → CP, getElem?_modify → LJ, getElem?_push → EY
open BitVec renaming ofInt → yI
open Bool renaming and_eq_true → aB, eq_iff_iff → Rw
open Go.Addr renaming add_lit → wi
open Go.Instr renaming indexAt → H9, sliceAt → CS, sliceBounds → EZ, storeAt → th, sureAddr → LK
open Go.Op renaming equal → CT, equalIn → CU, maxDepth → CV
open Go.Result renaming andThen_ok → jF
open Go.Sem renaming run_bind → jG, run_pure → Bc
open Go.World renaming cell?_setCells_in → Bd, cell?_setCells_out → uQ, frozen?_setCells → Be, setCell → LL
open List renaming append_cancel_left → ET, drop_drop → LM, getD_eq_getElem?_getD → lG, getElem?_cons_succ → H_, getElem?_eq_getElem → eX, getElem?_eq_some_iff → eE, getElem_append_left → CW, getElem_append_right → Bf, getElem_drop → CQ, getElem_set_ne → RT, getElem_set_self → Ze, getElem_take → Ba, length → mK, length_append → cY, length_drop → pH, length_pos_iff → kX, length_set → yJ, mem_append_left → lH, mem_append_right → wb, mem_cons_of_mem → kD, replicate → ga
open Nat renaming add_assoc → cg, add_mul → dH, add_zero → eG, beq → aT, ble → fR, ble_eq → Ia, blt → cS, blt_eq → eH, eq_of_beq_eq_true → bB, le_of_ble_eq_true → gz, le_refl → cx, lt_of_lt_of_le → oL, lt_or_ge → kj, mul_le_mul_right → fk, zero_add → kg
open Option renaming map_eq_some_iff → yx
open Option.some renaming inj → aZ, injEq → aN
open Prod.mk renaming injEq → bS
open Sigma.mk renaming inj → qI
namespace Go.Am
open Go
inductive Ty where
 | int (k:IntKind) | bool | str | err
 | pair (a b:Ty)
 | sl (t:Ty)
 | bW (t:Ty)
def Ty.T:Ty→Type
 | .int _=>Int
 | .bool=>Bool
 | .str=>List UInt8
 | .err=>Bool
 | .pair a b=>a.T×b.T
 | .sl t=>List t.T
 | .bW t=>Option (List t.T)
def Ty.size:Ty→Nat
 | .pair a b=>a.size+b.size
 | _=>1
def nI:IntKind→IntKind→Bool
 | .i8,.i8 | .i16,.i16 | .i32,.i32 | .i64,.i64 | .u8,.u8 | .u16,.u16 | .u32,.u32 | .u64,.u64=>true
 | _,_=>false
theorem pQ {a b:IntKind} (h:nI a b=true):a=b:=by cases a<;>cases b<;>first | rfl | (simp [nI] at h)
def Ty.beq:Ty→Ty→Bool
 | .int k,.int l=>nI k l
 | .bool,.bool | .str,.str | .err,.err=>true
 | .pair a b,.pair c d=>a.beq c&&b.beq d
 | .sl a,.sl b=>a.beq b
 | .bW a,.bW b=>a.beq b
 | _,_=>false
theorem Ty.eq_of_beq:∀ {a b:Ty},a.beq b=true→a=b
 | .int k,b,h=>by cases b<;>simp [Ty.beq] at h; rw [pQ h]
 | .bool,b,h=>by cases b<;>simp [Ty.beq] at h; rfl
 | .str,b,h=>by cases b<;>simp [Ty.beq] at h; rfl
 | .err,b,h=>by cases b<;>simp [Ty.beq] at h; rfl
 | .pair a b,c,h=>by cases c<;>simp [Ty.beq] at h;rw [Ty.eq_of_beq h.1,Ty.eq_of_beq h.2]
 | .sl a,b,h=>by cases b<;>simp [Ty.beq] at h; rw [Ty.eq_of_beq h]
 | .bW a,b,h=>by cases b<;>simp [Ty.beq] at h; rw [Ty.eq_of_beq h]
def Ty.cast (a b:Ty) (x:a.T):Option b.T:=
 if h:a.beq b=true then some (Ty.eq_of_beq h▸x) else none
def Ty.zero:(t:Ty)→t.T
 | .int _=>(0:Int)
 | .bool=>false
 | .str=>([]:List UInt8)
 | .err=>true
 | .pair a b=>(a.zero,b.zero)
 | .sl t=>([]:List t.T)
 | .bW t=>(none:Option (List t.T))
def el (t:Ty) (xs:List t.T) (i:Nat):t.T:=xs.getD i t.zero
abbrev Path:=List (Nat×Nat)
inductive ah where
 | undef
 | int (k:IntKind) (n:Int)
 | bool (b:Bool)
 | str (s:List UInt8)
 | err (isNil:Bool)
 | agg (cs:List ah)
 | gX (vs:List ah)
 | nil
 | sh (t:Ty) (xs:List t.T)
 | dn (t:Ty) (o:Option (List t.T))
 | gp (t:Ty) (x:t.T) (j:Nat)
 | own (id ver:Nat) (p:Path) (t:Ty)
 | fS (id ver:Nat) (p:Path) (t:Ty) (off len:Nat)
 | fl (id ver:Nat) (p:Path) (t:Ty) (i j:Nat)
 | bt (id j:Nat)
 | fJ (id off len sz:Nat)
 | fn (f:FuncId) (caps:List ah)
 | tj | uS
inductive dL where
 | cells (ro:List Bool) (cs:List ah)
 | row (own:Bool) (t:Ty) (ver:Nat) (xs:List t.T)
 | oM (t:Ty) (ver:Nat) (xs:List t.T) (i j:Nat)
structure St where
 env:List (Nat×ah)
 heap:List (Nat×Option dL)
 nxt:Nat
 et:List Nat:=[]
 ht:List Nat:=[]
def look {α:Type} : List (Nat×α)→Nat→Option α
 | [],_=>none
 | (k,v)::r,n=>match aT k n with | true=>some v | false=>look r n
def St.obj (st:St) (id:Nat):Option dL:=match look st.heap id with | some (some o)=>some o | _=>none
def ofConst:Value→ah
 | .bool b=>.bool b
 | .int k n=>.int k n
 | .string s=>.str s.data.toList
 | .slice none 0 0=>.nil
 | .pointer none=>.tj
 | .nilFunc=>.uS
 | .nilIface=>.err true
 | .agg cs=>.agg (cs.toList.map fun | .bool b=>.bool b | .int k n=>.int k n | .string s=>.str s.data.toList | .slice none 0 0=>.nil | .pointer none=>.tj | .nilFunc=>.uS | .nilIface=>.err true | _=>.undef)
 | _=>.undef
def St.ev (st:St):Operand→ah
 | .tmp t=>match look st.env t with | some v=>v | none=>.undef
 | .const v=>ofConst v
 | .func f=>.fn f []
 | .global _=>.undef
def kG:(t:Ty)→t.T→Nat→Option ((u:Ty)×List u.T)
 | .pair a b,x,j=>match cS j a.size with | true=>kG a x.1 j | false=>kG b x.2 (j-a.size)
 | .sl u,x,0=>some ⟨u,x⟩
 | _,_,_=>none
def place:(t:Ty)→List t.T→Path→Option ((u:Ty)×List u.T)
 | t,xs,[]=>some ⟨t,xs⟩
 | t,xs,(i,j)::p=>match kG t (el t xs i) j with | some ⟨u,ys⟩=>place u ys p | none=>none
def tl:(t:Ty)→t.T→Nat→((u:Ty)→List u.T→Option (List u.T))→Option t.T
 | .pair a b,x,j,f=>match cS j a.size with
  | true=>match tl a x.1 j f with | some y=>some (y,x.2) | none=>none
  | false=>match tl b x.2 (j-a.size) f with | some y=>some (x.1,y) | none=>none
 | .sl u,x,0,f=>f u x
 | _,_,_,_=>none
def yK:(t:Ty)→List t.T→Path→((u:Ty)→List u.T→Option (List u.T))→Option (List t.T)
 | t,xs,[],f=>f t xs
 | t,xs,(i,j)::p,f=>match tl t (el t xs i) j (fun u ys=>yK u ys p f) with | some y=>some (xs.set i y) | none=>none
def flat (h:Nat→(u:Ty)→List u.T→ah):(t:Ty)→t.T→Nat→List ah
 | .int k,n,_=>[.int k n]
 | .bool,b,_=>[.bool b]
 | .str,s,_=>[.str s]
 | .err,b,_=>[.err b]
 | .pair a b,x,j=>flat h a x.1 j++flat h b x.2 (j+a.size)
 | .sl t,xs,j=>[h j t xs]
 | .bW t,o,_=>[.dn t o]
def mO:Nat→(u:Ty)→List u.T→ah:=fun _ u xs=>.sh u xs
def RU (id ver:Nat) (p:Path) (i:Nat):Nat→(u:Ty)→List u.T→ah:=fun j u _=>.own id ver (p++[(i,j)]) u
def part (agg:Bool) (size:Nat) (cs:List ah) (j:Nat):Option ah:=
 match agg with
 | true=>match fR (j+size) cs.length with | true=>some (.agg ((cs.drop j).take size)) | false=>none
 | false=>cs[j]?
def St.rowAt (st:St) (id ver:Nat) (p:Path):Option ((u:Ty)×List u.T):=
 match st.obj id with
 | some (.row own t vr xs)=>match p with
  | []=>some ⟨t,xs⟩
  | _=>match own&&aT ver vr with | true=>place t xs p | false=>none
 | _=>none
def St.list (st:St):ah→Option ((u:Ty)×List u.T)
 | .sh t xs=>some ⟨t,xs⟩
 | .dn t o=>some ⟨t,o.getD []⟩
 | .own id ver p _=>st.rowAt id ver p
 | .fS id ver p t off len=>match st.rowAt id ver p with
  | some ⟨u,ys⟩=>match Ty.beq t u with | true=>some ⟨u,(ys.drop off).take len⟩ | false=>none
  | none=>none
 | _=>none
mutual
def je (st:St):Nat→(t:Ty)→List ah→Option (t.T×List ah)
 | 0,_,_=>none
 | d+1,.int k,.int l n::r=>match nI k l with | true=>some (n,r) | false=>none
 | d+1,.bool,.bool b::r=>some (b,r)
 | d+1,.str,.str s::r=>some (s,r)
 | d+1,.err,.err b::r=>some (b,r)
 | d+1,.pair a b,cs=>match je st d a cs with
  | some (x,r)=>match je st d b r with | some (y,r)=>some ((x,y),r) | none=>none
  | none=>none
 | d+1,.sl t,.nil::r=>some (([]:List t.T),r)
 | d+1,.sl t,.fJ id off len sz::r=>match st.obj id with
  | some (.cells _ cs)=>match aT sz t.size&&fR ((off+len)*sz) cs.length with
   | true=>match CX st d t len (cs.drop (off*sz)) with | some xs=>some (xs,r) | none=>none
   | false=>none
  | _=>none
 | d+1,.sl t,v::r=>match st.list v with
  | some ⟨u,xs⟩=>match Ty.cast (.sl u) (.sl t) xs with | some ys=>some (ys,r) | none=>none
  | none=>none
 | d+1,.bW t,.nil::r=>some ((none:Option (List t.T)),r)
 | d+1,.bW t,.dn u o::r=>match Ty.cast (.bW u) (.bW t) o with | some o=>some (o,r) | none=>none
 | _,_,_=>none
def CX (st:St):Nat→(t:Ty)→Nat→List ah→Option (List t.T)
 | 0,_,_,_=>none
 | _+1,_,0,_=>some []
 | d+1,t,n+1,cs=>match je st d t cs with
  | some (x,r)=>match CX st d t n r with | some xs=>some (x::xs) | none=>none
  | none=>none
end
inductive PK where
 | val (t:Ty)
 | fX (t:Ty)
 | io (t:Ty)
 | jH (t:Ty) (ms:List Bool)
 | jI (f:Nat) (caps:List PK)
inductive RK where
 | val (t:Ty)
 | sh (t:Ty)
 | ptr (t:Ty) (ms:List Bool)
mutual
def PK.T:PK→Type
 | .val t | .fX t=>t.T
 | .io t=>t.T
 | .jH t _=>t.T
 | .jI _ caps=>iS caps
def iS:List PK→Type
 | []=>Unit
 | p::r=>p.T×iS r
end
def Ty.gY:Ty→List Ty→List Ty
 | .pair a b,r=>a.gY (b.gY r)
 | .sl u,r=>.sl u::r
 | _,r=>r
def RK.ty:RK→Ty
 | .val t | .sh t | .ptr t _=>t
def PK.outs:List PK→List Ty
 | []=>[]
 | .io t::r=>t.gY (PK.outs r)
 | .jH t _::r=>t::PK.outs r
 | _::r=>PK.outs r
def RK.bm:List RK→List Ty
 | []=>[]
 | r::rs=>r.ty::RK.bm rs
def cj:List Ty→Type
 | []=>Unit
 | t::r=>t.T×cj r
structure ar where
 ps:List PK
 rs:List RK
 m:iS ps→Option (cj (RK.bm rs++PK.outs ps))
inductive TK where
 | int (k:IntKind) | bool | str | slice | struct | iface | other
structure mP where
 agg:Bool
 size:Nat
 bytes:Nat
 zero:List ah
 kind:TK
 elem:Nat
 ty:Option Ty
 fields:List (Nat×Nat)
 eq:Bool
structure cK where
 val:ah
 bb:List (Nat×Option dL)
def ag (n:Int):Int:=(n+9223372036854775808) % 18446744073709551616-9223372036854775808
def oN (k:IntKind) (n:Int):Int:=match k with | .i64=>ag n | _=>k.wrap n
def LN (op:BinOp) (k:IntKind) (x y:Int):Int:=
 match op with
 | .and=>k.wrap (yI k.bits x&&& yI k.bits y).toNat
 | .or=>k.wrap (yI k.bits x||| yI k.bits y).toNat
 | .xor=>k.wrap (yI k.bits x ^^^ yI k.bits y).toNat
 | _=>k.wrap (yI k.bits x&&& ~~~yI k.bits y).toNat
def ca:Nat:=4611686018427387904
def bn:Nat:=140737488355328
section
variable {ρ:Type}
def intOf:ah→Option (IntKind×Int)
 | .int k n=>some (k,n)
 | _=>none
def yL:List ah→List ah→Option Bool
 | [],ys=>match ys with | []=>some true | _::_=>none
 | x::r,ys=>match ys with
  | []=>none
  | y::s=>match intOf x,intOf y with
   | some (k,a),some (l,b)=>match nI k l,yL r s with | true,some e=>some (decide (a=b)&&e) | _,_=>none
   | _,_=>none
def wj (kd:TK) (yc:Bool) (op:BinOp) (x y:ah) (k:ah→Option ρ):Option ρ:=
 match op,x,y with
 | .shl,.int kk a,.int _ b=>if b<0 then none else k (.int kk (oN kk (a*2 ^ min b.toNat kk.bits)))
 | .shr,.int kk a,.int _ b=>if b<0 then none else k (.int kk (a.fdiv (2 ^ min b.toNat kk.bits)))
 | op,.int kk a,.int kl b=>
  match nI kk kl with
  | false=>none
  | true=>
   match op with
   | .add=>k (.int kk (oN kk (a+b)))
   | .sub=>k (.int kk (oN kk (a-b)))
   | .mul=>k (.int kk (oN kk (a*b)))
   | .quo=>if b=0 then none else k (.int kk (oN kk (a.tdiv b)))
   | .rem=>if b=0 then none else k (.int kk (a.tmod b))
   | .eql=>k (.bool (decide (a=b)))
   | .neq=>k (.bool (!decide (a=b)))
   | .lss=>k (.bool (decide (a<b)))
   | .leq=>k (.bool (decide (a≤b)))
   | .gtr=>k (.bool (decide (b<a)))
   | .geq=>k (.bool (decide (b≤a)))
   | op=>k (.int kk (LN op kk a b))
 | .add,.str a,.str b=>if a.length+b.length<ca then k (.str (a++b)) else none
 | .eql,.str a,.str b=>k (.bool (decide (a=b)))
 | .neq,.str a,.str b=>k (.bool (!decide (a=b)))
 | .lss,.str a,.str b=>k (.bool (Op.bytesLess a b))
 | .eql,.bool a,.bool b=>match kd with | .bool=>k (.bool (decide (a=b))) | _=>none
 | .neq,.bool a,.bool b=>match kd with | .bool=>k (.bool (!decide (a=b))) | _=>none
 | .eql,.err a,.err true=>match kd,yc with | .iface,true=>k (.bool a) | _,_=>none
 | .neq,.err a,.err true=>match kd,yc with | .iface,true=>k (.bool (!a)) | _,_=>none
 | .eql,.dn _ o,.nil=>match kd with | .slice=>k (.bool o.isNone) | _=>none
 | .neq,.dn _ o,.nil=>match kd with | .slice=>k (.bool o.isSome) | _=>none
 | .eql,.nil,.nil=>match kd with | .slice=>k (.bool true) | _=>none
 | .neq,.nil,.nil=>match kd with | .slice=>k (.bool false) | _=>none
 | _,_,_=>none
def St.len (st:St):ah→Option Int
 | .str s=>some (s.length:Int)
 | .nil=>some 0
 | .fJ _ _ len _=>some (len:Int)
 | .fS _ _ _ _ _ len=>some (len:Int)
 | v=>match st.list v with | some ⟨_,xs⟩=>some (xs.length:Int) | none=>none
def St.LO (st:St) (id:Nat) (p:Path):Option ((u:Ty)×List u.T):=
 match p with
 | []=>match st.obj id with | some (.oM t _ xs _ _)=>some ⟨t,xs⟩ | _=>none
 | _=>none
def St.tn (st:St):ah→Nat
 | .sh t _ | .dn t _ | .fS _ _ _ t _ _=>t.size
 | .fJ _ _ _ sz=>sz
 | .own id ver p _=>match st.rowAt id ver p with | some ⟨u,_⟩=>u.size | none=>match st.LO id p with | some ⟨u,_⟩=>u.size | none=>0
 | _=>0
def rL (gZ:Nat) (st:St) (x:ah) (i:Int) (k:ah→Option ρ):Option ρ:=
 match aT gZ (st.tn x) with
 | false=>none
 | true=>match x with
 | .sh t xs=>if 0≤i∧i<(xs.length:Int) then k (.gp t (el t xs i.toNat) 0) else none
 | .dn t o=>if 0≤i∧i<((o.getD []).length:Int) then k (.gp t (el t (o.getD []) i.toNat) 0) else none
 | .fJ id off len sz=>match i with
  | .ofNat n=>match cS n len with | true=>k (.bt id ((off+n)*sz)) | false=>none
  | _=>none
 | .own id ver p _=>match st.rowAt id ver p with
  | some ⟨u,xs⟩=>if 0≤i∧i<(xs.length:Int) then k (.fl id ver p u i.toNat 0) else none
  | none=>match st.LO id p with
   | some ⟨u,xs⟩=>if 0≤i∧i<(xs.length:Int) then k (.fl id ver p u i.toNat 0) else none
   | none=>none
 | .fS id ver p t off len=>match st.list (.fS id ver p t off len) with
  | some _=>if 0≤i∧i<(len:Int) then k (.fl id ver p t (off+i.toNat) 0) else none
  | none=>none
 | _=>none
def St.E_ (st:St):ah→Option (List ah×Nat)
 | .gp t x j=>some (flat mO t x 0,j)
 | .bt id j=>match st.obj id with | some (.cells _ cs)=>some (cs,j) | _=>none
 | .fl id ver p t i j=>match st.obj id,st.rowAt id ver p with
  | some (.row own _ vr _),some ⟨u,ys⟩=>match Ty.beq t u with
   | true=>some (flat (match own with | true=>RU id vr p i | false=>mO) u (el u ys i) 0,j)
   | false=>none
  | _,_=>none
 | _=>none
def E0 (a:ah) (n:Nat):ah:=
 match a with
 | .gp t x j=>.gp t x (j+n)
 | .bt id j=>.bt id (j+n)
 | .fl id ver p t i j=>.fl id ver p t i (j+n)
 | _=>.undef
def putCells:List ah→Nat→List ah→List ah
 | cs,_,[]=>cs
 | [],_,_=>[]
 | _::cs,0,v::vs=>v::putCells cs 0 vs
 | c::cs,j+1,vs=>c::putCells cs j vs
def LP:List Bool→Nat→Nat→Bool
 | _,_,0=>false
 | [],_,_=>false
 | b::r,0,n+1=>b||LP r 0 n
 | _::r,j+1,n=>LP r j n
def jZ:List ah→Bool
 | []=>true
 | .undef::_ | .agg _::_ | .gX _::_=>false
 | _::r=>jZ r
def ah.cells:ah→List ah
 | .agg cs=>cs
 | v=>[v]
mutual
def take (st:St) (own:Bool):Nat→(t:Ty)→List ah→Option (t.T×List ah×List Nat)
 | 0,_,_=>none
 | _+1,.int k,.int l n::r=>match nI k l with | true=>some (n,r,[]) | false=>none
 | _+1,.bool,.bool b::r=>some (b,r,[])
 | _+1,.str,.str s::r=>some (s,r,[])
 | _+1,.err,.err b::r=>some (b,r,[])
 | d+1,.pair a b,cs=>match take st own d a cs with
  | some (x,r,u)=>match take st own d b r with | some (y,r,v)=>some ((x,y),r,u++v) | none=>none
  | none=>none
 | _+1,.sl t,.nil::r=>some (([]:List t.T),r,[])
 | d+1,.sl t,.fJ id 0 len sz::r=>match st.obj id with
  | some (.cells _ cs)=>match aT sz t.size&&aT (len*sz) cs.length with
   | true=>match takeN st own d t len cs with | some (xs,u)=>some (xs,r,id::u) | none=>none
   | false=>none
  | _=>none
 | _+1,.sl t,.sh u xs::r=>match own with
  | true=>none
  | false=>match Ty.cast (.sl u) (.sl t) xs with | some ys=>some (ys,r,[]) | none=>none
 | _+1,.sl t,.own id _ [] _::r=>match st.obj id with
  | some (.row o u _ xs)=>match own&&!o with
   | true=>none
   | false=>match Ty.cast (.sl u) (.sl t) xs with | some ys=>some (ys,r,[id]) | none=>none
  | _=>none
 | _,_,_=>none
def takeN (st:St) (own:Bool):Nat→(t:Ty)→Nat→List ah→Option (List t.T×List Nat)
 | 0,_,_,_=>none
 | _+1,_,0,[]=>some ([],[])
 | d+1,t,n+1,cs=>match take st own d t cs with
  | some (x,r,u)=>match takeN st own d t n r with | some (xs,v)=>some (x::xs,u++v) | none=>none
  | none=>none
 | _,_,_,_=>none
end
def Ty.plain:Ty→Bool
 | .pair a b=>a.plain&&b.plain
 | .sl _ | .bW _=>false
 | _=>true
def gone (l:List Nat):List (Nat×Option dL):=l.map fun i=>(i,none)
def nodupB:List Nat→Bool
 | []=>true
 | a::r=>!(r.any (aT a))&&nodupB r
end
end Go.Am
namespace Go.Am
open Go
inductive cF where
 | int (k:IntKind) | bool | str | err
 | sh (t:Ty) | dn (t:Ty)
 | own (id:Nat) (t:Ty)
 | fS (id:Nat) (t:Ty)
 | bt (id j:Nat)
 | fl (id:Nat) (t:Ty) (j:Nat)
 | gp (t:Ty) (j:Nat)
 | agg (l:List cF)
 | nJ (id:Nat) (t:Ty) (j:Nat) (u:Ty)
 | fn (f:FuncId) (l:List cF)
 | mc (v:ah)
mutual
def cF.LT:cF→Type→Type
 | .int _,r=>Int×r
 | .bool,r=>Bool×r
 | .str,r=>List UInt8×r
 | .err,r=>Bool×r
 | .sh t,r=>List t.T×r
 | .dn t,r=>Option (List t.T)×r
 | .own _ _,r=>r
 | .fS _ _,r=>Nat×Nat×r
 | .bt _ _,r=>r
 | .fl _ _ _,r=>Nat×r
 | .gp t _,r=>t.T×r
 | .agg l,r=>cF.yM l r
 | .nJ _ _ _ _,r=>Nat×r
 | .fn _ l,r=>cF.yM l r
 | .mc _,r=>r
def cF.yM:List cF→Type→Type
 | [],r=>r
 | s::l,r=>s.LT (cF.yM l r)
end
inductive lI where
 | row (own:Bool) (t:Ty)
 | cells (ro:List Bool) (l:List cF)
def lI.LT:lI→Type→Type
 | .row _ t,r=>List t.T×r
 | .cells _ l,r=>cF.yM l r
structure LA where
 cH:List (Nat×cF)
 bb:List (Nat×lI)
 iG:List Nat
 Bg:List Nat
def cu (nxt k:Nat):Nat:=match cS k 1000 with | true=>k*1024 | false=>(nxt+(k-1000))*1024
def uT:List (Nat×cF)→Type→Type
 | [],r=>r
 | (_,s)::l,r=>s.LT (uT l r)
def wk:List (Nat×lI)→Type→Type
 | [],r=>r
 | (_,s)::l,r=>s.LT (wk l r)
abbrev LA.LT (la:LA):Type:=uT la.cH (wk la.bb Unit)
abbrev Mp:=List (Nat×Nat×Nat)
def db:Nat:=19999
def lD (M:Mp) (cy aid d:Nat):Option Mp:=
 match look M cy with
 | some ad=>match aT ad.1 aid&&aT ad.2 d&&!(aT aid db) with | true=>some M | false=>none
 | none=>match M.any (fun p=>aT p.2.1 aid)||aT aid db with | true=>none | false=>some ((cy,aid,d)::M)
def CY:ah→ah→Bool
 | .undef,_=>true
 | .nil,.nil=>true
 | .tj,.tj=>true
 | .uS,.uS=>true
 | .fn f [],.fn g []=>aT f g
 | _,_=>false
mutual
def reify (st:St):(s:cF)→{r:Type}→Mp→ah→(Mp→Option r)→Option (s.LT r)
 | .int k,_,M,.int l n,f=>match nI k l with | true=>(match f M with | some r=>some (n,r) | none=>none) | false=>none
 | .bool,_,M,.bool b,f=>match f M with | some r=>some (b,r) | none=>none
 | .str,_,M,.str s,f=>match f M with | some r=>some (s,r) | none=>none
 | .err,_,M,.err s,f=>match f M with | some r=>some (s,r) | none=>none
 | .sh t,_,M,v,f=>match v with
  | .sh u xs=>match Ty.cast (.sl u) (.sl t) xs with | some ys=>(match f M with | some r=>some (ys,r) | none=>none) | none=>none
  | .nil=>match f M with | some r=>some (([]:List t.T),r) | none=>none
  | _=>none
 | .dn t,_,M,.dn u o,f=>match Ty.cast (.bW u) (.bW t) o with | some o=>(match f M with | some r=>some (o,r) | none=>none) | none=>none
 | .own cy t,_,M,v,f=>match v with
  | .own aid _ [] _=>match lD M cy aid 0 with | some M=>f M | none=>none
  | .fJ aid 0 len sz=>match st.obj aid with
   | some (.cells _ cs)=>match aT sz t.size&&aT (len*sz) cs.length with
    | true=>match lD M cy aid t.size with | some M=>f M | none=>none
    | false=>none
   | _=>none
  | .nil=>match look M cy with | none=>f ((cy,db,0)::M) | some _=>none
  | _=>none
 | .fS cy t,_,M,v,f=>match v with
  | .fS aid _ [] u off len=>match Ty.beq t u,lD M cy aid 0 with
   | true,some M=>match f M with | some r=>some (off,len,r) | none=>none
   | _,_=>none
  | .own aid _ [] u=>match st.obj aid with
   | some (.row _ t' _ xs)=>match Ty.beq t u&&Ty.beq t t',lD M cy aid 0 with
    | true,some M=>match f M with | some r=>some (0,xs.length,r) | none=>none
    | _,_=>none
   | _=>none
  | _=>none
 | .bt cy j,_,M,.bt aid l,f=>match aT j l,lD M cy aid 0 with | true,some M=>f M | _,_=>none
 | .fl cy t j,_,M,.fl aid _ [] u i l,f=>match aT j l&&Ty.beq t u,lD M cy aid 0 with
  | true,some M=>match f M with | some r=>some (i,r) | none=>none
  | _,_=>none
 | .gp t j,_,M,.gp u x l,f=>match aT j l with | true=>(match Ty.cast u t x with | some x=>(match f M with | some r=>some (x,r) | none=>none) | none=>none) | false=>none
 | .agg l,_,M,.agg cs,f=>tr st l M cs f
 | .nJ cy t j u,_,M,v,f=>match v with
  | .own aid ver [(i,j')] u'=>match st.obj aid with
   | some (.row true t' vr _)=>match aT j j'&&Ty.beq u u'&&aT ver vr&&Ty.beq t t',lD M cy aid 0 with
    | true,some M=>match f M with | some r=>some (i,r) | none=>none
    | _,_=>none
   | _=>none
  | _=>none
 | .fn g l,_,M,v,f=>match v with
  | .fn g' cs=>match aT g g' with | true=>tr st l M cs f | false=>none
  | _=>none
 | .mc v,_,M,v',f=>match CY v v' with | true=>f M | false=>none
 | _,_,_,_,_=>none
def tr (st:St):(l:List cF)→{r:Type}→Mp→List ah→(Mp→Option r)→Option (cF.yM l r)
 | [],_,M,[],f=>f M
 | s::l,_,M,v::vs,f=>reify st s M v (fun M=>tr st l M vs f)
 | _,_,_,_,_=>none
end
def LQ:Bool→Bool→Bool | true,true=>true | false,false=>true | _,_=>false
def CZ (st:St):(s:lI)→{r:Type}→Mp→Nat→dL→(Mp→Option r)→Option (s.LT r)
 | .row own t,_,M,d,.row o u _ xs,f=>match LQ own o&&aT d 0 with
  | true=>(match Ty.cast (.sl u) (.sl t) xs with | some ys=>(match f M with | some r=>some (ys,r) | none=>none) | none=>none)
  | false=>none
 | .row own t,_,M,d,.cells _ cs,f=>match aT d t.size with
  | true=>(match takeN st own 50 t (cs.length / t.size) cs with | some (xs,[])=>(match f M with | some r=>some (xs,r) | none=>none) | _=>none)
  | false=>none
 | .cells _ l,_,M,d,.cells _ cs,f=>match aT d 0 with | true=>tr st l M cs f | false=>none
 | _,_,_,_,_,_=>none
def RV:(s:lI)→{r:Type}→Option r→Option (s.LT r)
 | .row _ t,_,f=>match f with | some r=>some (([]:List t.T),r) | none=>none
 | .cells _ _,_,_=>none
def C_ (st:St):(l:List (Nat×cF))→{r:Type}→Mp→(Mp→Option r)→Option (uT l r)
 | [],_,M,f=>f M
 | (i,s)::l,_,M,f=>match look st.env i with
  | some v=>reify st s M v (fun M=>C_ st l M f)
  | none=>none
def rU (st:St):(l:List (Nat×lI))→{r:Type}→Mp→(Mp→Option r)→Option (wk l r)
 | [],_,M,f=>f M
 | (i,s)::l,_,M,f=>match look M i with
  | some a=>match aT a.1 db with
   | true=>RV s (rU st l M f)
   | false=>match st.obj a.1 with
    | some o=>CZ st s M a.2 o (fun M=>rU st l M f)
    | none=>none
  | none=>match lD M i (i*1024) 0,st.obj (i*1024) with
   | some M,some o=>CZ st s M 0 o (fun M=>rU st l M f)
   | _,_=>none
mutual
def reflect (nm:Nat→Nat) (vr:Nat):(s:cF)→{r:Type}→s.LT r→ah×r
 | .int k,_,x=>(.int k x.1,x.2)
 | .bool,_,x=>(.bool x.1,x.2)
 | .str,_,x=>(.str x.1,x.2)
 | .err,_,x=>(.err x.1,x.2)
 | .sh t,_,x=>(.sh t x.1,x.2)
 | .dn t,_,x=>(.dn t x.1,x.2)
 | .own id t,_,x=>(.own (nm id) 0 [] t,x)
 | .fS id t,_,x=>(.fS (nm id) 0 [] t x.1 x.2.1,x.2.2)
 | .bt id j,_,x=>(.bt (nm id) j,x)
 | .fl id t j,_,x=>(.fl (nm id) 0 [] t x.1 j,x.2)
 | .gp t j,_,x=>(.gp t x.1 j,x.2)
 | .agg l,_,x=>(.agg (pE nm vr l x).1,(pE nm vr l x).2)
 | .nJ id _ j u,_,x=>(.own (nm id) vr [(x.1,j)] u,x.2)
 | .fn g l,_,x=>(.fn g (pE nm vr l x).1,(pE nm vr l x).2)
 | .mc v,_,x=>(v,x)
def pE (nm:Nat→Nat) (vr:Nat):(l:List cF)→{r:Type}→cF.yM l r→List ah×r
 | [],_,x=>([],x)
 | s::l,_,x=>((reflect nm vr s x).1::(pE nm vr l (reflect nm vr s x).2).1,(pE nm vr l (reflect nm vr s x).2).2)
end
def oO (nm:Nat→Nat) (vr:Nat):(s:lI)→{r:Type}→s.LT r→dL×r
 | .row own t,_,x=>(.row own t vr x.1,x.2)
 | .cells ro l,_,x=>(.cells ro (pE nm vr l x).1,(pE nm vr l x).2)
def dj (nm:Nat→Nat) (vr:Nat):(l:List (Nat×cF))→{r:Type}→uT l r→List (Nat×ah)×r
 | [],_,x=>([],x)
 | (i,s)::l,_,x=>((i,(reflect nm vr s x).1)::(dj nm vr l (reflect nm vr s x).2).1,(dj nm vr l (reflect nm vr s x).2).2)
def fm (nm:Nat→Nat) (vr:Nat):(l:List (Nat×lI))→{r:Type}→wk l r→List (Nat×Option dL)×r
 | [],_,x=>([],x)
 | (i,s)::l,_,x=>((nm i,some (oO nm vr s x).1)::(fm nm vr l (oO nm vr s x).2).1,(fm nm vr l (oO nm vr s x).2).2)
def jf (st:St):List Nat→List (Nat×ah)
 | []=>[]
 | i::l=>match look st.env i with | some v=>(i,v)::jf st l | none=>jf st l
def ah.ids:ah→List Nat
 | .own i _ _ _ | .fS i _ _ _ _ _ | .fl i _ _ _ _ _ | .bt i _ | .fJ i _ _ _=>[i]
 | .agg cs=>iz cs
 | .gX cs=>iz cs
 | .fn _ cs=>iz cs
 | _=>[]
 where iz:List ah→List Nat
 | []=>[]
 | v::r=>v.ids++iz r
def uU:List (Nat×ah)→List Nat
 | []=>[]
 | (_,v)::r=>v.ids++uU r
def mR (st:St):List Nat→List Nat
 | []=>[]
 | i::r=>(match st.obj i with | some (.cells _ cs)=>ah.ids.iz cs | _=>[])++mR st r
def wm (st:St):List Nat→List (Nat×Option dL)
 | []=>[]
 | i::l=>match st.obj i with | some o=>(i,some o)::wm st l | none=>wm st l
def LA.held (la:LA) (st:St):List Nat:=
 let a:=uU (jf st la.iG)++la.Bg.map (· * 1024)
 let b:=a++mR st a
 b++mR st b
def LA.fit (la:LA) (h:List Nat) (M:Mp):Option Unit:=
 match M.all (fun p=>(match cS p.1 1000 with | true=>cS p.1 19&&aT p.2.1 (p.1*1024)&&aT p.2.2 0 | false=>true)&&
   la.bb.any (fun q=>aT q.1 p.1)&&!(h.any (aT p.2.1))) with
 | true=>some ()
 | false=>none
def LA.read (la:LA) (head st:St):Option la.LT:=
 C_ st la.cH [] (fun M=>rU st la.bb M (la.fit (la.held head)))
def LA.mk' (la : LA) (st : St) (x : la.LT) : St :=
  let a := dj (cu st.nxt) 0 la.cH x
  { env := a.1 ++ jf st la.iG, heap := (fm (cu st.nxt) 0 la.bb a.2).1 ++ wm st (la.held st), nxt := st.nxt + la.bb.length,
    et := la.cH.map (·.1) ++ st.et, ht := la.bb.map (fun p => cu st.nxt p.1) ++ st.ht }
def front (names:List Nat):Nat→List Nat→Bool
 | 0,_=>true
 | _,[]=>true
 | n+1,i::r=>!(names.any (aT i))&&front names n r
def LA.kept (la:LA) (head st:St):Bool:=
 let h:=la.held head
 front la.iG (st.et.length-head.et.length) st.et&&front h (st.ht.length-head.ht.length) st.ht&&
 la.iG.all (fun i=>(look st.env i).isSome)&&h.all (fun i=>(st.obj i).isSome)
def LA.apart (la:LA) (st:St):Bool:=
 nodupB (la.bb.map (·.1))&&la.bb.all (fun p=>!((la.held st).any (aT (cu st.nxt p.1))))&&la.bb.all (fun p=>cS p.1 (1000+la.bb.length))&&
 la.iG.all (fun i=>!(la.cH.any fun p=>aT p.1 i))&&(mR st (la.held st)).all (fun i=>(la.held st).any (aT i))&&
 (la.held st).all (fun i=>match st.obj i with | some (.oM _ _ _ _ _)=>false | _=>true)
abbrev LA.wo (la:LA) (r:Type):Type:=uT la.cH (wk la.bb r)
structure cM where
 la:LA
 lb:LA
 m:la.wo Mp→Option lb.LT
structure bd where
 bm:List (Nat×mP)
 calls:List (Nat×ar)
 uV:List (Nat×cM)
 nB:List Nat:=[]
def bd.ti (c:bd) (t:Nat):mP:=match look c.bm t with | some i=>i | none=>⟨false,0,0,[],.other,0,none,[],false⟩
def number (n:Nat):List ah→List (Nat×ah)
 | []=>[]
 | v::r=>(n,v)::number (n+1) r
def LA.lJ (la:LA) (x:la.wo Mp):St:=
 let a:=dj (cu 20) 0 la.cH x
 { env:=a.1,heap:=(fm (cu 20) 0 la.bb a.2).1,nxt:=20 }
def LA.RW (lb:LA) (M:Mp):Option Unit:=
 match M.all (fun p=>lb.bb.any (fun q=>aT q.1 p.1)&&(match cS p.1 1000 with | true=>cS p.1 15&&aT p.2.1 (p.1*1024)&&aT p.2.2 0 | false=>true)) with
 | true=>some ()
 | false=>none
def LA.LR (lb:LA) (st:St):Option lb.LT:=C_ st lb.cH [] (fun M=>rU st lb.bb M lb.RW)
def LA.RX (la:LA) (M:Mp):Option Mp:=
 match M.all (fun p=>la.bb.any (fun q=>aT q.1 p.1)&&cS p.1 15) with
 | true=>some M
 | false=>none
def LA.ZH (la:LA) (st:St):Option (la.wo Mp):=C_ st la.cH [] (fun M=>rU st la.bb M la.RX)
mutual
def cF.j_:cF→Bool
 | .sh _ | .dn _ | .gp _ _=>true
 | .agg l=>cF.tu l
 | .fn _ l=>cF.tu l
 | .mc v=>!(CY v v)
 | _=>false
def cF.tu:List cF→Bool
 | []=>false
 | s::l=>s.j_||cF.tu l
end
section
variable {ρ:Type}
def br (b:Bool) (x y:Option ρ):Option ρ:=match b with | true=>x | false=>y
def yN (gZ:Nat) (st:St) (x:ah) (i:Int) (k:ah→Option ρ):Nat→Option ρ
 | 0=>none
 | m+1=>br (decide (i=Int.ofNat m)) (rL gZ st x (Int.ofNat m) k) (yN gZ st x i k m)
def ZI:ah→Nat
 | .fJ _ _ len _=>len
 | _=>0
def ab (p:Prop) [Decidable p] (x:Option ρ):Option ρ:=if p then x else none
mutual
def me (st:St) (own:Bool):Nat→(t:Ty)→t.T→Nat→Nat→List ah→Option (t.T×List Nat×Bool)
 | 0,_,_,_,_,_=>none
 | d+1,.pair a b,x,j,lo,vs=>
  match me st own d a x.1 j lo vs with
  | some (y,u,h)=>match me st own d b x.2 (j+a.size) lo vs with
   | some (z,v,g)=>some ((y,z),u++v,h||g)
   | none=>none
  | none=>none
 | d+1,t,x,j,lo,vs=>
  match fR lo j&&cS j (lo+vs.length) with
  | false=>some (x,[],false)
  | true=>match vs.drop (j-lo) with
   | v::_=>match take st own d t [v] with
    | some (y,_,u)=>some (y,u,match t with | .sl _=>true | .bW _=>true | _=>false)
    | none=>none
   | []=>none
end
def C0 (site:Nat) (id:Nat) (own:Bool) (t:Ty) (vr:Nat) (xs:List t.T) (tt:Ty) (i j aE oI i' j':Nat) (u:Ty) (off len:Nat) (k:cK→Option ρ):Option ρ:=
 match own&&aT id aE&&aT j j'&&aT oI vr&&Ty.beq tt t&&(match kG t (el t xs i) j with | some ⟨u',_⟩=>Ty.beq u u' | none=>false) with
 | false=>none
 | true=>ab (i=i') (match tl t (el t xs i) j (fun _ ys=>some ((ys.drop off).take len)) with
  | some y=>k ⟨.undef,[(id,some (.row own t site (xs.set i y)))]⟩
  | none=>none)
def Bh (st:St) (site size:Nat) (id:Nat) (own:Bool) (t:Ty) (vr:Nat) (xs:List t.T) (p:Path) (tt:Ty) (i j:Nat) (vs:List ah) (k:cK→Option ρ):Option ρ:=
 match place t xs p with
 | some ⟨u,ys⟩=>match (match Ty.beq tt u&&fR (j+size) u.size with | true=>me st own 50 u (el u ys i) 0 j vs | false=>none) with
  | some (y,used,ei)=>match yK t xs p (fun u' _=>Ty.cast (.sl u) (.sl u') (ys.set i y)) with
   | some l8=>match nodupB (id::used)&&(match ei with | false=>used.isEmpty | true=>p.isEmpty) with
    | true=>k ⟨.undef,(id,some (.row own t (match ei with | true=>site | false=>vr) l8))::gone used⟩
    | false=>none
   | none=>none
  | none=>none
 | none=>none
def C1 (st:St) (site size:Nat) (id:Nat) (t:Ty) (xs:List t.T) (bi bj:Nat) (tt:Ty) (i j:Nat) (vs:List ah) (k:cK→Option ρ):Option ρ:=
 match aT j bj&&Ty.beq tt t&&fR (j+size) t.size&&cS 0 size with
 | false=>none
 | true=>ab (i=bi) (match me st true 50 t (el t xs i) 0 j vs with
  | some (y,used,_)=>match nodupB (id::used) with
   | true=>k ⟨.undef,(id,some (.row true t site (xs.set i y)))::gone used⟩
   | false=>none
  | none=>none)
def C2 (st:St) (site:Nat) (size:Nat) (addr v:ah) (k:cK→Option ρ):Option ρ:=
 match aT v.cells.length size&&jZ v.cells with
 | false=>none
 | true=>
 match addr with
 | .bt id j=>match st.obj id with
  | some (.cells ro cs)=>match LP ro j size with
   | true=>none
   | false=>match fR (j+size) cs.length with
    | true=>k ⟨.undef,[(id,some (.cells ro (putCells cs j v.cells)))]⟩
    | false=>none
  | _=>none
 | .fl id ver p tt i j=>match st.obj id with
  | some (.row own t vr xs)=>
   match (match p with | []=>true | _=>own&&aT ver vr) with
   | false=>none
   | true=>match p with
    | []=>match v with
     | .fS aE oI [(i',j')] u off len=>C0 site id own t vr xs tt i j aE oI i' j' u off len k
     | v=>Bh st site size id own t vr xs [] tt i j v.cells k
    | q::p=>Bh st site size id own t vr xs (q::p) tt i j v.cells k
  | some (.oM t _ xs bi bj)=>match p with
   | []=>C1 st site size id t xs bi bj tt i j v.cells k
   | _=>none
  | _=>none
 | _=>none
def St.E3 (st:St) (t:Ty):ah→Option (List t.T)
 | .fS id ver [] tt off len=>match st.obj id with
  | some (.row false _ _ _)=>match st.list (.fS id ver [] tt off len) with
   | some ⟨u,xs⟩=>Ty.cast (.sl u) (.sl t) xs
   | none=>none
  | _=>none
 | _=>none
def LS {α:Type} (own:Bool) (ro:Option α) (z:Option (α×List Nat)):Option (α×List Nat):=match own,ro with
 | false,some ys=>some (ys,[])
 | _,_=>z
def St.tail (st:St) (own:Bool) (t:Ty):ah→Option (List t.T×List Nat)
 | .nil=>some ([],[])
 | .fJ id 0 len sz=>match take st own 50 (.sl t) [.fJ id 0 len sz] with | some (xs,_,u)=>some (xs,u) | none=>none
 | v=>match t.plain with
  | true=>match st.list v with
   | some ⟨u,xs⟩=>match Ty.cast (.sl u) (.sl t) xs with | some ys=>some (ys,[]) | none=>none
   | none=>none
  | false=>LS own (st.E3 t v) (match take st own 50 (.sl t) [v] with | some (xs,_,u)=>some (xs,u) | none=>none)
def Bi (fo:Nat) (st:St) (site:Nat) (t:Ty) (s x:ah) (k:cK→Option ρ):Option ρ:=
 match take st true 50 (.sl t) [s] with
 | some (xs,_,u)=>match st.tail true t x with
  | some (ys,v)=>match nodupB (u++v) with
   | true=>ab (((show List t.T from xs).length+ys.length)*fo≤bn) (k ⟨.own (site*1024) 0 [] t,(site*1024,some (.row true t site ((show List t.T from xs)++ys)))::gone (u++v)⟩)
   | false=>none
  | none=>none
 | none=>none
def Bj (fo:Nat) (st:St) (site id:Nat) (own:Bool) (t:Ty) (xs:List t.T) (x:ah) (k:cK→Option ρ):Option ρ:=
 match st.tail own t x with
 | some (ys,v)=>match nodupB (id::v) with
  | true=>ab ((xs.length+ys.length)*fo≤bn) (k ⟨.own (site*1024) 0 [] t,(site*1024,some (.row own t site (xs++ys)))::gone (id::v)⟩)
  | false=>none
 | none=>none
def C3 (fo:Nat) (st:St) (site id:Nat) (t:Ty) (xs:List t.T) (i j:Nat) (x:ah) (k:cK→Option ρ):Option ρ:=
 match kG t (el t xs i) j with
 | some ⟨u,zs⟩=>match st.tail true u x with
  | some (ys,v)=>match nodupB (id::v) with
   | true=>ab ((zs.length+ys.length)*fo≤bn) (k ⟨.own (site*1024) 0 [] u,(site*1024,some (.row true u site (zs++ys)))::(id,some (.oM t site xs i j))::gone v⟩)
   | false=>none
  | none=>none
 | none=>none
def C4 (fo:Nat) (st:St) (site:Nat) (j3:Option Ty) (gZ:Nat) (s x:ah) (k:cK→Option ρ):Option ρ:=
 match aT gZ (match s with | .nil | .fJ _ _ _ _=>(match j3 with | some t=>t.size | none=>0) | s=>st.tn s) with
 | false=>none
 | true=>match s with
 | .nil=>match j3 with
  | some t=>Bi fo st site t .nil x k
  | none=>none
 | .fJ id off len sz=>match j3 with
  | some t=>Bi fo st site t (.fJ id off len sz) x k
  | none=>none
 | .own id ver p _=>match st.obj id with
  | some (.row own t vr xs)=>match p with
   | []=>Bj fo st site id own t xs x k
   | [(i,j)]=>match own&&aT ver vr with
    | false=>none
    | true=>C3 fo st site id t xs i j x k
   | _=>none
  | _=>none
 | .fS id _ [] tt off len=>match st.obj id with
  | some (.row own t _ xs)=>match Ty.beq tt t with
   | true=>Bj fo st site id own t ((xs.drop off).take len) x k
   | false=>none
  | _=>none
 | _=>none
def C5 (fo:Nat) (st:St) (j3:Option Ty) (s x:ah) (k:cK→Option ρ):Option ρ:=
 match s,j3 with
 | .fJ id 0 0 sz,some t=>match st.obj id with
  | some (.cells _ [])=>match aT sz t.size,st.tail false t x with
   | true,some (ys,[])=>ab (ys.length*fo≤bn) (k ⟨.dn t (some ys),[]⟩)
   | _,_=>none
  | _=>none
 | _,_=>none
def ah.RY:ah→ah
 | .dn t x=>.sh t (x.getD [])
 | v=>v
def C6 (fo:Nat) (st:St) (site:Nat) (j3:Option Ty) (s x:ah) (k:cK→Option ρ):Option ρ:=
 match j3 with
 | some t=>match (match s with | .nil=>true | .fJ id 0 0 sz=>(match st.obj id with | some (.cells _ [])=>aT sz t.size | _=>false) | _=>false),st.tail false t x with
  | true,some (ys,[])=>ab (ys.length*fo≤bn) (k ⟨.own (site*1024) 0 [] t,[(site*1024,some (.row false t site ys))]⟩)
  | _,_=>none
 | none=>none
def E4 (fo site:Nat) (j3:Option Ty) (s x:ah) (k:cK→Option ρ):Option ρ:=
 match s,x,j3 with
 | .nil,.int _ n,some t=>ab (0<n∧n*(fo:Int)≤(bn:Int)) (k ⟨.own (site*1024) 0 [] t,[(site*1024,some (.row true t site (ga n.toNat t.zero)))]⟩)
 | _,_,_=>none
def fV (id:Nat) (site:Nat):(t:Ty)→t.T→Nat→List (Nat×Option dL)
 | .pair a b,x,j=>fV id site a x.1 j++fV id site b x.2 (j+a.size)
 | .sl t,xs,j=>[(id+j,some (.row true t site xs))]
 | _,_,_=>[]
def wq (id:Nat):Nat→(u:Ty)→List u.T→ah:=fun j u _=>.own (id+j) 0 [] u
def shut (t:Ty) (cs:List ah):ah:=match t with | .pair _ _=>.agg cs | _=>match cs with | [v]=>v | _=>.undef
def Ib (id:Nat) (ms:List Bool):List ah→List ah→List ah
 | a::as,b::bs=>(match ms with | true::_=>a | _=>b)::Ib id ms.tail as bs
 | _,_=>[]
def sZ (site q:Nat):(r:RK)→r.ty.T→ah×List (Nat×Option dL)
 | .val t,x=>(shut t (flat (wq (site*1024+q)) t x 0),fV (site*1024+q) site t x 0)
 | .sh t,x=>(shut t (flat mO t x 0),[])
 | .ptr t ms,x=>
  (.bt (site*1024+q) 0,(site*1024+q,some (.cells [] (Ib 0 ms (flat (wq (site*1024+q+1)) t x 0) (flat mO t x 0))))::fV (site*1024+q+1) site t x 0)
def gA (site:Nat):Nat→(rs:List RK)→(os:List Ty)→cj (RK.bm rs++os)→List ah×List (Nat×Option dL)×cj os
 | _,[],_,y=>([],[],y)
 | q,r::rs,os,y=>
  let (v,o):=sZ site q r y.1
  let (vs,ZJ,z):=gA site (q+32) rs os y.2
  (v::vs,o++ZJ,z)
def pR (t:Ty) (v:ah):List ah:=match t with | .pair _ _=>v.cells | _=>[v]
def dT (st:St):(t:Ty)→List ah→Option (t.T×List ah)
 | .int k,.int l n::r=>match nI k l with | true=>some (n,r) | false=>none
 | .bool,.bool b::r=>some (b,r)
 | .str,.str s::r=>some (s,r)
 | .err,.err b::r=>some (b,r)
 | .pair a b,cs=>match dT st a cs with
  | some (x,r)=>match dT st b r with | some (y,r)=>some ((x,y),r) | none=>none
  | none=>none
 | .sl t,.own id _ [] _::r=>match st.obj id with
  | some (.row true u _ xs)=>match Ty.cast (.sl u) (.sl t) xs with | some ys=>some (ys,r) | none=>none
  | _=>none
 | _,_=>none
def Bk (st:St) (site:Nat):(t:Ty)→List ah→{os:List Ty}→cj (t.gY os)→Option (List (Nat×Option dL)×List ah×cj os)
 | .pair a b,cs,os,y=>match Bk st site a cs (os:=b.gY os) y with
  | some (o,cs,y)=>match Bk st site b cs (os:=os) y with | some (p,cs,y)=>some (o++p,cs,y) | none=>none
  | none=>none
 | .sl t,cs,_,y=>match cs with
  | .own id _ [] _::r=>match st.obj id with
   | some (.row own u _ _)=>match Ty.cast (.sl t) (.sl u) y.1 with | some xs=>some ([(id,some (.row own u site xs))],r,y.2) | none=>none
   | _=>none
  | _=>none
 | .int _,cs,_,y=>some ([],cs.tail,y)
 | .bool,cs,_,y=>some ([],cs.tail,y)
 | .str,cs,_,y=>some ([],cs.tail,y)
 | .err,cs,_,y=>some ([],cs.tail,y)
 | .bW _,cs,_,y=>some ([],cs.tail,y)
def E5:List ah→List Nat
 | []=>[]
 | .own id _ _ _::r=>id::E5 r
 | _::r=>E5 r
def tv (st:St) (site:Nat):Nat→(ps:List PK)→List ah→cj (PK.outs ps)→Option (List (Nat×Option dL))
 | _,[],_,_=>some []
 | q,.io t::ps,v::vs,y=>
  match Bk st site t (pR t v) y with
  | some (o,_,y')=>match tv st site (q+32) ps vs y' with | some r=>some (o++r) | none=>none
  | none=>none
 | q,.jH t ms::ps,v::vs,y=>
  match (match v with
   | .bt id j=>match st.obj id with
    | some (.cells ro cs)=>
     some ((id,some (dL.cells ro (putCells cs j (Ib 0 ms (flat (wq (site*1024+512+q)) t y.1 0) ((cs.drop j).take t.size)))))::fV (site*1024+512+q) site t y.1 0)
    | _=>none
   | .fl id _ [] _ i 0=>match st.obj id with
    | some (.row own u _ xs)=>match Ty.cast t u y.1 with
     | some x=>some [(id,some (dL.row own u site (xs.set i x)))]
     | none=>none
    | _=>none
   | _=>none) with
  | some o=>match tv st site (q+32) ps vs y.2 with | some r=>some (o++r) | none=>none
  | none=>none
 | q,.val _::ps,_::vs,y=>tv st site (q+32) ps vs y
 | q,.fX _::ps,_::vs,y=>tv st site (q+32) ps vs y
 | q,.jI _ _::ps,_::vs,y=>tv st site (q+32) ps vs y
 | _,_::_,[],_=>none
mutual
def qR (st sr:St):(p:PK)→ah→Option p.T
 | .val t,v=>match je sr 50 t (match t with | .pair _ _=>v.cells | _=>[v]) with | some (x,[])=>some x | _=>none
 | .fX t,.gp u x 0=>Ty.cast u t x
 | .fX t,.bt id j=>match sr.obj id with
  | some (.cells _ cs)=>match je sr 50 t ((cs.drop j).take t.size) with | some (x,[])=>some x | _=>none
  | _=>none
 | .fX t,.fl id _ [] tt i 0=>match sr.obj id with
  | some (.row _ u _ xs)=>match Ty.beq tt u with | true=>Ty.cast u t (el u xs i) | false=>none
  | _=>none
 | .io t,v=>match dT st t (pR t v) with | some (x,[])=>some x | _=>none
 | .jH t _,.bt id j=>match st.obj id with
  | some (.cells _ cs)=>match je st 50 t ((cs.drop j).take t.size) with | some (x,[])=>some x | _=>none
  | _=>none
 | .jH t _,.fl id _ [] _ i 0=>match st.obj id with
  | some (.row _ u _ xs)=>Ty.cast u t (el u xs i)
  | _=>none
 | .jI f caps,.fn f' vs=>match aT f f' with
  | true=>mS st sr caps vs
  | false=>none
 | _,_=>none
 termination_by structural p _=>p
def mS (st sr:St):(ps:List PK)→List ah→Option (iS ps)
 | [],[]=>some ()
 | p::ps,v::vs=>match qR st sr p v with
  | some x=>match mS st sr ps vs with | some r=>some (x,r) | none=>none
  | none=>none
 | _,_=>none
 termination_by structural ps _=>ps
end
def oP (st:St):(ps:List PK)→List ah→List Nat
 | .io t::ps,v::vs=>E5 (pR t v)++oP st ps vs
 | .jH _ _::ps,.bt id _::vs=>id::((match st.obj id with
   | some (.cells _ cs)=>cs.filterMap fun | .own i _ _ _=>some i | _=>none
   | _=>[])++oP st ps vs)
 | .jH _ _::ps,.fl id _ _ _ _ _::vs=>id::oP st ps vs
 | _::ps,_::vs=>oP st ps vs
 | _,_=>[]
def wu:RK→Bool | .sh _=>true | _=>false
def yO (st:St) (rs:List RK) (io:List Nat):St:=
 match rs.any wu with
 | true=>{ st with heap:=[] }
 | false=>{ st with heap:=gone io++st.heap }
def C7 (st:St) (f:Nat) (args:List ah):List (Nat×ar)→Option ((m:ar)×iS m.ps)
 | []=>none
 | (g,m)::r=>match aT g f with
  | false=>C7 st f args r
  | true=>match mS st (yO st m.rs (oP st m.ps args)) m.ps args with
   | some x=>some ⟨m,x⟩
   | none=>C7 st f args r
def Ty.jJ:Ty→Bool
 | .pair a b=>a.jJ&&b.jJ
 | .sl t=>t.jJ
 | .bW _=>false
 | _=>true
def PK.jU:PK→Bool | .jH _ _=>false | _=>true
def RK.jU:RK→Bool | .ptr _ _=>false | _=>true
def yP (ps:List PK) (rs:List RK):Bool:=
 ps.all PK.jU&&rs.all RK.jU&&fR rs.length 15&&fR ps.length 15&&rs.all (fun r=>fR r.ty.size 30)&&(PK.outs ps).all (fun t=>fR t.size 30)&&
 rs.all (fun r=>match r with | .val t=>t.jJ | _=>true)&&(PK.outs ps).all Ty.jJ&&ps.all (fun p=>match p with | .io t=>fR t.size 30 | _=>true)
def k9 (op:Int):Bool:=decide (op=1∨op=2∨op=3∨op=9∨op=10)
def j4 (op:Int):Bool:=decide (op=4∨op=5∨op=6∨op=7)
def nK (op:Int):Bool:=decide (op=8)
def LU (site id:Nat) (js:List Nat) (len:Nat):cK:=⟨.fJ (site*1024) 0 len 1,[(site*1024,some (.cells [] (js.map fun j=>.bt id j)))]⟩
def C8 (st:St) (site:Nat) (args:List ah) (k:cK→Option ρ):Option ρ:=
 match args with
 | [.bt id 0]=>match st.obj id with
  | some (.cells _ (.int .i64 op::_))=>match k9 op with
   | true=>k (LU site id [1,2] 2)
   | false=>match j4 op with
    | true=>k (LU site id [1,2,3] 3)
    | false=>match nK op with
     | true=>k (LU site id [2] 1)
     | false=>k ⟨.nil,[]⟩
  | _=>none
 | _=>none
def bd.key (c:bd) (site f:Nat):Nat:=match c.nB.any (aT (site+2000000)) with | true=>f+1000000 | false=>f
def E6 (N f:Nat):Nat:=match fR N f with | true=>f-N | false=>f
theorem ZK (N f:Nat):E6 N (f+N)=f:=by
 unfold E6;rw [Nat.ble_eq_true_of_le (Nat.le_add_left N f)]
 grind
theorem ZL {N f:Nat} (h:cS f N=true):E6 N f=f:=by
 have e:fR N f=false:=by
  cases hb:fR N f with
  | false=>rfl
  | true=>rw [eH] at h; have:=gz hb; omega
 unfold E6;rw [e]
abbrev C9:Nat→Nat:=E6 1000000
theorem ZM (c:bd) (site f:Nat):c.key site f=f+1000000∨c.key site f=f:=by
 unfold bd.key
 grind
theorem ZN {c:bd} {site f:Nat} (h:cS f 1000000=true):C9 (c.key site f)=f:=by
 rcases ZM c site f with e | e
 ·rw [e]; exact ZK 1000000 f
 rw [e]; exact ZL h
def Da (c:bd) (st:St) (site:Nat) (f:Nat) (args:List ah) (k:cK→Option ρ):Option ρ:=
 match C7 st (c.key site f) args c.calls with
 | none=>match c.nB.any (aT (f+3000000)) with | true=>C8 st site args k | false=>none
 | some ⟨m,x⟩=>match nodupB (oP st m.ps args)&&yP m.ps m.rs&&cS f 1000000 with
  | false=>none
  | true=>(m.m x).bind fun y=>
   let r:=gA site 0 m.rs (PK.outs m.ps) y
   match tv st site 0 m.ps args r.2.2 with
   | some o=>k ⟨match r.1 with | [v]=>v | vs=>.gX vs,r.2.1++o⟩
   | none=>none
mutual
def RZ (sr:St):cF→ah→ah
 | .sh t,v=>match qR sr sr (.val (.sl t)) v with | some x=>.sh t x | none=>v
 | .dn t,v=>match qR sr sr (.val (.bW t)) v with | some x=>.dn t x | none=>v
 | .gp t 0,v=>match qR sr sr (.fX t) v with | some x=>.gp t x 0 | none=>v
 | .agg l,.agg vs=>.agg (Bl sr l vs)
 | .fn _ l,.fn f vs=>.fn f (Bl sr l vs)
 | _,v=>v
 termination_by structural s _=>s
def Bl (sr:St):List cF→List ah→List ah
 | s::l,v::vs=>RZ sr s v::Bl sr l vs
 | _,vs=>vs
 termination_by structural l _=>l
end
mutual
def ZO:cF→ah→List Nat
 | .own _ _,v=>v.ids
 | .fS _ _,v=>v.ids
 | .bt _ _,v=>v.ids
 | .fl _ _ _,v=>v.ids
 | .nJ _ _ _ _,v=>v.ids
 | .agg l,.agg vs=>Ic l vs
 | .fn _ l,.fn _ vs=>Ic l vs
 | _,_=>[]
 termination_by structural s _=>s
def Ic:List cF→List ah→List Nat
 | s::l,v::vs=>ZO s v++Ic l vs
 | _,_=>[]
 termination_by structural l _=>l
end
def lI.j_:lI→Bool
 | .row own t=>!own||!t.jJ
 | .cells _ l=>cF.tu l
def LA.j_ (lb:LA):Bool:=cF.tu (lb.cH.map (·.2))||lb.bb.any (fun p=>p.2.j_)
def handed (st:St) (la:LA) (args:List ah):List Nat:=
 let a:=Ic (la.cH.map (·.2)) args
 let b:=a++mR st a
 b++mR st b
def Db (st:St) (SH:Bool) (hs:List Nat):St:=
 match SH with
 | true=>{ st with heap:=[] }
 | false=>{ st with heap:=gone hs++st.heap }
def R_ (st:St) (M:cM) (args:List ah):St:=
 let hs:=handed st M.la args
 { env:=number 0 (Bl (Db st M.lb.j_ hs) (M.la.cH.map (·.2)) args),heap:=wm st hs,nxt:=20 }
def dF (mp:Mp) (site:Nat) (k:Nat):Nat:=
 match cS k 1000 with
 | true=>match look mp k with | some ad=>ad.1 | none=>0
 | false=>site*1024+(k-1000)
def LA.tail (la:LA) (x:la.wo Mp):Mp:=(fm (cu 20) 0 la.bb (dj (cu 20) 0 la.cH x).2).2
def countB:Nat→List (Nat×cF)→Bool
 | _,[]=>true
 | n,(i,_)::r=>aT i n&&countB (n+1) r
def Ie (M:cM) (args:List ah) (mp:Mp):Bool:=
 countB 0 M.la.cH&&aT M.la.cH.length args.length&&countB 0 M.lb.cH&&nodupB (M.lb.bb.map (·.1))&&
 M.lb.bb.all (fun p=>match cS p.1 1000 with
  | true=>match look mp p.1 with | some ad=>!(aT ad.1 db)&&aT ad.2 0 | none=>false
  | false=>cS p.1 2000)
def qS (M:cM) (mp:Mp):Mp→List Nat
 | []=>[]
 | p::r=>match aT p.2.1 db||M.lb.bb.any (fun q=>aT q.1 p.1)||!(match look mp p.1 with | some ad=>aT ad.1 p.2.1 | none=>false) with
  | true=>qS M mp r
  | false=>p.2.1::qS M mp r
def E7 (st:St) (site:Nat) (M:cM) (x:M.la.wo Mp) (k:cK→Option ρ):Option ρ:=
 (M.m x).bind fun y=>
  let nm:=dF (M.la.tail x) site
  let a:=dj nm site M.lb.cH y
  k ⟨match a.1.map (·.2) with | [v]=>v | vs=>.gX vs,(fm nm site M.lb.bb a.2).1++gone (qS M (M.la.tail x) (M.la.tail x))⟩
def LV (st:St) (M:cM) (args:List ah):Option (M.la.wo Mp):=
 match M.la.ZH (R_ st M args) with
 | some x=>match Ie M args (M.la.tail x) with | true=>some x | false=>none
 | none=>none
def uW (c:bd) (st:St) (site:Nat) (f:Nat) (args:List ah) (k:cK→Option ρ):List (Nat×cM)→Option ρ
 | []=>Da c st site f args k
 | (g,M)::r=>match aT g f with
  | false=>uW c st site f args k r
  | true=>match LV st M args with
   | some x=>E7 st site M x k
   | none=>uW c st site f args k r
def Bm (st:St) (id:Nat) (own:Bool) (t:Ty) (vr:Nat) (xs:List t.T) (off len:Nat) (x:ah) (k:cK→Option ρ):Option ρ:=
 match t.plain with
 | false=>none
 | true=>match st.list x with
  | some ⟨u,ys⟩=>match Ty.cast (.sl u) (.sl t) ys with
   | some zs=>k ⟨.int .i64 ((min (show List t.T from zs).length len:Nat):Int),[(id,some (.row own t vr (xs.take off++((show List t.T from zs).take len++xs.drop (off+min (show List t.T from zs).length len)))))]⟩
   | none=>none
  | none=>none
def Dc (gZ:Nat) (st:St) (d x:ah) (k:cK→Option ρ):Option ρ:=
 match d with
 | .own id _ [] _=>match st.obj id with
  | some (.row own t vr xs)=>match aT gZ t.size with
   | true=>Bm st id own t vr xs 0 xs.length x k
   | false=>none
  | _=>none
 | .fS id _ [] tt off len=>match st.obj id with
  | some (.row own t vr xs)=>match aT gZ t.size&&Ty.beq tt t with
   | true=>Bm st id own t vr xs off len x k
   | false=>none
  | _=>none
 | _=>none
def Ig (st:St) (o:Option Operand) (d:ah):ah:=match o with | some x=>st.ev x | none=>d
def Dd:ah→Option Int
 | .int _ n=>some n
 | _=>none
def uX (gZ:Nat) (st:St) (x:ah) (lo hi:Option Operand) (k:cK→Option ρ):Option ρ:=
 match aT gZ (match x with | .str _=>0 | .nil=>gZ | x=>st.tn x) with
 | false=>none
 | true=>match Dd (Ig st lo (.int .i64 0)),st.len x with
 | some l,some n=>match Dd (Ig st hi (.int .i64 n)) with
  | some h=>ab (0≤l∧l≤h∧h≤n) (match x with
   | .str s=>k ⟨.str ((s.take h.toNat).drop l.toNat),[]⟩
   | .nil=>k ⟨.nil,[]⟩
   | .sh t xs=>k ⟨.sh t ((xs.take h.toNat).drop l.toNat),[]⟩
   | .dn t o=>k ⟨.sh t (((o.getD []).take h.toNat).drop l.toNat),[]⟩
   | .own id ver p _=>match st.rowAt id ver p with | some ⟨u,_⟩=>k ⟨.fS id ver p u l.toNat (h.toNat-l.toNat),[]⟩ | none=>none
   | .fS id ver p t off _=>k ⟨.fS id ver p t (off+l.toNat) (h.toNat-l.toNat),[]⟩
   | .fJ id off _ sz=>match l,h with
    | .ofNat l,.ofNat h=>k ⟨.fJ id (off+l) (h-l) sz,[]⟩
    | _,_=>none
   | _=>none)
  | none=>none
 | _,_=>none
def Bn (own:Bool) (gZ:Nat) (st:St) (site:Nat) (x:ah) (lo hi:Option Operand) (k:cK→Option ρ):Option ρ:=
 uX gZ st x lo hi fun e=>match e.val with
  | .fS id _ [] t 0 0=>match st.obj id with
   | some (.row _ u _ _)=>match Ty.beq t u with
    | true=>k ⟨.own (site*1024) 0 [] t,[(site*1024,some (.row own t site [])),(id,none)]⟩
    | false=>none
   | _=>none
  | _=>none
def tw (pl:Nat→Option (Nat×Nat)):List (Nat×ah)→List ah→Option (List ah)
 | [],zs=>some zs
 | (i,v)::r,zs=>match pl i with
  | some (off,size)=>match aT v.cells.length size&&jZ v.cells&&fR (off+size) zs.length with
   | true=>tw pl r (putCells zs off v.cells)
   | false=>none
  | none=>none
def De (c:bd) (i:mP) (n:Nat):Option (Nat×Nat):=match i.fields[n]? with | some (off,t)=>some (off,(c.ti t).size) | none=>none
def wv (n:Nat) (cs:List ah):List ah:=(ga n cs).flatten
def R3:TK→Bool | .other=>true | _=>false
def eI (c:bd) (st:St) (site:Nat) (o:Op) (k:cK→Option ρ):Option ρ:=
 let v (x:ah):Option ρ:=k ⟨x,[]⟩
 match o with
 | .move x | .assign x=>v (st.ev x)
 | .pick q a b=>match st.ev q with
  | .bool t=>br t (v (st.ev a)) (v (st.ev b))
  | _=>none
 | .alloc t=>match cS 0 (c.ti t).size with
  | true=>k ⟨.bt (site*1024) 0,[(site*1024,some (.cells [] (c.ti t).zero))]⟩
  | false=>none
 | .box _ x=>match jZ (st.ev x).cells with
  | true=>k ⟨.bt (site*1024) 0,[(site*1024,some (.cells [] (st.ev x).cells))]⟩
  | false=>none
 | .build t parts=>match (match (c.ti t).kind,(c.ti t).fields.all (fun f=>cS 0 (c.ti f.2).size) with | .struct,true=>tw (De c (c.ti t)) (parts.toList.map fun p=>(p.1,st.ev p.2)) (c.ti t).zero | _,_=>none) with
  | some cs=>v (.agg cs)
  | none=>none
 | .buildSlice t len parts=>
  let e:=c.ti (c.ti t).elem
  match (match (c.ti t).kind,cS 0 e.size&&fR (len*e.size) 100000 with | .slice,true=>some () | _,_=>none) with
  | none=>none
  | some _=>
  match tw (fun n=>some (n*e.size,e.size)) (parts.toList.map fun p=>(p.1,st.ev p.2)) (wv len e.zero) with
  | some cs=>k ⟨.fJ (site*1024) 0 len e.size,[(site*1024,some (.cells [] cs))]⟩
  | none=>none
 | .load t x=>match (match cS 0 (c.ti t).size with | true=>st.E_ (st.ev x) | false=>none) with
  | some (cs,j)=>match part (c.ti t).agg (c.ti t).size cs j with | some x=>v x | none=>none
  | none=>none
 | .store t x y=>match cS 0 (c.ti t).size with | false=>none | true=>C2 st site (c.ti t).size (st.ev x) (st.ev y) k
 | .nilCheck x=>match st.ev x with
  | .bt id j=>v (.bt id j)
  | .fl id ver p t i j=>v (.fl id ver p t i j)
  | .gp t x j=>v (.gp t x j)
  | _=>none
 | .binOp op t x y _=>match st.ev x,st.ev y with
  | .agg a,.agg b=>match (c.ti t).eq&&aT (c.ti t).fields.length a.length,yL a b,op with
   | true,some e,.eql=>v (.bool e)
   | true,some e,.neq=>v (.bool (!e))
   | _,_,_=>none
  | a,b=>match R3 (c.ti t).kind with | true=>none | false=>wj (c.ti t).kind (match y with | .const _=>true | _=>false) op a b v
 | .unOp op _ x=>match op,st.ev x with
  | .not,.bool b=>v (.bool (!b))
  | .neg,.int kk n=>v (.int kk (oN kk (0-n)))
  | _,_=>none
 | .convert s d x=>match (c.ti s).kind,(c.ti d).kind,st.ev x with
  | .int _,.int kk,.int _ n=>v (.int kk (oN kk n))
  | .str,.str,.str s=>v (.str s)
  | .slice,.str,y=>match (c.ti (c.ti s).elem).kind,st.tail true (.int .u8) y with
   | .int .u8,some (xs,_)=>v (.str (xs.map fun n=>UInt8.ofNat n.toNat))
   | _,_=>none
  | _,_,_=>none
 | .makeFunc (.func f) first caps=>match first.toList with | []=>v (.fn f (caps.toList.map st.ev)) | _=>none
 | .makeSlice t l cp=>match st.ev l,st.ev cp with
  | .int _ n,.int _ m=>match (c.ti t).kind,(c.ti (c.ti t).elem).ty,cS 0 (c.ti (c.ti t).elem).bytes with
   | .slice,some e,true=>ab (n=m∧0≤n∧n*((c.ti (c.ti t).elem).bytes:Int)≤(bn:Int)) (k ⟨.own (site*1024) 0 [] e,[(site*1024,some (.row (!(c.nB.any (aT site))) e site (ga n.toNat e.zero)))]⟩)
   | _,_,_=>none
  | _,_=>none
 | .slice t x lo hi none=>match (c.ti t).kind with
  | .slice=>match cS 0 (c.ti (c.ti t).elem).size with | false=>none | true=>match c.nB.any (aT site) with | true=>Bn false (c.ti (c.ti t).elem).size st site (st.ev x) lo hi k | false=>match c.nB.any (aT (site+1000000)) with | true=>Bn true (c.ti (c.ti t).elem).size st site (st.ev x) lo hi k | false=>uX (c.ti (c.ti t).elem).size st (st.ev x) lo hi k
  | .str=>match st.ev x with | .str s=>uX 0 st (.str s) lo hi k | _=>none
  | _=>none
 | .fieldAddr s x f=>match (c.ti s).kind,(c.ti s).fields[f]? with
  | .struct,some (off,t)=>match cS 0 (c.ti t).size,E0 (st.ev x) off with | false,_=>none | _,.undef=>none | _,a=>v a
  | _,_=>none
 | .field s x f=>match st.ev x,(c.ti s).kind,(c.ti s).fields[f]? with
  | .agg cs,.struct,some (off,t)=>match (match cS 0 (c.ti t).size with | true=>part (c.ti t).agg (c.ti t).size cs off | false=>none) with | some x=>v x | none=>none
  | _,_,_=>none
 | .indexAddr t x i=>match st.ev i,(c.ti t).kind,cS 0 (c.ti (c.ti t).elem).size with
  | .int _ n,.slice,true=>match c.nB.any (aT (site+2000000)) with
   | true=>yN (c.ti (c.ti t).elem).size st (st.ev x) n v (ZI (st.ev x))
   | false=>rL (c.ti (c.ti t).elem).size st (st.ev x) n v
  | _,_,_=>none
 | .index t x i=>match st.ev x,st.ev i,(c.ti t).kind with
  | .str s,.int _ n,.str=>ab (0≤n∧n<(s.length:Int)) (v (.int .u8 ((s.getD n.toNat 0).toNat:Int)))
  | _,_,_=>none
 | .extract x i=>match st.ev x with
  | .gX vs=>match vs[i]? with | some x=>v x | none=>none
  | _=>none
 | .call ⟨.builtin .len,args,ts⟩=>match args.toList,ts.toList with
  | [x],[t]=>match (c.ti t).kind,st.ev x with
   | .str,.str s=>v (.int .i64 (s.length:Int))
   | .slice,.str _=>none
   | .slice,y=>match st.len y with | some n=>v (.int .i64 n) | none=>none
   | _,_=>none
  | _,_=>none
 | .call ⟨.builtin .cap,args,ts⟩=>match args.toList,ts.toList with
  | [x],[t]=>match (c.ti t).kind,st.ev x with
   | .slice,.nil=>v (.int .i64 0)
   | _,_=>none
  | _,_=>none
 | .call ⟨.builtin .append,args,ts⟩=>match args.toList,ts.toList with
  | [s,x],[t,u]=>match (c.ti t).kind,aT t u,cS 0 (c.ti (c.ti t).elem).bytes&&cS 0 (c.ti (c.ti t).elem).size with
   | .slice,true,true=>match c.nB.any (aT site) with
    | true=>C5 (c.ti (c.ti t).elem).bytes st (c.ti (c.ti t).elem).ty (st.ev s) (st.ev x) k
    | false=>match c.nB.any (aT (site+1000000)) with
     | true=>C6 (c.ti (c.ti t).elem).bytes st site (c.ti (c.ti t).elem).ty (st.ev s) (st.ev x).RY k
     | false=>C4 (c.ti (c.ti t).elem).bytes st site (c.ti (c.ti t).elem).ty (c.ti (c.ti t).elem).size (st.ev s) (st.ev x) k
   | .slice,false,true=>match (c.ti u).kind with
    | .int _=>E4 (c.ti (c.ti t).elem).bytes site (c.ti (c.ti t).elem).ty (st.ev s) (st.ev x) k
    | _=>none
   | _,_,_=>none
  | _,_=>none
 | .call ⟨.builtin .copy,args,ts⟩=>match args.toList,ts.toList with
  | [d,x],[t,_]=>match (c.ti t).kind,cS 0 (c.ti (c.ti t).elem).size with
   | .slice,true=>Dc (c.ti (c.ti t).elem).size st (st.ev d) (st.ev x) k
   | _,_=>none
  | _,_=>none
 | .call ⟨.builtin .max,args,_⟩=>match args.toList.map st.ev with
  | [.int kk a,.int kl b]=>match nI kk kl with | true=>v (.int kk (max a b)) | false=>none
  | _=>none
 | .call ⟨.builtin .min,args,_⟩=>match args.toList.map st.ev with
  | [.int kk a,.int kl b]=>match nI kk kl with | true=>v (.int kk (min a b)) | false=>none
  | _=>none
 | .call ⟨.value f,args,_⟩=>match st.ev f with
  | .fn f caps=>uW c st site f (args.toList.map st.ev++caps) k c.uV
  | _=>none
 | _=>none
end
end Go.Am
namespace Go.Am
open Go
section
variable {ρ:Type}
def St.put (st : St) (dst : Option Nat) (e : cK) : St :=
  { env := (match dst with | some d => (d, e.val) :: st.env | none => st.env), heap := e.bb ++ st.heap, nxt := st.nxt + 1,
    et := (match dst with | some d => d :: st.et | none => st.et), ht := e.bb.map (·.1) ++ st.ht }
def uY (all:List Oper) (g:Nat):Option Nat:=match all[g]? with | some o=>o.dst | none=>none
def Bo (c : bd) (all : List Oper) : List Oper → St → (St → Option ρ) → Option ρ
  | [], st, k => k st
  | o :: r, st, k =>
    let run (st : St) : Option ρ := eI c st st.nxt o.op fun e => Bo c all r (st.put o.dst e) k
    let skip (st : St) : Option ρ := Bo c all r (st.put o.dst ⟨.gX [], []⟩) k
    match o.guard with
    | none => run st
    | some (g, want) => match uY all g with
      | none => none
      | some d => match st.ev (.tmp d) with
        | .bool b =>
          br b (let st := st.put (some d) ⟨.bool true, []⟩; match want with | true => run st | false => skip st)
               (let st := st.put (some d) ⟨.bool false, []⟩; match want with | true => skip st | false => run st)
        | .gX [] => skip st
        | _ => none
structure cN where
 mask:Nat
 dst:Option Nat
 bu:cK
 reads:List Nat
 pS:List Nat
def lK:List Operand→List Nat
 | []=>[]
 | .tmp t::r=>t::lK r
 | _::r=>lK r
def R4 (st:St):List Nat→List Nat
 | []=>[]
 | t::r=>(match look st.env t with | some v=>v.ids | none=>[])++R4 st r
def LW (st:St) (o:Op):List Nat:=
 let a:=R4 st (lK o.operands.toList)
 match o with
 | .call _=>let b:=a++mR st a; b++mR st b
 | .store _ _ _ | .convert _ _ _=>a++mR st a
 | .move _ | .assign _ | .pick _ _ _ | .nilCheck _ | .fieldAddr _ _ _ | .extract _ _ | .makeFunc _ _ _=>[]
 | _=>a
def pT (Bp:List Nat) (i:Nat):List Edge→Nat
 | []=>0
 | e::r=>(match Region.binds .any e&&cS e.on i with | true=>Nat.lor (2 ^ e.on) (Bp.getD e.on 0) | false=>0)||| pT Bp i r
def mg (st0:St) (mask:Nat):Nat→List cN→St
 | _,[]=>st0
 | i,e::r=>let st:=mg st0 mask i.pred r; match Nat.testBit mask i with | true=>st.put e.dst e.bu | false=>st
def restrict (st:St) (pS ids:List Nat):St:={ env:=jf st pS,heap:=wm st ids,nxt:=st.nxt }
def pU (e:cN):List Nat:=e.bu.bb.map (·.1)
def Ih (a b:List Nat):Bool:=a.all fun i=>!(b.any (aT i))
def R5 (a b:Option Nat):Bool:=match a,b with | some x,some y=>!aT x y | _,_=>true
def Ii (a:Option Nat) (l:List Nat):Bool:=match a with | some x=>!(l.any (aT x)) | none=>true
def E8 (a b:cN):Bool:=
 Ih (pU a) b.reads&&Ih (pU b) a.reads&&Ih (pU a) (pU b)&&R5 a.dst b.dst&&Ii a.dst b.pS&&Ii b.dst a.pS
def qT:Nat→List cN→Bool
 | _,[]=>true
 | i,e::r=>go e i.pred r&&qT i.pred r
 where go (e:cN):Nat→List cN→Bool
 | _,[]=>true
 | j,f::r=>(Nat.testBit e.mask j||E8 e f)&&go e j.pred r
def setBool (d:Nat) (b:Bool):List cN→List cN
 | []=>[]
 | e::r=>match e.dst with
  | some x=>match aT x d with | true=>{ e with bu:={ e.bu with val:=.bool b } }::r | false=>e::setBool d b r
  | none=>e::setBool d b r
def Df (all:List Oper) (o:Oper):List Nat:=match o.guard with
 | some (g,_)=>(match uY all g with | some d=>[d] | none=>[])
 | none=>[]
def E9 (i:Nat):List Edge→Bool
 | []=>true
 | e::r=>(match Region.binds .any e with | true=>cS e.on i | false=>true)&&E9 i r
def Ij (mask d:Nat):Nat→List cN→Bool
 | _,[]=>true
 | i,e::r=>(Nat.testBit mask i||(match e.dst with | some x=>!aT x d | none=>true))&&Ij mask d i.pred r
def wx (c:bd) (all:List Oper) (st0:St):List Oper→Nat→List cN→(List cN→Option ρ)→Option ρ
 | [],_,es,k=>k es
 | o::r,i,es,k=>
  match E9 i o.after.toList with
  | false=>none
  | true=>
  let mask:=pT (es.reverse.map (·.mask)) i o.after.toList
  let pS:=lK o.op.operands.toList
  let run (es:List cN):Option ρ:=
   let st:=mg st0 mask i.pred es
   let ids:=LW st o.op
   eI c (restrict st pS ids) (st0.nxt+i) o.op fun e=>wx c all st0 r (i+1) (⟨mask,o.dst,e,ids,Df all o++pS⟩::es) k
  let skip (es:List cN):Option ρ:=wx c all st0 r (i+1) (⟨mask,o.dst,⟨.gX [],[]⟩,[],Df all o⟩::es) k
  match o.guard with
  | none=>run es
  | some (g,want)=>match uY all g with
   | none=>none
   | some d=>match Ij mask d i.pred es,(mg st0 mask i.pred es).ev (.tmp d) with
    | true,.bool b=>br b (let es:=setBool d true es; match want with | true=>run es | false=>skip es)
             (let es:=setBool d false es; match want with | true=>skip es | false=>run es)
    | true,.gX []=>skip es
    | _,_=>none
def mh (st0:St):List cN→St
 | []=>st0
 | e::r=>(mh st0 r).put e.dst e.bu
structure pV where
 i:Nat
 key:List UInt8
 v:Nat
 p:Nat
structure wy where
 im:Nat
 tm:Nat
 ik:Nat
 tk:Nat
 iq:Nat
 tq:Nat
 t1:Nat
 il:Nat
 ins:List pV
def uZ {α:Type} (f:Oper→Option α):List Oper→Nat→Option (Nat×α)
 | [],_=>none
 | o::r,i=>match f o with | some x=>some (i,x) | none=>uZ f r (i+1)
def wz {α:Type} (f:Nat→Oper→Option α):List Oper→Nat→List α
 | [],_=>[]
 | o::r,i=>match f i o with | some x=>x::wz f r (i+1) | none=>wz f r (i+1)
def LX (o:Oper):Option Nat:=match o.op with | .makeMap _ none=>o.dst | _=>none
def R6 (t:Nat) (o:Oper):Option Nat:=match o.op with | .move (.tmp s)=>(match aT s t with | true=>o.dst | false=>none) | _=>none
def ZP (tk:Nat) (o:Oper):Option Nat:=match o.op with | .lookup _ (.tmp a) (.tmp q) false=>(match aT a tk with | true=>some q | false=>none) | _=>none
def u_ (t:Nat) (o:Oper):Bool:=match o.dst with | some d=>aT d t | none=>false
def R7 (tq:Nat) (o:Oper):Option Nat:=match o.op with | .move (.tmp s)=>(match u_ tq o with | true=>some s | false=>none) | _=>none
def R8 (v:Nat) (o:Oper):Option Unit:=match u_ v o with | true=>some () | false=>none
def Fa (ops:List Oper) (i:Nat) (o:Oper):Option pV:=match o.op with
 | .insert _ (.tmp _) (.const (.string s)) (.tmp v)=>(match uZ (R8 v) ops 0 with | some (p,_)=>some ⟨i,s.data.toList,v,p⟩ | none=>none)
 | _=>none
def Fb (ops:List Oper):Option wy:=
 match uZ LX ops 0 with
 | none=>none
 | some (im,tm)=>match uZ (R6 tm) ops 0 with
  | none=>none
  | some (ik,tk)=>match uZ (ZP tk) ops 0 with
   | none=>none
   | some (il,tq)=>match uZ (R7 tq) ops 0 with
    | none=>none
    | some (iq,t1)=>some ⟨im,tm,ik,tk,iq,tq,t1,il,wz (Fa ops) ops 0⟩
def Ik:List UInt8→List UInt8→Bool
 | [],[]=>true
 | a::r,b::s=>aT a.toNat b.toNat&&Ik r s
 | _,_=>false
def Il:List pV→Bool
 | []=>true
 | x::r=>r.all (fun y=>!Ik x.key y.key)&&Il r
def mT (o:Oper) (j:Nat):Bool:=o.after.toList.any fun e=>Region.binds .any e&&aT e.on j
def Fc (f:Oper→Bool) (i:Nat) (ops:List Oper):Bool:=match ops[i]? with | some o=>f o | none=>false
def Im (f:Nat→Oper→Bool):List Oper→Nat→Bool
 | [],_=>true
 | o::r,i=>f i o&&Im f r (i+1)
def Dg (T:Nat) (mf:wy) (i:Nat) (o:Oper):Bool:=
 o.guard.isNone&&(match o.op with
 | .makeMap t none=>aT t T&&aT i mf.im
 | .makeMap _ _=>false
 | .insert t (.tmp m) (.const (.string s)) (.tmp _)=>aT t T&&(aT m mf.tm&&(o.dst.isNone&&(mf.ins.any (fun x=>aT x.i i)&&fR s.data.toList.length 1000)))
 | .insert ..=>false
 | .lookup t (.tmp a) (.tmp q) false=>aT t T&&(aT i mf.il&&(aT a mf.tk&&aT q mf.tq))
 | .lookup ..=>false
 | _=>true)&&((!u_ mf.tm o||aT i mf.im)&&((!u_ mf.tk o||aT i mf.ik)&&((!u_ mf.tq o||aT i mf.iq)&&(!u_ mf.t1 o&&mf.ins.all (fun x=>!u_ x.v o||aT i x.p)))))
def Fe (T:Nat) (ops:List Oper) (mf:wy):Bool:=
 Im (Dg T mf) ops 0&&(Fc (fun o=>mT o mf.im&&mf.ins.all fun x=>mT o x.i) mf.ik ops&&(Fc (fun o=>mT o mf.ik&&mT o mf.iq) mf.il ops&&
 (mf.ins.all (fun x=>Fc (fun o=>mT o mf.im&&mT o x.p) x.i ops)&&(Il mf.ins&&fR mf.ins.length 1000))))
def j5 (v:Nat) (o:Oper):Oper:=match o.op with
 | .makeMap _ _=>{ o with op:=.move (.const (.map none)) }
 | .insert _ _ _ x=>{ o with op:=.move x }
 | .lookup _ _ _ _=>{ o with op:=.move (.tmp v) }
 | _=>o
def Io (es:List cN) (r:Option ρ):List pV→Option ρ
 | []=>r
 | x::l=>match es.reverse[x.i]? with | some ⟨_,_,⟨.str s,_⟩,_,_⟩=>ab (s.length<ca) (Io es r l) | _=>none
def Ff (s:List UInt8) (f:Nat→Option ρ):List pV→Option ρ
 | []=>none
 | x::r=>br (decide (s=x.key)) (f x.v) (Ff s f r)
def wA (c:bd):Option Nat:=match c.nB.find? (fun x=>fR 2900000 x&&cS x 3000000) with | some x=>some (x-2900000) | none=>none
def Fg (c:bd) (mf:wy) (ops:List Oper) (st:St) (k:St→Option ρ):Option ρ:=
 match st.ev (.tmp mf.t1) with
 | .str s=>Ff s (fun v=>wx c (ops.map (j5 v)) st (ops.map (j5 v)) 0 [] fun es=>match qT (ops.length-1) es with | true=>Io es (k (mh st es)) mf.ins | false=>none) mf.ins
 | _=>none
def Bq (c:bd) (ops:Array Oper) (st:St) (k:St→Option ρ):Option ρ:=
 wx c ops.toList st ops.toList 0 [] fun es=>match qT (ops.toList.length-1) es with | true=>k (mh st es) | false=>none
def Dh (c:bd) (ops:Array Oper) (draw:Bool) (st:St) (k:St→Option ρ):Option ρ:=
 match draw with
 | false=>Bo c ops.toList ops.toList st k
 | true=>match wA c with
  | none=>Bq c ops st k
  | some T=>match Fb ops.toList with
   | none=>Bq c ops st k
   | some mf=>match Fe T ops.toList mf with
    | true=>Fg c mf ops.toList st k
    | false=>none
inductive Ex where
 | normal | ret | exit (id:Nat)
inductive iH where
 | leaf
 | two (a b:iH)
 | one (a:iH)
 | loop (la:LA) (a:iH)
 | cut (la:LA) (a:iH)
 | Br (m:Nat) (a:iH)
 | Di (p:iH) (la:LA) (a:iH)
def iter {α ρ:Type} (n:Nat) (F:(α→Option ρ)→α→Option ρ):α→Option ρ:=Nat.rec (fun _=>none) (fun _ ih=>F ih) n
def cut {α ρ:Type} (m:Option (Sum ρ α)) (f:α→Option ρ):Option ρ:=m.bind fun | .inl r=>some r | .inr x=>f x
def iH.fst:iH→iH | .two a _=>a | .one a=>a | .loop _ a=>a | .Br _ a=>a | _=>.leaf
def iH.snd:iH→iH | .two _ b=>b | _=>.leaf
def g_ (c:bd) (n:Nat):(code:Code)→iH→(ρ:Type)→St→(Ex→St→Option ρ)→Option ρ
 | .skip,_,_,st,k=>k .normal st
 | .region _ ops draw,an,ρ,st,k=>
  match an with
  | .cut la _=>match la.apart st with
   | true=>cut (Dh (ρ:=Sum ρ la.LT) c ops draw st fun st'=>match la.kept st st',la.read st st' with | true,some y=>some (.inr y) | _,_=>none)
    fun y=>k .normal (la.mk' st y)
   | false=>none
  | _=>Dh c ops draw st (k .normal)
 | .seq a b,an,ρ,st,k=>g_ c n a an.fst ρ st fun e st=>match e with | .normal=>g_ c n b an.snd ρ st k | e=>k e st
 | .cond x a b,an,ρ,st,k=>
  match an with
  | .cut la fY=>match st.ev x,la.apart st with
   | .bool t,true=>cut (br t
     (g_ c n a fY.fst (Sum ρ la.LT) st fun e st'=>match e with | .normal=>(match la.kept st st',la.read st st' with | true,some y=>some (.inr y) | _,_=>none) | e=>(match k e st' with | some r=>some (.inl r) | none=>none))
     (g_ c n b fY.snd (Sum ρ la.LT) st fun e st'=>match e with | .normal=>(match la.kept st st',la.read st st' with | true,some y=>some (.inr y) | _,_=>none) | e=>(match k e st' with | some r=>some (.inl r) | none=>none)))
     fun y=>k .normal (la.mk' st y)
   | _,_=>none
  | an=>match st.ev x with
   | .bool t=>br t (g_ c n a an.fst ρ st k) (g_ c n b an.snd ρ st k)
   | _=>none
 | .block id b,an,ρ,st,k=>
  match an with
  | .cut la fY=>match la.apart st with
   | true=>cut (g_ c n b fY (Sum ρ la.LT) st fun e st'=>
     match (match e with | .normal=>true | .exit j=>aT j id | .ret=>false) with
     | true=>(match la.kept st st',la.read st st' with | true,some y=>some (.inr y) | _,_=>none)
     | false=>(match k e st' with | some r=>some (.inl r) | none=>none))
    fun y=>k .normal (la.mk' st y)
   | false=>none
  | an=>g_ c n b an.fst ρ st fun e st=>match e with
   | .exit j=>match aT j id with | true=>k .normal st | false=>k (.exit j) st
   | e=>k e st
 | .loop b,an,ρ,st,k=>
  match an with
  | .loop la fY=>match la.apart st,la.read st st with
   | true,some x=>iter n (fun ih x=>g_ c n b fY ρ (la.mk' st x) fun e st'=>match e with
     | .normal=>match la.kept (la.mk' st x) st',la.read (la.mk' st x) st' with | true,some y=>ih y | _,_=>none
     | e=>k e st') x
   | _,_=>none
  | .Br m fY=>iter m (fun ih st=>g_ c n b fY ρ st fun e st'=>match e with
     | .normal=>ih st'
     | e=>k e st') st
  | .Di p la fY=>g_ c n b p ρ st fun e eJ=>match e with
   | .normal=>(match la.apart eJ,la.read eJ eJ with
    | true,some x=>iter n (fun ih x=>g_ c n b fY ρ (la.mk' eJ x) fun e st'=>match e with
     | .normal=>match la.kept (la.mk' eJ x) st',la.read (la.mk' eJ x) st' with | true,some y=>ih y | _,_=>none
     | e=>k e st') x
    | _,_=>none)
   | e=>k e eJ
  | _=>none
 | .scope b,an,ρ,st,k=>g_ c n b an.fst ρ st k
 | .exit id,_,_,st,k=>k (.exit id) st
 | .ret,_,_,st,k=>k .ret st
 | _,_,_,_,_=>none
def LY:Ty→List Bool→List Bool
 | .pair a b,ms=>LY a ms++LY b (ms.drop a.size)
 | .sl _,ms=>[match ms with | true::_=>false | _=>true]
 | .bW _,_=>[true]
 | _,_=>[false]
mutual
def R9:(p:PK)→p.T→ah
 | .val t,x=>shut t (flat mO t x 0)
 | .fX t,x=>.gp t x 0
 | .jI f caps,x=>.fn f (Ip caps x)
 | .io _,_=>.undef
 | .jH _ _,_=>.undef
 termination_by structural p _=>p
def Ip:(ps:List PK)→iS ps→List ah
 | [],_=>[]
 | p::ps,x=>R9 p x.1::Ip ps x.2
 termination_by structural ps _=>ps
end
def wc (i:Nat):(p:PK)→p.T→ah×List (Nat×Option dL)
 | .val t,x=>(shut t (flat mO t x 0),[])
 | .fX t,x=>(.gp t x 0,[])
 | .io t,x=>(shut t (flat (wq (i*1024)) t x 0),fV (i*1024) 0 t x 0)
 | .jH t ms,x=>(.bt (i*1024) 0,(i*1024,some (.cells (LY t ms) (Ib 0 ms (flat (wq (i*1024+1)) t x 0) (flat mO t x 0))))::fV (i*1024+1) 0 t x 0)
 | .jI f caps,x=>(.fn f (Ip caps x),[])
def entry:Nat→(ps:List PK)→iS ps→List (Nat×ah)×List (Nat×Option dL)
 | _,[],_=>([],[])
 | i,p::ps,x=>((i,(wc i p x.1).1)::(entry (i+1) ps x.2).1,(wc i p x.1).2++(entry (i+1) ps x.2).2)
def Iq (st:St):(t:Ty)→List Bool→List ah→Option (t.T×List Nat)
 | .pair a b,ms,cs=>match Iq st a ms (cs.take a.size),Iq st b (ms.drop a.size) (cs.drop a.size) with
  | some (x,u),some (y,v)=>some ((x,y),u++v)
  | _,_=>none
 | .sl t,true::_,cs=>match take st true 50 (.sl t) cs with | some (x,[],u)=>some (x,u) | _=>none
 | t,_,cs=>match je st 50 t cs with | some (x,[])=>some (x,[]) | _=>none
def Ir (st:St):(r:RK)→ah→Option (r.ty.T×List Nat)
 | .val t,v=>match take st true 50 t (match t with | .pair _ _=>v.cells | _=>[v]) with | some (x,[],u)=>some (x,u) | _=>none
 | .sh t,v=>match take st false 50 t (match t with | .pair _ _=>v.cells | _=>[v]) with | some (x,[],u)=>some (x,u) | _=>none
 | .ptr t ms,.bt id 0=>match st.obj id with
  | some (.cells _ cs)=>match Iq st t ms cs with | some (x,u)=>some (x,id::u) | none=>none
  | _=>none
 | _,_=>none
def Is (st:St):(rs:List RK)→List ah→(os:List Ty)→Option (cj os×List Nat)→Option (cj (RK.bm rs++os)×List Nat)
 | [],[],_,y=>y
 | r::rs,v::vs,os,y=>match Ir st r v,Is st rs vs os y with
  | some (x,u),some (z,w)=>some ((x,z),u++w)
  | _,_=>none
 | _,_,_,_=>none
def Bs (st:St) (base:Nat):(t:Ty)→Nat→{os:List Ty}→cj os→List Nat→Option (cj (t.gY os)×List Nat)
 | .pair a b,j,os,z,w=>match Bs st base b (j+a.size) (os:=os) z w with
  | some (z,w)=>Bs st base a j (os:=b.gY os) z w
  | none=>none
 | .sl t,j,_,z,w=>match st.obj (base+j) with
  | some (.row true u _ xs)=>match Ty.cast (.sl u) (.sl t) xs with | some ys=>some ((ys,z),(base+j)::w) | none=>none
  | _=>none
 | .int _,_,_,z,w=>some (z,w)
 | .bool,_,_,z,w=>some (z,w)
 | .str,_,_,z,w=>some (z,w)
 | .err,_,_,z,w=>some (z,w)
 | .bW _,_,_,z,w=>some (z,w)
def yQ (st:St):Nat→(ps:List PK)→Option (cj (PK.outs ps)×List Nat)
 | _,[]=>some ((),[])
 | i,.io t::ps=>match yQ st (i+1) ps with
  | some (z,w)=>Bs st (i*1024) t 0 z w
  | none=>none
 | i,.jH t ms::ps=>match st.obj (i*1024),yQ st (i+1) ps with
  | some (.cells _ cs),some (z,w)=>match Iq st t ms cs with | some (x,u)=>some ((x,z),(i*1024)::(u++w)) | none=>none
  | _,_=>none
 | i,.val _::ps=>yQ st (i+1) ps
 | i,.fX _::ps=>yQ st (i+1) ps
 | i,.jI _ _::ps=>yQ st (i+1) ps
def wB (st:St) (agg:Nat→Bool×Nat):List ResultVar→Option (List ah)
 | []=>some []
 | .tmp t::r=>match wB st agg r with | some vs=>some (st.ev (.tmp t)::vs) | none=>none
 | .cell a t::r=>match st.E_ (st.ev (.tmp a)),wB st agg r with
  | some (cs,j),some vs=>match (match cS 0 (agg t).2 with | true=>part (agg t).1 (agg t).2 cs j | false=>none) with | some v=>some (v::vs) | none=>none
  | _,_=>none
def finish (c:bd) (fn:Func) (ps:List PK) (rs:List RK) (st:St):Option (cj (RK.bm rs++PK.outs ps)):=
 match wB st (fun t=>((c.ti t).agg,(c.ti t).size)) fn.results.toList with
 | some vs=>match Is st rs vs (PK.outs ps) (yQ st 0 ps) with
  | some (x,u)=>match nodupB u with | true=>some x | false=>none
  | none=>none
 | none=>none
def hY (N:Nat):Code→Bool
 | .region _ ops _=>ops.toList.all fun o=>match o.dst with | some d=>cS d N | none=>true
 | .seq a b=>hY N a&&hY N b
 | .cond _ a b=>hY N a&&hY N b
 | .block _ b=>hY N b
 | .loop b=>hY N b
 | .scope b=>hY N b
 | _=>true
def cM.run (c:bd) (n:Nat) (fn:Func) (an:iH) (la lb:LA) (x:la.wo Mp):Option lb.LT:=
 match fn.body with
 | some code=>match hY fn.ntmps code with
  | false=>none
  | true=>g_ c n code an _ (la.lJ x) fun e st=>match e with
   | .exit _=>none
   | _=>match wB st (fun t=>((c.ti t).agg,(c.ti t).size)) fn.results.toList with
    | some vs=>match aT vs.length lb.cH.length with
     | true=>lb.LR { env:=number 0 vs,heap:=st.heap,nxt:=st.nxt }
     | false=>none
    | none=>none
 | none=>none
def Dj (c:bd) (n:Nat) (fn:Func) (an:iH) (ps:List PK) (rs:List RK) (x:iS ps):Option (cj (RK.bm rs++PK.outs ps)):=
 match fn.body with
 | some code=>match hY fn.ntmps code with
  | false=>none
  | true=>g_ c n code an _ { env:=(entry 0 ps x).1,heap:=(entry 0 ps x).2,nxt:=20 } fun e st=>match e with
  | .exit _=>none
  | _=>finish c fn ps rs st
 | none=>none
end
end Go.Am
namespace Go.Am
open Go
def LZ:List (Nat×LA)→List (Nat×LA)
 | []=>[]
 | (k,la)::l=>match fR 2000000 k with | true=>(k-2000000,la)::LZ l | false=>LZ l
def wC (l:List (Nat×LA)):Code→Nat→iH×Nat
 | .seq a b,n=>let (x,n):=wC l a n; let (y,n):=wC l b n; (.two x y,n)
 | .cond _ a b,n0=>let (x,n):=wC l a (n0+1); let (y,n):=wC l b n
  (match look l n0 with | some la=>.cut la (.two x y) | none=>.two x y,n)
 | .block _ b,n0=>let (x,n):=wC l b (n0+1); (match look l n0 with | some la=>.cut la x | none=>.one x,n)
 | .loop b,n0=>let (x,n):=wC l b (n0+1); (match look l n0 with
  | some la=>(match look l (n0+1000000) with | some _=>.Di (wC (LZ l) b (n0+1)).1 la x | none=>.loop la x)
  | none=>(match look l (n0+500000) with | some _=>.Br 6 x | none=>.one x),n)
 | .scope b,n=>let (x,n):=wC l b n; (.one x,n)
 | .region _ _ _,n=>(match look l n with | some la=>.cut la .leaf | none=>.leaf,n+1)
 | _,n=>(.leaf,n)
def cT (fn:Func) (l:List (Nat×LA)):iH:=match fn.body with | some c=>(wC l c 0).1 | none=>.leaf
abbrev ad (b o:Nat):Addr:=⟨b,o,none⟩
theorem Ty.size_pos:∀ t:Ty,0<t.size
 | .pair a b=>by have:=a.size_pos; simp [Ty.size]; omega
 | .int _ | .bool | .str | .err | .sl _ | .bW _=>by simp [Ty.size]
def Bt (isNil:Bool) (v:Value):Prop:=match isNil with | true=>v = .nilIface | false=>∃ t x,v = .iface t x
abbrev b9:=Nat→Nat→Option (Nat×Path)
def hZ {α:Type} (size:Nat) (f:α→Nat→Nat→Prop) (xs:List α) (v:Value):Prop:=
 ∃ a len cap,v = .slice a len cap∧len=xs.length∧len≤cap∧(a=none→cap=0)∧
  (xs≠[]→∃ b o,a=some (ad b o)∧∀ i (h:i<xs.length),f xs[i] b (o+i*size))
def Sh (lab:b9) (w:World):(t:Ty)→t.T→Nat→Nat→Prop
 | .int k,n,b,o=>w.cell? (ad b o)=some (.int k n)∧lab b o=none
 | .bool,x,b,o=>w.cell? (ad b o)=some (.bool x)∧lab b o=none
 | .str,s,b,o=>w.cell? (ad b o)=some (.string ⟨s.toArray⟩)∧lab b o=none
 | .err,e,b,o=>(∃ v,w.cell? (ad b o)=some v∧Bt e v)∧lab b o=none
 | .pair s t,x,b,o=>Sh lab w s x.1 b o∧Sh lab w t x.2 b (o+s.size)
 | .sl t,xs,b,o=>(∃ v,w.cell? (ad b o)=some v∧hZ t.size (Sh lab w t) xs v)∧lab b o=none
 | .bW t,x,b,o=>(∃ v,w.cell? (ad b o)=some v∧hZ t.size (Sh lab w t) (x.getD []) v∧(x=none↔∃ n c,v = .slice none n c))∧lab b o=none
structure Hd where
 addr:Option (Nat×Nat)
 len:Nat
 cap:Nat
def Hd.val (h:Hd):Value:=.slice (h.addr.map fun p=>ad p.1 p.2) h.len h.cap
structure Gh where
 hd:Nat→Nat→Path→Hd
 lab:b9
def Dk {α:Type} (w:World) (lab:b9) (size:Nat) (q:Nat×Path) (h:Hd) (f:Nat→α→Nat→Nat→Prop) (xs:List α):Prop:=
 h.len=xs.length∧h.len≤h.cap∧(h.addr=none→h.cap=0)∧
 ∀ b o,h.addr=some (b,o)→
  (∀ k,k<h.cap*size→lab b (o+k)=some q∧(w.cell? (ad b (o+k))).isSome=true∧w.frozen? (ad b (o+k))=false)∧
  (∀ i (hi:i<xs.length),f i xs[i] b (o+i*size))
def dO (g:Gh) (w:World) (own:Bool) (id vr:Nat):(t:Ty)→(sk:Nat→Nat→Bool)→(p:Path)→(i j:Nat)→t.T→Nat→Nat→Prop
 | .int k,_,_,_,_,n,b,o=>w.cell? (ad b o)=some (.int k n)
 | .bool,_,_,_,_,x,b,o=>w.cell? (ad b o)=some (.bool x)
 | .str,_,_,_,_,s,b,o=>w.cell? (ad b o)=some (.string ⟨s.toArray⟩)
 | .err,_,_,_,_,e,b,o=>∃ v,w.cell? (ad b o)=some v∧Bt e v
 | .pair s t,sk,p,i,j,x,b,o=>dO g w own id vr s sk p i j x.1 b o∧dO g w own id vr t sk p i (j+s.size) x.2 b (o+s.size)
 | .sl t,sk,p,i,j,xs,b,o=>match own with
  | true=>sk i j=true∨(w.cell? (ad b o)=some (g.hd id vr (p++[(i,j)])).val∧
    Dk w g.lab t.size (id,p++[(i,j)]) (g.hd id vr (p++[(i,j)])) (fun k x b o=>dO g w own id vr t (fun _ _=>false) (p++[(i,j)]) k 0 x b o) xs)
  | false=>∃ v,w.cell? (ad b o)=some v∧hZ t.size (Sh g.lab w t) xs v
 | .bW t,_,_,_,_,x,b,o=>∃ v,w.cell? (ad b o)=some v∧hZ t.size (Sh g.lab w t) (x.getD []) v∧(x=none↔∃ n c,v = .slice none n c)
def de:Nat→Nat→Bool:=fun _ _=>false
def eZ (g:Gh) (w:World) (own:Bool) (id hv vr:Nat) (t:Ty) (sk:Nat→Nat→Bool) (p:Path) (xs:List t.T):Prop:=
 Dk w g.lab t.size (id,p) (g.hd id hv p) (fun k x b o=>dO g w own id vr t sk p k 0 x b o) xs
def ko (p:Path) (ver:Nat):Nat:=match p with | []=>0 | _=>ver
def kp (g:Gh) (id ver:Nat):Path→Path→Prop
 | _,[]=>True
 | pre,(i,j)::q=>i<(g.hd id (ko pre ver) pre).len∧kp g id ver (pre++[(i,j)]) q
mutual
def aV (g:Gh) (w:World) (U:Nat→Prop):ah→Value→Prop
 | .undef,_=>True
 | .int k n,v=>v = .int k n
 | .bool b,v=>v = .bool b
 | .str s,v=>v = .string ⟨s.toArray⟩
 | .err e,v=>Bt e v
 | .agg cs,v=>∃ l:List Value,v = .agg l.toArray∧cz g w U cs l
 | .gX cs,v=>∃ l:List Value,v = .tuple l.toArray∧cz g w U cs l
 | .nil,v=>v = .slice none 0 0
 | .sh t xs,v=>hZ t.size (Sh g.lab w t) xs v
 | .dn t x,v=>hZ t.size (Sh g.lab w t) (x.getD []) v∧(x=none↔∃ n c,v = .slice none n c)
 | .gp t x j,v=>∃ b o,v = .pointer (some (ad b (o+j)))∧Sh g.lab w t x b o
 | .own id ver p _,v=>U (id / 1024)∧U ver∧U 0∧kp g id ver [] p∧(p=[]→ver=0)∧v=(g.hd id ver p).val
 | .fS id ver p t off len,v=>U (id / 1024)∧U ver∧U 0∧kp g id ver [] p∧(p=[]→ver=0)∧∃ a c,v = .slice a len c∧off+c=(g.hd id ver p).cap∧len≤c∧
   off+len≤(g.hd id ver p).len∧(0<c→∃ b o,(g.hd id ver p).addr=some (b,o)∧a=some (ad b (o+off*t.size)))∧∃ q:Option (Nat×Nat),a=q.map fun p=>ad p.1 p.2
 | .fl id ver p t i j,v=>U (id / 1024)∧U ver∧U 0∧kp g id ver [] p∧(p=[]→ver=0)∧i<(g.hd id ver p).len∧
   ∃ b o,(g.hd id ver p).addr=some (b,o)∧v = .pointer (some (ad b (o+i*t.size+j)))
 | .bt id j,v=>U (id / 1024)∧U 0∧∃ b o,(g.hd id 0 []).addr=some (b,o)∧v = .pointer (some (ad b (o+j)))
 | .fJ id off len sz,v=>U (id / 1024)∧U 0∧∃ a c,v = .slice a len c∧len≤c∧(off+c)*sz=(g.hd id 0 []).len∧
   ∃ b o,(g.hd id 0 []).addr=some (b,o)∧(0<c∨off=0→a=some (ad b (o+off*sz)))
 | .fn f cs,v=>∃ l:List Value,v = .func (.func f) #[] l.toArray∧cz g w U cs l
 | .tj,v=>v = .pointer none
 | .uS,v=>v = .nilFunc
 termination_by structural v _=>v
def cz (g:Gh) (w:World) (U:Nat→Prop):List ah→List Value→Prop
 | [],l=>l=[]
 | v::vs,l=>∃ x r,l=x::r∧aV g w U v x∧cz g w U vs r
 termination_by structural vs _=>vs
end
def fy (g:Gh) (w:World) (U:Nat→Prop) (id:Nat):dL→Prop
 | .cells _ cs=>U 0∧∃ b o,g.hd id 0 []=⟨some (b,o),cs.length,cs.length⟩∧∀ k (h:k<cs.length),
   g.lab b (o+k)=some (id,[])∧w.frozen? (ad b (o+k))=false∧∃ v,w.cell? (ad b (o+k))=some v∧aV g w U cs[k] v
 | .row own t vr xs=>U 0∧U vr∧eZ g w own id 0 vr t de [] xs
 | .oM t vr xs i j=>U 0∧U vr∧eZ g w true id 0 vr t (fun a b=>aT a i&&aT b j) [] xs
structure Fr (F:Nat→Nat→Prop) (w w':World):Prop where
 os:w'.os=w.os
 tape:w'.tape=w.tape
 output:w'.output=w.output
 size:w.heap.size≤w'.heap.size
 cells:∀ k c e f,w.heap[k]? = some (.cells c e f)→∃ c',w'.heap[k]? = some (.cells c' e f)∧c'.size=c.size∧∀ o,¬ F k o→c'[o]? = c[o]?
 block:∀ k,k<w.heap.size→(∀ o,¬ F k o)→w'.heap[k]? = w.heap[k]?
 kind:∀ (k:Nat) (b:Obj),w.heap[k]? = some b→(∀ c e f,b≠.cells c e f)→w'.heap[k]? = some b
def Fh (l:b9) (b o:Nat):Prop:=∃ id p,l b o=some (id,p)∧id / 1024≠19
structure Rel (w0:World) (F:b9) (N:Nat) (g:Gh) (U:Nat→Prop) (st:St) (a:Act) (w:World):Prop where
 env:∀ t v,look st.env t=some v→aV g w U v (a.eval (.tmp t))
 heap:∀ id o,st.obj id=some o→U (id / 1024)∧fy g w U id o
 used:∀ s,U s→s<st.nxt
 cm:∀ b o q,g.lab b o=some q→b<w.heap.size
 cI:∀ b o id p,b<w0.heap.size→g.lab b o=some (id,p)→(id / 1024=19∧F b o=some (id,p))∨Fh F b o
 oQ:∀ b o id p,F b o=some (id,p)→id / 1024=19→g.lab b o=some (id,p)
 fr:Fr (Fh F) w0 w
 defers:a.defers=[]
 size:a.tmps.size=N
 u0:U 0
 nL:∀ s,s<20→U s
 nf:∀ id,st.obj id≠none→id / 1024≠19
def pins:List (String×(Array Value→Prop)):=[
 ("internal/strconv.uint64pow10",fun vs=>vs=((List.range 20).map fun i=>Value.int .u64 ((10 ^ i:Nat):Int)).toArray),
 ("internal/bytealg.MaxLen",fun vs=>∃ m,vs[0]? = some (.int .i64 m)),
 ("strconv.ErrSyntax",fun vs=>∃ t p,vs = #[.iface t p]),
 ("strconv.ErrRange",fun vs=>∃ t p,vs = #[.iface t p])]
def Gl (P:Program) (l:b9) (w:World):Prop:=∀ nm pr,(nm,pr)∈pins→∀ b,P.globalNamed nm=some b→(∃ vs,w.var? P nm=some vs∧pr vs)∧∀ o,l b o=none
theorem Gl.mono {P:Program} {l l':b9} {w w':World} (h:Gl P l w) (fr:Fr (Fh l) w w') (hl:∀ b o,b<w.heap.size→l b o=none→l' b o=none):Gl P l' w':=by
 intro nm pr hm b hb;obtain ⟨⟨vs,h1,hp⟩,h2⟩:=h nm pr hm b hb;have aF:b<w.heap.size:=by
  rcases kj b w.heap.size with hh | hh
  ·exact hh
  unfold World.var? at h1
  grind
 refine ⟨⟨vs,?_,hp⟩,fun o=>hl b o aF (h2 o)⟩;rw [← h1];unfold World.var?;rw [hb];simp only [Option.bind_some];rw [fr.block b aF (fun o ⟨id,p,e,_⟩=>by grind)]
theorem Rel.gl {P:Program} {w0:World} {F:b9} {N:Nat} {g:Gh} {U:Nat→Prop} {st:St} {a:Act} {w:World} (R:Rel w0 F N g U st a w) (h:Gl P F w0):Gl P g.lab w:=by
 refine h.mono R.fr (fun b o hb hn=>?_);cases hl:g.lab b o with
 | none=>rfl
 | some q=>
  obtain ⟨id,p⟩:=q;rcases R.cI b o id p hb hl with ⟨_,h'⟩ | ⟨i,p',h',_⟩
  ·grind
  grind
theorem Rel.Bu {w0:World} {F:b9} {N:Nat} {g:Gh} {U:Nat→Prop} {st:St} {a:Act} {w:World} (R:Rel w0 F N g U st a w):U 19:=R.nL 19 (by omega)
structure eV (T:Nat→Prop) (g:Gh) (w:World) (U:Nat→Prop) (g':Gh) (w':World) (U':Nat→Prop):Prop where
 sub:∀ s,U s→U' s
 hd:∀ id ver p,U (id / 1024)→U ver→g'.hd id ver p=g.hd id ver p
 shr:∀ b o,g.lab b o=none→∀ v,w.cell? (ad b o)=some v→w'.cell? (ad b o)=some v∧g'.lab b o=none
 own:∀ b o id p,g.lab b o=some (id,p)→¬ T id→g'.lab b o=some (id,p)∧w'.cell? (ad b o)=w.cell? (ad b o)∧w'.frozen? (ad b o)=w.frozen? (ad b o)
section
variable {T:Nat→Prop} {g g':Gh} {w w':World} {U U':Nat→Prop}
theorem iI {α:Type} {size:Nat} {f f':α→Nat→Nat→Prop} {xs:List α} {v:Value} (hf:∀ x b o,f x b o→f' x b o) (h:hZ size f xs v):hZ size f' xs v:=by
 obtain ⟨a,len,cap,e,hl,hc,hn,hx⟩:=h;refine ⟨a,len,cap,e,hl,hc,hn,fun aG=>?_⟩
 grind
theorem gq {lab It:b9} (hs:∀ b o,lab b o=none→∀ v,w.cell? (ad b o)=some v→w'.cell? (ad b o)=some v∧It b o=none) :
  ∀ (t:Ty) (x:t.T) (b o:Nat),Sh lab w t x b o→Sh It w' t x b o
 | .int _,_,b,o,h=>hs b o h.2 _ h.1
 | .bool,_,b,o,h=>hs b o h.2 _ h.1
 | .str,_,b,o,h=>hs b o h.2 _ h.1
 | .err,_,b,o,h=>by obtain ⟨⟨v,hv,he⟩,hl⟩:=h;exact ⟨⟨v,(hs b o hl v hv).1,he⟩,(hs b o hl v hv).2⟩
 | .pair s t,_,b,o,h=>⟨gq hs s _ b o h.1,gq hs t _ b _ h.2⟩
 | .sl t,_,b,o,h=>by obtain ⟨⟨v,hv,he⟩,hl⟩:=h;exact ⟨⟨v,(hs b o hl v hv).1,iI (gq hs t) he⟩,(hs b o hl v hv).2⟩
 | .bW t,_,b,o,h=>by obtain ⟨⟨v,hv,he,hn⟩,hl⟩:=h;exact ⟨⟨v,(hs b o hl v hv).1,iI (gq hs t) he,hn⟩,(hs b o hl v hv).2⟩
theorem eV.sh (s:eV T g w U g' w' U') (t:Ty) (x:t.T) (b o:Nat) (h:Sh g.lab w t x b o):Sh g'.lab w' t x b o:=gq s.shr t x b o h
theorem eV.hZ (s:eV T g w U g' w' U') {t:Ty} {xs:List t.T} {v:Value} (h:hZ t.size (Sh g.lab w t) xs v):hZ t.size (Sh g'.lab w' t) xs v:=
 iI (s.sh t) h
theorem eV.kp (s:eV T g w U g' w' U') {id ver:Nat} (h1:U (id / 1024)) (h2:U ver) (h0:U 0):∀ (q pre:Path),Am.kp g id ver pre q→Am.kp g' id ver pre q
 | [],_,_=>trivial
 | (i,j)::q,pre,h=>by refine ⟨?_,eV.kp s h1 h2 h0 q _ h.2⟩;rw [s.hd id (ko pre ver) pre h1 (by cases pre<;>assumption)];exact h.1
mutual
theorem eV.u5 (s:eV T g w U g' w' U'):∀ (v:ah) (x:Value),aV g w U v x→aV g' w' U' v x
 | .undef,_,_=>trivial
 | .int _ _,_,h=>h
 | .bool _,_,h=>h
 | .str _,_,h=>h
 | .err _,_,h=>h
 | .agg cs,_,h=>let ⟨l,e,r⟩:=h; ⟨l,e,eV.Iu s cs l r⟩
 | .gX cs,_,h=>let ⟨l,e,r⟩:=h; ⟨l,e,eV.Iu s cs l r⟩
 | .nil,_,h=>h
 | .sh _ _,_,h=>s.hZ h
 | .dn _ _,_,h=>⟨s.hZ h.1,h.2⟩
 | .gp t x _,_,h=>let ⟨b,o,e,r⟩:=h; ⟨b,o,e,s.sh t x b o r⟩
 | .own id ver p _,_,h=>by obtain ⟨h1,h2,h0,hp,h3,h4⟩:=h;exact ⟨s.sub _ h1,s.sub _ h2,s.sub _ h0,s.kp h1 h2 h0 _ _ hp,h3,by rw [s.hd _ _ _ h1 h2]; exact h4⟩
 | .fS id ver p t off len,_,h=>by obtain ⟨h1,h2,h0,hp,h3,h4⟩:=h;exact ⟨s.sub _ h1,s.sub _ h2,s.sub _ h0,s.kp h1 h2 h0 _ _ hp,h3,by rw [s.hd _ _ _ h1 h2]; exact h4⟩
 | .fl id ver p t i j,_,h=>by obtain ⟨h1,h2,h0,hp,h3,h4⟩:=h;exact ⟨s.sub _ h1,s.sub _ h2,s.sub _ h0,s.kp h1 h2 h0 _ _ hp,h3,by rw [s.hd _ _ _ h1 h2]; exact h4⟩
 | .bt id j,_,h=>by obtain ⟨h1,h2,h3⟩:=h;exact ⟨s.sub _ h1,s.sub _ h2,by rw [s.hd _ _ _ h1 h2]; exact h3⟩
 | .fJ id off len sz,_,h=>by obtain ⟨h1,h2,h3⟩:=h;exact ⟨s.sub _ h1,s.sub _ h2,by rw [s.hd _ _ _ h1 h2]; exact h3⟩
 | .fn _ cs,_,h=>let ⟨l,e,r⟩:=h; ⟨l,e,eV.Iu s cs l r⟩
 | .tj,_,h=>h
 | .uS,_,h=>h
theorem eV.Iu (s:eV T g w U g' w' U'):∀ (vs:List ah) (l:List Value),cz g w U vs l→cz g' w' U' vs l
 | [],_,h=>h
 | v::vs,_,h=>let ⟨x,r,e,a,b⟩:=h; ⟨x,r,e,eV.u5 s v x a,eV.Iu s vs r b⟩
end
theorem Sa {α:Type} {size:Nat} {q:Nat×Path} {h:Hd} {f f':Nat→α→Nat→Nat→Prop} {xs:List α} (s:eV T g w U g' w' U') (hT:¬ T q.1)
  (hf:∀ i (hi:i<xs.length) b o,(∀ k,k<size→g.lab b (o+k)=some q)→f i xs[i] b o→f' i xs[i] b o)
  (r:Dk w g.lab size q h f xs):Dk w' g'.lab size q h f' xs:=by
 obtain ⟨h1,h2,h3,h4⟩:=r;refine ⟨h1,h2,h3,fun b o e=>?_⟩;obtain ⟨h5,h6⟩:=h4 b o e;refine ⟨fun k hk=>?_,fun i hi=>?_⟩
 ·obtain ⟨a1,a2,a3⟩:=h5 k hk;obtain ⟨b1,b2,b3⟩:=s.own b (o+k) q.1 q.2 a1 hT;exact ⟨b1,by rw [b2]; exact a2,by rw [b3]; exact a3⟩
 refine hf i hi b _ (fun k hk=>?_) (h6 i hi);rw [cg];refine (h5 (i*size+k) ?_).1;have:(i+1)*size≤h.cap*size:=fk _ (by omega);rw [dH] at this;omega
theorem Iv {own:Bool} {id vr:Nat} (s:eV T g w U g' w' U') (hT:¬ T id) (hi:U (id / 1024)) (hv:U vr):∀ (t:Ty) (sk:Nat→Nat→Bool) (p:Path) (i j:Nat) (x:t.T) (b o:Nat),
  (∀ k,k<t.size→∃ q,g.lab b (o+k)=some (id,q))→dO g w own id vr t sk p i j x b o→dO g' w' own id vr t sk p i j x b o
 | .int _,_,_,_,_,_,b,o,hl,h=>by obtain ⟨q,hq⟩:=hl 0 (by simp [Ty.size]); rw [eG] at hq;simp only [dO] at h ⊢; rw [(s.own b o id q hq hT).2.1]; exact h
 | .bool,_,_,_,_,_,b,o,hl,h=>by obtain ⟨q,hq⟩:=hl 0 (by simp [Ty.size]); rw [eG] at hq;simp only [dO] at h ⊢; rw [(s.own b o id q hq hT).2.1]; exact h
 | .str,_,_,_,_,_,b,o,hl,h=>by obtain ⟨q,hq⟩:=hl 0 (by simp [Ty.size]); rw [eG] at hq;simp only [dO] at h ⊢; rw [(s.own b o id q hq hT).2.1]; exact h
 | .err,_,_,_,_,_,b,o,hl,h=>by obtain ⟨q,hq⟩:=hl 0 (by simp [Ty.size]); rw [eG] at hq;simp only [dO] at h ⊢; rw [(s.own b o id q hq hT).2.1]; exact h
 | .pair a c,sk,p,i,j,x,b,o,hl,h=>by simp only [dO] at h ⊢;refine ⟨Iv s hT hi hv a sk p i j _ b o (fun k hk=>hl k (by simp [Ty.size]; omega)) h.1,Iv s hT hi hv c sk p i _ _ b _ (fun k hk=>?_) h.2⟩;have:=hl (a.size+k) (by simp [Ty.size]; omega);rwa [← cg] at this
 | .sl t,sk,p,i,j,x,b,o,hl,h=>by
  obtain ⟨q,hq⟩:=hl 0 (by simp [Ty.size]); rw [eG] at hq;cases own with
  | false=>
   simp only [dO] at h ⊢; rw [(s.own b o id q hq hT).2.1];obtain ⟨v,e,r⟩:=h; exact ⟨v,e,s.hZ r⟩
  | true=>
   simp only [dO] at h ⊢;rcases h with h | ⟨h1,h2⟩
   ·grind
   refine .inr ⟨?_,?_⟩
   ·rw [(s.own b o id q hq hT).2.1,s.hd _ _ _ hi hv]; exact h1
   rw [s.hd _ _ _ hi hv];refine Sa s hT (fun k hk b o A1 r=>?_) h2;exact Iv s hT hi hv t _ _ k 0 _ b o (fun k hk=>⟨_,A1 k hk⟩) r
 | .bW t,_,_,_,_,_,b,o,hl,h=>by obtain ⟨q,hq⟩:=hl 0 (by simp [Ty.size]); rw [eG] at hq;simp only [dO] at h ⊢; rw [(s.own b o id q hq hT).2.1];obtain ⟨v,e,r,n⟩:=h; exact ⟨v,e,s.hZ r,n⟩
theorem Sb {own:Bool} {id hv vr:Nat} {t:Ty} {sk:Nat→Nat→Bool} {p:Path} {xs:List t.T} (s:eV T g w U g' w' U') (hT:¬ T id) (hi:U (id / 1024)) (h1:U hv) (h2:U vr)
  (h:eZ g w own id hv vr t sk p xs):eZ g' w' own id hv vr t sk p xs:=by
 unfold eZ at h ⊢;rw [s.hd _ _ _ hi h1];exact Sa s hT (fun k hk b o hl r=>Iv s hT hi h2 t sk p k 0 _ b o (fun k hk=>⟨_,hl k hk⟩) r) h
theorem Iw {id:Nat} (s:eV T g w U g' w' U') (hT:¬ T id) (hi:U (id / 1024)):∀ o:dL,fy g w U id o→fy g' w' U' id o
 | .cells _ cs,h=>by obtain ⟨u0,b,o,e,h⟩:=h;refine ⟨s.sub _ u0,b,o,by rw [s.hd _ _ _ hi u0]; exact e,fun k hk=>?_⟩;obtain ⟨a1,a2,v,a3,a4⟩:=h k hk;obtain ⟨b1,b2,b3⟩:=s.own b (o+k) id [] a1 hT;exact ⟨b1,by rw [b3]; exact a2,v,by rw [b2]; exact a3,s.u5 _ _ a4⟩
 | .row own t vr xs,h=>⟨s.sub _ h.1,s.sub _ h.2.1,Sb s hT hi h.1 h.2.1 h.2.2⟩
 | .oM t vr xs i j,h=>⟨s.sub _ h.1,s.sub _ h.2.1,Sb s hT hi h.1 h.2.1 h.2.2⟩
end
end Go.Am
namespace Go.Am
open Go
def Bv:Ty→List ah
 | .int k=>[.int k 0]
 | .bool=>[.bool false]
 | .str=>[.str []]
 | .err=>[.err true]
 | .pair a b=>Bv a++Bv b
 | .sl _=>[.nil]
 | .bW _=>[.nil]
structure nM (P:Program) (t:Nat) (i:mP):Prop where
 info:∃ ti,P.info? t=some ti∧ti.size=i.size∧ti.bytes=i.bytes∧∃ z,ti.zero=some z∧z.cells.size=i.size∧∀ g w U,cz g w U i.zero z.cells.toList
 ty:∀ T,i.ty=some T→i.zero=Bv T∧i.size=T.size
 desc:∃ d,P.underlying t=some d∧(match i.kind with
  | .int k=>d = .int k
  | .str=>d = .string
  | .bool=>d = .bool
  | .iface=>∃ ms,d = .interface ms
  | .slice=>d = .slice i.elem
  | .struct=>∃ fs,d = .struct fs∧fs.toList.map (fun f=>(f.offset,f.type))=i.fields
  | .other=>True)∧i.agg=(match d with | .struct _=>true | .array _ _=>true | _=>false)
 eqs:i.eq=true→P.stoodInHeld t=false∧P.eqGuardType P.depth t=false∧∃ fs,P.underlying t=some (.struct fs)∧fs.size=i.fields.length∧
  ∀ (n:Nat) (f:Field),fs.toList[n]? = some f→f.offset=n∧f.name≠ "_" ∧∃ kk,P.underlying f.type=some (.int kk)
def u6 (g:Gh) (b o:Nat):Prop:=∃ id p,g.lab b o=some (id,p)∧id / 1024≠19
structure dP (g:Gh) (w:World) (U:Nat→Prop) (site:Nat) (e:cK) (v:Value) (w':World) (g':Gh) (U':Nat→Prop):Prop where
 jg:eV (fun id=>(look e.bb id).isSome) g w U g' w' U'
 val:aV g' w' U' e.val v
 bb:∀ id o,look e.bb id=some (some o)→U' (id / 1024)∧fy g' w' U' id o
 used:∀ s,U' s→U s∨s=site
 cm:∀ b o q,g'.lab b o=some q→b<w'.heap.size
 cI:∀ b o q,b<w.heap.size→g'.lab b o=some q→g.lab b o≠none
 fr:Fr (u6 g) w w'
 nf:∀ id,(look e.bb id).isSome=true→id / 1024≠19
theorem eV.refl {T:Nat→Prop} {g:Gh} {w:World} {U:Nat→Prop} : eV T g w U g w U:=
 ⟨fun _ h=>h,fun _ _ _ _ _=>rfl,fun _ _ h _ hv=>⟨hv,h⟩,fun _ _ _ _ h _=>⟨h,rfl,rfl⟩⟩
theorem Fr.refl (F:Nat→Nat→Prop) (w:World):Fr F w w:=
 ⟨rfl,rfl,rfl,cx _,fun _ c _ _ h=>⟨c,h,rfl,fun _ _=>rfl⟩,fun _ _ _=>rfl,fun _ _ h _=>h⟩
theorem dP.same {g:Gh} {w:World} {U:Nat→Prop} {site:Nat} {x:ah} {v:Value} (hl:∀ b o q,g.lab b o=some q→b<w.heap.size) (h:aV g w U x v) :
  dP g w U site ⟨x,[]⟩ v w g U:=
 ⟨.refl,h,fun _ _ h=>(by simp [look] at h),fun _ h=>.inl h,hl,fun _ _ _ _ h=>by simp [h],.refl _ _,fun _ h=>by simp [look] at h⟩
theorem ZQ (n:Int):IntKind.i64.wrap n=ag n:=by rw [IntKind.wrap_i64]; rfl
theorem Fj (k:IntKind) (n:Int):k.wrap n=oN k n:=by cases k<;>first | rfl | exact ZQ n
section
variable {P:Program} {g:Gh} {w:World} {U:Nat→Prop} {ρ:Type} {r:ρ}
theorem ZR (v:Value):aV g w U (match v with | .bool b=>.bool b | .int k n=>.int k n | .string s=>.str s.data.toList | .slice none 0 0=>.nil | .pointer none=>.tj | .nilFunc=>.uS | .nilIface=>.err true | _=>.undef) v:=by split<;>first | rfl | trivial | simp [aV]
theorem ZS (v : Value) : aV g w U (ofConst v) v := by
  unfold ofConst;split <;> first
    | rfl
    | trivial
    | (rename_i cs
       refine ⟨cs.toList, by simp, ?_⟩;generalize cs.toList = l;induction l with
       | nil => rfl
       | cons a l ih => exact ⟨a, l, rfl, ZR a, ih⟩)
theorem Ix {sr:St} {a:Act} (h:∀ t v,look sr.env t=some v→aV g w U v (a.eval (.tmp t))) (x:Operand):aV g w U (sr.ev x) (a.eval x):=by
 cases x with
 | tmp t=>
  show aV g w U (match look sr.env t with | some v=>v | none=>.undef) _;cases e:look sr.env t with
  | none=>trivial
  | some v=>grind
 | const v=>exact ZS v
 | func f=>exact ⟨[],rfl,rfl⟩
 | global n=>trivial
theorem Bw {e:Bool} {v:Value} (h:Bt e v):(e=true∧v = .nilIface)∨(e=false∧∃ t x,v = .iface t x):=by
 cases e
 ·exact .inr ⟨rfl,h⟩
 exact .inl ⟨rfl,h⟩
theorem L_ {α:Type} [DecidableEq α] (a b:α):(a==b)=decide (a=b):=by grind
theorem L1 (op:BinOp) (t:Nat) (X Y:Operand) (k l:IntKind) (a b:Int):(eqGuard op t X Y (.int k a) (.int l b)).run P w = .ok () w:=by unfold eqGuard;simp_all
theorem Iy (op:BinOp) (t:Nat) (X Y:Operand) (a b:ByteArray):(eqGuard op t X Y (.string a) (.string b)).run P w = .ok () w:=by unfold eqGuard;simp_all
theorem Sc (op:BinOp) (t:Nat) (X Y:Operand) (a b:Bool):(eqGuard op t X Y (.bool a) (.bool b)).run P w = .ok () w:=by unfold eqGuard;simp_all
theorem Iz (op:BinOp) (t:Nat) (X Y:Operand) (a b:Option Addr) (n c m e:Nat):(eqGuard op t X Y (.slice a n c) (.slice b m e)).run P w = .ok () w:=by unfold eqGuard;simp_all
theorem Sd (op:BinOp) (t:Nat) (X Y:Operand) (ti:Nat) (v u:Value):(eqGuard op t X Y (.iface ti v) u).run P w = .ok () w:=by unfold eqGuard;simp_all
theorem Se (op:BinOp) (t:Nat) (X:Operand) (c:Value):(eqGuard op t X (.const c) .nilIface .nilIface).run P w = .ok () w:=by unfold eqGuard;simp_all
theorem Sf (dd:Nat) {t:Nat} {ms:Array (String×TypeId)} (h:P.underlying t=some (.interface ms)) (v:Value) (e:Bool) (hv:Bt e v) :
  (CU (dd+1) t v .nilIface).run P w = .ok e w:=by
 rcases Bw hv with ⟨rfl,rfl⟩ | ⟨rfl,ti,x,rfl⟩<;>simp [CU,run_underlying h]
theorem IA (dd:Nat) {t e:Nat} (h:P.underlying t=some (.slice e)) (a:Option Addr) (n c:Nat) :
  (CU (dd+1) t (.slice a n c) (.slice none 0 0)).run P w = .ok a.isNone w:=by
 cases a<;>simp [CU,run_underlying h]
theorem Sg (op:BinOp) (kk yk:IntKind) (a b:Int) (hb:¬ b<0) (v:Int) (hv:(op = .shl∧v=kk.wrap (a*2 ^ min b.toNat kk.bits))∨(op = .shr∧v=a.fdiv (2 ^ min b.toNat kk.bits))) :
  (Op.shift op kk a yk b).run P w = .ok (.int kk v) w:=by
 unfold Op.shift;rw [if_neg hb];rcases hv with ⟨rfl,rfl⟩ | ⟨rfl,rfl⟩<;>rfl
theorem rV {op:BinOp} {t:Nat} {kk kl:IntKind} {a b:Int} {X Y:Operand} {z:Int ⊕ Bool} (hk:kk=kl)
  (hz:(match op with
   | .add=>z = .inl (oN kk (a+b)) | .sub=>z = .inl (oN kk (a-b)) | .mul=>z = .inl (oN kk (a*b))
   | .quo=>b≠0∧z = .inl (oN kk (a.tdiv b)) | .rem=>b≠0∧z = .inl (a.tmod b)
   | .eql=>z = .inr (decide (a=b)) | .neq=>z = .inr (!decide (a=b)) | .lss=>z = .inr (decide (a<b)) | .leq=>z = .inr (decide (a≤b))
   | .gtr=>z = .inr (decide (b<a)) | .geq=>z = .inr (decide (b≤a))
   | .shl | .shr=>False
   | op=>z = .inl (LN op kk a b))) :
  (do eqGuard op t X Y (.int kk a) (.int kl b); binOp op t (.int kk a) (.int kl b):Sem Value).run P w = .ok (match z with | .inl n=>.int kk n | .inr b=>.bool b) w:=by
 subst hk;simp only [jG,L1,jF];cases op<;>simp only at hz
 case quo=>obtain ⟨h,rfl⟩:=hz; simp [go_sem,Op.intDiv,h,Fj]
 case rem=>obtain ⟨h,rfl⟩:=hz; simp [go_sem,Op.intDiv,h]
 all_goals (subst hz; simp [go_sem,Op.intArith,Op.intBits,Fj,LN,bne,L_])
theorem ZT {kd:TK} {d:TypeDesc} {t:Nat} {yc:Bool} {op:BinOp} {x y:ah} {vx vy:Value} {k:ah→Option ρ} {X Y:Operand}
  (hd:P.underlying t=some d) (hk:match kd with
   | .int k=>d = .int k | .str=>d = .string | .bool=>d = .bool | .iface=>∃ ms,d = .interface ms | .slice=>∃ e,d = .slice e | _=>True)
  (Rx:yc=true→∃ c,Y = .const c)
  (hx:aV g w U x vx) (hy:aV g w U y vy) (h:wj kd yc op x y k=some r) :
  ∃ z v,k z=some r∧(do eqGuard op t X Y vx vy; binOp op t vx vy:Sem Value).run P w = .ok v w∧aV g w U z v:=by
 unfold wj at h;split at h
 ·
  rename_i kk a kl b;split at h
  ·simp at h
  rename_i hb;obtain rfl:=hx; obtain rfl:=hy;exact ⟨_,_,h,by simp only [jG,L1,jF,binOp_shl]; exact Sg .shl kk kl a b hb _ (.inl ⟨rfl,(Fj _ _).symm⟩),rfl⟩
 ·rename_i kk a kl b;split at h
  ·simp at h
  rename_i hb;obtain rfl:=hx; obtain rfl:=hy;exact ⟨_,_,h,by simp only [jG,L1,jF,binOp_shr]; exact Sg .shr kk kl a b hb _ (.inr ⟨rfl,rfl⟩),rfl⟩
 ·rename_i op kk a kl b _ _;obtain rfl:=hx; obtain rfl:=hy;split at h
  ·grind
  rename_i lL;have lL:=pQ lL;split at h
  ·exact ⟨_,_,h,rV (z:=.inl _) lL rfl,rfl⟩
  ·exact ⟨_,_,h,rV (z:=.inl _) lL rfl,rfl⟩
  ·exact ⟨_,_,h,rV (z:=.inl _) lL rfl,rfl⟩
  ·split at h
   ·grind
   rename_i hb; exact ⟨_,_,h,rV (z:=.inl _) (op:=.quo) lL ⟨hb,rfl⟩,rfl⟩
  ·split at h
   ·grind
   rename_i hb; exact ⟨_,_,h,rV (z:=.inl _) (op:=.rem) lL ⟨hb,rfl⟩,rfl⟩
  ·exact ⟨_,_,h,rV (z:=.inr _) lL rfl,rfl⟩
  ·exact ⟨_,_,h,rV (z:=.inr _) lL rfl,rfl⟩
  ·exact ⟨_,_,h,rV (z:=.inr _) lL rfl,rfl⟩
  ·exact ⟨_,_,h,rV (z:=.inr _) lL rfl,rfl⟩
  ·exact ⟨_,_,h,rV (z:=.inr _) lL rfl,rfl⟩
  ·exact ⟨_,_,h,rV (z:=.inr _) lL rfl,rfl⟩
  rename_i n11;refine ⟨_,_,h,rV (z:=.inl _) lL ?_,rfl⟩
  grind
 ·
  rename_i a b;obtain rfl:=hx; obtain rfl:=hy;split at h
  ·rename_i hl;refine ⟨_,_,h,?_,rfl⟩;simp only [jG,Iy,jF,binOp_string_add,Op.stringOp];rw [if_neg]
   ·have e:(⟨a.toArray⟩:ByteArray)++⟨b.toArray⟩=⟨(a++b).toArray⟩:=by apply ByteArray.ext;simp
    simp_all
   have e1:(⟨a.toArray⟩:ByteArray).size=a.length:=rfl;have e2:(⟨b.toArray⟩:ByteArray).size=b.length:=rfl;rw [e1,e2];have e3:IntKind.i64.max=9223372036854775807:=by decide
   rw [e3];simp [ca] at hl;omega
  grind
 ·rename_i a b;obtain rfl:=hx; obtain rfl:=hy;exact ⟨_,_,h,by simp only [jG,Iy,jF,binOp_string_eql,Bc]; simp; rw [Rw]; simp,rfl⟩
 ·rename_i a b;obtain rfl:=hx; obtain rfl:=hy;exact ⟨_,_,h,by simp only [jG,Iy,jF,binOp_string_neq,Bc]; simp; rw [Rw]; simp,rfl⟩
 ·rename_i a b;obtain rfl:=hx; obtain rfl:=hy;exact ⟨_,_,h,by simp only [jG,Iy,jF,binOp_string_lss,Bc]; simp,rfl⟩
 ·rename_i a b;obtain rfl:=hx; obtain rfl:=hy;split at h
  ·subst hk;exact ⟨_,_,h,by simp only [jG,Sc,jF,run_eql_bool _ _ _ _ hd,L_],rfl⟩
  grind
 ·rename_i a b;obtain rfl:=hx; obtain rfl:=hy;split at h
  ·subst hk;exact ⟨_,_,h,by simp only [jG,Sc,jF,run_neq_bool _ _ _ _ hd,L_],rfl⟩
  grind
 ·rename_i a;obtain rfl:=hy;split at h
  ·obtain ⟨ms,rfl⟩:=hk;obtain ⟨c,rfl⟩:=Rx rfl;refine ⟨_,_,h,?_,rfl⟩;have e1:(eqGuard .eql t X (.const c) vx .nilIface).run P w = .ok () w:=by
    rcases Bw hx with ⟨rfl,rfl⟩ | ⟨rfl,ti,x,rfl⟩
    ·exact Se _ _ _ _
    exact Sd _ _ _ _ _ _ _
   simp only [jG,e1,jF];have e2:=Sf (w:=w) 9999 hd vx a hx;rcases Bw hx with ⟨rfl,rfl⟩ | ⟨rfl,ti,x,rfl⟩<;>simp [binOp,CT,CV,e2]
  grind
 ·rename_i a;obtain rfl:=hy;split at h
  ·obtain ⟨ms,rfl⟩:=hk;obtain ⟨c,rfl⟩:=Rx rfl;refine ⟨_,_,h,?_,rfl⟩;have e1:(eqGuard .neq t X (.const c) vx .nilIface).run P w = .ok () w:=by
    rcases Bw hx with ⟨rfl,rfl⟩ | ⟨rfl,ti,x,rfl⟩
    ·exact Se _ _ _ _
    exact Sd _ _ _ _ _ _ _
   simp only [jG,e1,jF];have e2:=Sf (w:=w) 9999 hd vx a hx;rcases Bw hx with ⟨rfl,rfl⟩ | ⟨rfl,ti,x,rfl⟩<;>simp [binOp,CT,CV,e2]
  grind
 ·rename_i tt o;obtain rfl:=hy;obtain ⟨⟨a,n,cp,rfl,-⟩,ho⟩:=hx;split at h
  ·obtain ⟨e,rfl⟩:=hk;refine ⟨_,_,h,?_,rfl⟩;simp only [jG,Iz,jF];have e2:=IA (w:=w) 9999 hd a n cp;have e3:o.isNone=a.isNone:=by cases o<;>cases a<;>simp_all
   simp [binOp,CT,CV,e2,e3]
  grind
 ·rename_i tt o;obtain rfl:=hy;obtain ⟨⟨a,n,cp,rfl,-⟩,ho⟩:=hx;split at h
  ·obtain ⟨e,rfl⟩:=hk;refine ⟨_,_,h,?_,rfl⟩;simp only [jG,Iz,jF];have e2:=IA (w:=w) 9999 hd a n cp;have e3:o.isSome = !a.isNone:=by cases o<;>cases a<;>simp_all
   simp [binOp,CT,CV,e2,e3]
  grind
 ·obtain rfl:=hy; obtain rfl:=hx;split at h
  ·obtain ⟨e,rfl⟩:=hk;refine ⟨_,_,h,?_,rfl⟩;simp only [jG,Iz,jF];have e2:=IA (w:=w) 9999 hd none 0 0;simp [binOp,CT,CV,e2]
  grind
 ·obtain rfl:=hy; obtain rfl:=hx;split at h
  ·obtain ⟨e,rfl⟩:=hk;refine ⟨_,_,h,?_,rfl⟩;simp only [jG,Iz,jF];have e2:=IA (w:=w) 9999 hd none 0 0;simp [binOp,CT,CV,e2]
  grind
 grind
end
end Go.Am
namespace Go.Am
open Go
theorem kq (h:Nat→(u:Ty)→List u.T→ah):∀ (t:Ty) (x:t.T) (j:Nat),(flat h t x j).length=t.size
 | .pair a b,x,j=>by simp only [flat,cY,kq h a,kq h b]; rfl
 | .int _,_,_ | .bool,_,_ | .str,_,_ | .err,_,_ | .sl _,_,_ | .bW _,_,_=>rfl
section
variable {P:Program} {c:bd} {g:Gh} {w:World} {U:Nat→Prop} {ρ:Type} {r:ρ}
theorem L2:∀ (t:Ty) (x:t.T) (b o j:Nat),Sh g.lab w t x b o→∀ k (hk:k<(flat mO t x j).length),∃ v,w.cell? (ad b (o+k))=some v∧aV g w U ((flat mO t x j)[k]) v
 | .int _,n,b,o,j,h,k,hk=>by
  have:k=0:=by simp [flat] at hk; exact hk
  subst this; exact ⟨_,h.1,rfl⟩
 | .bool,n,b,o,j,h,k,hk=>by
  have:k=0:=by simp [flat] at hk; exact hk
  subst this; exact ⟨_,h.1,rfl⟩
 | .str,n,b,o,j,h,k,hk=>by
  have:k=0:=by simp [flat] at hk; exact hk
  subst this; exact ⟨_,h.1,rfl⟩
 | .err,n,b,o,j,h,k,hk=>by
  have:k=0:=by simp [flat] at hk; exact hk
  subst this;obtain ⟨⟨v,hv,he⟩,-⟩:=h;exact ⟨v,hv,he⟩
 | .pair s t,x,b,o,j,h,k,hk=>by
  simp only [flat] at hk ⊢;by_cases hs:k<(flat mO s x.1 j).length
  ·rw [CW hs];exact L2 s x.1 b o j h.1 k hs
  have hl:=kq mO s x.1 j;rw [Bf (by omega)];obtain ⟨v,h1,h2⟩:=L2 t x.2 b (o+s.size) (j+s.size) h.2 (k-(flat mO s x.1 j).length) (by grind)
  grind
 | .sl t,n,b,o,j,h,k,hk=>by
  have:k=0:=by simp [flat] at hk; exact hk
  subst this;obtain ⟨⟨v,hv,he⟩,-⟩:=h;exact ⟨v,hv,he⟩
 | .bW t,n,b,o,j,h,k,hk=>by
  have:k=0:=by simp [flat] at hk; exact hk
  subst this;obtain ⟨⟨v,hv,he⟩,-⟩:=h;exact ⟨v,hv,he⟩
def Fk (own:Bool) (id vr:Nat) (p:Path) (i:Nat):Nat→(u:Ty)→List u.T→ah:=match own with | true=>RU id vr p i | false=>mO
theorem Si {id ver:Nat} {i j:Nat} : ∀ (q pre:Path),kp g id ver pre q→i<(g.hd id (ko (pre++q) ver) (pre++q)).len→kp g id ver pre (q++[(i,j)])
 | [],pre,_,h=>⟨by grind,trivial⟩
 | (a,b)::q,pre,hq,h=>⟨hq.1,Si q (pre++[(a,b)]) hq.2 (by grind)⟩
theorem Sj {id ver:Nat} {i j k:Nat} : ∀ {q pre:Path},kp g id ver pre (q++[(i,j)])→kp g id ver pre (q++[(i,k)])
 | [],pre,h=>⟨h.1,trivial⟩
 | (a,b)::q,pre,h=>⟨h.1,Sj h.2⟩
theorem L3 {own:Bool} {id vr:Nat} (hi:U (id / 1024)) (hv:U vr) (h0:U 0) {p:Path} {i:Nat} (hp:kp g id vr [] (p++[(i,0)])∨own=false):∀ (t:Ty) (j:Nat) (x:t.T) (b o:Nat),dO g w own id vr t de p i j x b o→
  ∀ k (hk:k<(flat (Fk own id vr p i) t x j).length),∃ v,w.cell? (ad b (o+k))=some v∧aV g w U ((flat (Fk own id vr p i) t x j)[k]) v
 | .int _,j,x,b,o,h,k,hk=>by
  have:k=0:=by simp [flat] at hk; exact hk
  subst this; exact ⟨_,h,rfl⟩
 | .bool,j,x,b,o,h,k,hk=>by
  have:k=0:=by simp [flat] at hk; exact hk
  subst this; exact ⟨_,h,rfl⟩
 | .str,j,x,b,o,h,k,hk=>by
  have:k=0:=by simp [flat] at hk; exact hk
  subst this; exact ⟨_,h,rfl⟩
 | .err,j,x,b,o,h,k,hk=>by
  have:k=0:=by simp [flat] at hk; exact hk
  subst this; exact h
 | .pair s t,j,x,b,o,h,k,hk=>by
  simp only [flat] at hk ⊢;by_cases hs:k<(flat (Fk own id vr p i) s x.1 j).length
  ·rw [CW hs];exact L3 hi hv h0 hp s j x.1 b o h.1 k hs
  have hl:=kq (Fk own id vr p i) s x.1 j;rw [Bf (by omega)];obtain ⟨v,h1,h2⟩:=L3 hi hv h0 hp t (j+s.size) x.2 b (o+s.size) h.2 (k-(flat (Fk own id vr p i) s x.1 j).length) (by grind)
  grind
 | .sl t,j,x,b,o,h,k,hk=>by
  have:k=0:=by simp [flat] at hk; exact hk
  subst this;cases own with
  | true=>
   rcases h with h | ⟨h,-⟩
   ·simp [de] at h
   refine ⟨_,h,hi,hv,h0,?_,by simp,rfl⟩;rcases hp with hp | hp
   ·exact Sj hp
   grind
  | false=>exact h
 | .bW t,j,x,b,o,h,k,hk=>by
  have:k=0:=by simp [flat] at hk; exact hk
  subst this;obtain ⟨v,hv,he⟩:=h;exact ⟨v,hv,he⟩
theorem Fl {id vr:Nat} : ∀ (t:Ty) (p:Path) (i j:Nat) (x:t.T) (b o k:Nat) (u:Ty) (ys:List u.T),dO g w true id vr t de p i j x b o→kG t x k=some ⟨u,ys⟩→
  w.cell? (ad b (o+k))=some (g.hd id vr (p++[(i,j+k)])).val∧eZ g w true id vr vr u de (p++[(i,j+k)]) ys∧k<t.size
 | .pair s t,p,i,j,x,b,o,k,u,ys,h,e=>by
  simp only [kG] at e;split at e
  ·rename_i hk;obtain ⟨h1,h2,h3⟩:=Fl s p i j x.1 b o k u ys h.1 e;exact ⟨h1,h2,by simp [Ty.size]; omega⟩
  rename_i hk;have cO:¬ k<s.size:=by
   intro aF;have:cS k s.size=true:=by simpa [eH] using aF
   rw [this] at hk; exact absurd hk (by simp)
  obtain ⟨h1,h2,h3⟩:=Fl t p i (j+s.size) x.2 b (o+s.size) (k-s.size) u ys h.2 e;have e1:o+s.size+(k-s.size)=o+k:=by omega
  have e2:j+s.size+(k-s.size)=j+k:=by omega
  rw [e1,e2] at h1;rw [e2] at h2;exact ⟨h1,h2,by simp [Ty.size]; omega⟩
 | .sl t,p,i,j,x,b,o,k,u,ys,h,e=>by
  cases k with
  | zero=>
   simp only [kG,aN] at e;obtain ⟨rfl,e⟩:=qI e;obtain rfl:=eq_of_heq e;rcases h with h | ⟨h1,h2⟩
   ·simp [de] at h
   exact ⟨h1,h2,by simp [Ty.size]⟩
  | succ k=>simp [kG] at e
 | .int _,_,_,_,_,_,_,k,_,_,_,e=>by cases k<;>simp [kG] at e
 | .bool,_,_,_,_,_,_,k,_,_,_,e=>by cases k<;>simp [kG] at e
 | .str,_,_,_,_,_,_,k,_,_,_,e=>by cases k<;>simp [kG] at e
 | .err,_,_,_,_,_,_,k,_,_,_,e=>by cases k<;>simp [kG] at e
 | .bW _,_,_,_,_,_,_,k,_,_,_,e=>by cases k<;>simp [kG] at e
theorem wD {t:Ty} {xs:List t.T} {i:Nat} (h:i<xs.length):el t xs i=xs[i]:=by unfold el; simp [lG,eX h]
theorem L4 {id vr:Nat} : ∀ (q:Path) (t:Ty) (p:Path) (xs:List t.T) (u:Ty) (ys:List u.T),eZ g w true id (ko p vr) vr t de p xs→place t xs q=some ⟨u,ys⟩→kp g id vr p q→
  eZ g w true id (ko (p++q) vr) vr u de (p++q) ys
 | [],t,p,xs,u,ys,h,e,_=>by
  simp only [place,aN] at e
  grind
 | (i,j)::q,t,p,xs,u,ys,h,e,hb=>by
  simp only [place] at e;obtain ⟨h1,h2,h3,h4⟩:=h;obtain ⟨gG,eK⟩:=hb;rw [h1] at gG;cases hc:kG t (el t xs i) j with
  | none=>grind
  | some s=>
   obtain ⟨u1,L5⟩:=s;rw [hc] at e;have hlen:0<(g.hd id (ko p vr) p).cap:=by omega
   cases ha:(g.hd id (ko p vr) p).addr with
   | none=>grind
   | some a=>
    obtain ⟨b,o⟩:=a;have hi:=(h4 b o ha).2 i gG;rw [← wD gG] at hi;obtain ⟨-,r,-⟩:=Fl t p i 0 _ b _ j u1 L5 hi hc;rw [kg] at r;have r':eZ g w true id (ko (p++[(i,j)]) vr) vr u1 de (p++[(i,j)]) L5:=by
     have e0:ko (p++[(i,j)]) vr=vr:=by cases p<;>rfl
     rw [e0]; exact r
    have:=L4 q u1 (p++[(i,j)]) L5 u ys r' e eK
    grind
def fA (g:Gh) (w:World) (U:Nat→Prop) (st:St):Prop:=∀ id o,st.obj id=some o→U (id / 1024)∧fy g w U id o
theorem Bx {sr:St} (hO:fA g w U sr) {id ver:Nat} {p:Path} {u:Ty} {ys:List u.T} (hp:p=[]→ver=0) (cU:kp g id ver [] p) (e:sr.rowAt id ver p=some ⟨u,ys⟩) :
  ∃ own t vr xs,sr.obj id=some (.row own t vr xs)∧U vr∧eZ g w own id ver vr u de p ys∧(p≠[]→own=true∧ver=vr):=by
 unfold St.rowAt at e;split at e
 ·rename_i own t vr xs ho;obtain ⟨hU,lf,oJ,hR⟩:=hO id _ ho;split at e
  ·grind
  rename_i aG;split at e
  ·rename_i hb;rw [aB] at hb;obtain ⟨rfl,hb⟩:=hb;obtain rfl:=bB hb;have:=L4 (g:=g) (w:=w) p t [] xs u ys hR e cU;have e1:ko ([]++p) ver=ver:=by cases p; exact absurd rfl aG; rfl
   grind
  grind
 grind
def Cells (g:Gh) (w:World) (U:Nat→Prop) (cs:List ah) (b o:Nat):Prop:=∀ k (h:k<cs.length),∃ v,w.cell? (ad b (o+k))=some v∧aV g w U cs[k] v
theorem Sk {sr:St} (hO:fA g w U sr) {a:ah} {v:Value} (hv:aV g w U a v) {cs:List ah} {j:Nat} (e:sr.E_ a=some (cs,j)) :
  ∃ b o,v = .pointer (some (ad b (o+j)))∧Cells g w U cs b o:=by
 unfold St.E_ at e;split at e
 ·rename_i t x j';simp only [aN,bS] at e;obtain ⟨rfl,rfl⟩:=e;obtain ⟨b,o,rfl,h⟩:=hv;exact ⟨b,o,rfl,L2 t x b o 0 h⟩
 ·rename_i id j';split at e
  ·rename_i ho;simp only [aN,bS] at e;obtain ⟨rfl,rfl⟩:=e;obtain ⟨hU,lf,b,o,L6,rfl⟩:=hv;obtain ⟨-,-,b',o',h1,h2⟩:=hO id _ ho;rw [h1] at L6;simp only [aN,bS] at L6;obtain ⟨rfl,rfl⟩:=L6;exact ⟨_,_,rfl,fun k hk=>let ⟨_,_,v,h3,h4⟩:=h2 k hk; ⟨v,h3,h4⟩⟩
  grind
 ·rename_i id ver p t i j';split at e
  ·rename_i own _ vr _ _ ys ho hr;split at e
   ·rename_i hb;obtain rfl:=Ty.eq_of_beq hb;simp only [aN,bS] at e;obtain ⟨rfl,rfl⟩:=e;obtain ⟨hU,L7,lf,cU,hp,hi,b,o,ha,rfl⟩:=hv;obtain ⟨u7,t',CK,l8,iJ,oJ,hR,aG⟩:=Bx hO hp cU hr;rw [ho] at iJ;simp only [aN,dL.row.injEq] at iJ;obtain ⟨rfl,rfl,rfl,-⟩:=iJ;obtain ⟨h1,h2,h3,h4⟩:=hR;rw [h1] at hi;have hx:=(h4 b o ha).2 i hi;rw [← wD hi] at hx;refine ⟨b,o+i*t.size,rfl,?_⟩;have ZU:kp g id vr [] (p++[(i,0)]):=by
     refine Si p [] ?_ ?_
     ·cases p with
      | nil=>trivial
      | cons q p=>grind
     rw [List.nil_append];have:g.hd id (ko p vr) p=g.hd id ver p:=by
      cases p with
      | nil=>rw [hp rfl]; rfl
      | cons q p=>obtain ⟨-,rfl⟩:=aG (by simp); rfl
     grind
    have:=L3 (p:=p) (i:=i) hU oJ lf (.inl ZU) t 0 (el t ys i) b (o+i*t.size) hx;intro k hk;exact this k (by cases own<;>exact hk)
   grind
  grind
 grind
def gb (P:Program) (c:bd):Prop:=∀ t i,look c.bm t=some i→nM P t i
theorem oS (hc:gb P c) {t:Nat} (h:0<(c.ti t).size∨(c.ti t).kind≠.other):nM P t (c.ti t):=by
 unfold bd.ti at h ⊢;cases e:look c.bm t with
 | none=>grind
 | some i=>exact hc t i e
theorem L8 {t:Nat} {i:mP} (h:nM P t i):(isAgg t).run P w = .ok i.agg w:=by obtain ⟨d,h1,-,h2⟩:=h.desc;rw [h2];unfold isAgg;simp only [jG,run_underlying h1,jF];cases d<;>rfl
theorem yR {t:Nat} {i:mP} (h:nM P t i):(sizeOf t).run P w = .ok i.size w:=by obtain ⟨ti,h1,h2,-⟩:=h.info;simp [sizeOf,typeInfo,h1,h2]
theorem mU:∀ {vs:List ah} {l:List Value},cz g w U vs l→l.length=vs.length
 | [],_,h=>by rw [h]; rfl
 | v::vs,_,⟨x,r,e,_,h⟩=>by rw [e]; simp [mU h]
theorem wE:∀ {vs:List ah} {l:List Value},l.length=vs.length→(∀ k (h:k<vs.length) (h':k<l.length),aV g w U vs[k] l[k])→cz g w U vs l
 | [],l,h,_=>by cases l<;>simp_all [cz]
 | v::vs,[],h,_=>by grind
 | v::vs,x::l,h,hk=>⟨x,l,rfl,hk 0 (by simp) (by simp),wE (by grind) (fun k a b=>hk (k+1) (by grind) (by grind))⟩
theorem mi:∀ {vs:List ah} {l:List Value},cz g w U vs l→∀ k (h:k<vs.length),∃ x,l[k]? = some x∧aV g w U vs[k] x
 | [],_,_,k,h=>by grind
 | v::vs,_,⟨x,r,e,h1,h2⟩,k,h=>by
  subst e;cases k with
  | zero=>grind
  | succ k=>obtain ⟨y,e,hy⟩:=mi h2 k (by simpa using h); exact ⟨y,by grind,by grind⟩
theorem Sl (hc:gb P c) {sr:St} (hO:fA g w U sr) {t:Nat} {x:ah} {vx:Value} (hx:aV g w U x vx) (ht:0<(c.ti t).size) {cs:List ah} {j:Nat} {z:ah}
  (e:sr.E_ x=some (cs,j)) (hp:part (c.ti t).agg (c.ti t).size cs j=some z) :
  ∃ v,(Instr.loadAt t vx).run P w = .ok v w∧aV g w U z v:=by
 have hT:=oS hc (.inl ht);obtain ⟨b,o,rfl,kY⟩:=Sk hO hx e;have IB:∀ k (h:k<cs.length),∃ v,w.cell? (ad b (o+k))=some v∧aV g w U cs[k] v:=kY;unfold part at hp;unfold Instr.loadAt loadVar;simp only [LK,jG,Bc,jF,L8 hT];cases ha:(c.ti t).agg with
 | false=>
  rw [ha] at hp;simp only at hp;obtain ⟨hj,rfl⟩:=eE.1 hp;obtain ⟨v,h1,h2⟩:=IB j hj;simp_all
 | true=>
  rw [ha] at hp;simp only at hp;split at hp
  ·rename_i hle;have hle:=gz hle;obtain rfl:=aZ hp;have hex:∃ f:Nat→Value,∀ k,k<(c.ti t).size→w.cell? (ad b (o+(j+k)))=some (f k)∧∀ h:j+k<cs.length,aV g w U cs[j+k] (f k):=by refine ⟨fun k=>(w.cell? (ad b (o+(j+k)))).getD undef,fun k hk=>?_⟩;obtain ⟨v,h1,h2⟩:=IB (j+k) (by omega);exact ⟨by grind,fun _=>by grind⟩
   obtain ⟨f,hf⟩:=hex;refine ⟨.agg ((List.range (c.ti t).size).map f).toArray,?_,_,rfl,wE ?_ ?_⟩
   ·simp only [if_true,jG,yR hT,jF];rw [run_loadCells w _ _ f (fun k hk=>?_)]
    ·rfl
    have:=(hf k hk).1;have e:(ad b (o+j)).add k=ad b (o+(j+k)):=by rw [wi,cg]
    grind
   ·grind
   grind
  grind
end
end Go.Am
namespace Go.Am
open Go
structure dC (P:Program) (c:bd) (g:Gh) (w:World) (U:Nat→Prop) (sr:St) (a:Act):Prop where
 bm:gb P c
 env:∀ t v,look sr.env t=some v→aV g w U v (a.eval (.tmp t))
 bb:fA g w U sr
 cm:∀ b o q,g.lab b o=some q→b<w.heap.size
 u0:U 0
 nL:∀ s,s<20→U s
 nf:∀ id,sr.obj id≠none→id / 1024≠19
 gl:Gl P g.lab w
theorem dC.Bu {P:Program} {c:bd} {g:Gh} {w:World} {U:Nat→Prop} {sr:St} {a:Act} (S:dC P c g w U sr a):U 19:=S.nL 19 (by omega)
def nN (P:Program) (g:Gh) (w:World) (U:Nat→Prop) (site:Nat) (o:Oper) (a:Act) (e:cK):Prop:=
 ∀ (next:Act→World→Prop) (Q:Exit→Act→World→Prop),(∀ v w' g' U',dP g w U site e v w' g' U'→next (a.put o.dst v) w')→o.wp P a w next Q
section
variable {P:Program} {c:bd} {g:Gh} {w:World} {U:Nat→Prop} {sr:St} {a:Act} {site:Nat} {o:Oper} {ρ:Type} {r:ρ} {k:cK→Option ρ}
theorem dC.ev (S:dC P c g w U sr a) (x:Operand):aV g w U (sr.ev x) (a.eval x):=Ix S.env x
theorem nN.of {e:cK} {v:Value} {w':World} {g':Gh} {U':Nat→Prop} (h:(execOp a.eval o).run P w = .ok (.value v) w') (hp:dP g w U site e v w' g' U'):nN P g w U site o a e:=by
 intro next Q hn
 unfold Oper.wp;rw [h];exact hn _ _ _ _ hp
theorem nN.skip {e:cK} {w':World} {g':Gh} {U':Nat→Prop} (h:(execOp a.eval o).run P w = .ok .skip w') (hp:dP g w U site e undef w' g' U'):nN P g w U site o a e:=by
 intro next Q hn
 unfold Oper.wp;rw [h];exact hn _ _ _ _ hp
theorem nN.val (S:dC P c g w U sr a) {x:ah} {v:Value} (h:(execOp a.eval o).run P w = .ok (.value v) w) (hv:aV g w U x v):nN P g w U site o a ⟨x,[]⟩:=
 .of h (.same S.cm hv)
abbrev Ok (P:Program) (g:Gh) (w:World) (U:Nat→Prop) (x:ah) (s:Sem Value):Prop:=∃ v,s.run P w = .ok v w∧aV g w U x v
theorem L9 (b o n m:Nat):(ad b (o+n)).add m=ad b (o+(n+m)):=by rw [wi,cg]
theorem ZV {x y:ah} {n:Nat} {v:Value} (hx:aV g w U x v) (e:E0 x n=y) (hy:y≠.undef):∃ b o,v = .pointer (some (ad b o))∧aV g w U y (.pointer (some ((ad b o).add n))):=by
 unfold E0 at e;split at e
 ·subst e;obtain ⟨b,o,rfl,h⟩:=hx;exact ⟨_,_,rfl,b,o,by rw [L9],h⟩
 ·subst e;obtain ⟨h1,h2,b,o,h,rfl⟩:=hx;exact ⟨_,_,rfl,h1,h2,b,o,h,by rw [L9]⟩
 ·subst e;obtain ⟨h1,h2,h3,h4,h5,h6,b,o,h,rfl⟩:=hx;exact ⟨_,_,rfl,h1,h2,h3,h4,h5,h6,b,o,h,by rw [L9]⟩
 grind
theorem Sm {t:Nat} {i:mP} (h:nM P t i) (hk:i.kind = .struct) {f off ft:Nat} (hf:i.fields[f]? = some (off,ft)) :
  ∃ fs fd,P.underlying t=some (.struct fs)∧fs[f]? = some fd∧fd.offset=off∧fd.type=ft:=by
 obtain ⟨d,h1,h2,-⟩:=h.desc
 grind
theorem Dl (S:gb P c) {t:Nat} {K:TK} (h:(c.ti t).kind=K) (hK:K≠.other):nM P t (c.ti t):=oS S (.inr (by grind))
theorem ZW (hc:gb P c) {s f off t:Nat} {x y:ah} {v:Value} (hk:(c.ti s).kind = .struct) (hf:(c.ti s).fields[f]? = some (off,t)) (ht:0<(c.ti t).size) (hx:aV g w U x v)
  (e:E0 x off=y) (hy:y≠.undef):Ok P g w U y (Instr.fieldAt s v f):=by
 obtain ⟨fs,fd,h1,h2,h3,h4⟩:=Sm (Dl hc hk (by simp)) hk hf;obtain ⟨b,o,rfl,h5⟩:=ZV hx e hy;refine ⟨_,?_,h5⟩;subst h3 h4;have hs:=yR (w:=w) (oS hc (.inl ht));have aG:¬ (c.ti fd.type).size=0:=by omega
 simp [Instr.fieldAt,run_underlying h1,h2,LK,fieldPlace,hs,aG]
theorem ZX (hc:gb P c) {t:Nat} {cs:List ah} {l:List Value} {off:Nat} {z:ah} (ht:nM P t (c.ti t)) (hl:cz g w U cs l) (e:part (c.ti t).agg (c.ti t).size cs off=some z) :
  Ok P g w U z (Go.part t l.toArray off):=by
 unfold Am.part at e;unfold Go.part;have hlen:=mU hl;split at e
 ·rename_i ha;split at e
  ·rename_i hle;have hle:=gz hle;obtain rfl:=aZ e;refine ⟨.agg ((l.drop off).take (c.ti t).size).toArray,?_,_,rfl,wE (by grind) (fun k h1 h2=>?_)⟩
   ·simp only [jG,L8 ht,jF,ha,if_true,yR ht,Bc]
    grind
   obtain ⟨v,h3,h4⟩:=mi hl (off+k) (by grind)
   grind
  grind
 rename_i ha;obtain ⟨hj,rfl⟩:=eE.1 e;obtain ⟨v,h3,h4⟩:=mi hl off hj;refine ⟨v,?_,h4⟩;simp only [jG,L8 ht,jF,ha,Bool.false_eq_true,if_false,List.getElem?_toArray,h3,Bc]
theorem ZY (hc:gb P c) {s f off t:Nat} {cs:List ah} {z:ah} {v:Value} (hk:(c.ti s).kind = .struct) (hf:(c.ti s).fields[f]? = some (off,t)) (ht:0<(c.ti t).size)
  (hx:aV g w U (.agg cs) v) (e:part (c.ti t).agg (c.ti t).size cs off=some z):Ok P g w U z (Instr.field s v f):=by
 obtain ⟨fs,fd,h1,h2,rfl,rfl⟩:=Sm (Dl hc hk (by simp)) hk hf;obtain ⟨l,rfl,hl⟩:=hx;obtain ⟨z',h3,h4⟩:=ZX hc (oS hc (.inl ht)) hl e;exact ⟨z',by simp [Instr.field,run_underlying h1,h2,asAgg,h3],h4⟩
theorem tx (hc:gb P c) {t:Nat} (hk:(c.ti t).kind = .slice):P.underlying t=some (.slice (c.ti t).elem):=by
 obtain ⟨d,h1,h2,-⟩:=(Dl hc hk (by simp)).desc
 grind
theorem Dn (hc:gb P c) {t:Nat} (hk:(c.ti t).kind = .str):P.underlying t=some .string:=by
 obtain ⟨d,h1,h2,-⟩:=(Dl hc hk (by simp)).desc
 grind
theorem IC (hc:gb P c) {t:Nat} {kk:IntKind} (hk:(c.ti t).kind = .int kk):P.underlying t=some (.int kk):=by
 obtain ⟨d,h1,h2,-⟩:=(Dl hc hk (by simp)).desc
 grind
theorem Fm (hc:gb P c) {t:Nat} (hk:(c.ti t).kind = .slice) (hs:0<(c.ti (c.ti t).elem).size) {kk:IntKind} {b o len cap:Nat} {i:Int} (h0:0≤i) (h1:i<len) :
  (H9 t (.slice (some (ad b o)) len cap) (.int kk i)).run P w = .ok (.pointer (some (ad b (o+i.toNat*(c.ti (c.ti t).elem).size)))) w:=by
 have h:=tx hc hk;simp [H9,run_underlying h,asIntOf,h0,h1,yR (oS hc (.inl hs)),wi]
theorem Ma (hO:fA g w U sr) {id ver:Nat} {p:Path} {u:Ty} {ys:List u.T} (hp:p=[]→ver=0) (cU:kp g id ver [] p) (e:sr.rowAt id ver p=some ⟨u,ys⟩) :
  (g.hd id ver p).len=ys.length∧(g.hd id ver p).len≤(g.hd id ver p).cap∧((g.hd id ver p).addr=none→(g.hd id ver p).cap=0):=by
 obtain ⟨_,_,_,_,-,-,h,-⟩:=Bx hO hp cU e;exact ⟨h.1,h.2.1,h.2.2.1⟩
theorem Sn {gZ:Nat} {st:St} {x:ah} {i:Int} {kv:ah→Option ρ} {r:ρ} : ∀ {m:Nat},yN gZ st x i kv m=some r→rL gZ st x i kv=some r
 | 0,e=>by simp [yN] at e
 | m+1,e=>by
  unfold yN at e;by_cases h:i=Int.ofNat m
  ·simp only [h,decide_true,br] at e
   grind
  simp only [h,decide_false,br] at e;exact Sn e
theorem ZZ {t:Nat} {x z:ah} {kk:IntKind} {i:Int} {v:Value} {kv:ah→Option ρ} (S:dC P c g w U sr a) (hk:(c.ti t).kind = .slice) (hs:0<(c.ti (c.ti t).elem).size)
  (hx:aV g w U x v) (e:rL (c.ti (c.ti t).elem).size sr x i kv=some r):∃ z,kv z=some r∧Ok P g w U z (H9 t v (.int kk i)):=by
 unfold rL at e;split at e
 ·grind
 rename_i bF;have bF:=bB bF;have So:∀ (u:Ty) (xs:List u.T),(c.ti (c.ti t).elem).size=u.size→hZ u.size (Sh g.lab w u) xs v→0≤i∧i<(xs.length:Int)→Ok P g w U (.gp u (el u xs i.toNat) 0) (H9 t v (.int kk i)):=by intro u xs hu hv hi;obtain ⟨a,len,cap,rfl,rfl,h2,h3,h4⟩:=hv;obtain ⟨b,o,rfl,h5⟩:=h4 (by grind);refine ⟨_,Fm S.bm hk hs hi.1 (by omega),b,o+i.toNat*u.size,by grind,?_⟩;have:=h5 i.toNat (by omega);rwa [wD (by omega)]
 split at e
 ·split at e
  ·rename_i hi;exact ⟨_,e,So _ _ bF hx hi⟩
  grind
 ·split at e
  ·rename_i hi;exact ⟨_,e,So _ _ bF hx.1 hi⟩
  grind
 ·rename_i id off len _ _;split at e
  ·rename_i n;split at e
   ·rename_i hn;have hn:n<len:=by simpa [eH] using hn
    obtain ⟨h1,h2,a,cp,rfl,h3,h4,b,o,h5,h6⟩:=hx;obtain rfl:=h6 (.inl (by omega));refine ⟨_,e,_,Fm S.bm hk hs (Int.natCast_nonneg _) (by grind),h1,h2,b,o,h5,?_⟩;rw [bF];simp [St.tn,dH,cg]
   grind
  grind
 ·rename_i id ver p _ _;split at e
  ·rename_i u ys hr;split at e
   ·rename_i hi;obtain ⟨h1,h2,h3,h4,h5,rfl⟩:=hx;obtain ⟨h6,h7,h8⟩:=Ma S.bb h5 h4 hr;have hu:(c.ti (c.ti t).elem).size=u.size:=by rw [bF]; simp [St.tn,hr]
    cases ha:(g.hd id ver p).addr with
    | none=>grind
    | some q=>
     obtain ⟨b,o⟩:=q;have hv:(g.hd id ver p).val = .slice (some (ad b o)) (g.hd id ver p).len (g.hd id ver p).cap:=by simp [Hd.val,ha]
     rw [hv];refine ⟨_,e,_,Fm S.bm hk hs hi.1 (by omega),h1,h2,h3,h4,h5,by omega,b,o,ha,?_⟩
     grind
   grind
  rename_i Z_;split at e
  ·rename_i u ys hr;split at e
   ·rename_i hi;obtain ⟨h1,h2,h3,h4,h5,rfl⟩:=hx;have hu:(c.ti (c.ti t).elem).size=u.size:=by rw [bF]; simp [St.tn,Z_,hr]
    have hb:p=[]∧∃ vr i' j',sr.obj id=some (.oM u vr ys i' j'):=by
     unfold St.LO at hr;split at hr
     ·grind
     grind
    obtain ⟨rfl,vr,i',j',ho⟩:=hb;obtain rfl:=h5 rfl;obtain ⟨-,-,-,h6,h7,h8,-⟩:=S.bb id _ ho;cases ha:(g.hd id 0 []).addr with
    | none=>grind
    | some q=>
     obtain ⟨b,o⟩:=q;have hv:(g.hd id 0 []).val = .slice (some (ad b o)) (g.hd id 0 []).len (g.hd id 0 []).cap:=by simp [Hd.val,ha]
     rw [hv];refine ⟨_,e,_,Fm S.bm hk hs hi.1 (by omega),h1,h2,h3,h4,h5,by omega,b,o,ha,?_⟩
     grind
   grind
  grind
 ·rename_i id ver p u off len _;split at e
  ·rename_i q _;split at e
   ·rename_i hi;obtain ⟨h1,h2,h3,h4,h5,a,cp,rfl,h6,h7,h8,h9,By⟩:=hx;obtain ⟨b,o,lE,rfl⟩:=h9 (by omega);refine ⟨_,e,_,Fm S.bm hk hs hi.1 hi.2,h1,h2,h3,h4,h5,by omega,b,o,lE,?_⟩;rw [bF];simp [St.tn,dH,cg]
   grind
  grind
 grind
theorem Sp {x:ah} {n:Int} {v:Value} (S:dC P c g w U sr a) (hx:aV g w U x v) (e:sr.len x=some n) :
  (∃ s:List UInt8,x = .str s∧v = .string ⟨s.toArray⟩∧n=s.length)∨(∃ a l cp,v = .slice a l cp∧n=(l:Int)∧l≤cp):=by
 unfold St.len at e;split at e
 ·obtain rfl:=aZ e;obtain rfl:=hx
  grind
 ·obtain rfl:=aZ e;obtain rfl:=hx
  grind
 ·obtain rfl:=aZ e;obtain ⟨-,-,a,cp,rfl,h,-⟩:=hx
  grind
 ·obtain rfl:=aZ e;obtain ⟨-,-,-,-,-,a,cp,rfl,-,h,-⟩:=hx
  grind
 split at e
 ·rename_i hl;obtain rfl:=aZ e;unfold St.list at hl;split at hl
  ·simp only [aN] at hl;obtain ⟨rfl,hl⟩:=qI hl;obtain rfl:=eq_of_heq hl;obtain ⟨a,len,cap,rfl,rfl,h2,h3,h4⟩:=hx
   grind
  ·simp only [aN] at hl;obtain ⟨rfl,hl⟩:=qI hl;obtain rfl:=eq_of_heq hl;obtain ⟨⟨a,len,cap,rfl,rfl,h2,h3,h4⟩,-⟩:=hx
   grind
  ·obtain ⟨h1,h2,h3,h4,h5,rfl⟩:=hx;obtain ⟨h6,h7,h8⟩:=Ma S.bb h5 h4 hl;exact .inr ⟨_,_,_,rfl,by rw [h6],h7⟩
  ·grind
  grind
 grind
theorem Z0 {x:ah} {n:Int} {v:Value} (hx:aV g w U x v) (e:Dd x=some n):∃ kk,v = .int kk n:=by cases x<;>simp [Dd] at e;subst e;exact ⟨_,hx⟩
def Fo (v:Option Value) (d n:Int):Prop:=(v=none∧n=d)∨∃ kk,v=some (.int kk n)
theorem ID (S:dC P c g w U sr a) {lo:Option Operand} {d n:Int} (e:Dd (Ig sr lo (.int .i64 d))=some n):Fo (lo.map a.eval) d n:=by
 cases lo with
 | none=>simp [Ig,Dd] at e; exact .inl ⟨rfl,e.symm⟩
 | some x=>obtain ⟨kk,h⟩:=Z0 (S.ev x) e; exact .inr ⟨kk,by simp [h]⟩
theorem Sq {isS:Bool} {len cap:Nat} {lo hi:Option Value} {l h:Int} (hl:Fo lo 0 l) (hh:Fo hi (len:Int) h) (hc:0≤l∧l≤h∧h≤(len:Int)) (fF:len≤cap) :
  (EZ isS len cap lo hi none).run P w = .ok (l.toNat,h.toNat,cap) w:=by
 obtain ⟨h0,h1,h2⟩:=hc;have e1:(h.toNat:Int)=h:=Int.toNat_of_nonneg (by omega);rcases hl with ⟨rfl,rfl⟩ | ⟨kl,rfl⟩<;>rcases hh with ⟨rfl,rfl⟩ | ⟨kh,rfl⟩
 ·simp [EZ]
 ·simp [EZ,run_sliceBound w kh h cap _ (by omega) (by omega)]
 ·simp [EZ,run_sliceBound w kl l len _ (by omega) (by omega)]
 simp [EZ,run_sliceBound w kh h cap _ (by omega) (by omega),run_sliceBound w kl l h.toNat _ (by omega) (by omega)]
theorem Z1 (hc:gb P c) {t:Nat} (hk:(c.ti t).kind = .slice) (hs:0<(c.ti (c.ti t).elem).size) {lo hi:Option Value} {l h:Int} {a:Option Addr} {len cap:Nat}
  (hl:Fo lo 0 l) (hh:Fo hi (len:Int) h) (hb:0≤l∧l≤h∧h≤(len:Int)) (fF:len≤cap) :
  (CS t (.slice a len cap) lo hi none).run P w = .ok (sliced a l.toNat h.toNat cap (c.ti (c.ti t).elem).size) w:=by
 have hd:=tx hc hk;simp [CS,Instr.slice,run_underlying hd,Sq (P:=P) (w:=w) hl hh hb fF,yR (oS hc (.inl hs)),sliced]
theorem Sr {u:Ty} {xs:List u.T} {v:Value} {l h:Int} {a:Option Addr} {len cap:Nat} (hx:hZ u.size (Sh g.lab w u) xs (.slice a len cap)) (hb:0≤l∧l≤h∧h≤(len:Int)) :
  hZ u.size (Sh g.lab w u) ((xs.take h.toNat).drop l.toNat) (sliced a l.toNat h.toNat cap u.size):=by
 obtain ⟨a',aif,aih,e,rfl,h2,h3,h4⟩:=hx;simp only [Value.slice.injEq] at e;obtain ⟨rfl,rfl,rfl⟩:=e;refine ⟨_,_,_,rfl,by grind,by omega,?_,?_⟩
 ·intro hn;split at hn
  ·omega
  simp_all
 intro aG;have aF:l.toNat<h.toNat:=by
  rcases kj l.toNat h.toNat with h' | h'
  ·exact h'
  grind
 obtain ⟨b,o,rfl,h5⟩:=h4 (by grind);refine ⟨b,o+l.toNat*u.size,?_,fun i hi=>?_⟩
 ·rw [if_neg (by omega)];simp [wi]
 grind
theorem Ss {t:Nat} {x:ah} {v:Value} {lo hi:Option Operand} (S:dC P c g w U sr a) (hk:(c.ti t).kind = .slice) (hs:0<(c.ti (c.ti t).elem).size) (hx:aV g w U x v)
  (e:uX (c.ti (c.ti t).elem).size sr x lo hi k=some r):∃ z,k ⟨z,[]⟩=some r∧Ok P g w U z (CS t v (lo.map a.eval) (hi.map a.eval) none):=by
 unfold uX at e;split at e
 ·grind
 rename_i bF;split at e
 case h_2=>grind
 rename_i l n hl hn;split at e
 case h_2=>grind
 rename_i h hh;unfold ab at e;split at e
 case isFalse=>grind
 rename_i hb;replace hl:=ID S hl;replace hh:=ID S hh;have hlen:=Sp S hx hn;have fin:∀ {a0:Option Addr} {len cap:Nat},v = .slice a0 len cap→n=(len:Int)∧len≤cap:=by
  rintro a0 len cap rfl;rcases hlen with ⟨s,-,h,-⟩ | ⟨a1,l1,c1,h,rfl,h3⟩
  ·grind
  grind
 have dG:∀ {a0:Option Addr} {len cap:Nat},v = .slice a0 len cap→(CS t v (lo.map a.eval) (hi.map a.eval) none).run P w = .ok (sliced a0 l.toNat h.toNat cap (c.ti (c.ti t).elem).size) w∧(0≤l∧l≤h∧h≤(len:Int))∧len≤cap:=by rintro a0 len cap rfl;obtain ⟨rfl,h2⟩:=fin rfl;exact ⟨Z1 (w:=w) S.bm hk hs hl hh hb h2,hb,h2⟩
 cases x with
 | str s=>
  simp_all
 | nil=>
  obtain ⟨h1,hb,h2⟩:=dG hx;refine ⟨_,e,_,h1,?_⟩;have e1:l.toNat=0:=by omega
  have e2:h.toNat=0:=by omega
  simp [aV,sliced,e1,e2]
 | sh u xs=>
  have bF:(c.ti (c.ti t).elem).size=u.size:=bB bF;obtain ⟨a0,len,cap,hv,-⟩:=id hx;obtain ⟨h1,hb,h2⟩:=dG hv;subst hv;rw [bF] at h1;exact ⟨_,e,_,h1,Sr (v:=.nilIface) hx hb⟩
 | dn u xs=>
  have bF:(c.ti (c.ti t).elem).size=u.size:=bB bF;obtain ⟨a0,len,cap,hv,-⟩:=id hx.1;obtain ⟨h1,hb,h2⟩:=dG hv;subst hv;rw [bF] at h1;exact ⟨_,e,_,h1,Sr (v:=.nilIface) hx.1 hb⟩
 | own id ver p tt=>
  have bF:(c.ti (c.ti t).elem).size=sr.tn (.own id ver p tt):=bB bF;simp only at e;split at e
  ·rename_i u _ hr;obtain ⟨h1,h2,h3,h4,h5,hv⟩:=hx;obtain ⟨h6,h7,h8⟩:=Ma S.bb h5 h4 hr;obtain ⟨h9,hb,lE⟩:=dG hv;refine ⟨_,e,_,h9,h1,h2,h3,h4,h5,?_⟩;have hu:(c.ti (c.ti t).elem).size=u.size:=by rw [bF]; simp [St.tn,hr]
   refine ⟨_,_,rfl,by omega,by omega,by omega,fun hc=>?_,?_⟩;rotate_left
   ·split
    ·grind
    refine ⟨(g.hd id ver p).addr.map fun q=>(q.1,q.2+l.toNat*(c.ti (c.ti t).elem).size),?_⟩;cases (g.hd id ver p).addr<;>simp [wi]
   cases ha:(g.hd id ver p).addr with
   | none=>grind
   | some q=>
    obtain ⟨b,o⟩:=q;refine ⟨b,o,rfl,?_⟩;rw [if_neg (by omega)];simp [wi,hu]
  grind
 | fS id ver p u off len=>
  have bF:(c.ti (c.ti t).elem).size=u.size:=bB bF;obtain ⟨h1,h2,h3,h4,h5,a0,cp,hv,h6,h7,h8,h9,By⟩:=hx;obtain ⟨lE,hb,ki⟩:=dG hv;refine ⟨_,e,_,lE,h1,h2,h3,h4,h5,?_⟩;refine ⟨_,_,rfl,by omega,by omega,by omega,fun hc=>?_,?_⟩;rotate_left
  ·obtain ⟨qq,rfl⟩:=By;split
   ·grind
   refine ⟨qq.map fun q=>(q.1,q.2+l.toNat*(c.ti (c.ti t).elem).size),?_⟩;cases qq<;>simp [wi]
  obtain ⟨b,o,IE,rfl⟩:=h9 (by omega);refine ⟨b,o,IE,?_⟩;rw [if_neg (by omega)];simp [wi,bF,dH,cg]
 | fJ id off len sz=>
  have bF:(c.ti (c.ti t).elem).size=sz:=bB bF;obtain ⟨h1,h2,a0,cp,hv,h3,h4,b,o,h5,h6⟩:=hx;obtain ⟨lE,hb,ki⟩:=dG hv;cases l with
  | negSucc l=>omega
  | ofNat l=>
   cases h with
   | negSucc h=>omega
   | ofNat h=>
    refine ⟨_,e,_,lE,h1,h2,_,_,rfl,?_,?_,b,o,h5,fun hc=>?_⟩
    ·grind
    ·grind
    simp only [Int.toNat_natCast,Int.ofNat_eq_natCast] at hc hb ⊢;have h6:=h6 (by omega);subst h6;split
    ·grind
    simp [wi,bF,dH,cg]
 | _=>grind
theorem Z2 {t:Nat} {s:List UInt8} {v:Value} {lo hi:Option Operand} (S:dC P c g w U sr a) (hk:(c.ti t).kind = .str) (hx:aV g w U (.str s) v)
  (e:uX 0 sr (.str s) lo hi k=some r):∃ z,k ⟨z,[]⟩=some r∧Ok P g w U z (CS t v (lo.map a.eval) (hi.map a.eval) none):=by
 unfold uX at e;split at e
 ·grind
 split at e
 case h_2=>grind
 rename_i l n hl hn;split at e
 case h_2=>grind
 rename_i h hh;unfold ab at e;split at e
 case isFalse=>grind
 rename_i hb;replace hl:=ID S hl;replace hh:=ID S hh;obtain rfl:(s.length:Int)=n:=by simpa [St.len] using hn
 obtain rfl:=hx;have hd:=Dn S.bm hk;have bF:(⟨s.toArray⟩:ByteArray).size=s.length:=rfl;refine ⟨_,e,.string ⟨((s.take h.toNat).drop l.toNat).toArray⟩,?_,rfl⟩;have Z3:=Sq (P:=P) (w:=w) (isS:=false) (cap:=s.length) hl hh hb (cx _);have e2:(⟨s.toArray⟩:ByteArray).extract l.toNat h.toNat=⟨((s.take h.toNat).drop l.toNat).toArray⟩:=by apply ByteArray.ext;apply Array.ext';simp [List.drop_take]
 simp [CS,Instr.slice,run_underlying hd,bF,Z3,e2]
theorem Z4 {t:Nat} {s:List UInt8} {kk:IntKind} {n:Int} {v:Value} (hc:gb P c) (hk:(c.ti t).kind = .str) (hx:aV g w U (.str s) v) (hn:0≤n∧n<(s.length:Int)) :
  Ok P g w U (.int .u8 ((s.getD n.toNat 0).toNat:Int)) (Instr.index t v (.int kk n)):=by
 obtain rfl:=hx;have hd:=Dn hc hk;refine ⟨_,?_,rfl⟩;have aF:n.toNat<s.length:=by omega
 have e2:(⟨s.toArray⟩:ByteArray)[n.toNat]? = some (s.getD n.toNat 0):=by rw [ByteArray.getElem?_lt' _ _ aF];simp [lG,eX aF];rfl
 simp [Instr.index,asIntOf,run_underlying hd,hn.1,e2]
theorem Z5 {vs:List ah} {i:Nat} {x:ah} {v:Value} (hx:aV g w U (.gX vs) v) (e:vs[i]? = some x):Ok P g w U x (Instr.extract v i):=by obtain ⟨l,rfl,hl⟩:=hx;obtain ⟨h1,rfl⟩:=eE.1 e;obtain ⟨y,h2,h3⟩:=mi hl i h1;exact ⟨y,by simp [Instr.extract,h2],h3⟩
theorem Su {t:Nat} {kk:IntKind} (h:P.underlying t=some (.int kk)):(isAgg t).run P w = .ok false w:=by unfold isAgg;simp only [jG,run_underlying h,jF,Bc]
theorem Sv (d : Nat) : ∀ (fs : List Field) (n : Nat) (as bs : List ah) (xs ys : List Value) (e : Bool), (∀ (m : Nat) (f : Field), fs[m]? = some f → f.offset = n + m ∧ f.name ≠ "_" ∧ ∃ kk, P.underlying f.type = some (.int kk)) →
    as.length = fs.length → cz g w U as (xs.drop n) → cz g w U bs (ys.drop n) → yL as bs = some e → (Op.eqFields (d + 1) xs.toArray ys.toArray fs).run P w = .ok e w
  | [], n, as, bs, xs, ys, e, hf, hl, hx, hy, he => by
    obtain rfl : as = [] := List.eq_nil_of_length_eq_zero (by omega);cases bs with
    | nil => obtain rfl : true = e := by simpa [yL] using he
             simp [Op.eqFields]
    | cons b bs => simp [yL] at he
  | f :: fs, n, [], bs, xs, ys, e, hf, hl, hx, hy, he => by grind
  | f :: fs, n, a :: as, [], xs, ys, e, hf, hl, hx, hy, he => by simp [yL] at he
  | f :: fs, n, a :: as, b :: bs, xs, ys, e, hf, hl, hx, hy, he => by
    simp only [yL] at he;split at he
    · rename_i k m l p h1 h2
      have h1 : a = .int k m := by cases a <;> simp [intOf] at h1; rw [h1.1, h1.2]
      have h2 : b = .int l p := by cases b <;> simp [intOf] at h2; rw [h2.1, h2.2]
      subst h1 h2;split at he
      · rename_i e1 hk Mb
        obtain rfl := pQ hk;obtain rfl := aZ he;obtain ⟨h3, h4, kk, h5⟩ := hf 0 f rfl;obtain ⟨x, xr, ex, rfl, hxr⟩ := hx;obtain ⟨y, yr, ey, rfl, hyr⟩ := hy;have gx : xs[n]? = some (.int k m) := by
          have := congrArg (fun l => l[0]?) ex;simpa using this
        have gy : ys[n]? = some (.int k p) := by
          have := congrArg (fun l => l[0]?) ey;simpa using this
        have dx : xs.drop (n + 1) = xr := by rw [← LM, ex]; rfl
        have dy : ys.drop (n + 1) = yr := by rw [← LM, ey]; rfl
        have ih := Sv d fs (n + 1) _ _ xs ys e1 (fun m f hm => by
          obtain ⟨a1, a2⟩ := hf (m + 1) f (by grind)
          grind) (by grind) (by grind) (by grind) Mb
        have px : (Go.part f.type xs.toArray f.offset).run P w = .ok (.int k m) w := by
          simp [Go.part, Su h5, h3, gx]
        have py : (Go.part f.type ys.toArray f.offset).run P w = .ok (.int k p) w := by
          simp [Go.part, Su h5, h3, gy]
        have he : (CU (d + 1) f.type (.int k m) (.int k p)).run P w = .ok (m == p) w := run_equalIn_int w d f.type k kk m p h5;simp only [Op.eqFields, Sem.run_ite, h4, ne_eq, not_false_eq_true, if_true, jG, px, py, he, jF];by_cases Zx : m = p
        · grind
        simp_all
      grind
    grind
theorem Sw {t:Nat} {op:BinOp} {as bs:List ah} {e:Bool} {X Y:Operand} {vx vy:Value} (hc:gb P c) (heq:(c.ti t).eq=true) (hlen:(c.ti t).fields.length=as.length)
  (hx:aV g w U (.agg as) vx) (hy:aV g w U (.agg bs) vy) (he:yL as bs=some e) :
  (do eqGuard .eql t X Y vx vy; binOp .eql t vx vy:Sem Value).run P w = .ok (.bool e) w∧(do eqGuard .neq t X Y vx vy; binOp .neq t vx vy:Sem Value).run P w = .ok (.bool (!e)) w:=by
 have hT:nM P t (c.ti t):=by
  unfold bd.ti at heq ⊢;cases e:look c.bm t with
  | none=>grind
  | some i=>exact hc t i e
 obtain ⟨h1,h2,fs,h3,h4,h5⟩:=hT.eqs heq;obtain ⟨xs,rfl,EL⟩:=hx;obtain ⟨ys,rfl,hys⟩:=hy;have rW:P.fieldsOf t=fs:=by simp [Program.fieldsOf,h3]
 have yS:=Sv (P:=P) (g:=g) (w:=w) (U:=U) 9998 fs.toList 0 as bs xs ys e (fun m f hm=>by grind) (by grind) (by grind) (by grind) he;have cU:(CU 10000 t (.agg xs.toArray) (.agg ys.toArray)).run P w = .ok e w:=by rw [run_equalIn_struct w 9999 t _ _ (by grind) h1,rW];exact yS
 constructor
 ·simp only [jG,run_eqGuard_agg w .eql t X Y _ _ h2,jF,run_eql_struct,cU]
 simp only [jG,run_eqGuard_agg w .neq t X Y _ _ h2,jF,run_neq_struct,cU]
end
end Go.Am
namespace Go.Am
open Go
abbrev Src:=Path→Option (Nat×Path×Hd)
def Fp (g:Gh) (id vr:Nat) (p:Path):Hd:=g.hd id (ko p vr) p
def eh:Hd:=⟨none,0,0⟩
def df (g:Gh) (L:b9) (w:World) (own:Bool) (σ:Src):(t:Ty)→(q:Path)→(i j:Nat)→t.T→(Nat→Option Value)→Prop
 | .int k,_,_,_,n,f=>f 0=some (.int k n)
 | .bool,_,_,_,x,f=>f 0=some (.bool x)
 | .str,_,_,_,s,f=>f 0=some (.string ⟨s.toArray⟩)
 | .err,_,_,_,e,f=>∃ v,f 0=some v∧Bt e v
 | .pair s t,q,i,j,x,f=>df g L w own σ s q i j x.1 f∧df g L w own σ t q i (j+s.size) x.2 (fun k=>f (s.size+k))
 | .sl t,q,i,j,xs,f=>match own with
  | true=>(∃ id p h,σ (q++[(i,j)])=some (id,p,h)∧f 0=some h.val∧
    Dk w g.lab t.size (id,p) h (fun k x b o=>df g L w own σ t (q++[(i,j)]) k 0 x (fun d=>w.cell? (ad b (o+d)))) xs)∨
    (σ (q++[(i,j)])=none∧f 0=some (.slice none 0 0)∧xs=([]:List t.T))
  | false=>∃ v,f 0=some v∧hZ t.size (Sh L w t) xs v
 | .bW t,_,_,_,x,f=>∃ v,f 0=some v∧hZ t.size (Sh L w t) (x.getD []) v∧(x=none↔∃ n c,v = .slice none n c)
structure Ren (g:Gh) (L:b9) (w:World) (g':Gh) (w':World) (σ:Src) (N V:Nat):Prop where
 hd:∀ q id p h,σ q=some (id,p,h)→g'.hd N V q=h
 nil:∀ q,q≠[]→σ q=none→g'.hd N V q=eh
 lab:∀ q id p h b o,σ q=some (id,p,h)→g.lab b o=some (id,p)→g'.lab b o=some (N,q)∧w'.cell? (ad b o)=w.cell? (ad b o)∧w'.frozen? (ad b o)=w.frozen? (ad b o)
 shr:∀ b o,L b o=none→∀ v,w.cell? (ad b o)=some v→w'.cell? (ad b o)=some v∧g'.lab b o=none
section
variable {g g':Gh} {L L':b9} {w w':World} {σ:Src} {N V:Nat}
theorem Bz {own:Bool} (R:Ren g L w g' w' σ N V):∀ (t:Ty) (q:Path) (i j:Nat) (x:t.T) (f:Nat→Option Value) (b o:Nat),(∀ k,k<t.size→w'.cell? (ad b (o+k))=f k)→
  df g L w own σ t q i j x f→dO g' w' own N V t de q i j x b o
 | .int _,q,i,j,x,f,b,o,hc,h=>by have:=hc 0 (by simp [Ty.size]); exact this.trans h
 | .bool,q,i,j,x,f,b,o,hc,h=>by have:=hc 0 (by simp [Ty.size]); exact this.trans h
 | .str,q,i,j,x,f,b,o,hc,h=>by have:=hc 0 (by simp [Ty.size]); exact this.trans h
 | .err,q,i,j,x,f,b,o,hc,h=>by obtain ⟨v,h1,h2⟩:=h;exact ⟨v,(hc 0 (by simp [Ty.size])).trans h1,h2⟩
 | .pair s t,q,i,j,x,f,b,o,hc,h=>by refine ⟨Bz R s q i j x.1 f b o (fun k hk=>hc k (by simp [Ty.size]; omega)) h.1,Bz R t q i (j+s.size) x.2 _ b (o+s.size) (fun k hk=>?_) h.2⟩;rw [cg]; exact hc _ (by simp [Ty.size]; omega)
 | .bW t,q,i,j,x,f,b,o,hc,h=>by obtain ⟨v,h1,h2,h3⟩:=h;exact ⟨v,(hc 0 (by simp [Ty.size])).trans h1,iI (gq R.shr t) h2,h3⟩
 | .sl t,q,i,j,xs,f,b,o,hc,h=>by
  have h0:=hc 0 (by simp [Ty.size]);rw [eG] at h0;cases own with
  | false=>
   obtain ⟨v,h1,h2⟩:=h;exact ⟨v,h0.trans h1,iI (gq R.shr t) h2⟩
  | true=>
   rcases h with ⟨id,p,hh,h1,h2,h3⟩ | ⟨h1,h2,h3⟩
   ·refine .inr ⟨?_,?_⟩
    ·rw [R.hd _ _ _ _ h1,h0,h2]
    rw [R.hd _ _ _ _ h1];obtain ⟨r1,r2,r3,r4⟩:=h3;refine ⟨r1,r2,r3,fun b o hb=>?_⟩;obtain ⟨r5,r6⟩:=r4 b o hb;refine ⟨fun k hk=>?_,fun k hk=>?_⟩
    ·obtain ⟨a1,a2,a3⟩:=r5 k hk;obtain ⟨b1,b2,b3⟩:=R.lab _ _ _ _ _ _ h1 a1
     grind
    refine Bz R t _ k 0 _ _ b (o+k*t.size) (fun d hd=>?_) (r6 k hk);have hle:(k+1)*t.size≤hh.cap*t.size:=fk _ (by omega);rw [dH] at hle;obtain ⟨a1,-,-⟩:=r5 (k*t.size+d) (by omega);rw [← cg] at a1;exact (R.lab _ _ _ _ _ _ h1 a1).2.1
   refine .inr ⟨?_,?_⟩
   ·rw [R.nil _ (by simp) h1,h0,h2]; rfl
   rw [R.nil _ (by simp) h1,h3];exact ⟨rfl,cx _,fun _=>rfl,fun b o hb=>by simp [eh] at hb⟩
theorem pW {own:Bool} {id vr:Nat} {σ:Src} (hL:∀ b o,g.lab b o=none→L b o=none):∀ (t:Ty) (p q:Path) (i j i' j':Nat) (x:t.T) (b o:Nat),
  (own=true→∀ d s,d<t.size→σ (q++(i',j'+d)::s)=some (id,p++(i,j+d)::s,g.hd id vr (p++(i,j+d)::s)))→
  dO g w own id vr t de p i j x b o→df g L w own σ t q i' j' x (fun k=>w.cell? (ad b (o+k)))
 | .int _,p,q,i,j,i',j',x,b,o,fQ,h=>h
 | .bool,p,q,i,j,i',j',x,b,o,fQ,h=>h
 | .str,p,q,i,j,i',j',x,b,o,fQ,h=>h
 | .err,p,q,i,j,i',j',x,b,o,fQ,h=>h
 | .bW t,p,q,i,j,i',j',x,b,o,fQ,h=>by obtain ⟨v,h1,h2,h3⟩:=h;exact ⟨v,h1,iI (gq (fun b o hl v hv=>⟨hv,hL b o hl⟩) t) h2,h3⟩
 | .pair s t,p,q,i,j,i',j',x,b,o,fQ,h=>by
  refine ⟨pW hL s p q i j i' j' x.1 b o (fun ho d r hd=>fQ ho d r (by simp [Ty.size]; omega)) h.1,?_⟩;have:=pW hL t p q i (j+s.size) i' (j'+s.size) x.2 b (o+s.size) (fun ho d r hd=>by have:=fQ ho (s.size+d) r (by simp [Ty.size]; omega);simpa [cg] using this) h.2
  grind
 | .sl t,p,q,i,j,i',j',xs,b,o,fQ,h=>by
  cases own with
  | false=>
   obtain ⟨v,h1,h2⟩:=h;exact ⟨v,h1,iI (gq (fun b o hl v hv=>⟨hv,hL b o hl⟩) t) h2⟩
  | true=>
   rcases h with h | ⟨h1,h2⟩
   ·simp [de] at h
   have h0:=fQ rfl 0 [] (by simp [Ty.size]);simp only [eG] at h0;refine .inl ⟨id,p++[(i,j)],_,h0,by omega,?_⟩;obtain ⟨r1,r2,r3,r4⟩:=h2;refine ⟨r1,r2,r3,fun b o hb=>?_⟩;obtain ⟨r5,r6⟩:=r4 b o hb;refine ⟨r5,fun k hk=>?_⟩;refine pW hL t (p++[(i,j)]) (q++[(i',j')]) k 0 k 0 _ b _ (fun ho d s hd=>?_) (r6 k hk);have:=fQ rfl 0 ((k,0+d)::s) (by simp [Ty.size])
   grind
theorem qU {own:Bool} {σ τ:Src} : ∀ (t:Ty) (q:Path) (i j:Nat) (x:t.T) (f:Nat→Option Value),(∀ d s,d<t.size→τ (q++(i,j+d)::s)=σ (q++(i,j+d)::s))→
  df g L w own σ t q i j x f→df g L w own τ t q i j x f
 | .int _,q,i,j,x,f,hc,h=>h
 | .bool,q,i,j,x,f,hc,h=>h
 | .str,q,i,j,x,f,hc,h=>h
 | .err,q,i,j,x,f,hc,h=>h
 | .bW t,q,i,j,x,f,hc,h=>h
 | .pair s t,q,i,j,x,f,hc,h=>by
  refine ⟨qU s q i j x.1 f (fun d r hd=>hc d r (by simp [Ty.size]; omega)) h.1,qU t q i (j+s.size) x.2 _ (fun d r hd=>?_) h.2⟩;have:=hc (s.size+d) r (by simp [Ty.size]; omega)
  grind
 | .sl t,q,i,j,xs,f,hc,h=>by
  cases own with
  | false=>exact h
  | true=>
   have h0:=hc 0 [] (by simp [Ty.size]);simp only [eG] at h0;rcases h with ⟨id,p,hh,h1,h2,h3⟩ | ⟨h1,h2,h3⟩
   ·refine .inl ⟨id,p,hh,by grind,h2,?_⟩;obtain ⟨r1,r2,r3,r4⟩:=h3;refine ⟨r1,r2,r3,fun b o hb=>?_⟩;obtain ⟨r5,r6⟩:=r4 b o hb;refine ⟨r5,fun k hk=>qU t _ k 0 _ _ (fun d s hd=>?_) (r6 k hk)⟩;have:=hc 0 ((k,0+d)::s) (by simp [Ty.size])
    grind
   exact .inr ⟨by grind,h2,h3⟩
theorem km {own:Bool} {σ:Src} : ∀ (t:Ty) (q:Path) (i j:Nat) (x:t.T) (f f':Nat→Option Value),(∀ k,k<t.size→f' k=f k)→
  df g L w own σ t q i j x f→df g L w own σ t q i j x f'
 | .int _,q,i,j,x,f,f',hc,h=>by have:=hc 0 (by simp [Ty.size]); exact this.trans h
 | .bool,q,i,j,x,f,f',hc,h=>by have:=hc 0 (by simp [Ty.size]); exact this.trans h
 | .str,q,i,j,x,f,f',hc,h=>by have:=hc 0 (by simp [Ty.size]); exact this.trans h
 | .err,q,i,j,x,f,f',hc,h=>by obtain ⟨v,h1,h2⟩:=h;exact ⟨v,(hc 0 (by simp [Ty.size])).trans h1,h2⟩
 | .bW t,q,i,j,x,f,f',hc,h=>by obtain ⟨v,h1,h2⟩:=h;exact ⟨v,(hc 0 (by simp [Ty.size])).trans h1,h2⟩
 | .pair s t,q,i,j,x,f,f',hc,h=>by refine ⟨km s q i j x.1 f f' (fun k hk=>hc k (by simp [Ty.size]; omega)) h.1,km t q i (j+s.size) x.2 _ _ (fun k hk=>hc _ (by simp [Ty.size]; omega)) h.2⟩
 | .sl t,q,i,j,xs,f,f',hc,h=>by
  have h0:=hc 0 (by simp [Ty.size]);cases own with
  | false=>
   obtain ⟨v,h1,h2⟩:=h;exact ⟨v,h0.trans h1,h2⟩
  | true=>
   rcases h with ⟨id,p,hh,h1,h2,h3⟩ | ⟨h1,h2,h3⟩
   ·exact .inl ⟨id,p,hh,h1,h0.trans h2,h3⟩
   exact .inr ⟨h1,h0.trans h2,h3⟩
theorem BA {own:Bool} {id vr:Nat} (hL:∀ b o,g.lab b o=none→L b o=none) (hd:∀ b o p,g.lab b o=some (id,p)→L b o=none):∀ (t:Ty) (p:Path) (i j:Nat) (x:t.T) (b o:Nat),
  (∀ k,k<t.size→∃ q,g.lab b (o+k)=some (id,q))→dO g w own id vr t de p i j x b o→Sh L w t x b o
 | .int _,p,i,j,x,b,o,hl,h=>by obtain ⟨q,hq⟩:=hl 0 (by simp [Ty.size]); rw [eG] at hq;exact ⟨h,hd _ _ _ hq⟩
 | .bool,p,i,j,x,b,o,hl,h=>by obtain ⟨q,hq⟩:=hl 0 (by simp [Ty.size]); rw [eG] at hq;exact ⟨h,hd _ _ _ hq⟩
 | .str,p,i,j,x,b,o,hl,h=>by obtain ⟨q,hq⟩:=hl 0 (by simp [Ty.size]); rw [eG] at hq;exact ⟨h,hd _ _ _ hq⟩
 | .err,p,i,j,x,b,o,hl,h=>by obtain ⟨q,hq⟩:=hl 0 (by simp [Ty.size]); rw [eG] at hq;exact ⟨h,hd _ _ _ hq⟩
 | .bW t,p,i,j,x,b,o,hl,h=>by obtain ⟨q,hq⟩:=hl 0 (by simp [Ty.size]); rw [eG] at hq;obtain ⟨v,h1,h2,h3⟩:=h;exact ⟨⟨v,h1,iI (gq (fun b o hl v hv=>⟨hv,hL b o hl⟩) t) h2,h3⟩,hd _ _ _ hq⟩
 | .pair s t,p,i,j,x,b,o,hl,h=>by
  refine ⟨BA hL hd s p i j x.1 b o (fun k hk=>hl k (by simp [Ty.size]; omega)) h.1,BA hL hd t p i (j+s.size) x.2 b (o+s.size) (fun k hk=>?_) h.2⟩;have:=hl (s.size+k) (by simp [Ty.size]; omega)
  grind
 | .sl t,p,i,j,xs,b,o,hl,h=>by
  obtain ⟨q,hq⟩:=hl 0 (by simp [Ty.size]); rw [eG] at hq;cases own with
  | false=>
   obtain ⟨v,h1,h2⟩:=h;exact ⟨⟨v,h1,iI (gq (fun b o hl v hv=>⟨hv,hL b o hl⟩) t) h2⟩,hd _ _ _ hq⟩
  | true=>
   rcases h with h | ⟨h1,h2⟩
   ·simp [de] at h
   refine ⟨⟨_,h1,?_⟩,hd _ _ _ hq⟩;obtain ⟨r1,r2,r3,r4⟩:=h2;refine ⟨_,_,_,rfl,r1,r2,fun hn=>r3 (by simp_all),fun aG=>?_⟩;have hlen:0<xs.length:=kX.2 aG;cases ha:(g.hd id vr (p++[(i,j)])).addr with
   | none=>grind
   | some a=>
    obtain ⟨b',o'⟩:=a;obtain ⟨r5,r6⟩:=r4 b' o' ha;refine ⟨b',o',by simp,fun k hk=>BA hL hd t _ k 0 _ b' _ (fun d h_=>?_) (r6 k hk)⟩;have hle:(k+1)*t.size≤(g.hd id vr (p++[(i,j)])).cap*t.size:=fk _ (by omega);rw [dH] at hle;obtain ⟨a1,-,-⟩:=r5 (k*t.size+d) (by omega)
    grind
end
end Go.Am
namespace Go.Am
open Go
theorem yT:∀ {l:List Nat},nodupB l=true↔l.Nodup
 | []=>by simp [nodupB]
 | a::r=>by
  simp only [nodupB,aB,List.nodup_cons,yT (l:=r),Bool.not_eq_true'];constructor
  ·rintro ⟨h1,h2⟩;refine ⟨fun hm=>?_,h2⟩;have:r.any (aT a)=true:=List.any_eq_true.2 ⟨a,hm,by simp⟩
   grind
  rintro ⟨h1,h2⟩;refine ⟨?_,h2⟩;cases h:r.any (aT a) with
  | false=>rfl
  | true=>
   simp_all
theorem nO {u t:Ty} {xs:List u.T} {ys:List t.T} (h:Ty.cast (.sl u) (.sl t) xs=some ys):u=t∧HEq xs ys:=by
 unfold Ty.cast at h
 grind
structure Tk (u:List Nat) (σ:Src):Prop where
 ids:∀ p id p' h,σ p=some (id,p',h)→id∈u
 inj:u.Nodup→∀ p1 p2 id p' h1 h2,σ p1=some (id,p',h1)→σ p2=some (id,p',h2)→p1=p2
def ic (σ τ:Src):Src:=fun p=>match σ p with | some x=>some x | none=>τ p
theorem rX {σ τ:Src} {p:Path} {x:Nat×Path×Hd} (h:ic σ τ p=some x):σ p=some x∨(σ p=none∧τ p=some x):=by
 unfold ic at h
 grind
theorem Tk.or {u v:List Nat} {σ τ:Src} (h1:Tk u σ) (h2:Tk v τ):Tk (u++v) (ic σ τ):=by
 constructor
 ·intro p id p' h he;rcases rX he with he | ⟨-,he⟩
  ·exact lH _ (h1.ids _ _ _ _ he)
  exact wb _ (h2.ids _ _ _ _ he)
 intro hn p1 p2 id p' ha hb e1 e2;obtain ⟨n1,n2,n3⟩:=List.nodup_append.1 hn;rcases rX e1 with e1 | ⟨-,e1⟩<;>rcases rX e2 with e2 | ⟨-,e2⟩
 ·exact h1.inj n1 _ _ _ _ _ _ e1 e2
 ·exact absurd rfl (n3 _ (h1.ids _ _ _ _ e1) _ (h2.ids _ _ _ _ e2))
 ·exact absurd rfl (n3 _ (h1.ids _ _ _ _ e2) _ (h2.ids _ _ _ _ e1))
 exact h2.inj n2 _ _ _ _ _ _ e1 e2
def Mc (q:Path) (i j n:Nat) (σ:Src):Prop:=∀ p,σ p≠none→∃ d s,d<n∧p=q++(i,j+d)::s
def IF (q:Path) (i n:Nat) (σ:Src):Prop:=∀ p,σ p≠none→∃ k d s,k<n∧p=q++(i+k,d)::s
def cn:Src:=fun _=>none
theorem Tk.none {u:List Nat} : Tk u cn:=⟨fun _ _ _ _ h=>by simp [cn] at h,fun _ _ _ _ _ _ _ h=>by simp [cn] at h⟩
def strip:Path→Path→Option Path
 | [],p=>some p
 | a::q,b::p=>if a=b then strip q p else none
 | _::_,[]=>none
theorem Md:∀ (q s:Path),strip q (q++s)=some s
 | [],s=>rfl
 | a::q,s=>by simp [strip,Md q s]
theorem Fq:∀ {q p s:Path},strip q p=some s→p=q++s
 | [],p,s,h=>by simp [strip] at h; simpa using h
 | a::q,[],s,h=>by simp [strip] at h
 | a::q,b::p,s,h=>by
  simp only [strip] at h;split at h
  ·rename_i e; subst e; simp [Fq h]
  grind
def wholeAt (g:Gh) (id vr:Nat) (π:Path):Src:=fun p=>(strip π p).map fun s=>(id,s,Fp g id vr s)
theorem Sx {g:Gh} {id vr:Nat} {π s:Path} : wholeAt g id vr π (π++s)=some (id,s,Fp g id vr s):=by simp [wholeAt,Md]
theorem Tk.whole {g:Gh} {id vr:Nat} {π:Path} : Tk [id] (wholeAt g id vr π):=by
 constructor
 ·intro p aE p' h e;simp only [wholeAt,yx] at e
  grind
 intro _ p1 p2 aE p' h1 h2 e1 e2;simp only [wholeAt,yx] at e1 e2;obtain ⟨s1,e1,f1⟩:=e1;obtain ⟨s2,e2,f2⟩:=e2;have:s1=s2:=by simp at f1 f2; rw [f1.2.1,f2.2.1]
 subst this;rw [Fq e1,Fq e2]
def Dp (π:Path) (x:Nat×Path×Hd) (σ:Src):Src:=fun p=>if p=π then some x else σ p
section
variable {P:Program} {c:bd} {g:Gh} {L:b9} {w:World} {U:Nat→Prop} {sr:St}
theorem Dq {σ:Src} : ∀ (t:Ty) (q:Path) (i j:Nat) (x:t.T) (b o:Nat),(∀ k,k<t.size→L b (o+k)=none)→
  df g L w false σ t q i j x (fun k=>w.cell? (ad b (o+k)))→Sh L w t x b o
 | .int _,q,i,j,x,b,o,hl,h=>⟨h,by simpa using hl 0 (by simp [Ty.size])⟩
 | .bool,q,i,j,x,b,o,hl,h=>⟨h,by simpa using hl 0 (by simp [Ty.size])⟩
 | .str,q,i,j,x,b,o,hl,h=>⟨h,by simpa using hl 0 (by simp [Ty.size])⟩
 | .err,q,i,j,x,b,o,hl,h=>⟨h,by simpa using hl 0 (by simp [Ty.size])⟩
 | .sl _,q,i,j,x,b,o,hl,h=>⟨h,by simpa using hl 0 (by simp [Ty.size])⟩
 | .bW _,q,i,j,x,b,o,hl,h=>⟨h,by simpa using hl 0 (by simp [Ty.size])⟩
 | .pair s t,q,i,j,x,b,o,hl,h=>by
  refine ⟨Dq s q i j x.1 b o (fun k hk=>hl k (by simp [Ty.size]; omega)) h.1,Dq (σ:=σ) t q i (j+s.size) x.2 b (o+s.size) (fun k hk=>?_) ?_⟩
  ·rw [cg]; exact hl _ (by simp [Ty.size]; omega)
  simpa [cg] using h.2
def gB (g:Gh) (w:World) (U:Nat→Prop) (cs:List ah) (f:Nat→Option Value):Prop:=∀ k (h:k<cs.length),∃ v,f k=some v∧aV g w U cs[k] v
theorem gB.head {a:ah} {cs:List ah} {f:Nat→Option Value} (h:gB g w U (a::cs) f):∃ v,f 0=some v∧aV g w U a v:=h 0 (by simp)
theorem gB.drop {cs:List ah} {f:Nat→Option Value} (h:gB g w U cs f) (n:Nat):gB g w U (cs.drop n) (fun k=>f (n+k)):=by
 intro k hk;simp only [pH] at hk;obtain ⟨v,h1,h2⟩:=h (n+k) (by omega)
 grind
structure Z6 (g:Gh) (L:b9) (w:World) (own:Bool) (sr:St) (t:Ty) (q:Path) (i j:Nat) (x:t.T) (f:Nat→Option Value) (u:List Nat) (σ:Src):Prop where
 ow:df g L w own σ t q i j x f
 nP:Mc q i j t.size σ
 tk:Tk u σ
structure Z7 (g:Gh) (L:b9) (w:World) (own:Bool) (sr:St) (t:Ty) (n:Nat) (q:Path) (i:Nat) (xs:List t.T) (f:Nat→Option Value) (u:List Nat) (σ:Src):Prop where
 len:xs.length=n
 ow:∀ k (h:k<xs.length),df g L w own σ t q (i+k) 0 xs[k] (fun d=>f (k*t.size+d))
 nP:IF q i n σ
 tk:Tk u σ
theorem yU (hO:fA g w U sr) {id:Nat} {ro:List Bool} {cs:List ah} (h:sr.obj id=some (.cells ro cs)) :
  ∃ b o,g.hd id 0 []=⟨some (b,o),cs.length,cs.length⟩∧(∀ k,k<cs.length→g.lab b (o+k)=some (id,[])∧w.frozen? (ad b (o+k))=false)∧gB g w U cs (fun k=>w.cell? (ad b (o+k))):=by
 obtain ⟨-,-,b,o,h1,h2⟩:=hO id _ h;exact ⟨b,o,h1,fun k hk=>⟨(h2 k hk).1,(h2 k hk).2.1⟩,fun k hk=>(h2 k hk).2.2⟩
theorem Dr (hO:fA g w U sr) (hL:∀ b o,g.lab b o=none→L b o=none) (own:Bool):∀ d:Nat,
  (∀ (t:Ty) (cs:List ah) (x:t.T) (rest:List ah) (u:List Nat) (f:Nat→Option Value) (q:Path) (i j:Nat),gB g w U cs f→take sr own d t cs=some (x,rest,u)→
   (own=false→∀ id∈u,∀ b o p,g.lab b o=some (id,p)→L b o=none)→(∀ id∈u,sr.obj id≠none)∧t.size≤cs.length∧rest=cs.drop t.size∧∃ σ,Z6 g L w own sr t q i j x f u σ)∧
  (∀ (t:Ty) (n:Nat) (cs:List ah) (xs:List t.T) (u:List Nat) (f:Nat→Option Value) (q:Path) (i:Nat),gB g w U cs f→takeN sr own d t n cs=some (xs,u)→
   (own=false→∀ id∈u,∀ b o p,g.lab b o=some (id,p)→L b o=none)→(∀ id∈u,sr.obj id≠none)∧cs.length=n*t.size∧∃ σ,Z7 g L w own sr t n q i xs f u σ):=by
 intro d;induction d with
 | zero=>
  refine ⟨?_,?_⟩
  ·intro t cs x rest u f q i j hv e; cases t<;>simp [take] at e
  intro t n cs xs u f q i hv e; simp [takeN] at e
 | succ d ih=>
  obtain ⟨BC,yV⟩:=ih;refine ⟨?_,?_⟩
  ·intro t cs x rest u f q i j hv e gJ;cases t with
   | int k=>
    cases cs with
    | nil=>simp [take] at e
    | cons c cs=>
     cases c<;>simp only [take] at e<;>try (simp at e; done)
     rename_i n;split at e
     ·rename_i hk;obtain rfl:=pQ hk;simp only [aN,bS] at e;obtain ⟨rfl,rfl,rfl⟩:=e;obtain ⟨v,h1,rfl⟩:=hv.head;exact ⟨by simp,by simp [Ty.size],by simp [Ty.size],cn,h1,fun p hp=>absurd rfl hp,.none⟩
     simp at e
   | bool=>
    cases cs with
    | nil=>simp [take] at e
    | cons c cs=>
     cases c<;>simp only [take] at e<;>try (simp at e; done)
     simp only [aN,bS] at e;obtain ⟨rfl,rfl,rfl⟩:=e;obtain ⟨v,h1,rfl⟩:=hv.head;exact ⟨by simp,by simp [Ty.size],by simp [Ty.size],cn,h1,fun p hp=>absurd rfl hp,.none⟩
   | str=>
    cases cs with
    | nil=>simp [take] at e
    | cons c cs=>
     cases c<;>simp only [take] at e<;>try (grind)
     simp only [aN,bS] at e;obtain ⟨rfl,rfl,rfl⟩:=e;obtain ⟨v,h1,rfl⟩:=hv.head;exact ⟨by simp,by simp [Ty.size],by simp [Ty.size],cn,h1,fun p hp=>absurd rfl hp,.none⟩
   | err=>
    cases cs with
    | nil=>simp [take] at e
    | cons c cs=>
     cases c<;>simp only [take] at e<;>try (simp at e; done)
     simp only [aN,bS] at e;obtain ⟨rfl,rfl,rfl⟩:=e;obtain ⟨v,h1,h2⟩:=hv.head;exact ⟨by simp,by simp [Ty.size],by simp [Ty.size],cn,⟨v,h1,h2⟩,fun p hp=>absurd rfl hp,.none⟩
   | bW t=>cases cs<;>simp [take] at e
   | pair a b=>
    simp only [take] at e;split at e
    ·rename_i x1 r1 u1 e1;split at e
     ·rename_i x2 r2 u2 e2;simp only [aN,bS] at e;obtain ⟨rfl,rfl,rfl⟩:=e;obtain ⟨b1,b2,b3,eU,T1⟩:=BC a cs x1 r1 u1 f q i j hv e1 (fun ho id hi=>gJ ho id (lH _ hi));subst b3;obtain ⟨c1,c2,c3,wF,T2⟩:=BC b _ x2 _ u2 _ q i (j+a.size) (hv.drop a.size) e2 (fun ho id hi=>gJ ho id (wb _ hi));simp only [pH] at c2;refine ⟨?_,by simp only [Ty.size]; omega,by rw [c3,LM]; rfl,ic eU wF,⟨?_,?_⟩,?_,T1.tk.or T2.tk⟩
      ·intro id hi;rcases List.mem_append.1 hi with hi | hi
       ·exact b1 id hi
       exact c1 id hi
      ·refine qU a q i j x1 f (fun d s hd=>?_) T1.ow;unfold ic;split
       ·rename_i y hy; exact hy.symm
       rename_i hy;rw [hy];cases h2:wF (q++(i,j+d)::s) with
       | none=>rfl
       | some y=>
        obtain ⟨d',s',h_,he⟩:=T2.nP _ (by rw [h2]; simp);have:=ET he;simp at this; omega
      ·refine qU b q i (j+a.size) x2 _ (fun d s hd=>?_) T2.ow;unfold ic;split
       ·rename_i y hy;obtain ⟨d',s',h_,he⟩:=T1.nP _ (by rw [hy]; simp);have:=ET he;simp at this; omega
       rfl
      intro p hp;unfold ic at hp;cases h1:eU p with
      | some y=>
       obtain ⟨d',s',h_,he⟩:=T1.nP p (by rw [h1]; simp);exact ⟨d',s',by simp only [Ty.size]; omega,he⟩
      | none=>
       rw [h1] at hp;obtain ⟨d',s',h_,he⟩:=T2.nP p hp;exact ⟨a.size+d',s',by simp only [Ty.size]; omega,by rw [he,cg]⟩
     grind
    grind
   | sl t=>
    cases cs with
    | nil=>simp [take] at e
    | cons c cs=>
     obtain ⟨v,h1,h2⟩:=hv.head;cases c with
     | nil=>
      simp only [take,aN,bS] at e;obtain ⟨rfl,rfl,rfl⟩:=e;obtain rfl:=h2;refine ⟨by simp,by simp [Ty.size],by simp [Ty.size],cn,?_,fun p hp=>absurd rfl hp,.none⟩;cases own with
      | true=>exact .inr ⟨rfl,h1,rfl⟩
      | false=>exact ⟨_,h1,none,0,0,rfl,rfl,cx _,fun _=>rfl,fun hn=>absurd rfl hn⟩
     | sh u' ys=>
      simp only [take] at e;cases own with
      | true=>simp at e
      | false=>
       simp only at e;split at e
       ·rename_i hz;simp only [aN,bS] at e;obtain ⟨rfl,rfl,rfl⟩:=e;obtain ⟨rfl,hz⟩:=nO hz;obtain rfl:=eq_of_heq hz;exact ⟨by simp,by simp [Ty.size],by simp [Ty.size],cn,⟨_,h1,iI (gq (fun b o hl v hv=>⟨hv,hL b o hl⟩) _) h2⟩,fun p hp=>absurd rfl hp,.none⟩
       grind
     | fJ id off len sz=>
      cases off with
      | succ off=>simp [take] at e
      | zero=>
       simp only [take] at e;split at e
       ·rename_i eo ho;split at e
        ·rename_i hb;rw [aB] at hb;obtain ⟨gG,eK⟩:=hb;obtain rfl:=bB gG;have eK:=bB eK;split at e
         ·rename_i ys u' e';replace e:=aZ e;injection e with hx e;injection e with hr hu;subst hr hu;subst hx;obtain ⟨-,-,a,c,rfl,BD,fx,b,o,ha,lh⟩:=h2;obtain ⟨b',o',hh,dr,oT⟩:=yU hO ho;have lh:=lh (.inr rfl);rw [hh] at ha fx;simp only [aN,bS] at ha;obtain ⟨rfl,rfl⟩:=ha;simp only [kg,Nat.zero_mul,eG] at fx lh;have fG:=t.size_pos;obtain rfl:c=len:=Nat.eq_of_mul_eq_mul_right fG (by rw [fx,eK]);subst lh;obtain ⟨b1,b2,BE,T⟩:=yV t c eo ys u' _ (q++[(i,j)]) 0 oT e' (fun ho id hi=>gJ ho id (kD _ hi));have Z8:∀ p,BE p≠none→∃ k d s,p=q++(i,j)::(k,d)::s:=by intro p hp;obtain ⟨k,d,s,-,he⟩:=T.nP p hp;exact ⟨_,_,_,by simpa using he⟩
          refine ⟨?_,by simp [Ty.size],by simp [Ty.size],Dp (q++[(i,j)]) (id,[],⟨some (b',o'),c,c⟩) BE,?_,?_,?_,?_⟩
          ·intro aE hi;rcases List.mem_cons.1 hi with rfl | hi
           ·grind
           grind
          ·cases own with
           | true=>
            refine .inl ⟨id,[],⟨some (b',o'),c,c⟩,by simp [Dp],by simpa [Hd.val] using h1,T.len.symm,cx _,by simp,fun b o IG=>?_⟩;simp only [aN,bS] at IG;obtain ⟨rfl,rfl⟩:=IG;refine ⟨fun k hk=>?_,fun k hk=>?_⟩
            ·have hk:k<eo.length:=by rw [← eK]; exact hk
             obtain ⟨v,hv,-⟩:=oT k hk;have hv:w.cell? (ad b' (o'+k))=some v:=hv;exact ⟨(dr k hk).1,by grind,(dr k hk).2⟩
            have:=T.ow k hk;rw [kg] at this;refine qU t _ k 0 _ _ (fun d s hd=>?_) (by simpa [cg] using this);unfold Dp;rw [if_neg];simp
           | false=>
            refine ⟨_,h1,some (ad b' o'),c,c,rfl,T.len.symm,cx _,by simp,fun aG=>⟨b',o',rfl,fun k hk=>?_⟩⟩;have:=T.ow k hk;refine Dq (σ:=BE) t _ _ _ _ b' (o'+k*t.size) (fun d hd=>?_) (by simpa [cg] using this);have aF:k*t.size+d<eo.length:=by rw [← eK,← T.len];have:(k+1)*t.size≤ys.length*t.size:=fk _ (by omega);rw [dH] at this; omega
            rw [cg];exact gJ rfl id (by simp) _ _ _ (dr _ aF).1
          ·intro p hp;unfold Dp at hp;split at hp
           ·rename_i he;exact ⟨0,[],by simp [Ty.size],by simpa using he⟩
           obtain ⟨k,d,s,he⟩:=Z8 p hp;exact ⟨0,(k,d)::s,by simp [Ty.size],by simpa using he⟩
          ·intro p aE p' h he;unfold Dp at he;split at he
           ·simp at he; simp [he.1]
           exact kD _ (T.tk.ids _ _ _ _ he)
          intro hn p1 p2 aE p' k1 k2 e1 e2;obtain ⟨n1,n2⟩:=List.nodup_cons.1 hn;unfold Dp at e1 e2;split at e1<;>split at e2
          ·rename_i g1 g2; rw [g1,g2]
          ·simp at e1; exact absurd (T.tk.ids _ _ _ _ e2) (by rw [← e1.1]; exact n1)
          ·simp at e2; exact absurd (T.tk.ids _ _ _ _ e1) (by rw [← e2.1]; exact n1)
          exact T.tk.inj n2 _ _ _ _ _ _ e1 e2
         grind
        grind
       grind
     | own id ver p tt=>
      cases p with
      | cons a p=>simp [take] at e
      | nil=>
       simp only [take] at e;split at e
       ·rename_i o u' vr xs ho;split at e
        ·simp at e
        rename_i yy;split at e
        ·rename_i ys hz;simp only [aN,bS] at e;obtain ⟨rfl,rfl,rfl⟩:=e;obtain ⟨rfl,hz⟩:=nO hz;obtain rfl:=eq_of_heq hz;obtain ⟨-,-,-,-,qV,rfl⟩:=h2;obtain rfl:=qV rfl;obtain ⟨-,-,-,hR⟩:=hO id _ ho;obtain ⟨r1,r2,r3,r4⟩:=hR;cases own with
         | true=>
          have iJ:o=true:=by cases o<;>simp_all
          subst iJ;have hw:=Sx (g:=g) (id:=id) (vr:=vr) (π:=q++[(i,j)]) (s:=[]);rw [List.append_nil] at hw;refine ⟨by simp [ho],by simp [Ty.size],by simp [Ty.size],wholeAt g id vr (q++[(i,j)]),.inl ⟨id,[],g.hd id 0 [],hw,h1,r1,r2,r3,fun b o IG=>?_⟩,?_,.whole⟩
          ·obtain ⟨r5,r6⟩:=r4 b o IG;refine ⟨r5,fun k hk=>pW hL u' [] _ k 0 k 0 _ b _ (fun _ d s hd=>?_) (r6 k hk)⟩;rw [Sx]; rfl
          intro p hp;simp only [wholeAt,ne_eq,Option.map_eq_none_iff] at hp;cases hs:strip (q++[(i,j)]) p with
          | none=>exact absurd hs hp
          | some s=>exact ⟨0,s,by simp [Ty.size],by simpa using Fq hs⟩
         | false=>
          have hd:=gJ rfl id (by simp);refine ⟨by simp [ho],by simp [Ty.size],by simp [Ty.size],cn,⟨_,h1,_,_,_,rfl,r1,r2,fun hn=>r3 (by simpa using hn),fun aG=>?_⟩,fun p hp=>absurd rfl hp,.none⟩;have hlen:0<xs.length:=kX.2 aG;cases ha:(g.hd id 0 []).addr with
          | none=>have:=r3 ha; omega
          | some a=>
           obtain ⟨b',o'⟩:=a;obtain ⟨r5,r6⟩:=r4 b' o' ha;refine ⟨b',o',by simp,fun k hk=>BA hL hd u' _ k 0 _ b' _ (fun d h_=>?_) (r6 k hk)⟩;have hle:(k+1)*u'.size≤(g.hd id 0 []).cap*u'.size:=fk _ (by omega);rw [dH] at hle;obtain ⟨a1,-,-⟩:=r5 (k*u'.size+d) (by omega);exact ⟨_,by rw [cg]; exact a1⟩
        grind
       grind
     | _=>simp [take] at e
  intro t n cs xs u f q i hv e gJ;cases n with
  | zero=>
   cases cs with
   | cons c cs=>simp [takeN] at e
   | nil=>
    simp only [takeN,aN,bS] at e;obtain ⟨rfl,rfl⟩:=e;exact ⟨by simp,by simp,cn,rfl,fun k hk=>by simp at hk,fun p hp=>absurd rfl hp,.none⟩
  | succ n=>
   simp only [takeN] at e;split at e
   ·rename_i x r1 u1 e1;split at e
    ·rename_i ys u2 e2;simp only [aN,bS] at e;obtain ⟨rfl,rfl⟩:=e;obtain ⟨b1,b2,b3,eU,T1⟩:=BC t cs x r1 u1 f q i 0 hv e1 (fun ho id hi=>gJ ho id (lH _ hi));subst b3;obtain ⟨c1,c2,wF,T2⟩:=yV t n _ ys u2 _ q (i+1) (hv.drop t.size) e2 (fun ho id hi=>gJ ho id (wb _ hi));simp only [pH] at c2;have Z9:∀ k d s,0<k→eU (q++(i+k,d)::s)=none:=by
      intro k d s hk;cases h1:eU (q++(i+k,d)::s) with
      | none=>rfl
      | some y=>
       obtain ⟨d',s',-,he⟩:=T1.nP _ (by rw [h1]; simp);have:=ET he;simp at this; omega
     have Lj:∀ d s,wF (q++(i,d)::s)=none:=by
      intro d s;cases h1:wF (q++(i,d)::s) with
      | none=>rfl
      | some y=>
       obtain ⟨k',d',s',-,he⟩:=T2.nP _ (by rw [h1]; simp);have:=ET he;simp at this; omega
     refine ⟨?_,by rw [dH]; omega,ic eU wF,by simp [T2.len],?_,?_,T1.tk.or T2.tk⟩
     ·intro id hi;rcases List.mem_append.1 hi with hi | hi
      ·grind
      grind
     ·intro k hk;cases k with
      | zero=>
       refine qU t q _ 0 _ _ (fun d s hd=>?_) (by simpa using T1.ow);unfold ic;split
       ·grind
       grind
      | succ k=>
       have:=T2.ow k (by simpa using hk);refine qU t q _ 0 _ _ (fun d s hd=>?_) (km t q _ 0 _ _ _ (fun m hm=>?_) (by
        have e3:i+1+k=i+(k+1):=by omega
        rw [e3] at this; exact this))
       ·unfold ic;rw [Z9 (k+1) _ _ (by omega)]
       grind
     intro p hp;unfold ic at hp;cases h1:eU p with
     | some y=>
      obtain ⟨d',s',h_,he⟩:=T1.nP p (by rw [h1]; simp);exact ⟨0,_,s',by omega,he⟩
     | none=>
      rw [h1] at hp;obtain ⟨k,d',s',h_,he⟩:=T2.nP p hp;exact ⟨k+1,d',s',by omega,by rw [he]; congr 3; omega⟩
    grind
   grind
end
end Go.Am
namespace Go.Am
open Go
theorem jK {α β γ:Type} {a a':α} {b b':β} {c c':γ} (h:some (a,b,c)=some (a',b',c')):a=a'∧b=b'∧c=c':=by grind
section
variable {P:Program} {c:bd} {g:Gh} {w w':World} {U:Nat→Prop} {sr:St}
structure Kept (g:Gh) (w w':World) (id:Nat) (π:Path):Prop where
 cells:∀ b o p,g.lab b o=some (id,p)→p≠π→w'.cell? (ad b o)=w.cell? (ad b o)
 frozen:∀ b o,w'.frozen? (ad b o)=w.frozen? (ad b o)
 shr:∀ b o,g.lab b o=none→∀ v,w.cell? (ad b o)=some v→w'.cell? (ad b o)=some v
 Fs:∀ b o,(w.cell? (ad b o)).isSome=true→(w'.cell? (ad b o)).isSome=true
theorem Kept.sh {id:Nat} {π:Path} (K:Kept g w w' id π) {t:Ty} {xs:List t.T} {v:Value} (h:hZ t.size (Sh g.lab w t) xs v):hZ t.size (Sh g.lab w' t) xs v:=
 iI (gq (fun b o hl v hv=>⟨K.shr b o hl v hv,hl⟩) t) h
theorem pX {own:Bool} {id vr:Nat} {π:Path} (K:Kept g w w' id π):∀ (t:Ty) (sk:Nat→Nat→Bool) (p:Path) (i j:Nat) (x:t.T) (b o:Nat),
  (∀ k,k<t.size→w'.cell? (ad b (o+k))=w.cell? (ad b (o+k)))→(∀ d s,d<t.size→p++(i,j+d)::s≠π)→dO g w own id vr t sk p i j x b o→dO g w' own id vr t sk p i j x b o
 | .int _,sk,p,i,j,x,b,o,hc,hp,h=>by have:=hc 0 (by simp [Ty.size]); exact this.trans h
 | .bool,sk,p,i,j,x,b,o,hc,hp,h=>by have:=hc 0 (by simp [Ty.size]); exact this.trans h
 | .str,sk,p,i,j,x,b,o,hc,hp,h=>by have:=hc 0 (by simp [Ty.size]); exact this.trans h
 | .err,sk,p,i,j,x,b,o,hc,hp,h=>by obtain ⟨v,h1,h2⟩:=h;exact ⟨v,(hc 0 (by simp [Ty.size])).trans h1,h2⟩
 | .bW t,sk,p,i,j,x,b,o,hc,hp,h=>by obtain ⟨v,h1,h2,h3⟩:=h;exact ⟨v,(hc 0 (by simp [Ty.size])).trans h1,K.sh h2,h3⟩
 | .pair s t,sk,p,i,j,x,b,o,hc,hp,h=>by
  refine ⟨pX K s sk p i j x.1 b o (fun k hk=>hc k (by simp [Ty.size]; omega)) (fun d r hd=>hp d r (by simp [Ty.size]; omega)) h.1,
   pX K t sk p i (j+s.size) x.2 b (o+s.size) (fun k hk=>?_) (fun d r hd=>?_) h.2⟩
  ·rw [cg]; exact hc _ (by simp [Ty.size]; omega)
  rw [cg]; exact hp _ r (by simp [Ty.size]; omega)
 | .sl t,sk,p,i,j,xs,b,o,hc,hp,h=>by
  have h0:=hc 0 (by simp [Ty.size]);rw [eG] at h0;cases own with
  | false=>
   obtain ⟨v,h1,h2⟩:=h;exact ⟨v,h0.trans h1,K.sh h2⟩
  | true=>
   rcases h with h | ⟨h1,r1,r2,r3,r4⟩
   ·exact .inl h
   have aG:p++[(i,j)]≠π:=hp 0 [] (by simp [Ty.size]);refine .inr ⟨h0.trans h1,r1,r2,r3,fun b o hb=>?_⟩;obtain ⟨r5,r6⟩:=r4 b o hb;refine ⟨fun k hk=>?_,fun k hk=>?_⟩
   ·obtain ⟨a1,a2,a3⟩:=r5 k hk;exact ⟨a1,K.Fs _ _ a2,by rw [K.frozen]; exact a3⟩
   refine pX K t _ _ k 0 _ b _ (fun d hd=>?_) (fun d s hd=>?_) (r6 k hk)
   ·have hle:(k+1)*t.size≤(g.hd id vr (p++[(i,j)])).cap*t.size:=fk _ (by omega);rw [dH] at hle;obtain ⟨a1,-,-⟩:=r5 (k*t.size+d) (by omega);rw [← cg] at a1;exact K.cells _ _ _ a1 aG
   have:=hp 0 ((k,0+d)::s) (by simp [Ty.size])
   grind
theorem II {own u7:Bool} {d:Nat} {id vr i j:Nat} {π:Path} {t:Ty} {v:ah} {y:t.T} {r:List ah} {u:List Nat} {z:Value} {b o:Nat}
  (ht:(∃ k,t = .int k)∨t = .bool∨t = .str∨t = .err) (e:take sr u7 d t [v]=some (y,r,u)) (hz:aV g w U v z) (hw:w'.cell? (ad b o)=some z):dO g w' own id vr t de π i j y b o:=by
 cases d with
 | zero=>cases t<;>simp [take] at e
 | succ d=>
  rcases ht with ⟨k,rfl⟩ | rfl | rfl | rfl<;>cases v<;>simp only [take] at e<;>try grind
  ·split at e
   ·rename_i hk;obtain rfl:=pQ hk;obtain ⟨rfl,-,-⟩:=jK e;obtain rfl:=hz;exact hw
   grind
  ·obtain ⟨rfl,-,-⟩:=jK e;obtain rfl:=hz;exact hw
  ·obtain ⟨rfl,-,-⟩:=jK e;obtain rfl:=hz;exact hw
  obtain ⟨rfl,-,-⟩:=jK e;exact ⟨z,hw,hz⟩
theorem aaa {own:Bool} {id vr lo:Nat} {vs:List ah} {f:Nat→Option Value} {π:Path} (K:Kept g w w' id π) (hv:gB g w U vs f):∀ (d:Nat) (t:Ty) (i j:Nat) (x y:t.T) (u:List Nat) (b o:Nat),
  (∀ k,k<t.size→lo≤j+k→j+k<lo+vs.length→w'.cell? (ad b (o+k))=f (j+k-lo))→(∀ k,k<t.size→¬ (lo≤j+k∧j+k<lo+vs.length)→w'.cell? (ad b (o+k))=w.cell? (ad b (o+k)))→
  me sr own d t x j lo vs=some (y,u,false)→dO g w own id vr t de π i j x b o→dO g w' own id vr t de π i j y b o:=by
 intro d;induction d with
 | zero=>intro t i j x y u b o hc hk e; cases t<;>simp [me] at e
 | succ d ih=>
  intro t i j x y u b o hc hk e h;cases t with
  | pair s t=>
   simp only [me] at e;split at e
   ·rename_i y1 u1 _ e1;split at e
    ·rename_i y2 u2 _ e2;obtain ⟨hy,hu,hh⟩:=jK e;rw [Bool.or_eq_false_iff] at hh;obtain ⟨rfl,rfl⟩:=hh;subst hy hu;refine ⟨ih s i j x.1 y1 u1 b o (fun k cO=>hc k (by simp [Ty.size]; omega)) (fun k cO=>hk k (by simp [Ty.size]; omega)) e1 h.1,
      ih t i (j+s.size) x.2 y2 u2 b (o+s.size) (fun k cO=>?_) (fun k cO=>?_) e2 h.2⟩
     ·have:=hc (s.size+k) (by simp [Ty.size]; omega)
      grind
     have:=hk (s.size+k) (by simp [Ty.size]; omega)
     grind
    grind
   grind
  | sl t=>
   simp only [me] at e;split at e
   ·rename_i hb;obtain ⟨kH,-,-⟩:=jK e;subst kH;refine pX K _ _ _ _ _ _ b o (fun k cO=>hk k cO ?_) (fun d s hd=>by simp_all) h;intro Ft;have pY:k=0:=by simp [Ty.size] at cO; exact cO
    subst pY;have:(fR lo j&&cS j (lo+vs.length))=true:=by simp [eH]; omega
    grind
   grind
  | bW t=>
   simp only [me] at e;split at e
   ·rename_i hb;obtain ⟨kH,-,-⟩:=jK e;subst kH;refine pX K _ _ _ _ _ _ b o (fun k cO=>hk k cO ?_) (fun d s hd=>by simp_all) h;intro Ft;have pY:k=0:=by simp [Ty.size] at cO; exact cO
    subst pY;have:(fR lo j&&cS j (lo+vs.length))=true:=by simp [eH]; omega
    grind
   grind
  | int k=>
   simp only [me] at e;split at e
   ·rename_i hb;obtain ⟨kH,-,-⟩:=jK e;subst kH;refine pX K _ _ _ _ _ _ b o (fun k cO=>hk k cO ?_) (fun d s hd=>by simp_all) h;intro Ft;have pY:k=0:=by simp [Ty.size] at cO; exact cO
    subst pY;have:(fR lo j&&cS j (lo+vs.length))=true:=by simp [eH]; omega
    grind
   rename_i hb;simp only [aB,Ia,eH] at hb;split at e
   ·rename_i v r hd;split at e
    ·rename_i y' r' u' ht;obtain ⟨kH,-,-⟩:=jK e;subst kH;have aF:j-lo<vs.length:=by omega
     have mV:vs[j-lo]=v:=by have:=congrArg (fun l=>l[0]?) hd;simpa [eX aF] using this
     obtain ⟨z,pZ,iT⟩:=hv (j-lo) aF;rw [mV] at iT;have hw:=hc 0 (by simp [Ty.size]) (by omega) (by omega);simp only [eG] at hw;rw [pZ] at hw;exact II (.inl ⟨k,rfl⟩) ht iT hw
    grind
   grind
  | bool=>
   simp only [me] at e;split at e
   ·rename_i hb;obtain ⟨kH,-,-⟩:=jK e;subst kH;refine pX K _ _ _ _ _ _ b o (fun k cO=>hk k cO ?_) (fun d s hd=>by simp_all) h;intro Ft;have pY:k=0:=by simp [Ty.size] at cO; exact cO
    subst pY;have:(fR lo j&&cS j (lo+vs.length))=true:=by simp [eH]; omega
    grind
   rename_i hb;simp only [aB,Ia,eH] at hb;split at e
   ·rename_i v r hd;split at e
    ·rename_i y' r' u' ht;obtain ⟨kH,-,-⟩:=jK e;subst kH;have aF:j-lo<vs.length:=by omega
     have mV:vs[j-lo]=v:=by have:=congrArg (fun l=>l[0]?) hd;simpa [eX aF] using this
     obtain ⟨z,pZ,iT⟩:=hv (j-lo) aF;rw [mV] at iT;have hw:=hc 0 (by simp [Ty.size]) (by omega) (by omega);simp only [eG] at hw;rw [pZ] at hw;exact II (.inr (.inl rfl)) ht iT hw
    grind
   grind
  | str=>
   simp only [me] at e;split at e
   ·rename_i hb;obtain ⟨kH,-,-⟩:=jK e;subst kH;refine pX K _ _ _ _ _ _ b o (fun k cO=>hk k cO ?_) (fun d s hd=>by simp_all) h;intro Ft;have pY:k=0:=by simp [Ty.size] at cO; exact cO
    subst pY;have:(fR lo j&&cS j (lo+vs.length))=true:=by simp [eH]; omega
    grind
   rename_i hb;simp only [aB,Ia,eH] at hb;split at e
   ·rename_i v r hd;split at e
    ·rename_i y' r' u' ht;obtain ⟨kH,-,-⟩:=jK e;subst kH;have aF:j-lo<vs.length:=by omega
     have mV:vs[j-lo]=v:=by have:=congrArg (fun l=>l[0]?) hd;simpa [eX aF] using this
     obtain ⟨z,pZ,iT⟩:=hv (j-lo) aF;rw [mV] at iT;have hw:=hc 0 (by simp [Ty.size]) (by omega) (by omega);simp only [eG] at hw;rw [pZ] at hw;exact II (.inr (.inr (.inl rfl))) ht iT hw
    grind
   grind
  | err=>
   simp only [me] at e;split at e
   ·rename_i hb;obtain ⟨kH,-,-⟩:=jK e;subst kH;refine pX K _ _ _ _ _ _ b o (fun k cO=>hk k cO ?_) (fun d s hd=>by simp_all) h;intro Ft;have pY:k=0:=by simp [Ty.size] at cO; exact cO
    subst pY;have:(fR lo j&&cS j (lo+vs.length))=true:=by simp [eH]; omega
    grind
   rename_i hb;simp only [aB,Ia,eH] at hb;split at e
   ·rename_i v r hd;split at e
    ·rename_i y' r' u' ht;obtain ⟨kH,-,-⟩:=jK e;subst kH;have aF:j-lo<vs.length:=by omega
     have mV:vs[j-lo]=v:=by have:=congrArg (fun l=>l[0]?) hd;simpa [eX aF] using this
     obtain ⟨z,pZ,iT⟩:=hv (j-lo) aF;rw [mV] at iT;have hw:=hc 0 (by simp [Ty.size]) (by omega) (by omega);simp only [eG] at hw;rw [pZ] at hw;exact II (.inr (.inr (.inr rfl))) ht iT hw
    grind
   grind
theorem aab {own:Bool} {id hv vr:Nat} {u:Ty} {π:Path} {ys:List u.T} {i:Nat} {y:u.T} (K:Kept g w w' id π) (h:eZ g w own id hv vr u de π ys)
  (hc:∀ b o,(g.hd id hv π).addr=some (b,o)→∀ k,¬ (i*u.size≤k∧k<i*u.size+u.size)→g.lab b (o+k)=some (id,π)→w'.cell? (ad b (o+k))=w.cell? (ad b (o+k)))
  (hy:∀ b o (hi:i<ys.length),(g.hd id hv π).addr=some (b,o)→dO g w own id vr u de π i 0 ys[i] b (o+i*u.size)→dO g w' own id vr u de π i 0 y b (o+i*u.size)) :
  eZ g w' own id hv vr u de π (ys.set i y):=by
 obtain ⟨r1,r2,r3,r4⟩:=h;refine ⟨by rw [yJ]; exact r1,r2,r3,fun b o hb=>?_⟩;obtain ⟨r5,r6⟩:=r4 b o hb;refine ⟨fun k hk=>?_,fun k hk=>?_⟩
 ·obtain ⟨a1,a2,a3⟩:=r5 k hk;exact ⟨a1,K.Fs _ _ a2,by rw [K.frozen]; exact a3⟩
 rw [yJ] at hk;by_cases tz:i=k
 ·grind
 rw [RT tz];refine pX K u _ _ k 0 _ b _ (fun d hd=>?_) (fun d s hd=>by simp_all) (r6 k hk);have hle:(k+1)*u.size≤(g.hd id hv π).cap*u.size:=fk _ (by omega);rw [dH] at hle;obtain ⟨a1,-,-⟩:=r5 (k*u.size+d) (by omega);rw [cg];refine hc b o hb _ ?_ a1;rintro ⟨h1,h2⟩;rcases Nat.lt_or_gt_of_ne tz with h | h
 ·have:(i+1)*u.size≤k*u.size:=fk _ h
  grind
 have:(k+1)*u.size≤i*u.size:=fk _ h
 grind
theorem Sy (s t:Ty) (x:(Ty.pair s t).T) (m:Nat) (F:(u:Ty)→List u.T→Option (List u.T)):tl (.pair s t) x m F=(match cS m s.size with
  | true=>match tl s x.1 m F with | some y=>some (y,x.2) | none=>none
  | false=>match tl t x.2 (m-s.size) F with | some y=>some (x.1,y) | none=>none):=rfl
theorem Sz (t:Ty) (x:(Ty.sl t).T) (F:(u:Ty)→List u.T→Option (List u.T)):tl (.sl t) x 0 F=F t x:=rfl
theorem SA (t:Ty) (x:(Ty.sl t).T) (m:Nat) (F:(u:Ty)→List u.T→Option (List u.T)):tl (.sl t) x (m+1) F=none:=rfl
theorem Me {id vr:Nat} {π:Path} (K:Kept g w w' id π):∀ (t:Ty) (p:Path) (i j:Nat) (x y:t.T) (b o m:Nat) (F:(u:Ty)→List u.T→Option (List u.T)),
  (∀ k,k<t.size→w'.cell? (ad b (o+k))=w.cell? (ad b (o+k)))→(∀ d s,d<t.size→d≠m→p++(i,j+d)::s≠π)→
  (∀ u ys BF,eZ g w true id vr vr u de (p++[(i,j+m)]) ys→F u ys=some BF→eZ g w' true id vr vr u de (p++[(i,j+m)]) BF)→
  tl t x m F=some y→dO g w true id vr t de p i j x b o→dO g w' true id vr t de p i j y b o
 | .pair s t,p,i,j,x,y,b,o,m,F,hc,hp,hF,e,h=>by
  rw [Sy] at e;split at e
  ·rename_i hb;have hb:m<s.size:=by simpa [eH] using hb
   split at e
   ·rename_i y1 e1;obtain rfl:=aZ e;refine ⟨Me K s p i j x.1 y1 b o m F (fun k hk=>hc k (by simp [Ty.size]; omega)) (fun d r hd=>hp d r (by simp [Ty.size]; omega)) hF e1 h.1,?_⟩;refine pX K t _ p i (j+s.size) x.2 b (o+s.size) (fun k hk=>?_) (fun d r hd=>?_) h.2
    ·rw [cg]; exact hc _ (by simp [Ty.size]; omega)
    rw [cg]; exact hp _ r (by simp [Ty.size]; omega) (by omega)
   grind
  rename_i hb;have hb:¬ m<s.size:=by
   intro aF;have:cS m s.size=true:=by simpa [eH] using aF
   rw [this] at hb; exact absurd hb (by simp)
  split at e
  ·rename_i y1 e1;obtain rfl:=aZ e;refine ⟨pX K s _ p i j x.1 b o (fun k hk=>hc k (by simp [Ty.size]; omega)) (fun d r hd=>hp d r (by simp [Ty.size]; omega) (by omega)) h.1,?_⟩;refine Me K t p i (j+s.size) x.2 y1 b (o+s.size) (m-s.size) F (fun k hk=>?_) (fun d r hd aG=>?_) ?_ e1 h.2
   ·rw [cg]; exact hc _ (by simp [Ty.size]; omega)
   ·rw [cg]; exact hp _ r (by simp [Ty.size]; omega) (by omega)
   grind
  grind
 | .sl t,p,i,j,x,y,b,o,m,F,hc,hp,hF,e,h=>by
  cases m with
  | succ m=>rw [SA] at e; simp at e
  | zero=>
   rw [Sz] at e;have h0:=hc 0 (by simp [Ty.size]);rw [eG] at h0;rcases h with h | ⟨h1,h2⟩
   ·simp [de] at h
   exact .inr ⟨h0.trans h1,hF t x y h2 e⟩
 | .int _,_,_,_,_,_,_,_,m,_,_,_,_,e,_=>by cases m<;>(have e:none=some _:=e; simp at e)
 | .bool,_,_,_,_,_,_,_,m,_,_,_,_,e,_=>by cases m<;>(have e:none=some _:=e; simp at e)
 | .str,_,_,_,_,_,_,_,m,_,_,_,_,e,_=>by cases m<;>(have e:none=some _:=e; simp at e)
 | .err,_,_,_,_,_,_,_,m,_,_,_,_,e,_=>by cases m<;>(have e:none=some _:=e; simp at e)
 | .bW _,_,_,_,_,_,_,_,m,_,_,_,_,e,_=>by cases m<;>(have e:none=some _:=e; simp at e)
theorem SB {id vr:Nat} : ∀ (q:Path) (t:Ty) (p:Path) (xs l8:List t.T) (F:(u:Ty)→List u.T→Option (List u.T)),Kept g w w' id (p++q)→
  (∀ u ys BF,eZ g w true id (ko (p++q) vr) vr u de (p++q) ys→F u ys=some BF→eZ g w' true id (ko (p++q) vr) vr u de (p++q) BF)→
  yK t xs q F=some l8→eZ g w true id (ko p vr) vr t de p xs→eZ g w' true id (ko p vr) vr t de p l8
 | [],t,p,xs,l8,F,K,hF,e,h=>by
  simp only [yK] at e
  grind
 | (i,j)::q,t,p,xs,l8,F,K,hF,e,h=>by
  simp only [yK] at e;split at e
  ·rename_i y e1;obtain rfl:=aZ e;obtain ⟨r1,r2,r3,r4⟩:=h;refine ⟨by rw [yJ]; exact r1,r2,r3,fun b o hb=>?_⟩;obtain ⟨r5,r6⟩:=r4 b o hb;have aG:p≠p++(i,j)::q:=by intro he; have:=congrArg mK he; simp at this
   refine ⟨fun k hk=>?_,fun k hk=>?_⟩
   ·obtain ⟨a1,a2,a3⟩:=r5 k hk;exact ⟨a1,K.Fs _ _ a2,by rw [K.frozen]; exact a3⟩
   rw [yJ] at hk;have oE:∀ d,d<t.size→w'.cell? (ad b (o+k*t.size+d))=w.cell? (ad b (o+k*t.size+d)):=by intro d hd;have hle:(k+1)*t.size≤(g.hd id (ko p vr) p).cap*t.size:=fk _ (by omega);rw [dH] at hle;obtain ⟨a1,-,-⟩:=r5 (k*t.size+d) (by omega);rw [← cg] at a1;exact K.cells _ _ _ a1 aG
   by_cases tz:i=k
   ·subst tz;rw [Ze];have h6:=r6 i hk;rw [← wD hk] at h6;refine Me K t p i 0 _ y b _ j _ oE (fun d s hd hdj=>?_) (fun u ys BF hu he=>?_) e1 h6
    ·simp_all
    rw [kg] at hu ⊢;have Zy:ko (p++[(i,j)]) vr=vr:=by cases p<;>rfl
    have K':Kept g w w' id ((p++[(i,j)])++q):=by simpa using K
    have:=SB q u (p++[(i,j)]) ys BF F K' (by simpa using hF) he (by grind)
    grind
   rw [RT tz];refine pX K t _ p k 0 _ b _ oE (fun d s hd=>?_) (r6 k hk);intro he;simp_all
  grind
end
end Go.Am
namespace Go.Am
open Go
theorem Ds {α:Type} {id aE:Nat} {x:α} (h:(look [(id,x)] aE).isSome=true):aE=id:=by
 simp only [look] at h;split at h
 ·simp_all
 grind
theorem Fr.trans {F:Nat→Nat→Prop} {w1 w2 w3:World} (h:Fr F w1 w2) (h':Fr F w2 w3):Fr F w1 w3:=by
 refine ⟨h'.os.trans h.os,h'.tape.trans h.tape,h'.output.trans h.output,Nat.le_trans h.size h'.size,fun k c e f hk=>?_,fun k hk hF=>?_,fun k b hb hn=>h'.kind k b (h.kind k b hb hn) hn⟩
 ·obtain ⟨c1,h1,h2,h3⟩:=h.cells k c e f hk;obtain ⟨c2,h4,h5,h6⟩:=h'.cells k c1 e f h1
  grind
 rw [h'.block k (oL hk h.size) hF,h.block k hk hF]
theorem Fr.mono {F F':Nat→Nat→Prop} {w w':World} (h:Fr F w w') (hF:∀ b o,b<w.heap.size→F b o→F' b o):Fr F' w w':=by
 refine ⟨h.os,h.tape,h.output,h.size,fun k c e f hk=>?_,fun k hk hn=>h.block k hk (fun o ho=>hn o (hF k o hk ho)),h.kind⟩;obtain ⟨c1,h1,h2,h3⟩:=h.cells k c e f hk
 grind
theorem aac {F:Nat→Nat→Prop} (w:World) (b o:Nat) (v:Value) (h:F b o):Fr F w (w.setCell (ad b o) v):=by
 refine ⟨rfl,rfl,rfl,by simp,fun k c e f hk=>?_,fun k hk hn=>?_,fun k bl hb hn=>?_⟩;rotate_left 2
 ·simp only [LL,LJ,hb]
  grind
 ·simp only [LL,LJ,hk]
  grind
 simp only [LL,LJ]
 grind
theorem wG {F:Nat→Nat→Prop} (b:Nat):∀ (vs:List Value) (o:Nat) (w:World),(∀ k,k<vs.length→F b (o+k))→Fr F w (w.setCells b o vs)
 | [],o,w,h=>.refl _ _
 | v::vs,o,w,h=>(aac w b o v (by simpa using h 0 (by simp))).trans (wG b vs (o+1) _ (fun k hk=>by
   have:=h (k+1) (by grind)
   grind))
section
variable {P:Program} {c:bd} {g:Gh} {w:World} {U:Nat→Prop} {sr:St} {a:Act} {site:Nat} {o:Oper} {ρ:Type} {r:ρ} {k:cK→Option ρ}
theorem BG {x:ah} {v:Value} (h:aV g w U x v) (hc:jZ x.cells=true):cz g w U x.cells v.cells.toList∧∀ y∈v.cells.toList,y.oneCell'=true:=by
 have one:∀ {y:ah} {z:Value},aV g w U y z→jZ [y]=true→z.oneCell'=true:=by
  intro y z hy hc;cases y with
  | undef=>simp [jZ] at hc
  | agg cs=>simp [jZ] at hc
  | gX cs=>simp [jZ] at hc
  | int k n=>obtain rfl:=hy; rfl
  | bool b=>obtain rfl:=hy; rfl
  | str s=>obtain rfl:=hy; rfl
  | err e=>rcases Bw hy with ⟨-,rfl⟩ | ⟨-,ti,x,rfl⟩<;>rfl
  | nil=>obtain rfl:=hy; rfl
  | sh t xs=>obtain ⟨_,_,_,rfl,-⟩:=hy; rfl
  | dn t x=>obtain ⟨⟨_,_,_,rfl,-⟩,-⟩:=hy; rfl
  | gp t x j=>obtain ⟨_,_,rfl,-⟩:=hy; rfl
  | own id ver p t=>obtain ⟨-,-,-,-,-,rfl⟩:=hy; rfl
  | fS id ver p t off len=>obtain ⟨-,-,-,-,-,_,_,rfl,-⟩:=hy; rfl
  | fl id ver p t i j=>obtain ⟨-,-,-,-,-,-,_,_,-,rfl⟩:=hy; rfl
  | bt id j=>obtain ⟨-,-,_,_,-,rfl⟩:=hy; rfl
  | fJ id off len sz=>obtain ⟨-,-,_,_,rfl,-⟩:=hy; rfl
  | fn f cs=>obtain ⟨_,rfl,-⟩:=hy; rfl
  | tj=>obtain rfl:=hy; rfl
  | uS=>obtain rfl:=hy; rfl
 have all:∀ {cs:List ah} {l:List Value},cz g w U cs l→jZ cs=true→∀ y∈l,y.oneCell'=true:=by
  intro cs;induction cs with
  | nil=>intro l hl _ y hy; obtain rfl:=hl; simp at hy
  | cons x cs ih=>
   intro l hl hc y hy;obtain ⟨z,l,rfl,hz,hl⟩:=hl;have Zz:jZ [x]=true∧jZ cs=true:=by cases x<;>simp_all [jZ]
   grind
 cases x with
 | agg cs=>
  obtain ⟨l,rfl,hl⟩:=h;exact ⟨by simpa [ah.cells,Value.cells] using hl,by simpa [Value.cells] using all hl hc⟩
 | undef=>simp [ah.cells,jZ] at hc
 | gX cs=>simp [ah.cells,jZ] at hc
 | _=>
  have h1:=one h hc;have hv:v.cells = #[v]:=by cases v<;>first | rfl | simp [Value.oneCell'] at h1
  rw [hv];exact ⟨⟨v,[],rfl,h,rfl⟩,by grind⟩
theorem Mf {t:Nat} {i:mP} (hT:nM P t i) {b o:Nat} {v:Value} (hs:v.cells.size=i.size) (hc:∀ k,k<i.size→(w.cell? (ad b (o+k))).isSome=true∧w.frozen? (ad b (o+k))=false)
  (h1:∀ y∈v.cells.toList,y.oneCell'=true):(th t (.pointer (some (ad b o))) v).run P w = .ok () (w.setCells b o v.cells.toList):=by
 have hl:v.cells.toList.length=i.size:=by simpa using hs
 have:=run_storeCells_cells (P:=P) b o v.cells.toList 0 w (fun j hj=>(hc j (by omega)).1) (fun j hj=>(hc j (by omega)).2) h1;simp [th,LK,storeVar,yR hT,hs,this]
theorem IJ {id b o:Nat} {π:Path} {vs:List Value} (hl:∀ k,k<vs.length→g.lab b (o+k)=some (id,π)):Kept g w (w.setCells b o vs) id π:=by
 have out:∀ b' o',(∀ k,k<vs.length→¬ (b'=b∧o'=o+k))→(w.setCells b o vs).cell? (ad b' o')=w.cell? (ad b' o'):=by
  intro b' o' hn;refine uQ b vs o w _ (fun hb _=>?_);simp only at hb ⊢;rcases kj o' o with h | h
  ·omega
  rcases kj o' (o+vs.length) with h' | h'
  ·exact absurd ⟨hb,by omega⟩ (hn (o'-o) (by omega))
  omega
 refine ⟨fun b' o' p hp aG=>out b' o' ?_,fun b' o'=>Be b vs o w _,fun b' o' hn v hv=>?_,fun b' o' hs=>?_⟩
 ·grind
 ·grind
 have:∀ (vs:List Value) (o:Nat) (w:World),(w.cell? (ad b' o')).isSome=true→((w.setCells b o vs).cell? (ad b' o')).isSome=true:=by
  intro vs;induction vs with
  | nil=>intro o w h; exact h
  | cons v vs ih=>
   intro o w h;refine ih (o+1) _ ?_;by_cases he:ad b o=ad b' o'
   ·rw [← he];obtain ⟨u,hu⟩:=Option.isSome_iff_exists.1 h;rw [← he] at hu;rw [World.cell?_setCell_same _ _ _ hu]; rfl
   rw [World.cell?_setCell_other _ _ _ _ he]; exact h
 grind
theorem Mg {id b o:Nat} {π:Path} {vs:List Value} {T:Nat→Prop} (hT:T id) (hl:∀ k,k<vs.length→g.lab b (o+k)=some (id,π)):eV T g w U g (w.setCells b o vs) U:=by
 have K:=IJ (w:=w) hl;refine ⟨fun _ h=>h,fun _ _ _ _ _=>rfl,fun b' o' hn v hv=>⟨K.shr b' o' hn v hv,hn⟩,fun b' o' aE p hp wH=>⟨hp,?_,K.frozen b' o'⟩⟩;refine uQ b vs o w _ (fun hb _=>?_);simp only at hb ⊢;subst hb;rcases kj o' o with h | h
 ·omega
 rcases kj o' (o+vs.length) with h' | h'
 ·have:=hl (o'-o) (by omega)
  grind
 omega
theorem uM:∀ (cs:List ah) (j:Nat) (vs:List ah),(putCells cs j vs).length=cs.length
 | cs,_,[]=>by cases cs<;>rfl
 | [],_,v::vs=>rfl
 | c::cs,0,v::vs=>by simp [putCells,uM cs 0 vs]
 | c::cs,j+1,v::vs=>by simp [putCells,uM cs j (v::vs)]
theorem IK:∀ (cs:List ah) (j:Nat) (vs:List ah) (k:Nat),j+vs.length≤cs.length→
  (putCells cs j vs)[k]? = if j≤k∧k<j+vs.length then vs[k-j]? else cs[k]?
 | cs,j,[],k,h=>by
  have:putCells cs j []=cs:=by cases cs<;>rfl
  grind
 | [],j,v::vs,k,h=>by grind
 | c::cs,0,v::vs,0,h=>by simp [putCells]
 | c::cs,0,v::vs,k+1,h=>by
  have:=IK cs 0 vs k (by grind);simp only [putCells,H_,this]
  grind
 | c::cs,j+1,v::vs,0,h=>by simp [putCells]
 | c::cs,j+1,v::vs,k+1,h=>by
  have:=IK cs j (v::vs) k (by grind);simp only [putCells,H_,this]
  grind
theorem aad (S:dC P c g w U sr a) {t:Nat} (ht:0<(c.ti t).size) {id j:Nat} {x:ah} {ro:List Bool} {cs:List ah} {va v:Value} (ha:aV g w U (.bt id j) va) (hx:aV g w U x v)
  (hlen:x.cells.length=(c.ti t).size) (bK:jZ x.cells=true) (ho:sr.obj id=some (.cells ro cs)) (hj:j+(c.ti t).size≤cs.length) :
  ∃ w',(th t va v).run P w = .ok () w'∧dP g w U site ⟨.undef,[(id,some (.cells ro (putCells cs j x.cells)))]⟩ undef w' g U:=by
 obtain ⟨hU,lf,b,o,hb,rfl⟩:=ha;obtain ⟨b',o',hh,dr,oT⟩:=yU S.bb ho;rw [hh] at hb;simp only [aN,bS] at hb;obtain ⟨rfl,rfl⟩:=hb;obtain ⟨fj,h1⟩:=BG hx bK;have bF:v.cells.toList.length=(c.ti t).size:=by rw [mU fj,hlen]
 have hl:∀ k,k<v.cells.toList.length→g.lab b' (o'+j+k)=some (id,[]):=by intro k hk;rw [cg]; exact (dr (j+k) (by omega)).1
 refine ⟨_,Mf (oS S.bm (.inl ht)) (by omega) (fun k hk=>?_) h1,?_⟩
 ·have h2:=dr (j+k) (by omega);obtain ⟨y,hy,-⟩:=oT (j+k) (by omega)
  grind
 have dK:∀ {T:Nat→Prop},T id→eV T g w U g (w.setCells b' (o'+j) v.cells.toList) U:=fun hT=>Mg hT hl;have BH:eV (fun i=>(look [(id,some (dL.cells ro (putCells cs j x.cells)))] i).isSome=true) g w U g (w.setCells b' (o'+j) v.cells.toList) U:=dK (by simp [look]);refine ⟨BH,trivial,fun aE o2 e=>?_,fun s hs=>.inl hs,fun b o q h=>?_,fun b o q hb h=>by rw [h]; simp,?_,?_⟩
 ·simp only [look] at e;split at e
  ·rename_i he;obtain rfl:=bB he;simp only [aN] at e;obtain rfl:=e;refine ⟨hU,lf,b',o',by rw [uM]; exact hh,fun k hk=>?_⟩;rw [uM] at hk;refine ⟨(dr k hk).1,by rw [Be]; exact (dr k hk).2,?_⟩;have hg:=IK cs j x.cells k (by omega);by_cases cU:j≤k∧k<j+x.cells.length
   ·rw [if_pos cU] at hg;obtain ⟨y,EM,Mh⟩:=mi fj (k-j) (by omega);refine ⟨y,?_,?_⟩
    ·obtain ⟨aF,hyy⟩:=eE.1 EM;have:=Bd b' v.cells.toList (o'+j) w (fun m hm=>by
      have h2:=dr (j+m) (by omega);obtain ⟨z,hz,-⟩:=oT (j+m) (by omega)
      grind) (k-j) aF
     grind
    have pF:(putCells cs j x.cells)[k]'(by omega)=x.cells[k-j]'(by omega):=by
     have h3:k-j<x.cells.length:=by omega
     rw [eX (by omega),eX h3] at hg;exact aZ hg
    rw [pF];exact BH.u5 _ _ Mh
   rw [if_neg cU] at hg;obtain ⟨y,EM,Mh⟩:=oT k hk;have EM:w.cell? (ad b' (o'+k))=some y:=EM;refine ⟨y,?_,?_⟩
   ·rw [uQ b' _ _ _ _ (fun _ _=>by grind)];omega
   have pF:(putCells cs j x.cells)[k]'(by omega)=cs[k]:=by rw [eX (by omega),eX hk] at hg;exact aZ hg
   rw [pF];exact BH.u5 _ _ Mh
  grind
 ·have:=S.cm b o q h;have hs:=(wG (F:=fun _ _=>True) b' v.cells.toList (o'+j) w (fun _ _=>trivial)).size;omega
 ·exact wG b' _ _ w (fun k hk=>⟨id,[],hl k hk,S.nf id (by grind)⟩)
 exact fun aE h=>by rw [Ds h]; exact S.nf id (by grind)
theorem aae (S:dC P c g w U sr a) {t0:Nat} (ht:0<(c.ti t0).size) {id ver:Nat} {p:Path} {tt:Ty} {i j:Nat} {x:ah} {own:Bool} {t:Ty} {vr:Nat} {xs l8:List t.T} {u:Ty} {ys:List u.T} {y:u.T} {used:List Nat} {va v:Value}
  (ha:aV g w U (.fl id ver p tt i j) va) (hx:aV g w U x v) (hlen:x.cells.length=(c.ti t0).size) (bK:jZ x.cells=true)
  (ho:sr.obj id=some (.row own t vr xs)) (hp:p=[]∨(own=true∧ver=vr)) (gg:place t xs p=some ⟨u,ys⟩) (htt:tt=u) (hj:j+(c.ti t0).size≤u.size)
  (he:me sr own 50 u (el u ys i) 0 j x.cells=some (y,used,false)) (mL:yK t xs p (fun u' _=>Ty.cast (.sl u) (.sl u') (ys.set i y))=some l8) :
  ∃ w',(th t0 va v).run P w = .ok () w'∧dP g w U site ⟨.undef,[(id,some (.row own t vr l8))]⟩ undef w' g U:=by
 subst htt;obtain ⟨hU,L7,lf,cU,tA,hi,b,o,hb,rfl⟩:=ha;obtain ⟨-,-,oJ,hR⟩:=S.bb id _ ho;obtain ⟨fj,h1⟩:=BG hx bK;have bF:v.cells.toList.length=(c.ti t0).size:=by rw [mU fj,hlen]
 have oF:eZ g w own id ver vr tt de p ys∧(p≠[]→own=true∧ver=vr):=by
  rcases hp with rfl | ⟨rfl,rfl⟩
  ·obtain rfl:=tA rfl;simp only [place,aN] at gg
   grind
  refine ⟨?_,fun _=>⟨rfl,rfl⟩⟩;have:=L4 (g:=g) (w:=w) p t [] xs tt ys hR gg cU;rw [List.nil_append] at this;have e1:ko p ver=ver:=by
   cases p with
   | nil=>exact (tA rfl).symm
   | cons q p=>rfl
  grind
 obtain ⟨SC,aG⟩:=oF;have aaf:=SC;obtain ⟨r1,r2,r3,r4⟩:=aaf;obtain ⟨r5,r6⟩:=r4 b o hb;have fF:(i+1)*tt.size≤(g.hd id ver p).cap*tt.size:=fk _ (by omega);rw [dH] at fF;have hl:∀ k,k<v.cells.toList.length→g.lab b (o+i*tt.size+j+k)=some (id,p):=by intro k hk;have:=(r5 (i*tt.size+(j+k)) (by omega)).1;rw [show o+i*tt.size+j+k=o+(i*tt.size+(j+k)) by omega];exact this
 have K:=IJ (w:=w) hl;have dK:∀ {T:Nat→Prop},T id→eV T g w U g (w.setCells b (o+i*tt.size+j) v.cells.toList) U:=fun hT=>Mg hT hl;have jV:∀ m,(m<o+i*tt.size+j∨o+i*tt.size+j+v.cells.toList.length≤m)→(w.setCells b (o+i*tt.size+j) v.cells.toList).cell? (ad b m)=w.cell? (ad b m):=by intro m hm;exact uQ b _ _ w _ (fun _ _=>hm)
 have Zf:eZ g (w.setCells b (o+i*tt.size+j) v.cells.toList) own id ver vr tt de p (ys.set i y):=by
  refine aab K SC (fun b' o' dh k hk _=>?_) (fun b' o' gU dh hy=>?_)
  ·grind
  rw [hb] at dh;simp only [aN,bS] at dh;obtain ⟨rfl,rfl⟩:=dh;rw [wD gU] at he;have hV:gB g w U x.cells (fun k=>v.cells.toList[k]?):=by intro k hk;obtain ⟨z,h2,h3⟩:=mi fj k hk;exact ⟨z,h2,h3⟩
  refine aaa K hV 50 tt i 0 _ y used b _ (fun k hk h2 h3=>?_) (fun k hk h2=>?_) he hy
  ·have:=Bd b v.cells.toList (o+i*tt.size+j) w (fun m hm=>by
    have:=(r5 (i*tt.size+(j+m)) (by omega)).2.1
    grind) (k-j) (by omega)
   grind
  grind
 have BH:eV (fun i'=>(look [(id,some (dL.row own t vr l8))] i').isSome=true) g w U g (w.setCells b (o+i*tt.size+j) v.cells.toList) U:=dK (by simp [look]);refine ⟨_,Mf (oS S.bm (.inl ht)) (by omega) (fun k hk=>?_) h1,BH,trivial,fun aE o2 e=>?_,fun s hs=>.inl hs,fun b' o' q h=>?_,fun b o q hb h=>by grind,?_,?_⟩
 ·obtain ⟨h2,h3,h4⟩:=r5 (i*tt.size+(j+k)) (by omega)
  grind
 ·simp only [look] at e;split at e
  ·rename_i yW;obtain rfl:=bB yW;simp only [aN] at e;obtain rfl:=e;refine ⟨hU,lf,oJ,?_⟩;cases p with
   | nil=>
    obtain rfl:=tA rfl;simp only [place,aN] at gg;obtain ⟨rfl,gg⟩:=qI gg;obtain rfl:=eq_of_heq gg;simp only [yK] at mL;obtain ⟨-,mL⟩:=nO mL
    grind
   | cons q p=>
    obtain ⟨rfl,rfl⟩:=aG (by simp);have:=SB (g:=g) (w:=w) (id:=id) (vr:=ver) (q::p) t [] xs l8 _ (by simpa using K) (fun u' zs zs' hz rQ=>?_) mL hR
    ·exact this
    obtain ⟨rfl,rQ⟩:=nO rQ;obtain rfl:=eq_of_heq rQ;exact Zf
  grind
 ·have:=S.cm b' o' q h;have hs:=(wG (F:=fun _ _=>True) b v.cells.toList (o+i*tt.size+j) w (fun _ _=>trivial)).size;omega
 ·exact wG b _ _ w (fun k hk=>⟨id,p,hl k hk,S.nf id (by grind)⟩)
 exact fun aE h=>by rw [Ds h]; exact S.nf id (by grind)
end
end Go.Am
namespace Go.Am
open Go
structure kZ (w w':World) (arr:Array Value) (e:TypeId):Prop where
 heap:w'.heap=w.heap.push (.cells arr e)
 os:w'.os=w.os
 tape:w'.tape=w.tape
 output:w'.output=w.output
theorem HQ (w:World) (arr:Array Value) (e:TypeId):kZ w (w.alloc (.cells arr e)) arr e:=⟨rfl,rfl,rfl,rfl⟩
theorem SD (w:World) (arr:Array Value) (e:TypeId):kZ w (w.drew.alloc (.cells arr e)) arr e:=⟨rfl,rfl,rfl,rfl⟩
section
variable {w w':World} {arr:Array Value} {e:TypeId}
theorem kZ.size (B:kZ w w' arr e):w'.heap.size=w.heap.size+1:=by rw [B.heap]; simp
theorem kZ.new (B:kZ w w' arr e) (o:Nat):w'.cell? (ad w.heap.size o)=arr[o]?:=by simp [World.cell?,B.heap]
theorem kZ.IL (B:kZ w w' arr e) (o:Nat):w'.frozen? (ad w.heap.size o)=false:=by simp [World.frozen?,B.heap]
theorem kZ.cI (B:kZ w w' arr e) {b:Nat} (h:b≠w.heap.size) (o:Nat):w'.cell? (ad b o)=w.cell? (ad b o):=by simp only [World.cell?,B.heap,EY];simp [h]
theorem kZ.Fu (B:kZ w w' arr e) {b:Nat} (h:b≠w.heap.size) (o:Nat):w'.frozen? (ad b o)=w.frozen? (ad b o):=by simp only [World.frozen?,B.heap,EY];simp [h]
theorem kZ.fr (B:kZ w w' arr e) (F:Nat→Nat→Prop):Fr F w w':=by
 refine ⟨B.os,B.tape,B.output,by rw [B.size]; omega,fun k c e' f hk=>⟨c,?_,rfl,fun _ _=>rfl⟩,fun k hk _=>?_,fun k bl hb _=>?_⟩
 ·have aF:k<w.heap.size:=by
   rcases kj k w.heap.size with h | h
   ·exact h
   rw [CP h] at hk; simp at hk
  rw [B.heap,EY,if_neg (by omega)]; exact hk
 ·rw [B.heap,EY,if_neg (by omega)]
 have aF:k<w.heap.size:=by
  rcases kj k w.heap.size with h | h
  ·exact h
  rw [CP h] at hb; simp at hb
 rw [B.heap,EY,if_neg (by omega)]; exact hb
end
theorem BI {w:World} {b o:Nat} {v:Value} (h:w.cell? (ad b o)=some v):b<w.heap.size:=World.block_lt_of_cell? w (ad b o) h
def jh (g:Gh) (site:Nat) (R H:Nat→Path→Hd) (lab:b9):Gh where
 hd id ver p:=if ver=site then H id p else if id / 1024=site then R id p else g.hd id ver p
 lab:=lab
theorem Mi {g:Gh} {site:Nat} {R H:Nat→Path→Hd} {lab:b9} {U:Nat→Prop} (hs:¬ U site) {id ver:Nat} {p:Path} (h1:U (id / 1024)) (h2:U ver):(jh g site R H lab).hd id ver p=g.hd id ver p:=by
 unfold jh
 grind
theorem kz (site:Nat):site*1024 / 1024=site:=Nat.mul_div_cancel _ (by omega)
theorem u9 {g:Gh} {site:Nat} {R H:Nat→Path→Hd} {lab:b9} (h0:site≠0) (p:Path):(jh g site R H lab).hd (site*1024) 0 p=R (site*1024) p:=by
 unfold jh
 grind
theorem Mj {g:Gh} {site:Nat} {R H:Nat→Path→Hd} {lab:b9} (id:Nat) (p:Path):(jh g site R H lab).hd id site p=H id p:=by unfold jh; simp
def BJ (l:b9) (b n N:Nat):b9:=fun b' o=>if b'=b then (if o<n then some (N,[]) else none) else l b' o
section
variable {P:Program} {c:bd} {g:Gh} {w w':World} {U:Nat→Prop} {sr:St} {a:Act} {site:Nat} {o:Oper} {ρ:Type} {r:ρ} {k:cK→Option ρ} {arr:Array Value} {e:TypeId}
def U' (U:Nat→Prop) (site:Nat):Nat→Prop:=fun s=>U s∨s=site
theorem aag (B:kZ w w' arr e) (hs:¬ U site) (hl:∀ b o q,g.lab b o=some q→b<w.heap.size) {R H:Nat→Path→Hd} {n N:Nat} {T:Nat→Prop} :
  eV T g w U (jh g site R H (BJ g.lab w.heap.size n N)) w' (U' U site):=by
 refine ⟨fun s h=>.inl h,fun id ver p h1 h2=>Mi hs h1 h2,fun b o hn v hv=>?_,fun b o id p h _=>?_⟩
 ·have hb:b≠w.heap.size:=Nat.ne_of_lt (BI hv);exact ⟨by rw [B.cI hb]; exact hv,by simp [jh,BJ,hb,hn]⟩
 have hb:b≠w.heap.size:=Nat.ne_of_lt (hl _ _ _ h);exact ⟨by simp [jh,BJ,hb,h],B.cI hb o,B.Fu hb o⟩
theorem Dt (S:dC P c g w U sr a) (hs:¬ U site) (B:kZ w w' arr e) {cs:List ah} (hv:cz g w U cs arr.toList) {x:ah} {v:Value}
  (hx:∀ g',g'.hd (site*1024) 0 []=⟨some (w.heap.size,0),cs.length,cs.length⟩→aV g' w' (U' U site) x v) :
  ∃ g' U',dP g w U site ⟨x,[(site*1024,some (.cells [] cs))]⟩ v w' g' U':=by
 have h0:site≠0:=by rintro rfl; exact hs S.u0
 have hlen:=mU hv;have st:∀ {T:Nat→Prop},eV T g w U (jh g site (fun _ _=>⟨some (w.heap.size,0),cs.length,cs.length⟩) (fun _ _=>eh) (BJ g.lab w.heap.size cs.length (site*1024))) w' (U' U site):=aag B hs S.cm;refine ⟨_,_,st,hx _ (u9 h0 _),fun id ob bQ=>?_,fun s h=>h,fun b o q h=>?_,fun b o q hb h=>?_,B.fr _,fun id h=>by rw [Ds h,kz]; rintro rfl; exact hs S.Bu⟩
 ·simp only [look] at bQ;split at bQ
  ·rename_i hb;obtain rfl:=bB hb;simp only [aN] at bQ;subst bQ;refine ⟨.inr (kz site),.inl S.u0,w.heap.size,0,u9 h0 _,fun k hk=>⟨by simp [jh,BJ,hk],B.IL _,?_⟩⟩;obtain ⟨y,h1,h2⟩:=mi hv k hk;exact ⟨y,by rw [B.new,kg]; simpa using h1,st (T:=fun _=>True) |>.u5 _ _ h2⟩
  grind
 ·rw [B.size];simp only [jh,BJ] at h;split at h
  ·omega
  have:=S.cm _ _ _ h; omega
 simp only [jh,BJ] at h
 grind
theorem BK {t:Nat} {i:mP} (h:nM P t i):∃ z:Value,z.cells.size=i.size∧(∀ w,(zeroValue t).run P w = .ok z w)∧(∀ g w U,cz g w U i.zero z.cells.toList)∧∃ ti:TypeInfo,P.info? t=some ti∧ti.zero=some z∧ti.size=i.size∧ti.bytes=i.bytes:=by obtain ⟨ti,h1,h2,h3,z,h4,h5,h6⟩:=h.info;exact ⟨z,h5,fun w=>by simp [zeroValue,typeInfo,h1,h4],h6,ti,h1,h4,h2,h3⟩
theorem aah (S:dC P c g w U sr a) (hs:¬ U site) {t:Nat} (ht:0<(c.ti t).size) :
  ∃ v w' g' U',(Instr.alloc t true (.tuple #[])).run P w = .ok v w'∧dP g w U site ⟨.bt (site*1024) 0,[(site*1024,some (.cells [] (c.ti t).zero))]⟩ v w' g' U':=by
 obtain ⟨z,hz,hr,hv,-⟩:=BK (oS S.bm (.inl ht));have B:=HQ w z.cells t;obtain ⟨g',U',hp⟩:=Dt S hs B (hv g w U) (x:=.bt (site*1024) 0) (v:=.pointer (some (ad w.heap.size 0))) (fun g' hg=>⟨.inr (kz site),.inl S.u0,_,_,by rw [hg],by simp⟩);exact ⟨_,_,g',U',by simp [Instr.alloc,hr,newVar,newRow],hp⟩
theorem aai (S:dC P c g w U sr a) (hs:¬ U site) {t:Nat} {x:ah} {vx:Value} (hx:aV g w U x vx) (bK:jZ x.cells=true) :
  ∃ v w' g' U',(Instr.box t vx).run P w = .ok v w'∧dP g w U site ⟨.bt (site*1024) 0,[(site*1024,some (.cells [] x.cells))]⟩ v w' g' U':=by
 have hv:=(BG hx bK).1;have B:=HQ w vx.cells t;obtain ⟨g',U',hp⟩:=Dt S hs B hv (x:=.bt (site*1024) 0) (v:=.pointer (some (ad w.heap.size 0))) (fun g' hg=>⟨.inr (kz site),.inl S.u0,_,_,by rw [hg],by simp⟩);exact ⟨_,_,g',U',by simp [Instr.box,newVar,newRow],hp⟩
end
end Go.Am
