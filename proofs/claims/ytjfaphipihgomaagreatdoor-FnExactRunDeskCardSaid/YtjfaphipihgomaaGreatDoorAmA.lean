/- An abstract machine for the translated code: definitions; what its states say of memory; the first of its laws. No condition. -/
import Derived.WalkKit
set_option linter.unusedVariables false
set_option linter.unusedSimpArgs false
open Array renaming getElem?_eq_none → xD, getElem?_modify → Kw, getElem?_push → DY
open BitVec renaming ofInt → xE
open Bool renaming and_eq_true → aw, eq_iff_iff → Kx
open Go.Addr renaming add_lit → vu
open Go.Instr renaming indexAt → Ha, sliceAt → BV, sliceBounds → DZ, storeAt → sj, sureAddr → Ky
open Go.Op renaming equal → BW, equalIn → BX, maxDepth → BY
open Go.Result renaming andThen_ok → jy
open Go.Sem renaming run_bind → jz, run_pure → Ah
open Go.World renaming cell?_setCells_in → Ai, cell?_setCells_out → tK, frozen?_setCells → Aj, setCell → Kz
open List renaming append_cancel_left → BZ, drop_drop → KA, getD_eq_getElem?_getD → jN, getElem?_cons_succ → D_, getElem?_eq_getElem → dU, getElem?_eq_some_iff → dV, getElem_append_left → B_, getElem_append_right → Ak, getElem_drop → xF, getElem_set_ne → QB, getElem_set_self → QC, getElem_take → vv, length → lr, length_append → cg, length_drop → qW, length_pos_iff → jA, length_set → Hb, mem_append_left → kO, mem_append_right → sn, mem_cons_of_mem → jO, replicate → iu
open Nat renaming add_assoc → bL, add_mul → cY, add_zero → dW, beq → aM, ble → fJ, ble_eq → Hc, blt → cL, blt_eq → dJ, eq_of_beq_eq_true → bm, le_of_ble_eq_true → gh, le_refl → cj, lt_of_lt_of_le → nk, lt_or_ge → jP, mul_le_mul_right → fa, zero_add → jB
open Option renaming map_eq_some_iff → vw
open Option.some renaming inj → aW, injEq → aF
open Prod.mk renaming injEq → bE
open Sigma.mk renaming inj → nU
namespace Go.Am
open Go
inductive Ty where
 | int (k:IntKind) | bool | str | err
 | pair (a b:Ty)
 | sl (t:Ty)
 | bQ (t:Ty)
def Ty.T:Ty→Type
 | .int _=>Int
 | .bool=>Bool
 | .str=>List UInt8
 | .err=>Bool
 | .pair a b=>a.T×b.T
 | .sl t=>List t.T
 | .bQ t=>Option (List t.T)
def Ty.size:Ty→Nat
 | .pair a b=>a.size+b.size
 | _=>1
def nn:IntKind→IntKind→Bool
 | .i8,.i8 | .i16,.i16 | .i32,.i32 | .i64,.i64 | .u8,.u8 | .u16,.u16 | .u32,.u32 | .u64,.u64=>true
 | _,_=>false
theorem o7 {a b:IntKind} (h:nn a b=true):a=b:=by cases a<;>cases b<;>first | rfl | (simp [nn] at h)
def Ty.beq:Ty→Ty→Bool
 | .int k,.int l=>nn k l
 | .bool,.bool | .str,.str | .err,.err=>true
 | .pair a b,.pair c d=>a.beq c&&b.beq d
 | .sl a,.sl b=>a.beq b
 | .bQ a,.bQ b=>a.beq b
 | _,_=>false
theorem Ty.eq_of_beq:∀ {a b:Ty},a.beq b=true→a=b
 | .int k,b,h=>by cases b<;>simp [Ty.beq] at h; rw [o7 h]
 | .bool,b,h=>by cases b<;>simp [Ty.beq] at h; rfl
 | .str,b,h=>by cases b<;>simp [Ty.beq] at h; rfl
 | .err,b,h=>by cases b<;>simp [Ty.beq] at h; rfl
 | .pair a b,c,h=>by cases c<;>simp [Ty.beq] at h;rw [Ty.eq_of_beq h.1,Ty.eq_of_beq h.2]
 | .sl a,b,h=>by cases b<;>simp [Ty.beq] at h; rw [Ty.eq_of_beq h]
 | .bQ a,b,h=>by cases b<;>simp [Ty.beq] at h; rw [Ty.eq_of_beq h]
def Ty.cast (a b:Ty) (x:a.T):Option b.T:=
 if h:a.beq b=true then some (Ty.eq_of_beq h▸x) else none
def Ty.zero:(t:Ty)→t.T
 | .int _=>(0:Int)
 | .bool=>false
 | .str=>([]:List UInt8)
 | .err=>true
 | .pair a b=>(a.zero,b.zero)
 | .sl t=>([]:List t.T)
 | .bQ t=>(none:Option (List t.T))
def el (t:Ty) (xs:List t.T) (i:Nat):t.T:=xs.getD i t.zero
abbrev Path:=List (Nat×Nat)
inductive ag where
 | undef
 | int (k:IntKind) (n:Int)
 | bool (b:Bool)
 | str (s:List UInt8)
 | err (isNil:Bool)
 | agg (cs:List ag)
 | gN (vs:List ag)
 | nil
 | sh (t:Ty) (xs:List t.T)
 | cZ (t:Ty) (o:Option (List t.T))
 | ga (t:Ty) (x:t.T) (j:Nat)
 | own (id ver:Nat) (p:Path) (t:Ty)
 | fK (id ver:Nat) (p:Path) (t:Ty) (off len:Nat)
 | fb (id ver:Nat) (p:Path) (t:Ty) (i j:Nat)
 | bn (id j:Nat)
 | fB (id off len sz:Nat)
 | fn (f:FuncId) (caps:List ag)
 | so | tL
inductive dD where
 | cells (ro:List Bool) (cs:List ag)
 | row (own:Bool) (t:Ty) (ver:Nat) (xs:List t.T)
 | nV (t:Ty) (ver:Nat) (xs:List t.T) (i j:Nat)
structure St where
 env:List (Nat×ag)
 heap:List (Nat×Option dD)
 nxt:Nat
 et:List Nat:=[]
 ht:List Nat:=[]
def look {α:Type} : List (Nat×α)→Nat→Option α
 | [],_=>none
 | (k,v)::r,n=>match aM k n with | true=>some v | false=>look r n
def St.obj (st:St) (id:Nat):Option dD:=match look st.heap id with | some (some o)=>some o | _=>none
def ofConst:Value→ag
 | .bool b=>.bool b
 | .int k n=>.int k n
 | .string s=>.str s.data.toList
 | .slice none 0 0=>.nil
 | .pointer none=>.so
 | .nilFunc=>.tL
 | .nilIface=>.err true
 | .agg cs=>.agg (cs.toList.map fun | .bool b=>.bool b | .int k n=>.int k n | .string s=>.str s.data.toList | .slice none 0 0=>.nil | .pointer none=>.so | .nilFunc=>.tL | .nilIface=>.err true | _=>.undef)
 | _=>.undef
def St.ev (st:St):Operand→ag
 | .tmp t=>match look st.env t with | some v=>v | none=>.undef
 | .const v=>ofConst v
 | .func f=>.fn f []
 | .global _=>.undef
def kp:(t:Ty)→t.T→Nat→Option ((u:Ty)×List u.T)
 | .pair a b,x,j=>match cL j a.size with | true=>kp a x.1 j | false=>kp b x.2 (j-a.size)
 | .sl u,x,0=>some ⟨u,x⟩
 | _,_,_=>none
def place:(t:Ty)→List t.T→Path→Option ((u:Ty)×List u.T)
 | t,xs,[]=>some ⟨t,xs⟩
 | t,xs,(i,j)::p=>match kp t (el t xs i) j with | some ⟨u,ys⟩=>place u ys p | none=>none
def sq:(t:Ty)→t.T→Nat→((u:Ty)→List u.T→Option (List u.T))→Option t.T
 | .pair a b,x,j,f=>match cL j a.size with
  | true=>match sq a x.1 j f with | some y=>some (y,x.2) | none=>none
  | false=>match sq b x.2 (j-a.size) f with | some y=>some (x.1,y) | none=>none
 | .sl u,x,0,f=>f u x
 | _,_,_,_=>none
def xG:(t:Ty)→List t.T→Path→((u:Ty)→List u.T→Option (List u.T))→Option (List t.T)
 | t,xs,[],f=>f t xs
 | t,xs,(i,j)::p,f=>match sq t (el t xs i) j (fun u ys=>xG u ys p f) with | some y=>some (xs.set i y) | none=>none
def flat (h:Nat→(u:Ty)→List u.T→ag):(t:Ty)→t.T→Nat→List ag
 | .int k,n,_=>[.int k n]
 | .bool,b,_=>[.bool b]
 | .str,s,_=>[.str s]
 | .err,b,_=>[.err b]
 | .pair a b,x,j=>flat h a x.1 j++flat h b x.2 (j+a.size)
 | .sl t,xs,j=>[h j t xs]
 | .bQ t,o,_=>[.cZ t o]
def mC:Nat→(u:Ty)→List u.T→ag:=fun _ u xs=>.sh u xs
def QD (id ver:Nat) (p:Path) (i:Nat):Nat→(u:Ty)→List u.T→ag:=fun j u _=>.own id ver (p++[(i,j)]) u
def part (agg:Bool) (size:Nat) (cs:List ag) (j:Nat):Option ag:=
 match agg with
 | true=>match fJ (j+size) cs.length with | true=>some (.agg ((cs.drop j).take size)) | false=>none
 | false=>cs[j]?
def St.rowAt (st:St) (id ver:Nat) (p:Path):Option ((u:Ty)×List u.T):=
 match st.obj id with
 | some (.row own t vr xs)=>match p with
  | []=>some ⟨t,xs⟩
  | _=>match own&&aM ver vr with | true=>place t xs p | false=>none
 | _=>none
def St.list (st:St):ag→Option ((u:Ty)×List u.T)
 | .sh t xs=>some ⟨t,xs⟩
 | .cZ t o=>some ⟨t,o.getD []⟩
 | .own id ver p _=>st.rowAt id ver p
 | .fK id ver p t off len=>match st.rowAt id ver p with
  | some ⟨u,ys⟩=>match Ty.beq t u with | true=>some ⟨u,(ys.drop off).take len⟩ | false=>none
  | none=>none
 | _=>none
mutual
def iX (st:St):Nat→(t:Ty)→List ag→Option (t.T×List ag)
 | 0,_,_=>none
 | d+1,.int k,.int l n::r=>match nn k l with | true=>some (n,r) | false=>none
 | d+1,.bool,.bool b::r=>some (b,r)
 | d+1,.str,.str s::r=>some (s,r)
 | d+1,.err,.err b::r=>some (b,r)
 | d+1,.pair a b,cs=>match iX st d a cs with
  | some (x,r)=>match iX st d b r with | some (y,r)=>some ((x,y),r) | none=>none
  | none=>none
 | d+1,.sl t,.nil::r=>some (([]:List t.T),r)
 | d+1,.sl t,.fB id off len sz::r=>match st.obj id with
  | some (.cells _ cs)=>match aM sz t.size&&fJ ((off+len)*sz) cs.length with
   | true=>match B0 st d t len (cs.drop (off*sz)) with | some xs=>some (xs,r) | none=>none
   | false=>none
  | _=>none
 | d+1,.sl t,v::r=>match st.list v with
  | some ⟨u,xs⟩=>match Ty.cast (.sl u) (.sl t) xs with | some ys=>some (ys,r) | none=>none
  | none=>none
 | d+1,.bQ t,.nil::r=>some ((none:Option (List t.T)),r)
 | d+1,.bQ t,.cZ u o::r=>match Ty.cast (.bQ u) (.bQ t) o with | some o=>some (o,r) | none=>none
 | _,_,_=>none
def B0 (st:St):Nat→(t:Ty)→Nat→List ag→Option (List t.T)
 | 0,_,_,_=>none
 | _+1,_,0,_=>some []
 | d+1,t,n+1,cs=>match iX st d t cs with
  | some (x,r)=>match B0 st d t n r with | some xs=>some (x::xs) | none=>none
  | none=>none
end
inductive PK where
 | val (t:Ty)
 | fQ (t:Ty)
 | io (t:Ty)
 | jC (t:Ty) (ms:List Bool)
 | jD (f:Nat) (caps:List PK)
inductive RK where
 | val (t:Ty)
 | sh (t:Ty)
 | ptr (t:Ty) (ms:List Bool)
mutual
def PK.T:PK→Type
 | .val t | .fQ t=>t.T
 | .io t=>t.T
 | .jC t _=>t.T
 | .jD _ caps=>iH caps
def iH:List PK→Type
 | []=>Unit
 | p::r=>p.T×iH r
end
def Ty.gP:Ty→List Ty→List Ty
 | .pair a b,r=>a.gP (b.gP r)
 | .sl u,r=>.sl u::r
 | _,r=>r
def RK.ty:RK→Ty
 | .val t | .sh t | .ptr t _=>t
def PK.outs:List PK→List Ty
 | []=>[]
 | .io t::r=>t.gP (PK.outs r)
 | .jC t _::r=>t::PK.outs r
 | _::r=>PK.outs r
def RK.bw:List RK→List Ty
 | []=>[]
 | r::rs=>r.ty::RK.bw rs
def bZ:List Ty→Type
 | []=>Unit
 | t::r=>t.T×bZ r
structure au where
 ps:List PK
 rs:List RK
 m:iH ps→Option (bZ (RK.bw rs++PK.outs ps))
inductive TK where
 | int (k:IntKind) | bool | str | slice | struct | iface | other
structure mD where
 agg:Bool
 size:Nat
 bytes:Nat
 zero:List ag
 kind:TK
 elem:Nat
 ty:Option Ty
 fields:List (Nat×Nat)
 eq:Bool
structure cG where
 val:ag
 aX:List (Nat×Option dD)
def ah (n:Int):Int:=(n+9223372036854775808) % 18446744073709551616-9223372036854775808
def nW (k:IntKind) (n:Int):Int:=match k with | .i64=>ah n | _=>k.wrap n
def KB (op:BinOp) (k:IntKind) (x y:Int):Int:=
 match op with
 | .and=>k.wrap (xE k.bits x&&& xE k.bits y).toNat
 | .or=>k.wrap (xE k.bits x||| xE k.bits y).toNat
 | .xor=>k.wrap (xE k.bits x ^^^ xE k.bits y).toNat
 | _=>k.wrap (xE k.bits x&&& ~~~xE k.bits y).toNat
def bU:Nat:=4611686018427387904
def bo:Nat:=140737488355328
section
variable {ρ:Type}
def intOf:ag→Option (IntKind×Int)
 | .int k n=>some (k,n)
 | _=>none
def xH:List ag→List ag→Option Bool
 | [],ys=>match ys with | []=>some true | _::_=>none
 | x::r,ys=>match ys with
  | []=>none
  | y::s=>match intOf x,intOf y with
   | some (k,a),some (l,b)=>match nn k l,xH r s with | true,some e=>some (decide (a=b)&&e) | _,_=>none
   | _,_=>none
def vz (kd:TK) (yc:Bool) (op:BinOp) (x y:ag) (k:ag→Option ρ):Option ρ:=
 match op,x,y with
 | .shl,.int kk a,.int _ b=>if b<0 then none else k (.int kk (nW kk (a*2 ^ min b.toNat kk.bits)))
 | .shr,.int kk a,.int _ b=>if b<0 then none else k (.int kk (a.fdiv (2 ^ min b.toNat kk.bits)))
 | op,.int kk a,.int kl b=>
  match nn kk kl with
  | false=>none
  | true=>
   match op with
   | .add=>k (.int kk (nW kk (a+b)))
   | .sub=>k (.int kk (nW kk (a-b)))
   | .mul=>k (.int kk (nW kk (a*b)))
   | .quo=>if b=0 then none else k (.int kk (nW kk (a.tdiv b)))
   | .rem=>if b=0 then none else k (.int kk (a.tmod b))
   | .eql=>k (.bool (decide (a=b)))
   | .neq=>k (.bool (!decide (a=b)))
   | .lss=>k (.bool (decide (a<b)))
   | .leq=>k (.bool (decide (a≤b)))
   | .gtr=>k (.bool (decide (b<a)))
   | .geq=>k (.bool (decide (b≤a)))
   | op=>k (.int kk (KB op kk a b))
 | .add,.str a,.str b=>if a.length+b.length<bU then k (.str (a++b)) else none
 | .eql,.str a,.str b=>k (.bool (decide (a=b)))
 | .neq,.str a,.str b=>k (.bool (!decide (a=b)))
 | .lss,.str a,.str b=>k (.bool (Op.bytesLess a b))
 | .eql,.bool a,.bool b=>match kd with | .bool=>k (.bool (decide (a=b))) | _=>none
 | .neq,.bool a,.bool b=>match kd with | .bool=>k (.bool (!decide (a=b))) | _=>none
 | .eql,.err a,.err true=>match kd,yc with | .iface,true=>k (.bool a) | _,_=>none
 | .neq,.err a,.err true=>match kd,yc with | .iface,true=>k (.bool (!a)) | _,_=>none
 | .eql,.cZ _ o,.nil=>match kd with | .slice=>k (.bool o.isNone) | _=>none
 | .neq,.cZ _ o,.nil=>match kd with | .slice=>k (.bool o.isSome) | _=>none
 | .eql,.nil,.nil=>match kd with | .slice=>k (.bool true) | _=>none
 | .neq,.nil,.nil=>match kd with | .slice=>k (.bool false) | _=>none
 | _,_,_=>none
def St.len (st:St):ag→Option Int
 | .str s=>some (s.length:Int)
 | .nil=>some 0
 | .fB _ _ len _=>some (len:Int)
 | .fK _ _ _ _ _ len=>some (len:Int)
 | v=>match st.list v with | some ⟨_,xs⟩=>some (xs.length:Int) | none=>none
def St.KC (st:St) (id:Nat) (p:Path):Option ((u:Ty)×List u.T):=
 match p with
 | []=>match st.obj id with | some (.nV t _ xs _ _)=>some ⟨t,xs⟩ | _=>none
 | _=>none
def St.su (st:St):ag→Nat
 | .sh t _ | .cZ t _ | .fK _ _ _ t _ _=>t.size
 | .fB _ _ _ sz=>sz
 | .own id ver p _=>match st.rowAt id ver p with | some ⟨u,_⟩=>u.size | none=>match st.KC id p with | some ⟨u,_⟩=>u.size | none=>0
 | _=>0
def p5 (gQ:Nat) (st:St) (x:ag) (i:Int) (k:ag→Option ρ):Option ρ:=
 match aM gQ (st.su x) with
 | false=>none
 | true=>match x with
 | .sh t xs=>if 0≤i∧i<(xs.length:Int) then k (.ga t (el t xs i.toNat) 0) else none
 | .cZ t o=>if 0≤i∧i<((o.getD []).length:Int) then k (.ga t (el t (o.getD []) i.toNat) 0) else none
 | .fB id off len sz=>match i with
  | .ofNat n=>match cL n len with | true=>k (.bn id ((off+n)*sz)) | false=>none
  | _=>none
 | .own id ver p _=>match st.rowAt id ver p with
  | some ⟨u,xs⟩=>if 0≤i∧i<(xs.length:Int) then k (.fb id ver p u i.toNat 0) else none
  | none=>match st.KC id p with
   | some ⟨u,xs⟩=>if 0≤i∧i<(xs.length:Int) then k (.fb id ver p u i.toNat 0) else none
   | none=>none
 | .fK id ver p t off len=>match st.list (.fK id ver p t off len) with
  | some _=>if 0≤i∧i<(len:Int) then k (.fb id ver p t (off+i.toNat) 0) else none
  | none=>none
 | _=>none
def St.D1 (st:St):ag→Option (List ag×Nat)
 | .ga t x j=>some (flat mC t x 0,j)
 | .bn id j=>match st.obj id with | some (.cells _ cs)=>some (cs,j) | _=>none
 | .fb id ver p t i j=>match st.obj id,st.rowAt id ver p with
  | some (.row own _ vr _),some ⟨u,ys⟩=>match Ty.beq t u with
   | true=>some (flat (match own with | true=>QD id vr p i | false=>mC) u (el u ys i) 0,j)
   | false=>none
  | _,_=>none
 | _=>none
def D2 (a:ag) (n:Nat):ag:=
 match a with
 | .ga t x j=>.ga t x (j+n)
 | .bn id j=>.bn id (j+n)
 | .fb id ver p t i j=>.fb id ver p t i (j+n)
 | _=>.undef
def putCells:List ag→Nat→List ag→List ag
 | cs,_,[]=>cs
 | [],_,_=>[]
 | _::cs,0,v::vs=>v::putCells cs 0 vs
 | c::cs,j+1,vs=>c::putCells cs j vs
def KD:List Bool→Nat→Nat→Bool
 | _,_,0=>false
 | [],_,_=>false
 | b::r,0,n+1=>b||KD r 0 n
 | _::r,j+1,n=>KD r j n
def jQ:List ag→Bool
 | []=>true
 | .undef::_ | .agg _::_ | .gN _::_=>false
 | _::r=>jQ r
def ag.cells:ag→List ag
 | .agg cs=>cs
 | v=>[v]
mutual
def take (st:St) (own:Bool):Nat→(t:Ty)→List ag→Option (t.T×List ag×List Nat)
 | 0,_,_=>none
 | _+1,.int k,.int l n::r=>match nn k l with | true=>some (n,r,[]) | false=>none
 | _+1,.bool,.bool b::r=>some (b,r,[])
 | _+1,.str,.str s::r=>some (s,r,[])
 | _+1,.err,.err b::r=>some (b,r,[])
 | d+1,.pair a b,cs=>match take st own d a cs with
  | some (x,r,u)=>match take st own d b r with | some (y,r,v)=>some ((x,y),r,u++v) | none=>none
  | none=>none
 | _+1,.sl t,.nil::r=>some (([]:List t.T),r,[])
 | d+1,.sl t,.fB id 0 len sz::r=>match st.obj id with
  | some (.cells _ cs)=>match aM sz t.size&&aM (len*sz) cs.length with
   | true=>match takeN st own d t len cs with | some (xs,u)=>some (xs,r,id::u) | none=>none
   | false=>none
  | _=>none
 | _+1,.sl t,.sh u xs::r=>match own with
  | true=>none
  | false=>match Ty.cast (.sl u) (.sl t) xs with | some ys=>some (ys,r,[]) | none=>none
 | _+1,.sl t,.own id _ [] _::r=>match st.obj id with
  | some (.row o u _ xs)=>match own&&!o with
   | true=>none
   | false=>match Ty.cast (.sl u) (.sl t) xs with | some ys=>some (ys,r,[id]) | none=>none
  | _=>none
 | _,_,_=>none
def takeN (st:St) (own:Bool):Nat→(t:Ty)→Nat→List ag→Option (List t.T×List Nat)
 | 0,_,_,_=>none
 | _+1,_,0,[]=>some ([],[])
 | d+1,t,n+1,cs=>match take st own d t cs with
  | some (x,r,u)=>match takeN st own d t n r with | some (xs,v)=>some (x::xs,u++v) | none=>none
  | none=>none
 | _,_,_,_=>none
end
def Ty.plain:Ty→Bool
 | .pair a b=>a.plain&&b.plain
 | .sl _ | .bQ _=>false
 | _=>true
def gone (l:List Nat):List (Nat×Option dD):=l.map fun i=>(i,none)
def nodupB:List Nat→Bool
 | []=>true
 | a::r=>!(r.any (aM a))&&nodupB r
end
end Go.Am
namespace Go.Am
open Go
inductive cx where
 | int (k:IntKind) | bool | str | err
 | sh (t:Ty) | cZ (t:Ty)
 | own (id:Nat) (t:Ty)
 | fK (id:Nat) (t:Ty)
 | bn (id j:Nat)
 | fb (id:Nat) (t:Ty) (j:Nat)
 | ga (t:Ty) (j:Nat)
 | agg (l:List cx)
 | xI (id:Nat) (t:Ty) (j:Nat) (u:Ty)
 | fn (f:FuncId) (l:List cx)
 | lP (v:ag)
mutual
def cx.LT:cx→Type→Type
 | .int _,r=>Int×r
 | .bool,r=>Bool×r
 | .str,r=>List UInt8×r
 | .err,r=>Bool×r
 | .sh t,r=>List t.T×r
 | .cZ t,r=>Option (List t.T)×r
 | .own _ _,r=>r
 | .fK _ _,r=>Nat×Nat×r
 | .bn _ _,r=>r
 | .fb _ _ _,r=>Nat×r
 | .ga t _,r=>t.T×r
 | .agg l,r=>cx.xJ l r
 | .xI _ _ _ _,r=>Nat×r
 | .fn _ l,r=>cx.xJ l r
 | .lP _,r=>r
def cx.xJ:List cx→Type→Type
 | [],r=>r
 | s::l,r=>s.LT (cx.xJ l r)
end
inductive lu where
 | row (own:Bool) (t:Ty)
 | cells (ro:List Bool) (l:List cx)
def lu.LT:lu→Type→Type
 | .row _ t,r=>List t.T×r
 | .cells _ l,r=>cx.xJ l r
structure LA where
 cy:List (Nat×cx)
 aX:List (Nat×lu)
 iv:List Nat
 Al:List Nat
def ck (nxt k:Nat):Nat:=match cL k 1000 with | true=>k*1024 | false=>(nxt+(k-1000))*1024
def tM:List (Nat×cx)→Type→Type
 | [],r=>r
 | (_,s)::l,r=>s.LT (tM l r)
def vA:List (Nat×lu)→Type→Type
 | [],r=>r
 | (_,s)::l,r=>s.LT (vA l r)
abbrev LA.LT (la:LA):Type:=tM la.cy (vA la.aX Unit)
abbrev Mp:=List (Nat×Nat×Nat)
def cO:Nat:=19999
def kP (M:Mp) (cq aid d:Nat):Option Mp:=
 match look M cq with
 | some ad=>match aM ad.1 aid&&aM ad.2 d&&!(aM aid cO) with | true=>some M | false=>none
 | none=>match M.any (fun p=>aM p.2.1 aid)||aM aid cO with | true=>none | false=>some ((cq,aid,d)::M)
def B1:ag→ag→Bool
 | .undef,_=>true
 | .nil,.nil=>true
 | .so,.so=>true
 | .tL,.tL=>true
 | .fn f [],.fn g []=>aM f g
 | _,_=>false
mutual
def reify (st:St):(s:cx)→{r:Type}→Mp→ag→(Mp→Option r)→Option (s.LT r)
 | .int k,_,M,.int l n,f=>match nn k l with | true=>(match f M with | some r=>some (n,r) | none=>none) | false=>none
 | .bool,_,M,.bool b,f=>match f M with | some r=>some (b,r) | none=>none
 | .str,_,M,.str s,f=>match f M with | some r=>some (s,r) | none=>none
 | .err,_,M,.err s,f=>match f M with | some r=>some (s,r) | none=>none
 | .sh t,_,M,v,f=>match v with
  | .sh u xs=>match Ty.cast (.sl u) (.sl t) xs with | some ys=>(match f M with | some r=>some (ys,r) | none=>none) | none=>none
  | .nil=>match f M with | some r=>some (([]:List t.T),r) | none=>none
  | _=>none
 | .cZ t,_,M,.cZ u o,f=>match Ty.cast (.bQ u) (.bQ t) o with | some o=>(match f M with | some r=>some (o,r) | none=>none) | none=>none
 | .own cq t,_,M,v,f=>match v with
  | .own aid _ [] _=>match kP M cq aid 0 with | some M=>f M | none=>none
  | .fB aid 0 len sz=>match st.obj aid with
   | some (.cells _ cs)=>match aM sz t.size&&aM (len*sz) cs.length with
    | true=>match kP M cq aid t.size with | some M=>f M | none=>none
    | false=>none
   | _=>none
  | .nil=>match look M cq with | none=>f ((cq,cO,0)::M) | some _=>none
  | _=>none
 | .fK cq t,_,M,v,f=>match v with
  | .fK aid _ [] u off len=>match Ty.beq t u,kP M cq aid 0 with
   | true,some M=>match f M with | some r=>some (off,len,r) | none=>none
   | _,_=>none
  | .own aid _ [] u=>match st.obj aid with
   | some (.row _ t' _ xs)=>match Ty.beq t u&&Ty.beq t t',kP M cq aid 0 with
    | true,some M=>match f M with | some r=>some (0,xs.length,r) | none=>none
    | _,_=>none
   | _=>none
  | _=>none
 | .bn cq j,_,M,.bn aid l,f=>match aM j l,kP M cq aid 0 with | true,some M=>f M | _,_=>none
 | .fb cq t j,_,M,.fb aid _ [] u i l,f=>match aM j l&&Ty.beq t u,kP M cq aid 0 with
  | true,some M=>match f M with | some r=>some (i,r) | none=>none
  | _,_=>none
 | .ga t j,_,M,.ga u x l,f=>match aM j l with | true=>(match Ty.cast u t x with | some x=>(match f M with | some r=>some (x,r) | none=>none) | none=>none) | false=>none
 | .agg l,_,M,.agg cs,f=>sv st l M cs f
 | .xI cq t j u,_,M,v,f=>match v with
  | .own aid ver [(i,j')] u'=>match st.obj aid with
   | some (.row true t' vr _)=>match aM j j'&&Ty.beq u u'&&aM ver vr&&Ty.beq t t',kP M cq aid 0 with
    | true,some M=>match f M with | some r=>some (i,r) | none=>none
    | _,_=>none
   | _=>none
  | _=>none
 | .fn g l,_,M,v,f=>match v with
  | .fn g' cs=>match aM g g' with | true=>sv st l M cs f | false=>none
  | _=>none
 | .lP v,_,M,v',f=>match B1 v v' with | true=>f M | false=>none
 | _,_,_,_,_=>none
def sv (st:St):(l:List cx)→{r:Type}→Mp→List ag→(Mp→Option r)→Option (cx.xJ l r)
 | [],_,M,[],f=>f M
 | s::l,_,M,v::vs,f=>reify st s M v (fun M=>sv st l M vs f)
 | _,_,_,_,_=>none
end
def KE:Bool→Bool→Bool | true,true=>true | false,false=>true | _,_=>false
def B2 (st:St):(s:lu)→{r:Type}→Mp→Nat→dD→(Mp→Option r)→Option (s.LT r)
 | .row own t,_,M,d,.row o u _ xs,f=>match KE own o&&aM d 0 with
  | true=>(match Ty.cast (.sl u) (.sl t) xs with | some ys=>(match f M with | some r=>some (ys,r) | none=>none) | none=>none)
  | false=>none
 | .row own t,_,M,d,.cells _ cs,f=>match aM d t.size with
  | true=>(match takeN st own 50 t (cs.length / t.size) cs with | some (xs,[])=>(match f M with | some r=>some (xs,r) | none=>none) | _=>none)
  | false=>none
 | .cells _ l,_,M,d,.cells _ cs,f=>match aM d 0 with | true=>sv st l M cs f | false=>none
 | _,_,_,_,_,_=>none
def QE:(s:lu)→{r:Type}→Option r→Option (s.LT r)
 | .row _ t,_,f=>match f with | some r=>some (([]:List t.T),r) | none=>none
 | .cells _ _,_,_=>none
def B3 (st:St):(l:List (Nat×cx))→{r:Type}→Mp→(Mp→Option r)→Option (tM l r)
 | [],_,M,f=>f M
 | (i,s)::l,_,M,f=>match look st.env i with
  | some v=>reify st s M v (fun M=>B3 st l M f)
  | none=>none
def qX (st:St):(l:List (Nat×lu))→{r:Type}→Mp→(Mp→Option r)→Option (vA l r)
 | [],_,M,f=>f M
 | (i,s)::l,_,M,f=>match look M i with
  | some a=>match aM a.1 cO with
   | true=>QE s (qX st l M f)
   | false=>match st.obj a.1 with
    | some o=>B2 st s M a.2 o (fun M=>qX st l M f)
    | none=>none
  | none=>match kP M i (i*1024) 0,st.obj (i*1024) with
   | some M,some o=>B2 st s M 0 o (fun M=>qX st l M f)
   | _,_=>none
mutual
def reflect (nm:Nat→Nat) (vr:Nat):(s:cx)→{r:Type}→s.LT r→ag×r
 | .int k,_,x=>(.int k x.1,x.2)
 | .bool,_,x=>(.bool x.1,x.2)
 | .str,_,x=>(.str x.1,x.2)
 | .err,_,x=>(.err x.1,x.2)
 | .sh t,_,x=>(.sh t x.1,x.2)
 | .cZ t,_,x=>(.cZ t x.1,x.2)
 | .own id t,_,x=>(.own (nm id) 0 [] t,x)
 | .fK id t,_,x=>(.fK (nm id) 0 [] t x.1 x.2.1,x.2.2)
 | .bn id j,_,x=>(.bn (nm id) j,x)
 | .fb id t j,_,x=>(.fb (nm id) 0 [] t x.1 j,x.2)
 | .ga t j,_,x=>(.ga t x.1 j,x.2)
 | .agg l,_,x=>(.agg (nX nm vr l x).1,(nX nm vr l x).2)
 | .xI id _ j u,_,x=>(.own (nm id) vr [(x.1,j)] u,x.2)
 | .fn g l,_,x=>(.fn g (nX nm vr l x).1,(nX nm vr l x).2)
 | .lP v,_,x=>(v,x)
def nX (nm:Nat→Nat) (vr:Nat):(l:List cx)→{r:Type}→cx.xJ l r→List ag×r
 | [],_,x=>([],x)
 | s::l,_,x=>((reflect nm vr s x).1::(nX nm vr l (reflect nm vr s x).2).1,(nX nm vr l (reflect nm vr s x).2).2)
end
def nY (nm:Nat→Nat) (vr:Nat):(s:lu)→{r:Type}→s.LT r→dD×r
 | .row own t,_,x=>(.row own t vr x.1,x.2)
 | .cells ro l,_,x=>(.cells ro (nX nm vr l x).1,(nX nm vr l x).2)
def cT (nm:Nat→Nat) (vr:Nat):(l:List (Nat×cx))→{r:Type}→tM l r→List (Nat×ag)×r
 | [],_,x=>([],x)
 | (i,s)::l,_,x=>((i,(reflect nm vr s x).1)::(cT nm vr l (reflect nm vr s x).2).1,(cT nm vr l (reflect nm vr s x).2).2)
def fc (nm:Nat→Nat) (vr:Nat):(l:List (Nat×lu))→{r:Type}→vA l r→List (Nat×Option dD)×r
 | [],_,x=>([],x)
 | (i,s)::l,_,x=>((nm i,some (nY nm vr s x).1)::(fc nm vr l (nY nm vr s x).2).1,(fc nm vr l (nY nm vr s x).2).2)
def iY (st:St):List Nat→List (Nat×ag)
 | []=>[]
 | i::l=>match look st.env i with | some v=>(i,v)::iY st l | none=>iY st l
def ag.ids:ag→List Nat
 | .own i _ _ _ | .fK i _ _ _ _ _ | .fb i _ _ _ _ _ | .bn i _ | .fB i _ _ _=>[i]
 | .agg cs=>ie cs
 | .gN cs=>ie cs
 | .fn _ cs=>ie cs
 | _=>[]
 where ie:List ag→List Nat
 | []=>[]
 | v::r=>v.ids++ie r
def tN:List (Nat×ag)→List Nat
 | []=>[]
 | (_,v)::r=>v.ids++tN r
def mE (st:St):List Nat→List Nat
 | []=>[]
 | i::r=>(match st.obj i with | some (.cells _ cs)=>ag.ids.ie cs | _=>[])++mE st r
def vB (st:St):List Nat→List (Nat×Option dD)
 | []=>[]
 | i::l=>match st.obj i with | some o=>(i,some o)::vB st l | none=>vB st l
def LA.held (la:LA) (st:St):List Nat:=
 let a:=tN (iY st la.iv)++la.Al.map (· * 1024)
 let b:=a++mE st a
 b++mE st b
def LA.fit (la:LA) (h:List Nat) (M:Mp):Option Unit:=
 match M.all (fun p=>(match cL p.1 1000 with | true=>cL p.1 19&&aM p.2.1 (p.1*1024)&&aM p.2.2 0 | false=>true)&&
   la.aX.any (fun q=>aM q.1 p.1)&&!(h.any (aM p.2.1))) with
 | true=>some ()
 | false=>none
def LA.read (la:LA) (head st:St):Option la.LT:=
 B3 st la.cy [] (fun M=>qX st la.aX M (la.fit (la.held head)))
def LA.mk' (la : LA) (st : St) (x : la.LT) : St :=
  let a := cT (ck st.nxt) 0 la.cy x
  { env := a.1 ++ iY st la.iv, heap := (fc (ck st.nxt) 0 la.aX a.2).1 ++ vB st (la.held st), nxt := st.nxt + la.aX.length,
    et := la.cy.map (·.1) ++ st.et, ht := la.aX.map (fun p => ck st.nxt p.1) ++ st.ht }
def front (names:List Nat):Nat→List Nat→Bool
 | 0,_=>true
 | _,[]=>true
 | n+1,i::r=>!(names.any (aM i))&&front names n r
def LA.kept (la:LA) (head st:St):Bool:=
 let h:=la.held head
 front la.iv (st.et.length-head.et.length) st.et&&front h (st.ht.length-head.ht.length) st.ht&&
 la.iv.all (fun i=>(look st.env i).isSome)&&h.all (fun i=>(st.obj i).isSome)
def LA.apart (la:LA) (st:St):Bool:=
 nodupB (la.aX.map (·.1))&&la.aX.all (fun p=>!((la.held st).any (aM (ck st.nxt p.1))))&&la.aX.all (fun p=>cL p.1 (1000+la.aX.length))&&
 la.iv.all (fun i=>!(la.cy.any fun p=>aM p.1 i))&&(mE st (la.held st)).all (fun i=>(la.held st).any (aM i))&&
 (la.held st).all (fun i=>match st.obj i with | some (.nV _ _ _ _ _)=>false | _=>true)
abbrev LA.vC (la:LA) (r:Type):Type:=tM la.cy (vA la.aX r)
structure dn where
 la:LA
 lb:LA
 m:la.vC Mp→Option lb.LT
structure ba where
 bw:List (Nat×mD)
 calls:List (Nat×au)
 tO:List (Nat×dn)
 mF:List Nat:=[]
def ba.ti (c:ba) (t:Nat):mD:=match look c.bw t with | some i=>i | none=>⟨false,0,0,[],.other,0,none,[],false⟩
def number (n:Nat):List ag→List (Nat×ag)
 | []=>[]
 | v::r=>(n,v)::number (n+1) r
def LA.lv (la:LA) (x:la.vC Mp):St:=
 let a:=cT (ck 20) 0 la.cy x
 { env:=a.1,heap:=(fc (ck 20) 0 la.aX a.2).1,nxt:=20 }
def LA.QF (lb:LA) (M:Mp):Option Unit:=
 match M.all (fun p=>lb.aX.any (fun q=>aM q.1 p.1)&&(match cL p.1 1000 with | true=>cL p.1 15&&aM p.2.1 (p.1*1024)&&aM p.2.2 0 | false=>true)) with
 | true=>some ()
 | false=>none
def LA.KF (lb:LA) (st:St):Option lb.LT:=B3 st lb.cy [] (fun M=>qX st lb.aX M lb.QF)
def LA.QG (la:LA) (M:Mp):Option Mp:=
 match M.all (fun p=>la.aX.any (fun q=>aM q.1 p.1)&&cL p.1 15) with
 | true=>some M
 | false=>none
def LA.Yq (la:LA) (st:St):Option (la.vC Mp):=B3 st la.cy [] (fun M=>qX st la.aX M la.QG)
mutual
def cx.jR:cx→Bool
 | .sh _ | .cZ _ | .ga _ _=>true
 | .agg l=>cx.sw l
 | .fn _ l=>cx.sw l
 | .lP v=>!(B1 v v)
 | _=>false
def cx.sw:List cx→Bool
 | []=>false
 | s::l=>s.jR||cx.sw l
end
section
variable {ρ:Type}
def br (b:Bool) (x y:Option ρ):Option ρ:=match b with | true=>x | false=>y
def xK (gQ:Nat) (st:St) (x:ag) (i:Int) (k:ag→Option ρ):Nat→Option ρ
 | 0=>none
 | m+1=>br (decide (i=Int.ofNat m)) (p5 gQ st x (Int.ofNat m) k) (xK gQ st x i k m)
def Yr:ag→Nat
 | .fB _ _ len _=>len
 | _=>0
def ab (p:Prop) [Decidable p] (x:Option ρ):Option ρ:=if p then x else none
mutual
def lQ (st:St) (own:Bool):Nat→(t:Ty)→t.T→Nat→Nat→List ag→Option (t.T×List Nat×Bool)
 | 0,_,_,_,_,_=>none
 | d+1,.pair a b,x,j,lo,vs=>
  match lQ st own d a x.1 j lo vs with
  | some (y,u,h)=>match lQ st own d b x.2 (j+a.size) lo vs with
   | some (z,v,g)=>some ((y,z),u++v,h||g)
   | none=>none
  | none=>none
 | d+1,t,x,j,lo,vs=>
  match fJ lo j&&cL j (lo+vs.length) with
  | false=>some (x,[],false)
  | true=>match vs.drop (j-lo) with
   | v::_=>match take st own d t [v] with
    | some (y,_,u)=>some (y,u,match t with | .sl _=>true | .bQ _=>true | _=>false)
    | none=>none
   | []=>none
end
def B4 (site:Nat) (id:Nat) (own:Bool) (t:Ty) (vr:Nat) (xs:List t.T) (tt:Ty) (i j az nZ i' j':Nat) (u:Ty) (off len:Nat) (k:cG→Option ρ):Option ρ:=
 match own&&aM id az&&aM j j'&&aM nZ vr&&Ty.beq tt t&&(match kp t (el t xs i) j with | some ⟨u',_⟩=>Ty.beq u u' | none=>false) with
 | false=>none
 | true=>ab (i=i') (match sq t (el t xs i) j (fun _ ys=>some ((ys.drop off).take len)) with
  | some y=>k ⟨.undef,[(id,some (.row own t site (xs.set i y)))]⟩
  | none=>none)
def An (st:St) (site size:Nat) (id:Nat) (own:Bool) (t:Ty) (vr:Nat) (xs:List t.T) (p:Path) (tt:Ty) (i j:Nat) (vs:List ag) (k:cG→Option ρ):Option ρ:=
 match place t xs p with
 | some ⟨u,ys⟩=>match (match Ty.beq tt u&&fJ (j+size) u.size with | true=>lQ st own 50 u (el u ys i) 0 j vs | false=>none) with
  | some (y,used,ef)=>match xG t xs p (fun u' _=>Ty.cast (.sl u) (.sl u') (ys.set i y)) with
   | some lR=>match nodupB (id::used)&&(match ef with | false=>used.isEmpty | true=>p.isEmpty) with
    | true=>k ⟨.undef,(id,some (.row own t (match ef with | true=>site | false=>vr) lR))::gone used⟩
    | false=>none
   | none=>none
  | none=>none
 | none=>none
def B5 (st:St) (site size:Nat) (id:Nat) (t:Ty) (xs:List t.T) (bi bj:Nat) (tt:Ty) (i j:Nat) (vs:List ag) (k:cG→Option ρ):Option ρ:=
 match aM j bj&&Ty.beq tt t&&fJ (j+size) t.size&&cL 0 size with
 | false=>none
 | true=>ab (i=bi) (match lQ st true 50 t (el t xs i) 0 j vs with
  | some (y,used,_)=>match nodupB (id::used) with
   | true=>k ⟨.undef,(id,some (.row true t site (xs.set i y)))::gone used⟩
   | false=>none
  | none=>none)
def B6 (st:St) (site:Nat) (size:Nat) (addr v:ag) (k:cG→Option ρ):Option ρ:=
 match aM v.cells.length size&&jQ v.cells with
 | false=>none
 | true=>
 match addr with
 | .bn id j=>match st.obj id with
  | some (.cells ro cs)=>match KD ro j size with
   | true=>none
   | false=>match fJ (j+size) cs.length with
    | true=>k ⟨.undef,[(id,some (.cells ro (putCells cs j v.cells)))]⟩
    | false=>none
  | _=>none
 | .fb id ver p tt i j=>match st.obj id with
  | some (.row own t vr xs)=>
   match (match p with | []=>true | _=>own&&aM ver vr) with
   | false=>none
   | true=>match p with
    | []=>match v with
     | .fK az nZ [(i',j')] u off len=>B4 site id own t vr xs tt i j az nZ i' j' u off len k
     | v=>An st site size id own t vr xs [] tt i j v.cells k
    | q::p=>An st site size id own t vr xs (q::p) tt i j v.cells k
  | some (.nV t _ xs bi bj)=>match p with
   | []=>B5 st site size id t xs bi bj tt i j v.cells k
   | _=>none
  | _=>none
 | _=>none
def St.D3 (st:St) (t:Ty):ag→Option (List t.T)
 | .fK id ver [] tt off len=>match st.obj id with
  | some (.row false _ _ _)=>match st.list (.fK id ver [] tt off len) with
   | some ⟨u,xs⟩=>Ty.cast (.sl u) (.sl t) xs
   | none=>none
  | _=>none
 | _=>none
def KG {α:Type} (own:Bool) (ro:Option α) (z:Option (α×List Nat)):Option (α×List Nat):=match own,ro with
 | false,some ys=>some (ys,[])
 | _,_=>z
def St.tail (st:St) (own:Bool) (t:Ty):ag→Option (List t.T×List Nat)
 | .nil=>some ([],[])
 | .fB id 0 len sz=>match take st own 50 (.sl t) [.fB id 0 len sz] with | some (xs,_,u)=>some (xs,u) | none=>none
 | v=>match t.plain with
  | true=>match st.list v with
   | some ⟨u,xs⟩=>match Ty.cast (.sl u) (.sl t) xs with | some ys=>some (ys,[]) | none=>none
   | none=>none
  | false=>KG own (st.D3 t v) (match take st own 50 (.sl t) [v] with | some (xs,_,u)=>some (xs,u) | none=>none)
def Ao (fg:Nat) (st:St) (site:Nat) (t:Ty) (s x:ag) (k:cG→Option ρ):Option ρ:=
 match take st true 50 (.sl t) [s] with
 | some (xs,_,u)=>match st.tail true t x with
  | some (ys,v)=>match nodupB (u++v) with
   | true=>ab (((show List t.T from xs).length+ys.length)*fg≤bo) (k ⟨.own (site*1024) 0 [] t,(site*1024,some (.row true t site ((show List t.T from xs)++ys)))::gone (u++v)⟩)
   | false=>none
  | none=>none
 | none=>none
def Ap (fg:Nat) (st:St) (site id:Nat) (own:Bool) (t:Ty) (xs:List t.T) (x:ag) (k:cG→Option ρ):Option ρ:=
 match st.tail own t x with
 | some (ys,v)=>match nodupB (id::v) with
  | true=>ab ((xs.length+ys.length)*fg≤bo) (k ⟨.own (site*1024) 0 [] t,(site*1024,some (.row own t site (xs++ys)))::gone (id::v)⟩)
  | false=>none
 | none=>none
def B7 (fg:Nat) (st:St) (site id:Nat) (t:Ty) (xs:List t.T) (i j:Nat) (x:ag) (k:cG→Option ρ):Option ρ:=
 match kp t (el t xs i) j with
 | some ⟨u,zs⟩=>match st.tail true u x with
  | some (ys,v)=>match nodupB (id::v) with
   | true=>ab ((zs.length+ys.length)*fg≤bo) (k ⟨.own (site*1024) 0 [] u,(site*1024,some (.row true u site (zs++ys)))::(id,some (.nV t site xs i j))::gone v⟩)
   | false=>none
  | none=>none
 | none=>none
def B8 (fg:Nat) (st:St) (site:Nat) (jS:Option Ty) (gQ:Nat) (s x:ag) (k:cG→Option ρ):Option ρ:=
 match aM gQ (match s with | .nil | .fB _ _ _ _=>(match jS with | some t=>t.size | none=>0) | s=>st.su s) with
 | false=>none
 | true=>match s with
 | .nil=>match jS with
  | some t=>Ao fg st site t .nil x k
  | none=>none
 | .fB id off len sz=>match jS with
  | some t=>Ao fg st site t (.fB id off len sz) x k
  | none=>none
 | .own id ver p _=>match st.obj id with
  | some (.row own t vr xs)=>match p with
   | []=>Ap fg st site id own t xs x k
   | [(i,j)]=>match own&&aM ver vr with
    | false=>none
    | true=>B7 fg st site id t xs i j x k
   | _=>none
  | _=>none
 | .fK id _ [] tt off len=>match st.obj id with
  | some (.row own t _ xs)=>match Ty.beq tt t with
   | true=>Ap fg st site id own t ((xs.drop off).take len) x k
   | false=>none
  | _=>none
 | _=>none
def B9 (fg:Nat) (st:St) (jS:Option Ty) (s x:ag) (k:cG→Option ρ):Option ρ:=
 match s,jS with
 | .fB id 0 0 sz,some t=>match st.obj id with
  | some (.cells _ [])=>match aM sz t.size,st.tail false t x with
   | true,some (ys,[])=>ab (ys.length*fg≤bo) (k ⟨.cZ t (some ys),[]⟩)
   | _,_=>none
  | _=>none
 | _,_=>none
def ag.QH:ag→ag
 | .cZ t x=>.sh t (x.getD [])
 | v=>v
def Ca (fg:Nat) (st:St) (site:Nat) (jS:Option Ty) (s x:ag) (k:cG→Option ρ):Option ρ:=
 match jS with
 | some t=>match (match s with | .nil=>true | .fB id 0 0 sz=>(match st.obj id with | some (.cells _ [])=>aM sz t.size | _=>false) | _=>false),st.tail false t x with
  | true,some (ys,[])=>ab (ys.length*fg≤bo) (k ⟨.own (site*1024) 0 [] t,[(site*1024,some (.row false t site ys))]⟩)
  | _,_=>none
 | none=>none
def D4 (fg site:Nat) (jS:Option Ty) (s x:ag) (k:cG→Option ρ):Option ρ:=
 match s,x,jS with
 | .nil,.int _ n,some t=>ab (0<n∧n*(fg:Int)≤(bo:Int)) (k ⟨.own (site*1024) 0 [] t,[(site*1024,some (.row true t site (iu n.toNat t.zero)))]⟩)
 | _,_,_=>none
def fL (id:Nat) (site:Nat):(t:Ty)→t.T→Nat→List (Nat×Option dD)
 | .pair a b,x,j=>fL id site a x.1 j++fL id site b x.2 (j+a.size)
 | .sl t,xs,j=>[(id+j,some (.row true t site xs))]
 | _,_,_=>[]
def vD (id:Nat):Nat→(u:Ty)→List u.T→ag:=fun j u _=>.own (id+j) 0 [] u
def shut (t:Ty) (cs:List ag):ag:=match t with | .pair _ _=>.agg cs | _=>match cs with | [v]=>v | _=>.undef
def He (id:Nat) (ms:List Bool):List ag→List ag→List ag
 | a::as,b::bs=>(match ms with | true::_=>a | _=>b)::He id ms.tail as bs
 | _,_=>[]
def qY (site q:Nat):(r:RK)→r.ty.T→ag×List (Nat×Option dD)
 | .val t,x=>(shut t (flat (vD (site*1024+q)) t x 0),fL (site*1024+q) site t x 0)
 | .sh t,x=>(shut t (flat mC t x 0),[])
 | .ptr t ms,x=>
  (.bn (site*1024+q) 0,(site*1024+q,some (.cells [] (He 0 ms (flat (vD (site*1024+q+1)) t x 0) (flat mC t x 0))))::fL (site*1024+q+1) site t x 0)
def gi (site:Nat):Nat→(rs:List RK)→(os:List Ty)→bZ (RK.bw rs++os)→List ag×List (Nat×Option dD)×bZ os
 | _,[],_,y=>([],[],y)
 | q,r::rs,os,y=>
  let (v,o):=qY site q r y.1
  let (vs,Ys,z):=gi site (q+32) rs os y.2
  (v::vs,o++Ys,z)
def o8 (t:Ty) (v:ag):List ag:=match t with | .pair _ _=>v.cells | _=>[v]
def dN (st:St):(t:Ty)→List ag→Option (t.T×List ag)
 | .int k,.int l n::r=>match nn k l with | true=>some (n,r) | false=>none
 | .bool,.bool b::r=>some (b,r)
 | .str,.str s::r=>some (s,r)
 | .err,.err b::r=>some (b,r)
 | .pair a b,cs=>match dN st a cs with
  | some (x,r)=>match dN st b r with | some (y,r)=>some ((x,y),r) | none=>none
  | none=>none
 | .sl t,.own id _ [] _::r=>match st.obj id with
  | some (.row true u _ xs)=>match Ty.cast (.sl u) (.sl t) xs with | some ys=>some (ys,r) | none=>none
  | _=>none
 | _,_=>none
def Aq (st:St) (site:Nat):(t:Ty)→List ag→{os:List Ty}→bZ (t.gP os)→Option (List (Nat×Option dD)×List ag×bZ os)
 | .pair a b,cs,os,y=>match Aq st site a cs (os:=b.gP os) y with
  | some (o,cs,y)=>match Aq st site b cs (os:=os) y with | some (p,cs,y)=>some (o++p,cs,y) | none=>none
  | none=>none
 | .sl t,cs,_,y=>match cs with
  | .own id _ [] _::r=>match st.obj id with
   | some (.row own u _ _)=>match Ty.cast (.sl t) (.sl u) y.1 with | some xs=>some ([(id,some (.row own u site xs))],r,y.2) | none=>none
   | _=>none
  | _=>none
 | .int _,cs,_,y=>some ([],cs.tail,y)
 | .bool,cs,_,y=>some ([],cs.tail,y)
 | .str,cs,_,y=>some ([],cs.tail,y)
 | .err,cs,_,y=>some ([],cs.tail,y)
 | .bQ _,cs,_,y=>some ([],cs.tail,y)
def D5:List ag→List Nat
 | []=>[]
 | .own id _ _ _::r=>id::D5 r
 | _::r=>D5 r
def sA (st:St) (site:Nat):Nat→(ps:List PK)→List ag→bZ (PK.outs ps)→Option (List (Nat×Option dD))
 | _,[],_,_=>some []
 | q,.io t::ps,v::vs,y=>
  match Aq st site t (o8 t v) y with
  | some (o,_,y')=>match sA st site (q+32) ps vs y' with | some r=>some (o++r) | none=>none
  | none=>none
 | q,.jC t ms::ps,v::vs,y=>
  match (match v with
   | .bn id j=>match st.obj id with
    | some (.cells ro cs)=>
     some ((id,some (dD.cells ro (putCells cs j (He 0 ms (flat (vD (site*1024+512+q)) t y.1 0) ((cs.drop j).take t.size)))))::fL (site*1024+512+q) site t y.1 0)
    | _=>none
   | .fb id _ [] _ i 0=>match st.obj id with
    | some (.row own u _ xs)=>match Ty.cast t u y.1 with
     | some x=>some [(id,some (dD.row own u site (xs.set i x)))]
     | none=>none
    | _=>none
   | _=>none) with
  | some o=>match sA st site (q+32) ps vs y.2 with | some r=>some (o++r) | none=>none
  | none=>none
 | q,.val _::ps,_::vs,y=>sA st site (q+32) ps vs y
 | q,.fQ _::ps,_::vs,y=>sA st site (q+32) ps vs y
 | q,.jD _ _::ps,_::vs,y=>sA st site (q+32) ps vs y
 | _,_::_,[],_=>none
mutual
def p6 (st sr:St):(p:PK)→ag→Option p.T
 | .val t,v=>match iX sr 50 t (match t with | .pair _ _=>v.cells | _=>[v]) with | some (x,[])=>some x | _=>none
 | .fQ t,.ga u x 0=>Ty.cast u t x
 | .fQ t,.bn id j=>match sr.obj id with
  | some (.cells _ cs)=>match iX sr 50 t ((cs.drop j).take t.size) with | some (x,[])=>some x | _=>none
  | _=>none
 | .fQ t,.fb id _ [] tt i 0=>match sr.obj id with
  | some (.row _ u _ xs)=>match Ty.beq tt u with | true=>Ty.cast u t (el u xs i) | false=>none
  | _=>none
 | .io t,v=>match dN st t (o8 t v) with | some (x,[])=>some x | _=>none
 | .jC t _,.bn id j=>match st.obj id with
  | some (.cells _ cs)=>match iX st 50 t ((cs.drop j).take t.size) with | some (x,[])=>some x | _=>none
  | _=>none
 | .jC t _,.fb id _ [] _ i 0=>match st.obj id with
  | some (.row _ u _ xs)=>Ty.cast u t (el u xs i)
  | _=>none
 | .jD f caps,.fn f' vs=>match aM f f' with
  | true=>mG st sr caps vs
  | false=>none
 | _,_=>none
 termination_by structural p _=>p
def mG (st sr:St):(ps:List PK)→List ag→Option (iH ps)
 | [],[]=>some ()
 | p::ps,v::vs=>match p6 st sr p v with
  | some x=>match mG st sr ps vs with | some r=>some (x,r) | none=>none
  | none=>none
 | _,_=>none
 termination_by structural ps _=>ps
end
def n_ (st:St):(ps:List PK)→List ag→List Nat
 | .io t::ps,v::vs=>D5 (o8 t v)++n_ st ps vs
 | .jC _ _::ps,.bn id _::vs=>id::((match st.obj id with
   | some (.cells _ cs)=>cs.filterMap fun | .own i _ _ _=>some i | _=>none
   | _=>[])++n_ st ps vs)
 | .jC _ _::ps,.fb id _ _ _ _ _::vs=>id::n_ st ps vs
 | _::ps,_::vs=>n_ st ps vs
 | _,_=>[]
def vE:RK→Bool | .sh _=>true | _=>false
def xL (st:St) (rs:List RK) (io:List Nat):St:=
 match rs.any vE with
 | true=>{ st with heap:=[] }
 | false=>{ st with heap:=gone io++st.heap }
def Cb (st:St) (f:Nat) (args:List ag):List (Nat×au)→Option ((m:au)×iH m.ps)
 | []=>none
 | (g,m)::r=>match aM g f with
  | false=>Cb st f args r
  | true=>match mG st (xL st m.rs (n_ st m.ps args)) m.ps args with
   | some x=>some ⟨m,x⟩
   | none=>Cb st f args r
def Ty.jE:Ty→Bool
 | .pair a b=>a.jE&&b.jE
 | .sl t=>t.jE
 | .bQ _=>false
 | _=>true
def PK.jF:PK→Bool | .jC _ _=>false | _=>true
def RK.jF:RK→Bool | .ptr _ _=>false | _=>true
def xM (ps:List PK) (rs:List RK):Bool:=
 ps.all PK.jF&&rs.all RK.jF&&fJ rs.length 15&&fJ ps.length 15&&rs.all (fun r=>fJ r.ty.size 30)&&(PK.outs ps).all (fun t=>fJ t.size 30)&&
 rs.all (fun r=>match r with | .val t=>t.jE | _=>true)&&(PK.outs ps).all Ty.jE&&ps.all (fun p=>match p with | .io t=>fJ t.size 30 | _=>true)
def kQ (op:Int):Bool:=decide (op=1∨op=2∨op=3∨op=9∨op=10)
def jT (op:Int):Bool:=decide (op=4∨op=5∨op=6∨op=7)
def np (op:Int):Bool:=decide (op=8)
def KH (site id:Nat) (js:List Nat) (len:Nat):cG:=⟨.fB (site*1024) 0 len 1,[(site*1024,some (.cells [] (js.map fun j=>.bn id j)))]⟩
def Cc (st:St) (site:Nat) (args:List ag) (k:cG→Option ρ):Option ρ:=
 match args with
 | [.bn id 0]=>match st.obj id with
  | some (.cells _ (.int .i64 op::_))=>match kQ op with
   | true=>k (KH site id [1,2] 2)
   | false=>match jT op with
    | true=>k (KH site id [1,2,3] 3)
    | false=>match np op with
     | true=>k (KH site id [2] 1)
     | false=>k ⟨.nil,[]⟩
  | _=>none
 | _=>none
def ba.key (c:ba) (site f:Nat):Nat:=match c.mF.any (aM (site+2000000)) with | true=>f+1000000 | false=>f
def D6 (N f:Nat):Nat:=match fJ N f with | true=>f-N | false=>f
theorem Yt (N f:Nat):D6 N (f+N)=f:=by unfold D6;rw [Nat.ble_eq_true_of_le (Nat.le_add_left N f)];exact Nat.add_sub_cancel _ _
theorem Yu {N f:Nat} (h:cL f N=true):D6 N f=f:=by
 have e:fJ N f=false:=by
  cases hb:fJ N f with
  | false=>rfl
  | true=>rw [dJ] at h; have:=gh hb; omega
 unfold D6;rw [e]
abbrev Ar:Nat→Nat:=D6 1000000
theorem Yv (c:ba) (site f:Nat):c.key site f=f+1000000∨c.key site f=f:=by
 unfold ba.key;cases c.mF.any (aM (site+2000000))
 ·exact .inr rfl
 exact .inl rfl
theorem Yw {c:ba} {site f:Nat} (h:cL f 1000000=true):Ar (c.key site f)=f:=by
 rcases Yv c site f with e | e
 ·rw [e]; exact Yt 1000000 f
 rw [e]; exact Yu h
def Cd (c:ba) (st:St) (site:Nat) (f:Nat) (args:List ag) (k:cG→Option ρ):Option ρ:=
 match Cb st (c.key site f) args c.calls with
 | none=>match c.mF.any (aM (f+3000000)) with | true=>Cc st site args k | false=>none
 | some ⟨m,x⟩=>match nodupB (n_ st m.ps args)&&xM m.ps m.rs&&cL f 1000000 with
  | false=>none
  | true=>(m.m x).bind fun y=>
   let r:=gi site 0 m.rs (PK.outs m.ps) y
   match sA st site 0 m.ps args r.2.2 with
   | some o=>k ⟨match r.1 with | [v]=>v | vs=>.gN vs,r.2.1++o⟩
   | none=>none
mutual
def QI (sr:St):cx→ag→ag
 | .sh t,v=>match p6 sr sr (.val (.sl t)) v with | some x=>.sh t x | none=>v
 | .cZ t,v=>match p6 sr sr (.val (.bQ t)) v with | some x=>.cZ t x | none=>v
 | .ga t 0,v=>match p6 sr sr (.fQ t) v with | some x=>.ga t x 0 | none=>v
 | .agg l,.agg vs=>.agg (As sr l vs)
 | .fn _ l,.fn f vs=>.fn f (As sr l vs)
 | _,v=>v
 termination_by structural s _=>s
def As (sr:St):List cx→List ag→List ag
 | s::l,v::vs=>QI sr s v::As sr l vs
 | _,vs=>vs
 termination_by structural l _=>l
end
mutual
def Yx:cx→ag→List Nat
 | .own _ _,v=>v.ids
 | .fK _ _,v=>v.ids
 | .bn _ _,v=>v.ids
 | .fb _ _ _,v=>v.ids
 | .xI _ _ _ _,v=>v.ids
 | .agg l,.agg vs=>Hf l vs
 | .fn _ l,.fn _ vs=>Hf l vs
 | _,_=>[]
 termination_by structural s _=>s
def Hf:List cx→List ag→List Nat
 | s::l,v::vs=>Yx s v++Hf l vs
 | _,_=>[]
 termination_by structural l _=>l
end
def lu.jR:lu→Bool
 | .row own t=>!own||!t.jE
 | .cells _ l=>cx.sw l
def LA.jR (lb:LA):Bool:=cx.sw (lb.cy.map (·.2))||lb.aX.any (fun p=>p.2.jR)
def handed (st:St) (la:LA) (args:List ag):List Nat:=
 let a:=Hf (la.cy.map (·.2)) args
 let b:=a++mE st a
 b++mE st b
def Ce (st:St) (SH:Bool) (hs:List Nat):St:=
 match SH with
 | true=>{ st with heap:=[] }
 | false=>{ st with heap:=gone hs++st.heap }
def QJ (st:St) (M:dn) (args:List ag):St:=
 let hs:=handed st M.la args
 { env:=number 0 (As (Ce st M.lb.jR hs) (M.la.cy.map (·.2)) args),heap:=vB st hs,nxt:=20 }
def dt (mp:Mp) (site:Nat) (k:Nat):Nat:=
 match cL k 1000 with
 | true=>match look mp k with | some ad=>ad.1 | none=>0
 | false=>site*1024+(k-1000)
def LA.tail (la:LA) (x:la.vC Mp):Mp:=(fc (ck 20) 0 la.aX (cT (ck 20) 0 la.cy x).2).2
def countB:Nat→List (Nat×cx)→Bool
 | _,[]=>true
 | n,(i,_)::r=>aM i n&&countB (n+1) r
def Hg (M:dn) (args:List ag) (mp:Mp):Bool:=
 countB 0 M.la.cy&&aM M.la.cy.length args.length&&countB 0 M.lb.cy&&nodupB (M.lb.aX.map (·.1))&&
 M.lb.aX.all (fun p=>match cL p.1 1000 with
  | true=>match look mp p.1 with | some ad=>!(aM ad.1 cO)&&aM ad.2 0 | none=>false
  | false=>cL p.1 2000)
def p7 (M:dn) (mp:Mp):Mp→List Nat
 | []=>[]
 | p::r=>match aM p.2.1 cO||M.lb.aX.any (fun q=>aM q.1 p.1)||!(match look mp p.1 with | some ad=>aM ad.1 p.2.1 | none=>false) with
  | true=>p7 M mp r
  | false=>p.2.1::p7 M mp r
def D7 (st:St) (site:Nat) (M:dn) (x:M.la.vC Mp) (k:cG→Option ρ):Option ρ:=
 (M.m x).bind fun y=>
  let nm:=dt (M.la.tail x) site
  let a:=cT nm site M.lb.cy y
  k ⟨match a.1.map (·.2) with | [v]=>v | vs=>.gN vs,(fc nm site M.lb.aX a.2).1++gone (p7 M (M.la.tail x) (M.la.tail x))⟩
def KI (st:St) (M:dn) (args:List ag):Option (M.la.vC Mp):=
 match M.la.Yq (QJ st M args) with
 | some x=>match Hg M args (M.la.tail x) with | true=>some x | false=>none
 | none=>none
def tP (c:ba) (st:St) (site:Nat) (f:Nat) (args:List ag) (k:cG→Option ρ):List (Nat×dn)→Option ρ
 | []=>Cd c st site f args k
 | (g,M)::r=>match aM g f with
  | false=>tP c st site f args k r
  | true=>match KI st M args with
   | some x=>D7 st site M x k
   | none=>tP c st site f args k r
def At (st:St) (id:Nat) (own:Bool) (t:Ty) (vr:Nat) (xs:List t.T) (off len:Nat) (x:ag) (k:cG→Option ρ):Option ρ:=
 match t.plain with
 | false=>none
 | true=>match st.list x with
  | some ⟨u,ys⟩=>match Ty.cast (.sl u) (.sl t) ys with
   | some zs=>k ⟨.int .i64 ((min (show List t.T from zs).length len:Nat):Int),[(id,some (.row own t vr (xs.take off++((show List t.T from zs).take len++xs.drop (off+min (show List t.T from zs).length len)))))]⟩
   | none=>none
  | none=>none
def Cf (gQ:Nat) (st:St) (d x:ag) (k:cG→Option ρ):Option ρ:=
 match d with
 | .own id _ [] _=>match st.obj id with
  | some (.row own t vr xs)=>match aM gQ t.size with
   | true=>At st id own t vr xs 0 xs.length x k
   | false=>none
  | _=>none
 | .fK id _ [] tt off len=>match st.obj id with
  | some (.row own t vr xs)=>match aM gQ t.size&&Ty.beq tt t with
   | true=>At st id own t vr xs off len x k
   | false=>none
  | _=>none
 | _=>none
def Hh (st:St) (o:Option Operand) (d:ag):ag:=match o with | some x=>st.ev x | none=>d
def Cg:ag→Option Int
 | .int _ n=>some n
 | _=>none
def tQ (gQ:Nat) (st:St) (x:ag) (lo hi:Option Operand) (k:cG→Option ρ):Option ρ:=
 match aM gQ (match x with | .str _=>0 | .nil=>gQ | x=>st.su x) with
 | false=>none
 | true=>match Cg (Hh st lo (.int .i64 0)),st.len x with
 | some l,some n=>match Cg (Hh st hi (.int .i64 n)) with
  | some h=>ab (0≤l∧l≤h∧h≤n) (match x with
   | .str s=>k ⟨.str ((s.take h.toNat).drop l.toNat),[]⟩
   | .nil=>k ⟨.nil,[]⟩
   | .sh t xs=>k ⟨.sh t ((xs.take h.toNat).drop l.toNat),[]⟩
   | .cZ t o=>k ⟨.sh t (((o.getD []).take h.toNat).drop l.toNat),[]⟩
   | .own id ver p _=>match st.rowAt id ver p with | some ⟨u,_⟩=>k ⟨.fK id ver p u l.toNat (h.toNat-l.toNat),[]⟩ | none=>none
   | .fK id ver p t off _=>k ⟨.fK id ver p t (off+l.toNat) (h.toNat-l.toNat),[]⟩
   | .fB id off _ sz=>match l,h with
    | .ofNat l,.ofNat h=>k ⟨.fB id (off+l) (h-l) sz,[]⟩
    | _,_=>none
   | _=>none)
  | none=>none
 | _,_=>none
def Au (own:Bool) (gQ:Nat) (st:St) (site:Nat) (x:ag) (lo hi:Option Operand) (k:cG→Option ρ):Option ρ:=
 tQ gQ st x lo hi fun e=>match e.val with
  | .fK id _ [] t 0 0=>match st.obj id with
   | some (.row _ u _ _)=>match Ty.beq t u with
    | true=>k ⟨.own (site*1024) 0 [] t,[(site*1024,some (.row own t site [])),(id,none)]⟩
    | false=>none
   | _=>none
  | _=>none
def sB (pl:Nat→Option (Nat×Nat)):List (Nat×ag)→List ag→Option (List ag)
 | [],zs=>some zs
 | (i,v)::r,zs=>match pl i with
  | some (off,size)=>match aM v.cells.length size&&jQ v.cells&&fJ (off+size) zs.length with
   | true=>sB pl r (putCells zs off v.cells)
   | false=>none
  | none=>none
def Ch (c:ba) (i:mD) (n:Nat):Option (Nat×Nat):=match i.fields[n]? with | some (off,t)=>some (off,(c.ti t).size) | none=>none
def vF (n:Nat) (cs:List ag):List ag:=(iu n cs).flatten
def QK:TK→Bool | .other=>true | _=>false
def eE (c:ba) (st:St) (site:Nat) (o:Op) (k:cG→Option ρ):Option ρ:=
 let v (x:ag):Option ρ:=k ⟨x,[]⟩
 match o with
 | .move x | .assign x=>v (st.ev x)
 | .pick q a b=>match st.ev q with
  | .bool t=>br t (v (st.ev a)) (v (st.ev b))
  | _=>none
 | .alloc t=>match cL 0 (c.ti t).size with
  | true=>k ⟨.bn (site*1024) 0,[(site*1024,some (.cells [] (c.ti t).zero))]⟩
  | false=>none
 | .box _ x=>match jQ (st.ev x).cells with
  | true=>k ⟨.bn (site*1024) 0,[(site*1024,some (.cells [] (st.ev x).cells))]⟩
  | false=>none
 | .build t parts=>match (match (c.ti t).kind,(c.ti t).fields.all (fun f=>cL 0 (c.ti f.2).size) with | .struct,true=>sB (Ch c (c.ti t)) (parts.toList.map fun p=>(p.1,st.ev p.2)) (c.ti t).zero | _,_=>none) with
  | some cs=>v (.agg cs)
  | none=>none
 | .buildSlice t len parts=>
  let e:=c.ti (c.ti t).elem
  match (match (c.ti t).kind,cL 0 e.size&&fJ (len*e.size) 100000 with | .slice,true=>some () | _,_=>none) with
  | none=>none
  | some _=>
  match sB (fun n=>some (n*e.size,e.size)) (parts.toList.map fun p=>(p.1,st.ev p.2)) (vF len e.zero) with
  | some cs=>k ⟨.fB (site*1024) 0 len e.size,[(site*1024,some (.cells [] cs))]⟩
  | none=>none
 | .load t x=>match (match cL 0 (c.ti t).size with | true=>st.D1 (st.ev x) | false=>none) with
  | some (cs,j)=>match part (c.ti t).agg (c.ti t).size cs j with | some x=>v x | none=>none
  | none=>none
 | .store t x y=>match cL 0 (c.ti t).size with | false=>none | true=>B6 st site (c.ti t).size (st.ev x) (st.ev y) k
 | .nilCheck x=>match st.ev x with
  | .bn id j=>v (.bn id j)
  | .fb id ver p t i j=>v (.fb id ver p t i j)
  | .ga t x j=>v (.ga t x j)
  | _=>none
 | .binOp op t x y _=>match st.ev x,st.ev y with
  | .agg a,.agg b=>match (c.ti t).eq&&aM (c.ti t).fields.length a.length,xH a b,op with
   | true,some e,.eql=>v (.bool e)
   | true,some e,.neq=>v (.bool (!e))
   | _,_,_=>none
  | a,b=>match QK (c.ti t).kind with | true=>none | false=>vz (c.ti t).kind (match y with | .const _=>true | _=>false) op a b v
 | .unOp op _ x=>match op,st.ev x with
  | .not,.bool b=>v (.bool (!b))
  | .neg,.int kk n=>v (.int kk (nW kk (0-n)))
  | _,_=>none
 | .convert s d x=>match (c.ti s).kind,(c.ti d).kind,st.ev x with
  | .int _,.int kk,.int _ n=>v (.int kk (nW kk n))
  | .str,.str,.str s=>v (.str s)
  | .slice,.str,y=>match (c.ti (c.ti s).elem).kind,st.tail true (.int .u8) y with
   | .int .u8,some (xs,_)=>v (.str (xs.map fun n=>UInt8.ofNat n.toNat))
   | _,_=>none
  | _,_,_=>none
 | .makeFunc (.func f) first caps=>match first.toList with | []=>v (.fn f (caps.toList.map st.ev)) | _=>none
 | .makeSlice t l cp=>match st.ev l,st.ev cp with
  | .int _ n,.int _ m=>match (c.ti t).kind,(c.ti (c.ti t).elem).ty,cL 0 (c.ti (c.ti t).elem).bytes with
   | .slice,some e,true=>ab (n=m∧0≤n∧n*((c.ti (c.ti t).elem).bytes:Int)≤(bo:Int)) (k ⟨.own (site*1024) 0 [] e,[(site*1024,some (.row (!(c.mF.any (aM site))) e site (iu n.toNat e.zero)))]⟩)
   | _,_,_=>none
  | _,_=>none
 | .slice t x lo hi none=>match (c.ti t).kind with
  | .slice=>match cL 0 (c.ti (c.ti t).elem).size with | false=>none | true=>match c.mF.any (aM site) with | true=>Au false (c.ti (c.ti t).elem).size st site (st.ev x) lo hi k | false=>match c.mF.any (aM (site+1000000)) with | true=>Au true (c.ti (c.ti t).elem).size st site (st.ev x) lo hi k | false=>tQ (c.ti (c.ti t).elem).size st (st.ev x) lo hi k
  | .str=>match st.ev x with | .str s=>tQ 0 st (.str s) lo hi k | _=>none
  | _=>none
 | .fieldAddr s x f=>match (c.ti s).kind,(c.ti s).fields[f]? with
  | .struct,some (off,t)=>match cL 0 (c.ti t).size,D2 (st.ev x) off with | false,_=>none | _,.undef=>none | _,a=>v a
  | _,_=>none
 | .field s x f=>match st.ev x,(c.ti s).kind,(c.ti s).fields[f]? with
  | .agg cs,.struct,some (off,t)=>match (match cL 0 (c.ti t).size with | true=>part (c.ti t).agg (c.ti t).size cs off | false=>none) with | some x=>v x | none=>none
  | _,_,_=>none
 | .indexAddr t x i=>match st.ev i,(c.ti t).kind,cL 0 (c.ti (c.ti t).elem).size with
  | .int _ n,.slice,true=>match c.mF.any (aM (site+2000000)) with
   | true=>xK (c.ti (c.ti t).elem).size st (st.ev x) n v (Yr (st.ev x))
   | false=>p5 (c.ti (c.ti t).elem).size st (st.ev x) n v
  | _,_,_=>none
 | .index t x i=>match st.ev x,st.ev i,(c.ti t).kind with
  | .str s,.int _ n,.str=>ab (0≤n∧n<(s.length:Int)) (v (.int .u8 ((s.getD n.toNat 0).toNat:Int)))
  | _,_,_=>none
 | .extract x i=>match st.ev x with
  | .gN vs=>match vs[i]? with | some x=>v x | none=>none
  | _=>none
 | .call ⟨.builtin .len,args,ts⟩=>match args.toList,ts.toList with
  | [x],[t]=>match (c.ti t).kind,st.ev x with
   | .str,.str s=>v (.int .i64 (s.length:Int))
   | .slice,.str _=>none
   | .slice,y=>match st.len y with | some n=>v (.int .i64 n) | none=>none
   | _,_=>none
  | _,_=>none
 | .call ⟨.builtin .cap,args,ts⟩=>match args.toList,ts.toList with
  | [x],[t]=>match (c.ti t).kind,st.ev x with
   | .slice,.nil=>v (.int .i64 0)
   | _,_=>none
  | _,_=>none
 | .call ⟨.builtin .append,args,ts⟩=>match args.toList,ts.toList with
  | [s,x],[t,u]=>match (c.ti t).kind,aM t u,cL 0 (c.ti (c.ti t).elem).bytes&&cL 0 (c.ti (c.ti t).elem).size with
   | .slice,true,true=>match c.mF.any (aM site) with
    | true=>B9 (c.ti (c.ti t).elem).bytes st (c.ti (c.ti t).elem).ty (st.ev s) (st.ev x) k
    | false=>match c.mF.any (aM (site+1000000)) with
     | true=>Ca (c.ti (c.ti t).elem).bytes st site (c.ti (c.ti t).elem).ty (st.ev s) (st.ev x).QH k
     | false=>B8 (c.ti (c.ti t).elem).bytes st site (c.ti (c.ti t).elem).ty (c.ti (c.ti t).elem).size (st.ev s) (st.ev x) k
   | .slice,false,true=>match (c.ti u).kind with
    | .int _=>D4 (c.ti (c.ti t).elem).bytes site (c.ti (c.ti t).elem).ty (st.ev s) (st.ev x) k
    | _=>none
   | _,_,_=>none
  | _,_=>none
 | .call ⟨.builtin .copy,args,ts⟩=>match args.toList,ts.toList with
  | [d,x],[t,_]=>match (c.ti t).kind,cL 0 (c.ti (c.ti t).elem).size with
   | .slice,true=>Cf (c.ti (c.ti t).elem).size st (st.ev d) (st.ev x) k
   | _,_=>none
  | _,_=>none
 | .call ⟨.builtin .max,args,_⟩=>match args.toList.map st.ev with
  | [.int kk a,.int kl b]=>match nn kk kl with | true=>v (.int kk (max a b)) | false=>none
  | _=>none
 | .call ⟨.builtin .min,args,_⟩=>match args.toList.map st.ev with
  | [.int kk a,.int kl b]=>match nn kk kl with | true=>v (.int kk (min a b)) | false=>none
  | _=>none
 | .call ⟨.value f,args,_⟩=>match st.ev f with
  | .fn f caps=>tP c st site f (args.toList.map st.ev++caps) k c.tO
  | _=>none
 | _=>none
end
end Go.Am
namespace Go.Am
open Go
section
variable {ρ:Type}
def St.put (st : St) (dst : Option Nat) (e : cG) : St :=
  { env := (match dst with | some d => (d, e.val) :: st.env | none => st.env), heap := e.aX ++ st.heap, nxt := st.nxt + 1,
    et := (match dst with | some d => d :: st.et | none => st.et), ht := e.aX.map (·.1) ++ st.ht }
def tR (all:List Oper) (g:Nat):Option Nat:=match all[g]? with | some o=>o.dst | none=>none
def Av (c : ba) (all : List Oper) : List Oper → St → (St → Option ρ) → Option ρ
  | [], st, k => k st
  | o :: r, st, k =>
    let run (st : St) : Option ρ := eE c st st.nxt o.op fun e => Av c all r (st.put o.dst e) k
    let skip (st : St) : Option ρ := Av c all r (st.put o.dst ⟨.gN [], []⟩) k
    match o.guard with
    | none => run st
    | some (g, want) => match tR all g with
      | none => none
      | some d => match st.ev (.tmp d) with
        | .bool b =>
          br b (let st := st.put (some d) ⟨.bool true, []⟩; match want with | true => run st | false => skip st)
               (let st := st.put (some d) ⟨.bool false, []⟩; match want with | true => skip st | false => run st)
        | .gN [] => skip st
        | _ => none
structure cH where
 mask:Nat
 dst:Option Nat
 bq:cG
 reads:List Nat
 o9:List Nat
def lx:List Operand→List Nat
 | []=>[]
 | .tmp t::r=>t::lx r
 | _::r=>lx r
def QL (st:St):List Nat→List Nat
 | []=>[]
 | t::r=>(match look st.env t with | some v=>v.ids | none=>[])++QL st r
def KJ (st:St) (o:Op):List Nat:=
 let a:=QL st (lx o.operands.toList)
 match o with
 | .call _=>let b:=a++mE st a; b++mE st b
 | .store _ _ _ | .convert _ _ _=>a++mE st a
 | .move _ | .assign _ | .pick _ _ _ | .nilCheck _ | .fieldAddr _ _ _ | .extract _ _ | .makeFunc _ _ _=>[]
 | _=>a
def pa (Aw:List Nat) (i:Nat):List Edge→Nat
 | []=>0
 | e::r=>(match Region.binds .any e&&cL e.on i with | true=>Nat.lor (2 ^ e.on) (Aw.getD e.on 0) | false=>0)||| pa Aw i r
def lS (st0:St) (mask:Nat):Nat→List cH→St
 | _,[]=>st0
 | i,e::r=>let st:=lS st0 mask i.pred r; match Nat.testBit mask i with | true=>st.put e.dst e.bq | false=>st
def restrict (st:St) (o9 ids:List Nat):St:={ env:=iY st o9,heap:=vB st ids,nxt:=st.nxt }
def pb (e:cH):List Nat:=e.bq.aX.map (·.1)
def Hi (a b:List Nat):Bool:=a.all fun i=>!(b.any (aM i))
def QM (a b:Option Nat):Bool:=match a,b with | some x,some y=>!aM x y | _,_=>true
def Hj (a:Option Nat) (l:List Nat):Bool:=match a with | some x=>!(l.any (aM x)) | none=>true
def D8 (a b:cH):Bool:=
 Hi (pb a) b.reads&&Hi (pb b) a.reads&&Hi (pb a) (pb b)&&QM a.dst b.dst&&Hj a.dst b.o9&&Hj b.dst a.o9
def p8:Nat→List cH→Bool
 | _,[]=>true
 | i,e::r=>go e i.pred r&&p8 i.pred r
 where go (e:cH):Nat→List cH→Bool
 | _,[]=>true
 | j,f::r=>(Nat.testBit e.mask j||D8 e f)&&go e j.pred r
def setBool (d:Nat) (b:Bool):List cH→List cH
 | []=>[]
 | e::r=>match e.dst with
  | some x=>match aM x d with | true=>{ e with bq:={ e.bq with val:=.bool b } }::r | false=>e::setBool d b r
  | none=>e::setBool d b r
def Ci (all:List Oper) (o:Oper):List Nat:=match o.guard with
 | some (g,_)=>(match tR all g with | some d=>[d] | none=>[])
 | none=>[]
def D9 (i:Nat):List Edge→Bool
 | []=>true
 | e::r=>(match Region.binds .any e with | true=>cL e.on i | false=>true)&&D9 i r
def Hk (mask d:Nat):Nat→List cH→Bool
 | _,[]=>true
 | i,e::r=>(Nat.testBit mask i||(match e.dst with | some x=>!aM x d | none=>true))&&Hk mask d i.pred r
def vG (c:ba) (all:List Oper) (st0:St):List Oper→Nat→List cH→(List cH→Option ρ)→Option ρ
 | [],_,es,k=>k es
 | o::r,i,es,k=>
  match D9 i o.after.toList with
  | false=>none
  | true=>
  let mask:=pa (es.reverse.map (·.mask)) i o.after.toList
  let o9:=lx o.op.operands.toList
  let run (es:List cH):Option ρ:=
   let st:=lS st0 mask i.pred es
   let ids:=KJ st o.op
   eE c (restrict st o9 ids) (st0.nxt+i) o.op fun e=>vG c all st0 r (i+1) (⟨mask,o.dst,e,ids,Ci all o++o9⟩::es) k
  let skip (es:List cH):Option ρ:=vG c all st0 r (i+1) (⟨mask,o.dst,⟨.gN [],[]⟩,[],Ci all o⟩::es) k
  match o.guard with
  | none=>run es
  | some (g,want)=>match tR all g with
   | none=>none
   | some d=>match Hk mask d i.pred es,(lS st0 mask i.pred es).ev (.tmp d) with
    | true,.bool b=>br b (let es:=setBool d true es; match want with | true=>run es | false=>skip es)
             (let es:=setBool d false es; match want with | true=>skip es | false=>run es)
    | true,.gN []=>skip es
    | _,_=>none
def lT (st0:St):List cH→St
 | []=>st0
 | e::r=>(lT st0 r).put e.dst e.bq
structure pc where
 i:Nat
 key:List UInt8
 v:Nat
 p:Nat
structure vH where
 im:Nat
 tm:Nat
 ik:Nat
 tk:Nat
 iq:Nat
 tq:Nat
 t1:Nat
 il:Nat
 ins:List pc
def tS {α:Type} (f:Oper→Option α):List Oper→Nat→Option (Nat×α)
 | [],_=>none
 | o::r,i=>match f o with | some x=>some (i,x) | none=>tS f r (i+1)
def vI {α:Type} (f:Nat→Oper→Option α):List Oper→Nat→List α
 | [],_=>[]
 | o::r,i=>match f i o with | some x=>x::vI f r (i+1) | none=>vI f r (i+1)
def KL (o:Oper):Option Nat:=match o.op with | .makeMap _ none=>o.dst | _=>none
def QN (t:Nat) (o:Oper):Option Nat:=match o.op with | .move (.tmp s)=>(match aM s t with | true=>o.dst | false=>none) | _=>none
def Yy (tk:Nat) (o:Oper):Option Nat:=match o.op with | .lookup _ (.tmp a) (.tmp q) false=>(match aM a tk with | true=>some q | false=>none) | _=>none
def tT (t:Nat) (o:Oper):Bool:=match o.dst with | some d=>aM d t | none=>false
def QO (tq:Nat) (o:Oper):Option Nat:=match o.op with | .move (.tmp s)=>(match tT tq o with | true=>some s | false=>none) | _=>none
def QP (v:Nat) (o:Oper):Option Unit:=match tT v o with | true=>some () | false=>none
def Ea (ops:List Oper) (i:Nat) (o:Oper):Option pc:=match o.op with
 | .insert _ (.tmp _) (.const (.string s)) (.tmp v)=>(match tS (QP v) ops 0 with | some (p,_)=>some ⟨i,s.data.toList,v,p⟩ | none=>none)
 | _=>none
def Eb (ops:List Oper):Option vH:=
 match tS KL ops 0 with
 | none=>none
 | some (im,tm)=>match tS (QN tm) ops 0 with
  | none=>none
  | some (ik,tk)=>match tS (Yy tk) ops 0 with
   | none=>none
   | some (il,tq)=>match tS (QO tq) ops 0 with
    | none=>none
    | some (iq,t1)=>some ⟨im,tm,ik,tk,iq,tq,t1,il,vI (Ea ops) ops 0⟩
def Hl:List UInt8→List UInt8→Bool
 | [],[]=>true
 | a::r,b::s=>aM a.toNat b.toNat&&Hl r s
 | _,_=>false
def Hm:List pc→Bool
 | []=>true
 | x::r=>r.all (fun y=>!Hl x.key y.key)&&Hm r
def mH (o:Oper) (j:Nat):Bool:=o.after.toList.any fun e=>Region.binds .any e&&aM e.on j
def Ec (f:Oper→Bool) (i:Nat) (ops:List Oper):Bool:=match ops[i]? with | some o=>f o | none=>false
def Hn (f:Nat→Oper→Bool):List Oper→Nat→Bool
 | [],_=>true
 | o::r,i=>f i o&&Hn f r (i+1)
def Cj (T:Nat) (mf:vH) (i:Nat) (o:Oper):Bool:=
 o.guard.isNone&&(match o.op with
 | .makeMap t none=>aM t T&&aM i mf.im
 | .makeMap _ _=>false
 | .insert t (.tmp m) (.const (.string s)) (.tmp _)=>aM t T&&(aM m mf.tm&&(o.dst.isNone&&(mf.ins.any (fun x=>aM x.i i)&&fJ s.data.toList.length 1000)))
 | .insert ..=>false
 | .lookup t (.tmp a) (.tmp q) false=>aM t T&&(aM i mf.il&&(aM a mf.tk&&aM q mf.tq))
 | .lookup ..=>false
 | _=>true)&&((!tT mf.tm o||aM i mf.im)&&((!tT mf.tk o||aM i mf.ik)&&((!tT mf.tq o||aM i mf.iq)&&(!tT mf.t1 o&&mf.ins.all (fun x=>!tT x.v o||aM i x.p)))))
def Ed (T:Nat) (ops:List Oper) (mf:vH):Bool:=
 Hn (Cj T mf) ops 0&&(Ec (fun o=>mH o mf.im&&mf.ins.all fun x=>mH o x.i) mf.ik ops&&(Ec (fun o=>mH o mf.ik&&mH o mf.iq) mf.il ops&&
 (mf.ins.all (fun x=>Ec (fun o=>mH o mf.im&&mH o x.p) x.i ops)&&(Hm mf.ins&&fJ mf.ins.length 1000))))
def jU (v:Nat) (o:Oper):Oper:=match o.op with
 | .makeMap _ _=>{ o with op:=.move (.const (.map none)) }
 | .insert _ _ _ x=>{ o with op:=.move x }
 | .lookup _ _ _ _=>{ o with op:=.move (.tmp v) }
 | _=>o
def Hp (es:List cH) (r:Option ρ):List pc→Option ρ
 | []=>r
 | x::l=>match es.reverse[x.i]? with | some ⟨_,_,⟨.str s,_⟩,_,_⟩=>ab (s.length<bU) (Hp es r l) | _=>none
def Ee (s:List UInt8) (f:Nat→Option ρ):List pc→Option ρ
 | []=>none
 | x::r=>br (decide (s=x.key)) (f x.v) (Ee s f r)
def vJ (c:ba):Option Nat:=match c.mF.find? (fun x=>fJ 2900000 x&&cL x 3000000) with | some x=>some (x-2900000) | none=>none
def Ef (c:ba) (mf:vH) (ops:List Oper) (st:St) (k:St→Option ρ):Option ρ:=
 match st.ev (.tmp mf.t1) with
 | .str s=>Ee s (fun v=>vG c (ops.map (jU v)) st (ops.map (jU v)) 0 [] fun es=>match p8 (ops.length-1) es with | true=>Hp es (k (lT st es)) mf.ins | false=>none) mf.ins
 | _=>none
def Ax (c:ba) (ops:Array Oper) (st:St) (k:St→Option ρ):Option ρ:=
 vG c ops.toList st ops.toList 0 [] fun es=>match p8 (ops.toList.length-1) es with | true=>k (lT st es) | false=>none
def Ck (c:ba) (ops:Array Oper) (draw:Bool) (st:St) (k:St→Option ρ):Option ρ:=
 match draw with
 | false=>Av c ops.toList ops.toList st k
 | true=>match vJ c with
  | none=>Ax c ops st k
  | some T=>match Eb ops.toList with
   | none=>Ax c ops st k
   | some mf=>match Ed T ops.toList mf with
    | true=>Ef c mf ops.toList st k
    | false=>none
inductive Ex where
 | normal | ret | exit (id:Nat)
inductive iw where
 | leaf
 | two (a b:iw)
 | one (a:iw)
 | loop (la:LA) (a:iw)
 | cut (la:LA) (a:iw)
 | Ay (m:Nat) (a:iw)
 | Cl (p:iw) (la:LA) (a:iw)
def iter {α ρ:Type} (n:Nat) (F:(α→Option ρ)→α→Option ρ):α→Option ρ:=Nat.rec (fun _=>none) (fun _ ih=>F ih) n
def cut {α ρ:Type} (m:Option (Sum ρ α)) (f:α→Option ρ):Option ρ:=m.bind fun | .inl r=>some r | .inr x=>f x
def iw.fst:iw→iw | .two a _=>a | .one a=>a | .loop _ a=>a | .Ay _ a=>a | _=>.leaf
def iw.snd:iw→iw | .two _ b=>b | _=>.leaf
def gR (c:ba) (n:Nat):(code:Code)→iw→(ρ:Type)→St→(Ex→St→Option ρ)→Option ρ
 | .skip,_,_,st,k=>k .normal st
 | .region _ ops draw,an,ρ,st,k=>
  match an with
  | .cut la _=>match la.apart st with
   | true=>cut (Ck (ρ:=Sum ρ la.LT) c ops draw st fun st'=>match la.kept st st',la.read st st' with | true,some y=>some (.inr y) | _,_=>none)
    fun y=>k .normal (la.mk' st y)
   | false=>none
  | _=>Ck c ops draw st (k .normal)
 | .seq a b,an,ρ,st,k=>gR c n a an.fst ρ st fun e st=>match e with | .normal=>gR c n b an.snd ρ st k | e=>k e st
 | .cond x a b,an,ρ,st,k=>
  match an with
  | .cut la fR=>match st.ev x,la.apart st with
   | .bool t,true=>cut (br t
     (gR c n a fR.fst (Sum ρ la.LT) st fun e st'=>match e with | .normal=>(match la.kept st st',la.read st st' with | true,some y=>some (.inr y) | _,_=>none) | e=>(match k e st' with | some r=>some (.inl r) | none=>none))
     (gR c n b fR.snd (Sum ρ la.LT) st fun e st'=>match e with | .normal=>(match la.kept st st',la.read st st' with | true,some y=>some (.inr y) | _,_=>none) | e=>(match k e st' with | some r=>some (.inl r) | none=>none)))
     fun y=>k .normal (la.mk' st y)
   | _,_=>none
  | an=>match st.ev x with
   | .bool t=>br t (gR c n a an.fst ρ st k) (gR c n b an.snd ρ st k)
   | _=>none
 | .block id b,an,ρ,st,k=>
  match an with
  | .cut la fR=>match la.apart st with
   | true=>cut (gR c n b fR (Sum ρ la.LT) st fun e st'=>
     match (match e with | .normal=>true | .exit j=>aM j id | .ret=>false) with
     | true=>(match la.kept st st',la.read st st' with | true,some y=>some (.inr y) | _,_=>none)
     | false=>(match k e st' with | some r=>some (.inl r) | none=>none))
    fun y=>k .normal (la.mk' st y)
   | false=>none
  | an=>gR c n b an.fst ρ st fun e st=>match e with
   | .exit j=>match aM j id with | true=>k .normal st | false=>k (.exit j) st
   | e=>k e st
 | .loop b,an,ρ,st,k=>
  match an with
  | .loop la fR=>match la.apart st,la.read st st with
   | true,some x=>iter n (fun ih x=>gR c n b fR ρ (la.mk' st x) fun e st'=>match e with
     | .normal=>match la.kept (la.mk' st x) st',la.read (la.mk' st x) st' with | true,some y=>ih y | _,_=>none
     | e=>k e st') x
   | _,_=>none
  | .Ay m fR=>iter m (fun ih st=>gR c n b fR ρ st fun e st'=>match e with
     | .normal=>ih st'
     | e=>k e st') st
  | .Cl p la fR=>gR c n b p ρ st fun e eF=>match e with
   | .normal=>(match la.apart eF,la.read eF eF with
    | true,some x=>iter n (fun ih x=>gR c n b fR ρ (la.mk' eF x) fun e st'=>match e with
     | .normal=>match la.kept (la.mk' eF x) st',la.read (la.mk' eF x) st' with | true,some y=>ih y | _,_=>none
     | e=>k e st') x
    | _,_=>none)
   | e=>k e eF
  | _=>none
 | .scope b,an,ρ,st,k=>gR c n b an.fst ρ st k
 | .exit id,_,_,st,k=>k (.exit id) st
 | .ret,_,_,st,k=>k .ret st
 | _,_,_,_,_=>none
def KM:Ty→List Bool→List Bool
 | .pair a b,ms=>KM a ms++KM b (ms.drop a.size)
 | .sl _,ms=>[match ms with | true::_=>false | _=>true]
 | .bQ _,_=>[true]
 | _,_=>[false]
mutual
def QQ:(p:PK)→p.T→ag
 | .val t,x=>shut t (flat mC t x 0)
 | .fQ t,x=>.ga t x 0
 | .jD f caps,x=>.fn f (Hq caps x)
 | .io _,_=>.undef
 | .jC _ _,_=>.undef
 termination_by structural p _=>p
def Hq:(ps:List PK)→iH ps→List ag
 | [],_=>[]
 | p::ps,x=>QQ p x.1::Hq ps x.2
 termination_by structural ps _=>ps
end
def tU (i:Nat):(p:PK)→p.T→ag×List (Nat×Option dD)
 | .val t,x=>(shut t (flat mC t x 0),[])
 | .fQ t,x=>(.ga t x 0,[])
 | .io t,x=>(shut t (flat (vD (i*1024)) t x 0),fL (i*1024) 0 t x 0)
 | .jC t ms,x=>(.bn (i*1024) 0,(i*1024,some (.cells (KM t ms) (He 0 ms (flat (vD (i*1024+1)) t x 0) (flat mC t x 0))))::fL (i*1024+1) 0 t x 0)
 | .jD f caps,x=>(.fn f (Hq caps x),[])
def entry:Nat→(ps:List PK)→iH ps→List (Nat×ag)×List (Nat×Option dD)
 | _,[],_=>([],[])
 | i,p::ps,x=>((i,(tU i p x.1).1)::(entry (i+1) ps x.2).1,(tU i p x.1).2++(entry (i+1) ps x.2).2)
def Hr (st:St):(t:Ty)→List Bool→List ag→Option (t.T×List Nat)
 | .pair a b,ms,cs=>match Hr st a ms (cs.take a.size),Hr st b (ms.drop a.size) (cs.drop a.size) with
  | some (x,u),some (y,v)=>some ((x,y),u++v)
  | _,_=>none
 | .sl t,true::_,cs=>match take st true 50 (.sl t) cs with | some (x,[],u)=>some (x,u) | _=>none
 | t,_,cs=>match iX st 50 t cs with | some (x,[])=>some (x,[]) | _=>none
def Hs (st:St):(r:RK)→ag→Option (r.ty.T×List Nat)
 | .val t,v=>match take st true 50 t (match t with | .pair _ _=>v.cells | _=>[v]) with | some (x,[],u)=>some (x,u) | _=>none
 | .sh t,v=>match take st false 50 t (match t with | .pair _ _=>v.cells | _=>[v]) with | some (x,[],u)=>some (x,u) | _=>none
 | .ptr t ms,.bn id 0=>match st.obj id with
  | some (.cells _ cs)=>match Hr st t ms cs with | some (x,u)=>some (x,id::u) | none=>none
  | _=>none
 | _,_=>none
def Ht (st:St):(rs:List RK)→List ag→(os:List Ty)→Option (bZ os×List Nat)→Option (bZ (RK.bw rs++os)×List Nat)
 | [],[],_,y=>y
 | r::rs,v::vs,os,y=>match Hs st r v,Ht st rs vs os y with
  | some (x,u),some (z,w)=>some ((x,z),u++w)
  | _,_=>none
 | _,_,_,_=>none
def Az (st:St) (base:Nat):(t:Ty)→Nat→{os:List Ty}→bZ os→List Nat→Option (bZ (t.gP os)×List Nat)
 | .pair a b,j,os,z,w=>match Az st base b (j+a.size) (os:=os) z w with
  | some (z,w)=>Az st base a j (os:=b.gP os) z w
  | none=>none
 | .sl t,j,_,z,w=>match st.obj (base+j) with
  | some (.row true u _ xs)=>match Ty.cast (.sl u) (.sl t) xs with | some ys=>some ((ys,z),(base+j)::w) | none=>none
  | _=>none
 | .int _,_,_,z,w=>some (z,w)
 | .bool,_,_,z,w=>some (z,w)
 | .str,_,_,z,w=>some (z,w)
 | .err,_,_,z,w=>some (z,w)
 | .bQ _,_,_,z,w=>some (z,w)
def xN (st:St):Nat→(ps:List PK)→Option (bZ (PK.outs ps)×List Nat)
 | _,[]=>some ((),[])
 | i,.io t::ps=>match xN st (i+1) ps with
  | some (z,w)=>Az st (i*1024) t 0 z w
  | none=>none
 | i,.jC t ms::ps=>match st.obj (i*1024),xN st (i+1) ps with
  | some (.cells _ cs),some (z,w)=>match Hr st t ms cs with | some (x,u)=>some ((x,z),(i*1024)::(u++w)) | none=>none
  | _,_=>none
 | i,.val _::ps=>xN st (i+1) ps
 | i,.fQ _::ps=>xN st (i+1) ps
 | i,.jD _ _::ps=>xN st (i+1) ps
def vK (st:St) (agg:Nat→Bool×Nat):List ResultVar→Option (List ag)
 | []=>some []
 | .tmp t::r=>match vK st agg r with | some vs=>some (st.ev (.tmp t)::vs) | none=>none
 | .cell a t::r=>match st.D1 (st.ev (.tmp a)),vK st agg r with
  | some (cs,j),some vs=>match (match cL 0 (agg t).2 with | true=>part (agg t).1 (agg t).2 cs j | false=>none) with | some v=>some (v::vs) | none=>none
  | _,_=>none
def finish (c:ba) (fn:Func) (ps:List PK) (rs:List RK) (st:St):Option (bZ (RK.bw rs++PK.outs ps)):=
 match vK st (fun t=>((c.ti t).agg,(c.ti t).size)) fn.results.toList with
 | some vs=>match Ht st rs vs (PK.outs ps) (xN st 0 ps) with
  | some (x,u)=>match nodupB u with | true=>some x | false=>none
  | none=>none
 | none=>none
def gS (N:Nat):Code→Bool
 | .region _ ops _=>ops.toList.all fun o=>match o.dst with | some d=>cL d N | none=>true
 | .seq a b=>gS N a&&gS N b
 | .cond _ a b=>gS N a&&gS N b
 | .block _ b=>gS N b
 | .loop b=>gS N b
 | .scope b=>gS N b
 | _=>true
def dn.run (c:ba) (n:Nat) (fn:Func) (an:iw) (la lb:LA) (x:la.vC Mp):Option lb.LT:=
 match fn.body with
 | some code=>match gS fn.ntmps code with
  | false=>none
  | true=>gR c n code an _ (la.lv x) fun e st=>match e with
   | .exit _=>none
   | _=>match vK st (fun t=>((c.ti t).agg,(c.ti t).size)) fn.results.toList with
    | some vs=>match aM vs.length lb.cy.length with
     | true=>lb.KF { env:=number 0 vs,heap:=st.heap,nxt:=st.nxt }
     | false=>none
    | none=>none
 | none=>none
def AA (c:ba) (n:Nat) (fn:Func) (an:iw) (ps:List PK) (rs:List RK) (x:iH ps):Option (bZ (RK.bw rs++PK.outs ps)):=
 match fn.body with
 | some code=>match gS fn.ntmps code with
  | false=>none
  | true=>gR c n code an _ { env:=(entry 0 ps x).1,heap:=(entry 0 ps x).2,nxt:=20 } fun e st=>match e with
  | .exit _=>none
  | _=>finish c fn ps rs st
 | none=>none
end
end Go.Am
namespace Go.Am
open Go
def KN:List (Nat×LA)→List (Nat×LA)
 | []=>[]
 | (k,la)::l=>match fJ 2000000 k with | true=>(k-2000000,la)::KN l | false=>KN l
def vL (l:List (Nat×LA)):Code→Nat→iw×Nat
 | .seq a b,n=>let (x,n):=vL l a n; let (y,n):=vL l b n; (.two x y,n)
 | .cond _ a b,n0=>let (x,n):=vL l a (n0+1); let (y,n):=vL l b n
  (match look l n0 with | some la=>.cut la (.two x y) | none=>.two x y,n)
 | .block _ b,n0=>let (x,n):=vL l b (n0+1); (match look l n0 with | some la=>.cut la x | none=>.one x,n)
 | .loop b,n0=>let (x,n):=vL l b (n0+1); (match look l n0 with
  | some la=>(match look l (n0+1000000) with | some _=>.Cl (vL (KN l) b (n0+1)).1 la x | none=>.loop la x)
  | none=>(match look l (n0+500000) with | some _=>.Ay 6 x | none=>.one x),n)
 | .scope b,n=>let (x,n):=vL l b n; (.one x,n)
 | .region _ _ _,n=>(match look l n with | some la=>.cut la .leaf | none=>.leaf,n+1)
 | _,n=>(.leaf,n)
def fm (fn:Func) (l:List (Nat×LA)):iw:=match fn.body with | some c=>(vL l c 0).1 | none=>.leaf
abbrev ad (b o:Nat):Addr:=⟨b,o,none⟩
theorem Ty.size_pos:∀ t:Ty,0<t.size
 | .pair a b=>by have:=a.size_pos; simp [Ty.size]; omega
 | .int _ | .bool | .str | .err | .sl _ | .bQ _=>by simp [Ty.size]
def AB (isNil:Bool) (v:Value):Prop:=match isNil with | true=>v = .nilIface | false=>∃ t x,v = .iface t x
abbrev bW:=Nat→Nat→Option (Nat×Path)
def gT {α:Type} (size:Nat) (f:α→Nat→Nat→Prop) (xs:List α) (v:Value):Prop:=
 ∃ a len cap,v = .slice a len cap∧len=xs.length∧len≤cap∧(a=none→cap=0)∧
  (xs≠[]→∃ b o,a=some (ad b o)∧∀ i (h:i<xs.length),f xs[i] b (o+i*size))
def Sh (lab:bW) (w:World):(t:Ty)→t.T→Nat→Nat→Prop
 | .int k,n,b,o=>w.cell? (ad b o)=some (.int k n)∧lab b o=none
 | .bool,x,b,o=>w.cell? (ad b o)=some (.bool x)∧lab b o=none
 | .str,s,b,o=>w.cell? (ad b o)=some (.string ⟨s.toArray⟩)∧lab b o=none
 | .err,e,b,o=>(∃ v,w.cell? (ad b o)=some v∧AB e v)∧lab b o=none
 | .pair s t,x,b,o=>Sh lab w s x.1 b o∧Sh lab w t x.2 b (o+s.size)
 | .sl t,xs,b,o=>(∃ v,w.cell? (ad b o)=some v∧gT t.size (Sh lab w t) xs v)∧lab b o=none
 | .bQ t,x,b,o=>(∃ v,w.cell? (ad b o)=some v∧gT t.size (Sh lab w t) (x.getD []) v∧(x=none↔∃ n c,v = .slice none n c))∧lab b o=none
structure Hd where
 addr:Option (Nat×Nat)
 len:Nat
 cap:Nat
def Hd.val (h:Hd):Value:=.slice (h.addr.map fun p=>ad p.1 p.2) h.len h.cap
structure Gh where
 hd:Nat→Nat→Path→Hd
 lab:bW
def Cm {α:Type} (w:World) (lab:bW) (size:Nat) (q:Nat×Path) (h:Hd) (f:Nat→α→Nat→Nat→Prop) (xs:List α):Prop:=
 h.len=xs.length∧h.len≤h.cap∧(h.addr=none→h.cap=0)∧
 ∀ b o,h.addr=some (b,o)→
  (∀ k,k<h.cap*size→lab b (o+k)=some q∧(w.cell? (ad b (o+k))).isSome=true∧w.frozen? (ad b (o+k))=false)∧
  (∀ i (hi:i<xs.length),f i xs[i] b (o+i*size))
def dK (g:Gh) (w:World) (own:Bool) (id vr:Nat):(t:Ty)→(sk:Nat→Nat→Bool)→(p:Path)→(i j:Nat)→t.T→Nat→Nat→Prop
 | .int k,_,_,_,_,n,b,o=>w.cell? (ad b o)=some (.int k n)
 | .bool,_,_,_,_,x,b,o=>w.cell? (ad b o)=some (.bool x)
 | .str,_,_,_,_,s,b,o=>w.cell? (ad b o)=some (.string ⟨s.toArray⟩)
 | .err,_,_,_,_,e,b,o=>∃ v,w.cell? (ad b o)=some v∧AB e v
 | .pair s t,sk,p,i,j,x,b,o=>dK g w own id vr s sk p i j x.1 b o∧dK g w own id vr t sk p i (j+s.size) x.2 b (o+s.size)
 | .sl t,sk,p,i,j,xs,b,o=>match own with
  | true=>sk i j=true∨(w.cell? (ad b o)=some (g.hd id vr (p++[(i,j)])).val∧
    Cm w g.lab t.size (id,p++[(i,j)]) (g.hd id vr (p++[(i,j)])) (fun k x b o=>dK g w own id vr t (fun _ _=>false) (p++[(i,j)]) k 0 x b o) xs)
  | false=>∃ v,w.cell? (ad b o)=some v∧gT t.size (Sh g.lab w t) xs v
 | .bQ t,_,_,_,_,x,b,o=>∃ v,w.cell? (ad b o)=some v∧gT t.size (Sh g.lab w t) (x.getD []) v∧(x=none↔∃ n c,v = .slice none n c)
def cP:Nat→Nat→Bool:=fun _ _=>false
def eN (g:Gh) (w:World) (own:Bool) (id hv vr:Nat) (t:Ty) (sk:Nat→Nat→Bool) (p:Path) (xs:List t.T):Prop:=
 Cm w g.lab t.size (id,p) (g.hd id hv p) (fun k x b o=>dK g w own id vr t sk p k 0 x b o) xs
def j6 (p:Path) (ver:Nat):Nat:=match p with | []=>0 | _=>ver
def j7 (g:Gh) (id ver:Nat):Path→Path→Prop
 | _,[]=>True
 | pre,(i,j)::q=>i<(g.hd id (j6 pre ver) pre).len∧j7 g id ver (pre++[(i,j)]) q
mutual
def aV (g:Gh) (w:World) (U:Nat→Prop):ag→Value→Prop
 | .undef,_=>True
 | .int k n,v=>v = .int k n
 | .bool b,v=>v = .bool b
 | .str s,v=>v = .string ⟨s.toArray⟩
 | .err e,v=>AB e v
 | .agg cs,v=>∃ l:List Value,v = .agg l.toArray∧cu g w U cs l
 | .gN cs,v=>∃ l:List Value,v = .tuple l.toArray∧cu g w U cs l
 | .nil,v=>v = .slice none 0 0
 | .sh t xs,v=>gT t.size (Sh g.lab w t) xs v
 | .cZ t x,v=>gT t.size (Sh g.lab w t) (x.getD []) v∧(x=none↔∃ n c,v = .slice none n c)
 | .ga t x j,v=>∃ b o,v = .pointer (some (ad b (o+j)))∧Sh g.lab w t x b o
 | .own id ver p _,v=>U (id / 1024)∧U ver∧U 0∧j7 g id ver [] p∧(p=[]→ver=0)∧v=(g.hd id ver p).val
 | .fK id ver p t off len,v=>U (id / 1024)∧U ver∧U 0∧j7 g id ver [] p∧(p=[]→ver=0)∧∃ a c,v = .slice a len c∧off+c=(g.hd id ver p).cap∧len≤c∧
   off+len≤(g.hd id ver p).len∧(0<c→∃ b o,(g.hd id ver p).addr=some (b,o)∧a=some (ad b (o+off*t.size)))∧∃ q:Option (Nat×Nat),a=q.map fun p=>ad p.1 p.2
 | .fb id ver p t i j,v=>U (id / 1024)∧U ver∧U 0∧j7 g id ver [] p∧(p=[]→ver=0)∧i<(g.hd id ver p).len∧
   ∃ b o,(g.hd id ver p).addr=some (b,o)∧v = .pointer (some (ad b (o+i*t.size+j)))
 | .bn id j,v=>U (id / 1024)∧U 0∧∃ b o,(g.hd id 0 []).addr=some (b,o)∧v = .pointer (some (ad b (o+j)))
 | .fB id off len sz,v=>U (id / 1024)∧U 0∧∃ a c,v = .slice a len c∧len≤c∧(off+c)*sz=(g.hd id 0 []).len∧
   ∃ b o,(g.hd id 0 []).addr=some (b,o)∧(0<c∨off=0→a=some (ad b (o+off*sz)))
 | .fn f cs,v=>∃ l:List Value,v = .func (.func f) #[] l.toArray∧cu g w U cs l
 | .so,v=>v = .pointer none
 | .tL,v=>v = .nilFunc
 termination_by structural v _=>v
def cu (g:Gh) (w:World) (U:Nat→Prop):List ag→List Value→Prop
 | [],l=>l=[]
 | v::vs,l=>∃ x r,l=x::r∧aV g w U v x∧cu g w U vs r
 termination_by structural vs _=>vs
end
def fo (g:Gh) (w:World) (U:Nat→Prop) (id:Nat):dD→Prop
 | .cells _ cs=>U 0∧∃ b o,g.hd id 0 []=⟨some (b,o),cs.length,cs.length⟩∧∀ k (h:k<cs.length),
   g.lab b (o+k)=some (id,[])∧w.frozen? (ad b (o+k))=false∧∃ v,w.cell? (ad b (o+k))=some v∧aV g w U cs[k] v
 | .row own t vr xs=>U 0∧U vr∧eN g w own id 0 vr t cP [] xs
 | .nV t vr xs i j=>U 0∧U vr∧eN g w true id 0 vr t (fun a b=>aM a i&&aM b j) [] xs
structure Fr (F:Nat→Nat→Prop) (w w':World):Prop where
 os:w'.os=w.os
 tape:w'.tape=w.tape
 output:w'.output=w.output
 size:w.heap.size≤w'.heap.size
 cells:∀ k c e f,w.heap[k]? = some (.cells c e f)→∃ c',w'.heap[k]? = some (.cells c' e f)∧c'.size=c.size∧∀ o,¬ F k o→c'[o]? = c[o]?
 block:∀ k,k<w.heap.size→(∀ o,¬ F k o)→w'.heap[k]? = w.heap[k]?
 kind:∀ (k:Nat) (b:Obj),w.heap[k]? = some b→(∀ c e f,b≠.cells c e f)→w'.heap[k]? = some b
def Eg (l:bW) (b o:Nat):Prop:=∃ id p,l b o=some (id,p)∧id / 1024≠19
structure Rel (w0:World) (F:bW) (N:Nat) (g:Gh) (U:Nat→Prop) (st:St) (a:Act) (w:World):Prop where
 env:∀ t v,look st.env t=some v→aV g w U v (a.eval (.tmp t))
 heap:∀ id o,st.obj id=some o→U (id / 1024)∧fo g w U id o
 used:∀ s,U s→s<st.nxt
 b9:∀ b o q,g.lab b o=some q→b<w.heap.size
 cB:∀ b o id p,b<w0.heap.size→g.lab b o=some (id,p)→(id / 1024=19∧F b o=some (id,p))∨Eg F b o
 n9:∀ b o id p,F b o=some (id,p)→id / 1024=19→g.lab b o=some (id,p)
 fr:Fr (Eg F) w0 w
 defers:a.defers=[]
 size:a.tmps.size=N
 u0:U 0
 nr:∀ s,s<20→U s
 nf:∀ id,st.obj id≠none→id / 1024≠19
def pins:List (String×(Array Value→Prop)):=[
 ("internal/strconv.uint64pow10",fun vs=>vs=((List.range 20).map fun i=>Value.int .u64 ((10 ^ i:Nat):Int)).toArray),
 ("internal/bytealg.MaxLen",fun vs=>∃ m,vs[0]? = some (.int .i64 m)),
 ("strconv.ErrSyntax",fun vs=>∃ t p,vs = #[.iface t p]),
 ("strconv.ErrRange",fun vs=>∃ t p,vs = #[.iface t p])]
def Gl (P:Program) (l:bW) (w:World):Prop:=∀ nm pr,(nm,pr)∈pins→∀ b,P.globalNamed nm=some b→(∃ vs,w.var? P nm=some vs∧pr vs)∧∀ o,l b o=none
theorem Gl.mono {P:Program} {l l':bW} {w w':World} (h:Gl P l w) (fr:Fr (Eg l) w w') (hl:∀ b o,b<w.heap.size→l b o=none→l' b o=none):Gl P l' w':=by
 intro nm pr hm b hb;obtain ⟨⟨vs,h1,hp⟩,h2⟩:=h nm pr hm b hb;have ax:b<w.heap.size:=by
  rcases jP b w.heap.size with hh | hh
  ·exact hh
  unfold World.var? at h1;rw [hb] at h1;simp only [Option.bind_some] at h1;rw [xD hh] at h1;simp at h1
 refine ⟨⟨vs,?_,hp⟩,fun o=>hl b o ax (h2 o)⟩;rw [← h1];unfold World.var?;rw [hb];simp only [Option.bind_some];rw [fr.block b ax (fun o ⟨id,p,e,_⟩=>by rw [h2 o] at e; simp at e)]
theorem Rel.gl {P:Program} {w0:World} {F:bW} {N:Nat} {g:Gh} {U:Nat→Prop} {st:St} {a:Act} {w:World} (R:Rel w0 F N g U st a w) (h:Gl P F w0):Gl P g.lab w:=by
 refine h.mono R.fr (fun b o hb hn=>?_);cases hl:g.lab b o with
 | none=>rfl
 | some q=>
  obtain ⟨id,p⟩:=q;rcases R.cB b o id p hb hl with ⟨_,h'⟩ | ⟨i,p',h',_⟩
  ·rw [hn] at h'; simp at h'
  rw [hn] at h'; simp at h'
theorem Rel.AD {w0:World} {F:bW} {N:Nat} {g:Gh} {U:Nat→Prop} {st:St} {a:Act} {w:World} (R:Rel w0 F N g U st a w):U 19:=R.nr 19 (by omega)
structure eJ (T:Nat→Prop) (g:Gh) (w:World) (U:Nat→Prop) (g':Gh) (w':World) (U':Nat→Prop):Prop where
 sub:∀ s,U s→U' s
 hd:∀ id ver p,U (id / 1024)→U ver→g'.hd id ver p=g.hd id ver p
 shr:∀ b o,g.lab b o=none→∀ v,w.cell? (ad b o)=some v→w'.cell? (ad b o)=some v∧g'.lab b o=none
 own:∀ b o id p,g.lab b o=some (id,p)→¬ T id→g'.lab b o=some (id,p)∧w'.cell? (ad b o)=w.cell? (ad b o)∧w'.frozen? (ad b o)=w.frozen? (ad b o)
section
variable {T:Nat→Prop} {g g':Gh} {w w':World} {U U':Nat→Prop}
theorem ix {α:Type} {size:Nat} {f f':α→Nat→Nat→Prop} {xs:List α} {v:Value} (hf:∀ x b o,f x b o→f' x b o) (h:gT size f xs v):gT size f' xs v:=by obtain ⟨a,len,cap,e,hl,hc,hn,hx⟩:=h;refine ⟨a,len,cap,e,hl,hc,hn,fun aA=>?_⟩;obtain ⟨b,o,ha,hi⟩:=hx aA;exact ⟨b,o,ha,fun i h=>hf _ _ _ (hi i h)⟩
theorem gb {lab Hu:bW} (hs:∀ b o,lab b o=none→∀ v,w.cell? (ad b o)=some v→w'.cell? (ad b o)=some v∧Hu b o=none) :
  ∀ (t:Ty) (x:t.T) (b o:Nat),Sh lab w t x b o→Sh Hu w' t x b o
 | .int _,_,b,o,h=>hs b o h.2 _ h.1
 | .bool,_,b,o,h=>hs b o h.2 _ h.1
 | .str,_,b,o,h=>hs b o h.2 _ h.1
 | .err,_,b,o,h=>by obtain ⟨⟨v,hv,he⟩,hl⟩:=h;exact ⟨⟨v,(hs b o hl v hv).1,he⟩,(hs b o hl v hv).2⟩
 | .pair s t,_,b,o,h=>⟨gb hs s _ b o h.1,gb hs t _ b _ h.2⟩
 | .sl t,_,b,o,h=>by obtain ⟨⟨v,hv,he⟩,hl⟩:=h;exact ⟨⟨v,(hs b o hl v hv).1,ix (gb hs t) he⟩,(hs b o hl v hv).2⟩
 | .bQ t,_,b,o,h=>by obtain ⟨⟨v,hv,he,hn⟩,hl⟩:=h;exact ⟨⟨v,(hs b o hl v hv).1,ix (gb hs t) he,hn⟩,(hs b o hl v hv).2⟩
theorem eJ.sh (s:eJ T g w U g' w' U') (t:Ty) (x:t.T) (b o:Nat) (h:Sh g.lab w t x b o):Sh g'.lab w' t x b o:=gb s.shr t x b o h
theorem eJ.gT (s:eJ T g w U g' w' U') {t:Ty} {xs:List t.T} {v:Value} (h:gT t.size (Sh g.lab w t) xs v):gT t.size (Sh g'.lab w' t) xs v:=
 ix (s.sh t) h
theorem eJ.j7 (s:eJ T g w U g' w' U') {id ver:Nat} (h1:U (id / 1024)) (h2:U ver) (h0:U 0):∀ (q pre:Path),Am.j7 g id ver pre q→Am.j7 g' id ver pre q
 | [],_,_=>trivial
 | (i,j)::q,pre,h=>by refine ⟨?_,eJ.j7 s h1 h2 h0 q _ h.2⟩;rw [s.hd id (j6 pre ver) pre h1 (by cases pre<;>assumption)];exact h.1
mutual
theorem eJ.tV (s:eJ T g w U g' w' U'):∀ (v:ag) (x:Value),aV g w U v x→aV g' w' U' v x
 | .undef,_,_=>trivial
 | .int _ _,_,h=>h
 | .bool _,_,h=>h
 | .str _,_,h=>h
 | .err _,_,h=>h
 | .agg cs,_,h=>let ⟨l,e,r⟩:=h; ⟨l,e,eJ.Hv s cs l r⟩
 | .gN cs,_,h=>let ⟨l,e,r⟩:=h; ⟨l,e,eJ.Hv s cs l r⟩
 | .nil,_,h=>h
 | .sh _ _,_,h=>s.gT h
 | .cZ _ _,_,h=>⟨s.gT h.1,h.2⟩
 | .ga t x _,_,h=>let ⟨b,o,e,r⟩:=h; ⟨b,o,e,s.sh t x b o r⟩
 | .own id ver p _,_,h=>by obtain ⟨h1,h2,h0,hp,h3,h4⟩:=h;exact ⟨s.sub _ h1,s.sub _ h2,s.sub _ h0,s.j7 h1 h2 h0 _ _ hp,h3,by rw [s.hd _ _ _ h1 h2]; exact h4⟩
 | .fK id ver p t off len,_,h=>by obtain ⟨h1,h2,h0,hp,h3,h4⟩:=h;exact ⟨s.sub _ h1,s.sub _ h2,s.sub _ h0,s.j7 h1 h2 h0 _ _ hp,h3,by rw [s.hd _ _ _ h1 h2]; exact h4⟩
 | .fb id ver p t i j,_,h=>by obtain ⟨h1,h2,h0,hp,h3,h4⟩:=h;exact ⟨s.sub _ h1,s.sub _ h2,s.sub _ h0,s.j7 h1 h2 h0 _ _ hp,h3,by rw [s.hd _ _ _ h1 h2]; exact h4⟩
 | .bn id j,_,h=>by obtain ⟨h1,h2,h3⟩:=h;exact ⟨s.sub _ h1,s.sub _ h2,by rw [s.hd _ _ _ h1 h2]; exact h3⟩
 | .fB id off len sz,_,h=>by obtain ⟨h1,h2,h3⟩:=h;exact ⟨s.sub _ h1,s.sub _ h2,by rw [s.hd _ _ _ h1 h2]; exact h3⟩
 | .fn _ cs,_,h=>let ⟨l,e,r⟩:=h; ⟨l,e,eJ.Hv s cs l r⟩
 | .so,_,h=>h
 | .tL,_,h=>h
theorem eJ.Hv (s:eJ T g w U g' w' U'):∀ (vs:List ag) (l:List Value),cu g w U vs l→cu g' w' U' vs l
 | [],_,h=>h
 | v::vs,_,h=>let ⟨x,r,e,a,b⟩:=h; ⟨x,r,e,eJ.tV s v x a,eJ.Hv s vs r b⟩
end
theorem QR {α:Type} {size:Nat} {q:Nat×Path} {h:Hd} {f f':Nat→α→Nat→Nat→Prop} {xs:List α} (s:eJ T g w U g' w' U') (hT:¬ T q.1)
  (hf:∀ i (hi:i<xs.length) b o,(∀ k,k<size→g.lab b (o+k)=some q)→f i xs[i] b o→f' i xs[i] b o)
  (r:Cm w g.lab size q h f xs):Cm w' g'.lab size q h f' xs:=by
 obtain ⟨h1,h2,h3,h4⟩:=r;refine ⟨h1,h2,h3,fun b o e=>?_⟩;obtain ⟨h5,h6⟩:=h4 b o e;refine ⟨fun k hk=>?_,fun i hi=>?_⟩
 ·obtain ⟨a1,a2,a3⟩:=h5 k hk;obtain ⟨b1,b2,b3⟩:=s.own b (o+k) q.1 q.2 a1 hT;exact ⟨b1,by rw [b2]; exact a2,by rw [b3]; exact a3⟩
 refine hf i hi b _ (fun k hk=>?_) (h6 i hi);rw [bL];refine (h5 (i*size+k) ?_).1;have:(i+1)*size≤h.cap*size:=fa _ (by omega);rw [cY] at this;omega
theorem Hw {own:Bool} {id vr:Nat} (s:eJ T g w U g' w' U') (hT:¬ T id) (hi:U (id / 1024)) (hv:U vr):∀ (t:Ty) (sk:Nat→Nat→Bool) (p:Path) (i j:Nat) (x:t.T) (b o:Nat),
  (∀ k,k<t.size→∃ q,g.lab b (o+k)=some (id,q))→dK g w own id vr t sk p i j x b o→dK g' w' own id vr t sk p i j x b o
 | .int _,_,_,_,_,_,b,o,hl,h=>by obtain ⟨q,hq⟩:=hl 0 (by simp [Ty.size]); rw [dW] at hq;simp only [dK] at h ⊢; rw [(s.own b o id q hq hT).2.1]; exact h
 | .bool,_,_,_,_,_,b,o,hl,h=>by obtain ⟨q,hq⟩:=hl 0 (by simp [Ty.size]); rw [dW] at hq;simp only [dK] at h ⊢; rw [(s.own b o id q hq hT).2.1]; exact h
 | .str,_,_,_,_,_,b,o,hl,h=>by obtain ⟨q,hq⟩:=hl 0 (by simp [Ty.size]); rw [dW] at hq;simp only [dK] at h ⊢; rw [(s.own b o id q hq hT).2.1]; exact h
 | .err,_,_,_,_,_,b,o,hl,h=>by obtain ⟨q,hq⟩:=hl 0 (by simp [Ty.size]); rw [dW] at hq;simp only [dK] at h ⊢; rw [(s.own b o id q hq hT).2.1]; exact h
 | .pair a c,sk,p,i,j,x,b,o,hl,h=>by simp only [dK] at h ⊢;refine ⟨Hw s hT hi hv a sk p i j _ b o (fun k hk=>hl k (by simp [Ty.size]; omega)) h.1,Hw s hT hi hv c sk p i _ _ b _ (fun k hk=>?_) h.2⟩;have:=hl (a.size+k) (by simp [Ty.size]; omega);rwa [← bL] at this
 | .sl t,sk,p,i,j,x,b,o,hl,h=>by
  obtain ⟨q,hq⟩:=hl 0 (by simp [Ty.size]); rw [dW] at hq;cases own with
  | false=>
   simp only [dK] at h ⊢; rw [(s.own b o id q hq hT).2.1];obtain ⟨v,e,r⟩:=h; exact ⟨v,e,s.gT r⟩
  | true=>
   simp only [dK] at h ⊢;rcases h with h | ⟨h1,h2⟩
   ·exact .inl h
   refine .inr ⟨?_,?_⟩
   ·rw [(s.own b o id q hq hT).2.1,s.hd _ _ _ hi hv]; exact h1
   rw [s.hd _ _ _ hi hv];refine QR s hT (fun k hk b o xO r=>?_) h2;exact Hw s hT hi hv t _ _ k 0 _ b o (fun k hk=>⟨_,xO k hk⟩) r
 | .bQ t,_,_,_,_,_,b,o,hl,h=>by obtain ⟨q,hq⟩:=hl 0 (by simp [Ty.size]); rw [dW] at hq;simp only [dK] at h ⊢; rw [(s.own b o id q hq hT).2.1];obtain ⟨v,e,r,n⟩:=h; exact ⟨v,e,s.gT r,n⟩
theorem QS {own:Bool} {id hv vr:Nat} {t:Ty} {sk:Nat→Nat→Bool} {p:Path} {xs:List t.T} (s:eJ T g w U g' w' U') (hT:¬ T id) (hi:U (id / 1024)) (h1:U hv) (h2:U vr)
  (h:eN g w own id hv vr t sk p xs):eN g' w' own id hv vr t sk p xs:=by
 unfold eN at h ⊢;rw [s.hd _ _ _ hi h1];exact QR s hT (fun k hk b o hl r=>Hw s hT hi h2 t sk p k 0 _ b o (fun k hk=>⟨_,hl k hk⟩) r) h
theorem Hx {id:Nat} (s:eJ T g w U g' w' U') (hT:¬ T id) (hi:U (id / 1024)):∀ o:dD,fo g w U id o→fo g' w' U' id o
 | .cells _ cs,h=>by obtain ⟨u0,b,o,e,h⟩:=h;refine ⟨s.sub _ u0,b,o,by rw [s.hd _ _ _ hi u0]; exact e,fun k hk=>?_⟩;obtain ⟨a1,a2,v,a3,a4⟩:=h k hk;obtain ⟨b1,b2,b3⟩:=s.own b (o+k) id [] a1 hT;exact ⟨b1,by rw [b3]; exact a2,v,by rw [b2]; exact a3,s.tV _ _ a4⟩
 | .row own t vr xs,h=>⟨s.sub _ h.1,s.sub _ h.2.1,QS s hT hi h.1 h.2.1 h.2.2⟩
 | .nV t vr xs i j,h=>⟨s.sub _ h.1,s.sub _ h.2.1,QS s hT hi h.1 h.2.1 h.2.2⟩
end
end Go.Am
namespace Go.Am
open Go
def AE:Ty→List ag
 | .int k=>[.int k 0]
 | .bool=>[.bool false]
 | .str=>[.str []]
 | .err=>[.err true]
 | .pair a b=>AE a++AE b
 | .sl _=>[.nil]
 | .bQ _=>[.nil]
structure nu (P:Program) (t:Nat) (i:mD):Prop where
 info:∃ ti,P.info? t=some ti∧ti.size=i.size∧ti.bytes=i.bytes∧∃ z,ti.zero=some z∧z.cells.size=i.size∧∀ g w U,cu g w U i.zero z.cells.toList
 ty:∀ T,i.ty=some T→i.zero=AE T∧i.size=T.size
 desc:∃ d,P.underlying t=some d∧(match i.kind with
  | .int k=>d = .int k
  | .str=>d = .string
  | .bool=>d = .bool
  | .iface=>∃ ms,d = .interface ms
  | .slice=>d = .slice i.elem
  | .struct=>∃ fs,d = .struct fs∧fs.toList.map (fun f=>(f.offset,f.type))=i.fields
  | .other=>True)∧i.agg=(match d with | .struct _=>true | .array _ _=>true | _=>false)
 eqs:i.eq=true→P.stoodInHeld t=false∧P.eqGuardType P.depth t=false∧∃ fs,P.underlying t=some (.struct fs)∧fs.size=i.fields.length∧
  ∀ (n:Nat) (f:Field),fs.toList[n]? = some f→f.offset=n∧f.name≠ "_" ∧∃ kk,P.underlying f.type=some (.int kk)
def tW (g:Gh) (b o:Nat):Prop:=∃ id p,g.lab b o=some (id,p)∧id / 1024≠19
structure dL (g:Gh) (w:World) (U:Nat→Prop) (site:Nat) (e:cG) (v:Value) (w':World) (g':Gh) (U':Nat→Prop):Prop where
 iZ:eJ (fun id=>(look e.aX id).isSome) g w U g' w' U'
 val:aV g' w' U' e.val v
 aX:∀ id o,look e.aX id=some (some o)→U' (id / 1024)∧fo g' w' U' id o
 used:∀ s,U' s→U s∨s=site
 b9:∀ b o q,g'.lab b o=some q→b<w'.heap.size
 cB:∀ b o q,b<w.heap.size→g'.lab b o=some q→g.lab b o≠none
 fr:Fr (tW g) w w'
 nf:∀ id,(look e.aX id).isSome=true→id / 1024≠19
theorem eJ.refl {T:Nat→Prop} {g:Gh} {w:World} {U:Nat→Prop} : eJ T g w U g w U:=
 ⟨fun _ h=>h,fun _ _ _ _ _=>rfl,fun _ _ h _ hv=>⟨hv,h⟩,fun _ _ _ _ h _=>⟨h,rfl,rfl⟩⟩
theorem Fr.refl (F:Nat→Nat→Prop) (w:World):Fr F w w:=
 ⟨rfl,rfl,rfl,cj _,fun _ c _ _ h=>⟨c,h,rfl,fun _ _=>rfl⟩,fun _ _ _=>rfl,fun _ _ h _=>h⟩
theorem dL.same {g:Gh} {w:World} {U:Nat→Prop} {site:Nat} {x:ag} {v:Value} (hl:∀ b o q,g.lab b o=some q→b<w.heap.size) (h:aV g w U x v) :
  dL g w U site ⟨x,[]⟩ v w g U:=
 ⟨.refl,h,fun _ _ h=>(by simp [look] at h),fun _ h=>.inl h,hl,fun _ _ _ _ h=>by simp [h],.refl _ _,fun _ h=>by simp [look] at h⟩
theorem Yz (n:Int):IntKind.i64.wrap n=ah n:=by rw [IntKind.wrap_i64]; rfl
theorem Eh (k:IntKind) (n:Int):k.wrap n=nW k n:=by cases k<;>first | rfl | exact Yz n
section
variable {P:Program} {g:Gh} {w:World} {U:Nat→Prop} {ρ:Type} {r:ρ}
theorem YA (v:Value):aV g w U (match v with | .bool b=>.bool b | .int k n=>.int k n | .string s=>.str s.data.toList | .slice none 0 0=>.nil | .pointer none=>.so | .nilFunc=>.tL | .nilIface=>.err true | _=>.undef) v:=by split<;>first | rfl | trivial | simp [aV]
theorem YB (v : Value) : aV g w U (ofConst v) v := by
  unfold ofConst;split <;> first
    | rfl
    | trivial
    | (rename_i cs
       refine ⟨cs.toList, by simp, ?_⟩;generalize cs.toList = l;induction l with
       | nil => rfl
       | cons a l ih => exact ⟨a, l, rfl, YA a, ih⟩)
theorem Hy {sr:St} {a:Act} (h:∀ t v,look sr.env t=some v→aV g w U v (a.eval (.tmp t))) (x:Operand):aV g w U (sr.ev x) (a.eval x):=by
 cases x with
 | tmp t=>
  show aV g w U (match look sr.env t with | some v=>v | none=>.undef) _;cases e:look sr.env t with
  | none=>trivial
  | some v=>exact h t v e
 | const v=>exact YB v
 | func f=>exact ⟨[],rfl,rfl⟩
 | global n=>trivial
theorem AF {e:Bool} {v:Value} (h:AB e v):(e=true∧v = .nilIface)∨(e=false∧∃ t x,v = .iface t x):=by
 cases e
 ·exact .inr ⟨rfl,h⟩
 exact .inl ⟨rfl,h⟩
theorem KO {α:Type} [DecidableEq α] (a b:α):(a==b)=decide (a=b):=by rw [Kx]; simp
theorem KP (op:BinOp) (t:Nat) (X Y:Operand) (k l:IntKind) (a b:Int):(eqGuard op t X Y (.int k a) (.int l b)).run P w = .ok () w:=by unfold eqGuard;cases op<;>rfl
theorem Hz (op:BinOp) (t:Nat) (X Y:Operand) (a b:ByteArray):(eqGuard op t X Y (.string a) (.string b)).run P w = .ok () w:=by unfold eqGuard;cases op<;>rfl
theorem QT (op:BinOp) (t:Nat) (X Y:Operand) (a b:Bool):(eqGuard op t X Y (.bool a) (.bool b)).run P w = .ok () w:=by unfold eqGuard;cases op<;>rfl
theorem HA (op:BinOp) (t:Nat) (X Y:Operand) (a b:Option Addr) (n c m e:Nat):(eqGuard op t X Y (.slice a n c) (.slice b m e)).run P w = .ok () w:=by unfold eqGuard;cases op<;>rfl
theorem QU (op:BinOp) (t:Nat) (X Y:Operand) (ti:Nat) (v u:Value):(eqGuard op t X Y (.iface ti v) u).run P w = .ok () w:=by unfold eqGuard;cases op<;>cases u<;>rfl
theorem QV (op:BinOp) (t:Nat) (X:Operand) (c:Value):(eqGuard op t X (.const c) .nilIface .nilIface).run P w = .ok () w:=by unfold eqGuard;cases op<;>cases X<;>rfl
theorem QW (dd:Nat) {t:Nat} {ms:Array (String×TypeId)} (h:P.underlying t=some (.interface ms)) (v:Value) (e:Bool) (hv:AB e v) :
  (BX (dd+1) t v .nilIface).run P w = .ok e w:=by
 rcases AF hv with ⟨rfl,rfl⟩ | ⟨rfl,ti,x,rfl⟩<;>simp [BX,run_underlying h]
theorem HB (dd:Nat) {t e:Nat} (h:P.underlying t=some (.slice e)) (a:Option Addr) (n c:Nat) :
  (BX (dd+1) t (.slice a n c) (.slice none 0 0)).run P w = .ok a.isNone w:=by
 cases a<;>simp [BX,run_underlying h]
theorem QX (op:BinOp) (kk yk:IntKind) (a b:Int) (hb:¬ b<0) (v:Int) (hv:(op = .shl∧v=kk.wrap (a*2 ^ min b.toNat kk.bits))∨(op = .shr∧v=a.fdiv (2 ^ min b.toNat kk.bits))) :
  (Op.shift op kk a yk b).run P w = .ok (.int kk v) w:=by
 unfold Op.shift;rw [if_neg hb];rcases hv with ⟨rfl,rfl⟩ | ⟨rfl,rfl⟩<;>rfl
theorem qZ {op:BinOp} {t:Nat} {kk kl:IntKind} {a b:Int} {X Y:Operand} {z:Int ⊕ Bool} (hk:kk=kl)
  (hz:(match op with
   | .add=>z = .inl (nW kk (a+b)) | .sub=>z = .inl (nW kk (a-b)) | .mul=>z = .inl (nW kk (a*b))
   | .quo=>b≠0∧z = .inl (nW kk (a.tdiv b)) | .rem=>b≠0∧z = .inl (a.tmod b)
   | .eql=>z = .inr (decide (a=b)) | .neq=>z = .inr (!decide (a=b)) | .lss=>z = .inr (decide (a<b)) | .leq=>z = .inr (decide (a≤b))
   | .gtr=>z = .inr (decide (b<a)) | .geq=>z = .inr (decide (b≤a))
   | .shl | .shr=>False
   | op=>z = .inl (KB op kk a b))) :
  (do eqGuard op t X Y (.int kk a) (.int kl b); binOp op t (.int kk a) (.int kl b):Sem Value).run P w = .ok (match z with | .inl n=>.int kk n | .inr b=>.bool b) w:=by
 subst hk;simp only [jz,KP,jy];cases op<;>simp only at hz
 case quo=>obtain ⟨h,rfl⟩:=hz; simp [go_sem,Op.intDiv,h,Eh]
 case rem=>obtain ⟨h,rfl⟩:=hz; simp [go_sem,Op.intDiv,h]
 all_goals (subst hz; simp [go_sem,Op.intArith,Op.intBits,Eh,KB,bne,KO])
theorem YC {kd:TK} {d:TypeDesc} {t:Nat} {yc:Bool} {op:BinOp} {x y:ag} {vx vy:Value} {k:ag→Option ρ} {X Y:Operand}
  (hd:P.underlying t=some d) (hk:match kd with
   | .int k=>d = .int k | .str=>d = .string | .bool=>d = .bool | .iface=>∃ ms,d = .interface ms | .slice=>∃ e,d = .slice e | _=>True)
  (KQ:yc=true→∃ c,Y = .const c)
  (hx:aV g w U x vx) (hy:aV g w U y vy) (h:vz kd yc op x y k=some r) :
  ∃ z v,k z=some r∧(do eqGuard op t X Y vx vy; binOp op t vx vy:Sem Value).run P w = .ok v w∧aV g w U z v:=by
 unfold vz at h;split at h
 ·
  rename_i kk a kl b;split at h
  ·simp at h
  rename_i hb;obtain rfl:=hx; obtain rfl:=hy;exact ⟨_,_,h,by simp only [jz,KP,jy,binOp_shl]; exact QX .shl kk kl a b hb _ (.inl ⟨rfl,(Eh _ _).symm⟩),rfl⟩
 ·rename_i kk a kl b;split at h
  ·simp at h
  rename_i hb;obtain rfl:=hx; obtain rfl:=hy;exact ⟨_,_,h,by simp only [jz,KP,jy,binOp_shr]; exact QX .shr kk kl a b hb _ (.inr ⟨rfl,rfl⟩),rfl⟩
 ·rename_i op kk a kl b _ _;obtain rfl:=hx; obtain rfl:=hy;split at h
  ·simp at h
  rename_i ly;have ly:=o7 ly;split at h
  ·exact ⟨_,_,h,qZ (z:=.inl _) ly rfl,rfl⟩
  ·exact ⟨_,_,h,qZ (z:=.inl _) ly rfl,rfl⟩
  ·exact ⟨_,_,h,qZ (z:=.inl _) ly rfl,rfl⟩
  ·split at h
   ·simp at h
   rename_i hb; exact ⟨_,_,h,qZ (z:=.inl _) (op:=.quo) ly ⟨hb,rfl⟩,rfl⟩
  ·split at h
   ·simp at h
   rename_i hb; exact ⟨_,_,h,qZ (z:=.inl _) (op:=.rem) ly ⟨hb,rfl⟩,rfl⟩
  ·exact ⟨_,_,h,qZ (z:=.inr _) ly rfl,rfl⟩
  ·exact ⟨_,_,h,qZ (z:=.inr _) ly rfl,rfl⟩
  ·exact ⟨_,_,h,qZ (z:=.inr _) ly rfl,rfl⟩
  ·exact ⟨_,_,h,qZ (z:=.inr _) ly rfl,rfl⟩
  ·exact ⟨_,_,h,qZ (z:=.inr _) ly rfl,rfl⟩
  ·exact ⟨_,_,h,qZ (z:=.inr _) ly rfl,rfl⟩
  rename_i n11;refine ⟨_,_,h,qZ (z:=.inl _) ly ?_,rfl⟩;clear h hd hk KQ;cases op<;>first | rfl | simp_all
 ·
  rename_i a b;obtain rfl:=hx; obtain rfl:=hy;split at h
  ·rename_i hl;refine ⟨_,_,h,?_,rfl⟩;simp only [jz,Hz,jy,binOp_string_add,Op.stringOp];rw [if_neg]
   ·have e:(⟨a.toArray⟩:ByteArray)++⟨b.toArray⟩=⟨(a++b).toArray⟩:=by apply ByteArray.ext;simp
    rw [e]; rfl
   have e1:(⟨a.toArray⟩:ByteArray).size=a.length:=rfl;have e2:(⟨b.toArray⟩:ByteArray).size=b.length:=rfl;rw [e1,e2];have e3:IntKind.i64.max=9223372036854775807:=by decide
   rw [e3];simp [bU] at hl;omega
  simp at h
 ·rename_i a b;obtain rfl:=hx; obtain rfl:=hy;exact ⟨_,_,h,by simp only [jz,Hz,jy,binOp_string_eql,Ah]; simp; rw [Kx]; simp,rfl⟩
 ·rename_i a b;obtain rfl:=hx; obtain rfl:=hy;exact ⟨_,_,h,by simp only [jz,Hz,jy,binOp_string_neq,Ah]; simp; rw [Kx]; simp,rfl⟩
 ·rename_i a b;obtain rfl:=hx; obtain rfl:=hy;exact ⟨_,_,h,by simp only [jz,Hz,jy,binOp_string_lss,Ah]; simp,rfl⟩
 ·rename_i a b;obtain rfl:=hx; obtain rfl:=hy;split at h
  ·subst hk;exact ⟨_,_,h,by simp only [jz,QT,jy,run_eql_bool _ _ _ _ hd,KO],rfl⟩
  simp at h
 ·rename_i a b;obtain rfl:=hx; obtain rfl:=hy;split at h
  ·subst hk;exact ⟨_,_,h,by simp only [jz,QT,jy,run_neq_bool _ _ _ _ hd,KO],rfl⟩
  simp at h
 ·rename_i a;obtain rfl:=hy;split at h
  ·obtain ⟨ms,rfl⟩:=hk;obtain ⟨c,rfl⟩:=KQ rfl;refine ⟨_,_,h,?_,rfl⟩;have e1:(eqGuard .eql t X (.const c) vx .nilIface).run P w = .ok () w:=by
    rcases AF hx with ⟨rfl,rfl⟩ | ⟨rfl,ti,x,rfl⟩
    ·exact QV _ _ _ _
    exact QU _ _ _ _ _ _ _
   simp only [jz,e1,jy];have e2:=QW (w:=w) 9999 hd vx a hx;rcases AF hx with ⟨rfl,rfl⟩ | ⟨rfl,ti,x,rfl⟩<;>simp [binOp,BW,BY,e2]
  simp at h
 ·rename_i a;obtain rfl:=hy;split at h
  ·obtain ⟨ms,rfl⟩:=hk;obtain ⟨c,rfl⟩:=KQ rfl;refine ⟨_,_,h,?_,rfl⟩;have e1:(eqGuard .neq t X (.const c) vx .nilIface).run P w = .ok () w:=by
    rcases AF hx with ⟨rfl,rfl⟩ | ⟨rfl,ti,x,rfl⟩
    ·exact QV _ _ _ _
    exact QU _ _ _ _ _ _ _
   simp only [jz,e1,jy];have e2:=QW (w:=w) 9999 hd vx a hx;rcases AF hx with ⟨rfl,rfl⟩ | ⟨rfl,ti,x,rfl⟩<;>simp [binOp,BW,BY,e2]
  simp at h
 ·rename_i tt o;obtain rfl:=hy;obtain ⟨⟨a,n,cp,rfl,-⟩,ho⟩:=hx;split at h
  ·obtain ⟨e,rfl⟩:=hk;refine ⟨_,_,h,?_,rfl⟩;simp only [jz,HA,jy];have e2:=HB (w:=w) 9999 hd a n cp;have e3:o.isNone=a.isNone:=by cases o<;>cases a<;>simp_all
   simp [binOp,BW,BY,e2,e3]
  simp at h
 ·rename_i tt o;obtain rfl:=hy;obtain ⟨⟨a,n,cp,rfl,-⟩,ho⟩:=hx;split at h
  ·obtain ⟨e,rfl⟩:=hk;refine ⟨_,_,h,?_,rfl⟩;simp only [jz,HA,jy];have e2:=HB (w:=w) 9999 hd a n cp;have e3:o.isSome = !a.isNone:=by cases o<;>cases a<;>simp_all
   simp [binOp,BW,BY,e2,e3]
  simp at h
 ·obtain rfl:=hy; obtain rfl:=hx;split at h
  ·obtain ⟨e,rfl⟩:=hk;refine ⟨_,_,h,?_,rfl⟩;simp only [jz,HA,jy];have e2:=HB (w:=w) 9999 hd none 0 0;simp [binOp,BW,BY,e2]
  simp at h
 ·obtain rfl:=hy; obtain rfl:=hx;split at h
  ·obtain ⟨e,rfl⟩:=hk;refine ⟨_,_,h,?_,rfl⟩;simp only [jz,HA,jy];have e2:=HB (w:=w) 9999 hd none 0 0;simp [binOp,BW,BY,e2]
  simp at h
 simp at h
end
end Go.Am
namespace Go.Am
open Go
theorem j8 (h:Nat→(u:Ty)→List u.T→ag):∀ (t:Ty) (x:t.T) (j:Nat),(flat h t x j).length=t.size
 | .pair a b,x,j=>by simp only [flat,cg,j8 h a,j8 h b]; rfl
 | .int _,_,_ | .bool,_,_ | .str,_,_ | .err,_,_ | .sl _,_,_ | .bQ _,_,_=>rfl
section
variable {P:Program} {c:ba} {g:Gh} {w:World} {U:Nat→Prop} {ρ:Type} {r:ρ}
theorem KR:∀ (t:Ty) (x:t.T) (b o j:Nat),Sh g.lab w t x b o→∀ k (hk:k<(flat mC t x j).length),∃ v,w.cell? (ad b (o+k))=some v∧aV g w U ((flat mC t x j)[k]) v
 | .int _,n,b,o,j,h,k,hk=>by
  have:k=0:=by simp [flat] at hk; exact hk
  subst this; exact ⟨_,h.1,rfl⟩
 | .bool,n,b,o,j,h,k,hk=>by
  have:k=0:=by simp [flat] at hk; exact hk
  subst this; exact ⟨_,h.1,rfl⟩
 | .str,n,b,o,j,h,k,hk=>by
  have:k=0:=by simp [flat] at hk; exact hk
  subst this; exact ⟨_,h.1,rfl⟩
 | .err,n,b,o,j,h,k,hk=>by
  have:k=0:=by simp [flat] at hk; exact hk
  subst this;obtain ⟨⟨v,hv,he⟩,-⟩:=h;exact ⟨v,hv,he⟩
 | .pair s t,x,b,o,j,h,k,hk=>by
  simp only [flat] at hk ⊢;by_cases hs:k<(flat mC s x.1 j).length
  ·rw [B_ hs];exact KR s x.1 b o j h.1 k hs
  have hl:=j8 mC s x.1 j;rw [Ak (by omega)];obtain ⟨v,h1,h2⟩:=KR t x.2 b (o+s.size) (j+s.size) h.2 (k-(flat mC s x.1 j).length) (by simp only [cg] at hk; omega);refine ⟨v,?_,h2⟩;rw [← h1]; congr 2; omega
 | .sl t,n,b,o,j,h,k,hk=>by
  have:k=0:=by simp [flat] at hk; exact hk
  subst this;obtain ⟨⟨v,hv,he⟩,-⟩:=h;exact ⟨v,hv,he⟩
 | .bQ t,n,b,o,j,h,k,hk=>by
  have:k=0:=by simp [flat] at hk; exact hk
  subst this;obtain ⟨⟨v,hv,he⟩,-⟩:=h;exact ⟨v,hv,he⟩
def Ei (own:Bool) (id vr:Nat) (p:Path) (i:Nat):Nat→(u:Ty)→List u.T→ag:=match own with | true=>QD id vr p i | false=>mC
theorem QY {id ver:Nat} {i j:Nat} : ∀ (q pre:Path),j7 g id ver pre q→i<(g.hd id (j6 (pre++q) ver) (pre++q)).len→j7 g id ver pre (q++[(i,j)])
 | [],pre,_,h=>⟨by simpa using h,trivial⟩
 | (a,b)::q,pre,hq,h=>⟨hq.1,QY q (pre++[(a,b)]) hq.2 (by simpa using h)⟩
theorem QZ {id ver:Nat} {i j k:Nat} : ∀ {q pre:Path},j7 g id ver pre (q++[(i,j)])→j7 g id ver pre (q++[(i,k)])
 | [],pre,h=>⟨h.1,trivial⟩
 | (a,b)::q,pre,h=>⟨h.1,QZ h.2⟩
theorem KS {own:Bool} {id vr:Nat} (hi:U (id / 1024)) (hv:U vr) (h0:U 0) {p:Path} {i:Nat} (hp:j7 g id vr [] (p++[(i,0)])∨own=false):∀ (t:Ty) (j:Nat) (x:t.T) (b o:Nat),dK g w own id vr t cP p i j x b o→
  ∀ k (hk:k<(flat (Ei own id vr p i) t x j).length),∃ v,w.cell? (ad b (o+k))=some v∧aV g w U ((flat (Ei own id vr p i) t x j)[k]) v
 | .int _,j,x,b,o,h,k,hk=>by
  have:k=0:=by simp [flat] at hk; exact hk
  subst this; exact ⟨_,h,rfl⟩
 | .bool,j,x,b,o,h,k,hk=>by
  have:k=0:=by simp [flat] at hk; exact hk
  subst this; exact ⟨_,h,rfl⟩
 | .str,j,x,b,o,h,k,hk=>by
  have:k=0:=by simp [flat] at hk; exact hk
  subst this; exact ⟨_,h,rfl⟩
 | .err,j,x,b,o,h,k,hk=>by
  have:k=0:=by simp [flat] at hk; exact hk
  subst this; exact h
 | .pair s t,j,x,b,o,h,k,hk=>by
  simp only [flat] at hk ⊢;by_cases hs:k<(flat (Ei own id vr p i) s x.1 j).length
  ·rw [B_ hs];exact KS hi hv h0 hp s j x.1 b o h.1 k hs
  have hl:=j8 (Ei own id vr p i) s x.1 j;rw [Ak (by omega)];obtain ⟨v,h1,h2⟩:=KS hi hv h0 hp t (j+s.size) x.2 b (o+s.size) h.2 (k-(flat (Ei own id vr p i) s x.1 j).length) (by simp only [cg] at hk; omega);refine ⟨v,?_,h2⟩;rw [← h1]; congr 2; omega
 | .sl t,j,x,b,o,h,k,hk=>by
  have:k=0:=by simp [flat] at hk; exact hk
  subst this;cases own with
  | true=>
   rcases h with h | ⟨h,-⟩
   ·simp [cP] at h
   refine ⟨_,h,hi,hv,h0,?_,by simp,rfl⟩;rcases hp with hp | hp
   ·exact QZ hp
   simp at hp
  | false=>exact h
 | .bQ t,j,x,b,o,h,k,hk=>by
  have:k=0:=by simp [flat] at hk; exact hk
  subst this;obtain ⟨v,hv,he⟩:=h;exact ⟨v,hv,he⟩
theorem Ej {id vr:Nat} : ∀ (t:Ty) (p:Path) (i j:Nat) (x:t.T) (b o k:Nat) (u:Ty) (ys:List u.T),dK g w true id vr t cP p i j x b o→kp t x k=some ⟨u,ys⟩→
  w.cell? (ad b (o+k))=some (g.hd id vr (p++[(i,j+k)])).val∧eN g w true id vr vr u cP (p++[(i,j+k)]) ys∧k<t.size
 | .pair s t,p,i,j,x,b,o,k,u,ys,h,e=>by
  simp only [kp] at e;split at e
  ·rename_i hk;obtain ⟨h1,h2,h3⟩:=Ej s p i j x.1 b o k u ys h.1 e;exact ⟨h1,h2,by simp [Ty.size]; omega⟩
  rename_i hk;have cr:¬ k<s.size:=by
   intro ax;have:cL k s.size=true:=by simpa [dJ] using ax
   rw [this] at hk; exact absurd hk (by simp)
  obtain ⟨h1,h2,h3⟩:=Ej t p i (j+s.size) x.2 b (o+s.size) (k-s.size) u ys h.2 e;have e1:o+s.size+(k-s.size)=o+k:=by omega
  have e2:j+s.size+(k-s.size)=j+k:=by omega
  rw [e1,e2] at h1;rw [e2] at h2;exact ⟨h1,h2,by simp [Ty.size]; omega⟩
 | .sl t,p,i,j,x,b,o,k,u,ys,h,e=>by
  cases k with
  | zero=>
   simp only [kp,aF] at e;obtain ⟨rfl,e⟩:=nU e;obtain rfl:=eq_of_heq e;rcases h with h | ⟨h1,h2⟩
   ·simp [cP] at h
   exact ⟨h1,h2,by simp [Ty.size]⟩
  | succ k=>simp [kp] at e
 | .int _,_,_,_,_,_,_,k,_,_,_,e=>by cases k<;>simp [kp] at e
 | .bool,_,_,_,_,_,_,k,_,_,_,e=>by cases k<;>simp [kp] at e
 | .str,_,_,_,_,_,_,k,_,_,_,e=>by cases k<;>simp [kp] at e
 | .err,_,_,_,_,_,_,k,_,_,_,e=>by cases k<;>simp [kp] at e
 | .bQ _,_,_,_,_,_,_,k,_,_,_,e=>by cases k<;>simp [kp] at e
theorem vM {t:Ty} {xs:List t.T} {i:Nat} (h:i<xs.length):el t xs i=xs[i]:=by unfold el; simp [jN,dU h]
theorem KT {id vr:Nat} : ∀ (q:Path) (t:Ty) (p:Path) (xs:List t.T) (u:Ty) (ys:List u.T),eN g w true id (j6 p vr) vr t cP p xs→place t xs q=some ⟨u,ys⟩→j7 g id vr p q→
  eN g w true id (j6 (p++q) vr) vr u cP (p++q) ys
 | [],t,p,xs,u,ys,h,e,_=>by simp only [place,aF] at e;obtain ⟨rfl,e⟩:=nU e;obtain rfl:=eq_of_heq e;simpa using h
 | (i,j)::q,t,p,xs,u,ys,h,e,hb=>by
  simp only [place] at e;obtain ⟨h1,h2,h3,h4⟩:=h;obtain ⟨gj,dE⟩:=hb;rw [h1] at gj;cases hc:kp t (el t xs i) j with
  | none=>rw [hc] at e; simp at e
  | some s=>
   obtain ⟨u1,KU⟩:=s;rw [hc] at e;have hlen:0<(g.hd id (j6 p vr) p).cap:=by omega
   cases ha:(g.hd id (j6 p vr) p).addr with
   | none=>have:=h3 ha; omega
   | some a=>
    obtain ⟨b,o⟩:=a;have hi:=(h4 b o ha).2 i gj;rw [← vM gj] at hi;obtain ⟨-,r,-⟩:=Ej t p i 0 _ b _ j u1 KU hi hc;rw [jB] at r;have r':eN g w true id (j6 (p++[(i,j)]) vr) vr u1 cP (p++[(i,j)]) KU:=by
     have e0:j6 (p++[(i,j)]) vr=vr:=by cases p<;>rfl
     rw [e0]; exact r
    have:=KT q u1 (p++[(i,j)]) KU u ys r' e dE;rwa [List.append_assoc] at this
def fq (g:Gh) (w:World) (U:Nat→Prop) (st:St):Prop:=∀ id o,st.obj id=some o→U (id / 1024)∧fo g w U id o
theorem AG {sr:St} (hO:fq g w U sr) {id ver:Nat} {p:Path} {u:Ty} {ys:List u.T} (hp:p=[]→ver=0) (cC:j7 g id ver [] p) (e:sr.rowAt id ver p=some ⟨u,ys⟩) :
  ∃ own t vr xs,sr.obj id=some (.row own t vr xs)∧U vr∧eN g w own id ver vr u cP p ys∧(p≠[]→own=true∧ver=vr):=by
 unfold St.rowAt at e;split at e
 ·rename_i own t vr xs ho;obtain ⟨hU,kR,nv,hR⟩:=hO id _ ho;split at e
  ·simp only [aF] at e;obtain ⟨rfl,e⟩:=nU e;obtain rfl:=eq_of_heq e;obtain rfl:=hp rfl;exact ⟨own,_,vr,_,ho,nv,hR,fun h=>absurd rfl h⟩
  rename_i aA;split at e
  ·rename_i hb;rw [aw] at hb;obtain ⟨rfl,hb⟩:=hb;obtain rfl:=bm hb;have:=KT (g:=g) (w:=w) p t [] xs u ys hR e cC;have e1:j6 ([]++p) ver=ver:=by cases p; exact absurd rfl aA; rfl
   rw [e1] at this;exact ⟨true,t,ver,xs,ho,nv,by simpa using this,fun _=>⟨rfl,rfl⟩⟩
  simp at e
 simp at e
def Cells (g:Gh) (w:World) (U:Nat→Prop) (cs:List ag) (b o:Nat):Prop:=∀ k (h:k<cs.length),∃ v,w.cell? (ad b (o+k))=some v∧aV g w U cs[k] v
theorem Q_ {sr:St} (hO:fq g w U sr) {a:ag} {v:Value} (hv:aV g w U a v) {cs:List ag} {j:Nat} (e:sr.D1 a=some (cs,j)) :
  ∃ b o,v = .pointer (some (ad b (o+j)))∧Cells g w U cs b o:=by
 unfold St.D1 at e;split at e
 ·rename_i t x j';simp only [aF,bE] at e;obtain ⟨rfl,rfl⟩:=e;obtain ⟨b,o,rfl,h⟩:=hv;exact ⟨b,o,rfl,KR t x b o 0 h⟩
 ·rename_i id j';split at e
  ·rename_i ho;simp only [aF,bE] at e;obtain ⟨rfl,rfl⟩:=e;obtain ⟨hU,kR,b,o,KW,rfl⟩:=hv;obtain ⟨-,-,b',o',h1,h2⟩:=hO id _ ho;rw [h1] at KW;simp only [aF,bE] at KW;obtain ⟨rfl,rfl⟩:=KW;exact ⟨_,_,rfl,fun k hk=>let ⟨_,_,v,h3,h4⟩:=h2 k hk; ⟨v,h3,h4⟩⟩
  simp at e
 ·rename_i id ver p t i j';split at e
  ·rename_i own _ vr _ _ ys ho hr;split at e
   ·rename_i hb;obtain rfl:=Ty.eq_of_beq hb;simp only [aF,bE] at e;obtain ⟨rfl,rfl⟩:=e;obtain ⟨hU,KX,kR,cC,hp,hi,b,o,ha,rfl⟩:=hv;obtain ⟨tX,t',Cn,lR,iy,nv,hR,aA⟩:=AG hO hp cC hr;rw [ho] at iy;simp only [aF,dD.row.injEq] at iy;obtain ⟨rfl,rfl,rfl,-⟩:=iy;obtain ⟨h1,h2,h3,h4⟩:=hR;rw [h1] at hi;have hx:=(h4 b o ha).2 i hi;rw [← vM hi] at hx;refine ⟨b,o+i*t.size,rfl,?_⟩;have YD:j7 g id vr [] (p++[(i,0)]):=by
     refine QY p [] ?_ ?_
     ·cases p with
      | nil=>trivial
      | cons q p=>obtain ⟨-,rfl⟩:=aA (by simp); exact cC
     rw [List.nil_append];have:g.hd id (j6 p vr) p=g.hd id ver p:=by
      cases p with
      | nil=>rw [hp rfl]; rfl
      | cons q p=>obtain ⟨-,rfl⟩:=aA (by simp); rfl
     rw [this,h1]; exact hi
    have:=KS (p:=p) (i:=i) hU nv kR (.inl YD) t 0 (el t ys i) b (o+i*t.size) hx;intro k hk;exact this k (by cases own<;>exact hk)
   simp at e
  simp at e
 simp at e
def fY (P:Program) (c:ba):Prop:=∀ t i,look c.bw t=some i→nu P t i
theorem oa (hc:fY P c) {t:Nat} (h:0<(c.ti t).size∨(c.ti t).kind≠.other):nu P t (c.ti t):=by
 unfold ba.ti at h ⊢;cases e:look c.bw t with
 | none=>rw [e] at h; simp at h
 | some i=>exact hc t i e
theorem KY {t:Nat} {i:mD} (h:nu P t i):(isAgg t).run P w = .ok i.agg w:=by obtain ⟨d,h1,-,h2⟩:=h.desc;rw [h2];unfold isAgg;simp only [jz,run_underlying h1,jy];cases d<;>rfl
theorem xP {t:Nat} {i:mD} (h:nu P t i):(sizeOf t).run P w = .ok i.size w:=by obtain ⟨ti,h1,h2,-⟩:=h.info;simp [sizeOf,typeInfo,h1,h2]
theorem mI:∀ {vs:List ag} {l:List Value},cu g w U vs l→l.length=vs.length
 | [],_,h=>by rw [h]; rfl
 | v::vs,_,⟨x,r,e,_,h⟩=>by rw [e]; simp [mI h]
theorem vN:∀ {vs:List ag} {l:List Value},l.length=vs.length→(∀ k (h:k<vs.length) (h':k<l.length),aV g w U vs[k] l[k])→cu g w U vs l
 | [],l,h,_=>by cases l<;>simp_all [cu]
 | v::vs,[],h,_=>by simp at h
 | v::vs,x::l,h,hk=>⟨x,l,rfl,hk 0 (by simp) (by simp),vN (by simpa using h) (fun k a b=>hk (k+1) (by simpa using a) (by simpa using b))⟩
theorem lU:∀ {vs:List ag} {l:List Value},cu g w U vs l→∀ k (h:k<vs.length),∃ x,l[k]? = some x∧aV g w U vs[k] x
 | [],_,_,k,h=>by simp at h
 | v::vs,_,⟨x,r,e,h1,h2⟩,k,h=>by
  subst e;cases k with
  | zero=>exact ⟨x,rfl,h1⟩
  | succ k=>obtain ⟨y,e,hy⟩:=lU h2 k (by simpa using h); exact ⟨y,by simpa using e,by simpa using hy⟩
theorem Q0 (hc:fY P c) {sr:St} (hO:fq g w U sr) {t:Nat} {x:ag} {vx:Value} (hx:aV g w U x vx) (ht:0<(c.ti t).size) {cs:List ag} {j:Nat} {z:ag}
  (e:sr.D1 x=some (cs,j)) (hp:part (c.ti t).agg (c.ti t).size cs j=some z) :
  ∃ v,(Instr.loadAt t vx).run P w = .ok v w∧aV g w U z v:=by
 have hT:=oa hc (.inl ht);obtain ⟨b,o,rfl,kq⟩:=Q_ hO hx e;have HC:∀ k (h:k<cs.length),∃ v,w.cell? (ad b (o+k))=some v∧aV g w U cs[k] v:=kq;unfold part at hp;unfold Instr.loadAt loadVar;simp only [Ky,jz,Ah,jy,KY hT];cases ha:(c.ti t).agg with
 | false=>
  rw [ha] at hp;simp only at hp;obtain ⟨hj,rfl⟩:=dV.1 hp;obtain ⟨v,h1,h2⟩:=HC j hj;refine ⟨v,?_,h2⟩;simp only [Bool.false_eq_true,if_false,run_load,h1]
 | true=>
  rw [ha] at hp;simp only at hp;split at hp
  ·rename_i hle;have hle:=gh hle;obtain rfl:=aW hp;have hex:∃ f:Nat→Value,∀ k,k<(c.ti t).size→w.cell? (ad b (o+(j+k)))=some (f k)∧∀ h:j+k<cs.length,aV g w U cs[j+k] (f k):=by refine ⟨fun k=>(w.cell? (ad b (o+(j+k)))).getD undef,fun k hk=>?_⟩;obtain ⟨v,h1,h2⟩:=HC (j+k) (by omega);exact ⟨by simp [h1],fun _=>by simpa [h1] using h2⟩
   obtain ⟨f,hf⟩:=hex;refine ⟨.agg ((List.range (c.ti t).size).map f).toArray,?_,_,rfl,vN ?_ ?_⟩
   ·simp only [if_true,jz,xP hT,jy];rw [run_loadCells w _ _ f (fun k hk=>?_)]
    ·rfl
    have:=(hf k hk).1;have e:(ad b (o+j)).add k=ad b (o+(j+k)):=by rw [vu,bL]
    rw [e]; exact this
   ·simp; omega
   intro k h1 h2;simp only [List.length_map,List.length_range] at h2;have:=(hf k h2).2 (by omega);simp only [vv,xF,List.getElem_map,List.getElem_range];exact this
  simp at hp
end
end Go.Am
namespace Go.Am
open Go
structure dp (P:Program) (c:ba) (g:Gh) (w:World) (U:Nat→Prop) (sr:St) (a:Act):Prop where
 bw:fY P c
 env:∀ t v,look sr.env t=some v→aV g w U v (a.eval (.tmp t))
 aX:fq g w U sr
 b9:∀ b o q,g.lab b o=some q→b<w.heap.size
 u0:U 0
 nr:∀ s,s<20→U s
 nf:∀ id,sr.obj id≠none→id / 1024≠19
 gl:Gl P g.lab w
theorem dp.AD {P:Program} {c:ba} {g:Gh} {w:World} {U:Nat→Prop} {sr:St} {a:Act} (S:dp P c g w U sr a):U 19:=S.nr 19 (by omega)
def ny (P:Program) (g:Gh) (w:World) (U:Nat→Prop) (site:Nat) (o:Oper) (a:Act) (e:cG):Prop:=
 ∀ (next:Act→World→Prop) (Q:Exit→Act→World→Prop),(∀ v w' g' U',dL g w U site e v w' g' U'→next (a.put o.dst v) w')→o.wp P a w next Q
section
variable {P:Program} {c:ba} {g:Gh} {w:World} {U:Nat→Prop} {sr:St} {a:Act} {site:Nat} {o:Oper} {ρ:Type} {r:ρ} {k:cG→Option ρ}
theorem dp.ev (S:dp P c g w U sr a) (x:Operand):aV g w U (sr.ev x) (a.eval x):=Hy S.env x
theorem ny.of {e:cG} {v:Value} {w':World} {g':Gh} {U':Nat→Prop} (h:(execOp a.eval o).run P w = .ok (.value v) w') (hp:dL g w U site e v w' g' U'):ny P g w U site o a e:=by
 intro next Q hn
 unfold Oper.wp;rw [h];exact hn _ _ _ _ hp
theorem ny.skip {e:cG} {w':World} {g':Gh} {U':Nat→Prop} (h:(execOp a.eval o).run P w = .ok .skip w') (hp:dL g w U site e undef w' g' U'):ny P g w U site o a e:=by
 intro next Q hn
 unfold Oper.wp;rw [h];exact hn _ _ _ _ hp
theorem ny.val (S:dp P c g w U sr a) {x:ag} {v:Value} (h:(execOp a.eval o).run P w = .ok (.value v) w) (hv:aV g w U x v):ny P g w U site o a ⟨x,[]⟩:=
 .of h (.same S.b9 hv)
abbrev Ok (P:Program) (g:Gh) (w:World) (U:Nat→Prop) (x:ag) (s:Sem Value):Prop:=∃ v,s.run P w = .ok v w∧aV g w U x v
theorem KZ (b o n m:Nat):(ad b (o+n)).add m=ad b (o+(n+m)):=by rw [vu,bL]
theorem YE {x y:ag} {n:Nat} {v:Value} (hx:aV g w U x v) (e:D2 x n=y) (hy:y≠.undef):∃ b o,v = .pointer (some (ad b o))∧aV g w U y (.pointer (some ((ad b o).add n))):=by
 unfold D2 at e;split at e
 ·subst e;obtain ⟨b,o,rfl,h⟩:=hx;exact ⟨_,_,rfl,b,o,by rw [KZ],h⟩
 ·subst e;obtain ⟨h1,h2,b,o,h,rfl⟩:=hx;exact ⟨_,_,rfl,h1,h2,b,o,h,by rw [KZ]⟩
 ·subst e;obtain ⟨h1,h2,h3,h4,h5,h6,b,o,h,rfl⟩:=hx;exact ⟨_,_,rfl,h1,h2,h3,h4,h5,h6,b,o,h,by rw [KZ]⟩
 exact absurd e.symm hy
theorem Q1 {t:Nat} {i:mD} (h:nu P t i) (hk:i.kind = .struct) {f off ft:Nat} (hf:i.fields[f]? = some (off,ft)) :
  ∃ fs fd,P.underlying t=some (.struct fs)∧fs[f]? = some fd∧fd.offset=off∧fd.type=ft:=by
 obtain ⟨d,h1,h2,-⟩:=h.desc;rw [hk] at h2;obtain ⟨fs,rfl,h3⟩:=h2;rw [← h3,List.getElem?_map] at hf;obtain ⟨fd,h4,h5⟩:=vw.1 hf;simp only [bE] at h5;exact ⟨fs,fd,h1,by simpa using h4,h5.1,h5.2⟩
theorem Co (S:fY P c) {t:Nat} {K:TK} (h:(c.ti t).kind=K) (hK:K≠.other):nu P t (c.ti t):=oa S (.inr (by rw [h]; exact hK))
theorem YF (hc:fY P c) {s f off t:Nat} {x y:ag} {v:Value} (hk:(c.ti s).kind = .struct) (hf:(c.ti s).fields[f]? = some (off,t)) (ht:0<(c.ti t).size) (hx:aV g w U x v)
  (e:D2 x off=y) (hy:y≠.undef):Ok P g w U y (Instr.fieldAt s v f):=by
 obtain ⟨fs,fd,h1,h2,h3,h4⟩:=Q1 (Co hc hk (by simp)) hk hf;obtain ⟨b,o,rfl,h5⟩:=YE hx e hy;refine ⟨_,?_,h5⟩;subst h3 h4;have hs:=xP (w:=w) (oa hc (.inl ht));have aA:¬ (c.ti fd.type).size=0:=by omega
 simp [Instr.fieldAt,run_underlying h1,h2,Ky,fieldPlace,hs,aA]
theorem YG (hc:fY P c) {t:Nat} {cs:List ag} {l:List Value} {off:Nat} {z:ag} (ht:nu P t (c.ti t)) (hl:cu g w U cs l) (e:part (c.ti t).agg (c.ti t).size cs off=some z) :
  Ok P g w U z (Go.part t l.toArray off):=by
 unfold Am.part at e;unfold Go.part;have hlen:=mI hl;split at e
 ·rename_i ha;split at e
  ·rename_i hle;have hle:=gh hle;obtain rfl:=aW e;refine ⟨.agg ((l.drop off).take (c.ti t).size).toArray,?_,_,rfl,vN (by simp [hlen]) (fun k h1 h2=>?_)⟩
   ·simp only [jz,KY ht,jy,ha,if_true,xP ht,Ah];congr 2;apply Array.ext';simp [List.take_drop,Nat.add_comm]
   obtain ⟨v,h3,h4⟩:=lU hl (off+k) (by simp at h1; omega);simp only [vv,xF];obtain ⟨h5,rfl⟩:=dV.1 h3;exact h4
  simp at e
 rename_i ha;obtain ⟨hj,rfl⟩:=dV.1 e;obtain ⟨v,h3,h4⟩:=lU hl off hj;refine ⟨v,?_,h4⟩;simp only [jz,KY ht,jy,ha,Bool.false_eq_true,if_false,List.getElem?_toArray,h3,Ah]
theorem YH (hc:fY P c) {s f off t:Nat} {cs:List ag} {z:ag} {v:Value} (hk:(c.ti s).kind = .struct) (hf:(c.ti s).fields[f]? = some (off,t)) (ht:0<(c.ti t).size)
  (hx:aV g w U (.agg cs) v) (e:part (c.ti t).agg (c.ti t).size cs off=some z):Ok P g w U z (Instr.field s v f):=by
 obtain ⟨fs,fd,h1,h2,rfl,rfl⟩:=Q1 (Co hc hk (by simp)) hk hf;obtain ⟨l,rfl,hl⟩:=hx;obtain ⟨z',h3,h4⟩:=YG hc (oa hc (.inl ht)) hl e;exact ⟨z',by simp [Instr.field,run_underlying h1,h2,asAgg,h3],h4⟩
theorem sC (hc:fY P c) {t:Nat} (hk:(c.ti t).kind = .slice):P.underlying t=some (.slice (c.ti t).elem):=by obtain ⟨d,h1,h2,-⟩:=(Co hc hk (by simp)).desc;rw [hk] at h2;rw [h1,h2]
theorem Cp (hc:fY P c) {t:Nat} (hk:(c.ti t).kind = .str):P.underlying t=some .string:=by obtain ⟨d,h1,h2,-⟩:=(Co hc hk (by simp)).desc;rw [hk] at h2;rw [h1,h2]
theorem HD (hc:fY P c) {t:Nat} {kk:IntKind} (hk:(c.ti t).kind = .int kk):P.underlying t=some (.int kk):=by obtain ⟨d,h1,h2,-⟩:=(Co hc hk (by simp)).desc;rw [hk] at h2;rw [h1,h2]
theorem Ek (hc:fY P c) {t:Nat} (hk:(c.ti t).kind = .slice) (hs:0<(c.ti (c.ti t).elem).size) {kk:IntKind} {b o len cap:Nat} {i:Int} (h0:0≤i) (h1:i<len) :
  (Ha t (.slice (some (ad b o)) len cap) (.int kk i)).run P w = .ok (.pointer (some (ad b (o+i.toNat*(c.ti (c.ti t).elem).size)))) w:=by
 have h:=sC hc hk;simp [Ha,run_underlying h,asIntOf,h0,h1,xP (oa hc (.inl hs)),vu]
theorem K_ (hO:fq g w U sr) {id ver:Nat} {p:Path} {u:Ty} {ys:List u.T} (hp:p=[]→ver=0) (cC:j7 g id ver [] p) (e:sr.rowAt id ver p=some ⟨u,ys⟩) :
  (g.hd id ver p).len=ys.length∧(g.hd id ver p).len≤(g.hd id ver p).cap∧((g.hd id ver p).addr=none→(g.hd id ver p).cap=0):=by
 obtain ⟨_,_,_,_,-,-,h,-⟩:=AG hO hp cC e;exact ⟨h.1,h.2.1,h.2.2.1⟩
theorem Q2 {gQ:Nat} {st:St} {x:ag} {i:Int} {kv:ag→Option ρ} {r:ρ} : ∀ {m:Nat},xK gQ st x i kv m=some r→p5 gQ st x i kv=some r
 | 0,e=>by simp [xK] at e
 | m+1,e=>by
  unfold xK at e;by_cases h:i=Int.ofNat m
  ·simp only [h,decide_true,br] at e;rw [h]; exact e
  simp only [h,decide_false,br] at e;exact Q2 e
theorem YI {t:Nat} {x z:ag} {kk:IntKind} {i:Int} {v:Value} {kv:ag→Option ρ} (S:dp P c g w U sr a) (hk:(c.ti t).kind = .slice) (hs:0<(c.ti (c.ti t).elem).size)
  (hx:aV g w U x v) (e:p5 (c.ti (c.ti t).elem).size sr x i kv=some r):∃ z,kv z=some r∧Ok P g w U z (Ha t v (.int kk i)):=by
 unfold p5 at e;split at e
 ·simp at e
 rename_i bB;have bB:=bm bB;have Q3:∀ (u:Ty) (xs:List u.T),(c.ti (c.ti t).elem).size=u.size→gT u.size (Sh g.lab w u) xs v→0≤i∧i<(xs.length:Int)→Ok P g w U (.ga u (el u xs i.toNat) 0) (Ha t v (.int kk i)):=by intro u xs hu hv hi;obtain ⟨a,len,cap,rfl,rfl,h2,h3,h4⟩:=hv;obtain ⟨b,o,rfl,h5⟩:=h4 (by rintro rfl; simp at hi; omega);refine ⟨_,Ek S.bw hk hs hi.1 (by simpa using hi.2),b,o+i.toNat*u.size,by rw [hu]; rfl,?_⟩;have:=h5 i.toNat (by omega);rwa [vM (by omega)]
 split at e
 ·split at e
  ·rename_i hi;exact ⟨_,e,Q3 _ _ bB hx hi⟩
  simp at e
 ·split at e
  ·rename_i hi;exact ⟨_,e,Q3 _ _ bB hx.1 hi⟩
  simp at e
 ·rename_i id off len _ _;split at e
  ·rename_i n;split at e
   ·rename_i hn;have hn:n<len:=by simpa [dJ] using hn
    obtain ⟨h1,h2,a,cp,rfl,h3,h4,b,o,h5,h6⟩:=hx;obtain rfl:=h6 (.inl (by omega));refine ⟨_,e,_,Ek S.bw hk hs (Int.natCast_nonneg _) (by simpa using hn),h1,h2,b,o,h5,?_⟩;rw [bB];simp [St.su,cY,bL]
   simp at e
  simp at e
 ·rename_i id ver p _ _;split at e
  ·rename_i u ys hr;split at e
   ·rename_i hi;obtain ⟨h1,h2,h3,h4,h5,rfl⟩:=hx;obtain ⟨h6,h7,h8⟩:=K_ S.aX h5 h4 hr;have hu:(c.ti (c.ti t).elem).size=u.size:=by rw [bB]; simp [St.su,hr]
    cases ha:(g.hd id ver p).addr with
    | none=>have:=h8 ha; omega
    | some q=>
     obtain ⟨b,o⟩:=q;have hv:(g.hd id ver p).val = .slice (some (ad b o)) (g.hd id ver p).len (g.hd id ver p).cap:=by simp [Hd.val,ha]
     rw [hv];refine ⟨_,e,_,Ek S.bw hk hs hi.1 (by rw [h6]; exact hi.2),h1,h2,h3,h4,h5,by omega,b,o,ha,?_⟩;rw [hu]; simp
   simp at e
  rename_i YJ;split at e
  ·rename_i u ys hr;split at e
   ·rename_i hi;obtain ⟨h1,h2,h3,h4,h5,rfl⟩:=hx;have hu:(c.ti (c.ti t).elem).size=u.size:=by rw [bB]; simp [St.su,YJ,hr]
    have hb:p=[]∧∃ vr i' j',sr.obj id=some (.nV u vr ys i' j'):=by
     unfold St.KC at hr;split at hr
     ·split at hr
      ·rename_i i' j' ho;simp only [aF] at hr;obtain ⟨e1,e2⟩:=nU hr;subst e1;obtain rfl:=eq_of_heq e2;exact ⟨rfl,_,_,_,ho⟩
      simp at hr
     simp at hr
    obtain ⟨rfl,vr,i',j',ho⟩:=hb;obtain rfl:=h5 rfl;obtain ⟨-,-,-,h6,h7,h8,-⟩:=S.aX id _ ho;cases ha:(g.hd id 0 []).addr with
    | none=>have:=h8 ha; omega
    | some q=>
     obtain ⟨b,o⟩:=q;have hv:(g.hd id 0 []).val = .slice (some (ad b o)) (g.hd id 0 []).len (g.hd id 0 []).cap:=by simp [Hd.val,ha]
     rw [hv];refine ⟨_,e,_,Ek S.bw hk hs hi.1 (by rw [h6]; exact hi.2),h1,h2,h3,h4,h5,by omega,b,o,ha,?_⟩;rw [hu]; simp
   simp at e
  simp at e
 ·rename_i id ver p u off len _;split at e
  ·rename_i q _;split at e
   ·rename_i hi;obtain ⟨h1,h2,h3,h4,h5,a,cp,rfl,h6,h7,h8,h9,AH⟩:=hx;obtain ⟨b,o,kr,rfl⟩:=h9 (by omega);refine ⟨_,e,_,Ek S.bw hk hs hi.1 hi.2,h1,h2,h3,h4,h5,by omega,b,o,kr,?_⟩;rw [bB];simp [St.su,cY,bL]
   simp at e
  simp at e
 simp at e
theorem Q4 {x:ag} {n:Int} {v:Value} (S:dp P c g w U sr a) (hx:aV g w U x v) (e:sr.len x=some n) :
  (∃ s:List UInt8,x = .str s∧v = .string ⟨s.toArray⟩∧n=s.length)∨(∃ a l cp,v = .slice a l cp∧n=(l:Int)∧l≤cp):=by
 unfold St.len at e;split at e
 ·obtain rfl:=aW e;obtain rfl:=hx;exact .inl ⟨_,rfl,rfl,rfl⟩
 ·obtain rfl:=aW e;obtain rfl:=hx;exact .inr ⟨_,_,_,rfl,rfl,by omega⟩
 ·obtain rfl:=aW e;obtain ⟨-,-,a,cp,rfl,h,-⟩:=hx;exact .inr ⟨_,_,_,rfl,rfl,h⟩
 ·obtain rfl:=aW e;obtain ⟨-,-,-,-,-,a,cp,rfl,-,h,-⟩:=hx;exact .inr ⟨_,_,_,rfl,rfl,h⟩
 split at e
 ·rename_i hl;obtain rfl:=aW e;unfold St.list at hl;split at hl
  ·simp only [aF] at hl;obtain ⟨rfl,hl⟩:=nU hl;obtain rfl:=eq_of_heq hl;obtain ⟨a,len,cap,rfl,rfl,h2,h3,h4⟩:=hx;exact .inr ⟨_,_,_,rfl,rfl,h2⟩
  ·simp only [aF] at hl;obtain ⟨rfl,hl⟩:=nU hl;obtain rfl:=eq_of_heq hl;obtain ⟨⟨a,len,cap,rfl,rfl,h2,h3,h4⟩,-⟩:=hx;exact .inr ⟨_,_,_,rfl,rfl,h2⟩
  ·obtain ⟨h1,h2,h3,h4,h5,rfl⟩:=hx;obtain ⟨h6,h7,h8⟩:=K_ S.aX h5 h4 hl;exact .inr ⟨_,_,_,rfl,by rw [h6],h7⟩
  ·rename_i h;exact (h _ _ _ _ _ _ rfl).elim
  simp at hl
 simp at e
theorem YK {x:ag} {n:Int} {v:Value} (hx:aV g w U x v) (e:Cg x=some n):∃ kk,v = .int kk n:=by cases x<;>simp [Cg] at e;subst e;exact ⟨_,hx⟩
def El (v:Option Value) (d n:Int):Prop:=(v=none∧n=d)∨∃ kk,v=some (.int kk n)
theorem HE (S:dp P c g w U sr a) {lo:Option Operand} {d n:Int} (e:Cg (Hh sr lo (.int .i64 d))=some n):El (lo.map a.eval) d n:=by
 cases lo with
 | none=>simp [Hh,Cg] at e; exact .inl ⟨rfl,e.symm⟩
 | some x=>obtain ⟨kk,h⟩:=YK (S.ev x) e; exact .inr ⟨kk,by simp [h]⟩
theorem Q5 {isS:Bool} {len cap:Nat} {lo hi:Option Value} {l h:Int} (hl:El lo 0 l) (hh:El hi (len:Int) h) (hc:0≤l∧l≤h∧h≤(len:Int)) (fu:len≤cap) :
  (DZ isS len cap lo hi none).run P w = .ok (l.toNat,h.toNat,cap) w:=by
 obtain ⟨h0,h1,h2⟩:=hc;have e1:(h.toNat:Int)=h:=Int.toNat_of_nonneg (by omega);rcases hl with ⟨rfl,rfl⟩ | ⟨kl,rfl⟩<;>rcases hh with ⟨rfl,rfl⟩ | ⟨kh,rfl⟩
 ·simp [DZ]
 ·simp [DZ,run_sliceBound w kh h cap _ (by omega) (by omega)]
 ·simp [DZ,run_sliceBound w kl l len _ (by omega) (by omega)]
 simp [DZ,run_sliceBound w kh h cap _ (by omega) (by omega),run_sliceBound w kl l h.toNat _ (by omega) (by omega)]
theorem YL (hc:fY P c) {t:Nat} (hk:(c.ti t).kind = .slice) (hs:0<(c.ti (c.ti t).elem).size) {lo hi:Option Value} {l h:Int} {a:Option Addr} {len cap:Nat}
  (hl:El lo 0 l) (hh:El hi (len:Int) h) (hb:0≤l∧l≤h∧h≤(len:Int)) (fu:len≤cap) :
  (BV t (.slice a len cap) lo hi none).run P w = .ok (sliced a l.toNat h.toNat cap (c.ti (c.ti t).elem).size) w:=by
 have hd:=sC hc hk;simp [BV,Instr.slice,run_underlying hd,Q5 (P:=P) (w:=w) hl hh hb fu,xP (oa hc (.inl hs)),sliced]
theorem Q6 {u:Ty} {xs:List u.T} {v:Value} {l h:Int} {a:Option Addr} {len cap:Nat} (hx:gT u.size (Sh g.lab w u) xs (.slice a len cap)) (hb:0≤l∧l≤h∧h≤(len:Int)) :
  gT u.size (Sh g.lab w u) ((xs.take h.toNat).drop l.toNat) (sliced a l.toNat h.toNat cap u.size):=by
 obtain ⟨a',agI,agJ,e,rfl,h2,h3,h4⟩:=hx;simp only [Value.slice.injEq] at e;obtain ⟨rfl,rfl,rfl⟩:=e;refine ⟨_,_,_,rfl,by simp; omega,by omega,?_,?_⟩
 ·intro hn;split at hn
  ·have:=h3 hn; omega
  cases a with
  | none=>have:=h3 rfl; omega
  | some b=>simp at hn
 intro aA;have ax:l.toNat<h.toNat:=by
  rcases jP l.toNat h.toNat with h' | h'
  ·exact h'
  exact absurd (List.drop_eq_nil_of_le (by simp; omega)) aA
 obtain ⟨b,o,rfl,h5⟩:=h4 (by rintro rfl; simp at hb; omega);refine ⟨b,o+l.toNat*u.size,?_,fun i hi=>?_⟩
 ·rw [if_neg (by omega)];simp [vu]
 simp only [xF,vv];have:=h5 (l.toNat+i) (by simp at hi; omega);rwa [cY,← bL] at this
theorem Q7 {t:Nat} {x:ag} {v:Value} {lo hi:Option Operand} (S:dp P c g w U sr a) (hk:(c.ti t).kind = .slice) (hs:0<(c.ti (c.ti t).elem).size) (hx:aV g w U x v)
  (e:tQ (c.ti (c.ti t).elem).size sr x lo hi k=some r):∃ z,k ⟨z,[]⟩=some r∧Ok P g w U z (BV t v (lo.map a.eval) (hi.map a.eval) none):=by
 unfold tQ at e;split at e
 ·simp at e
 rename_i bB;split at e
 case h_2=>simp at e
 rename_i l n hl hn;split at e
 case h_2=>simp at e
 rename_i h hh;unfold ab at e;split at e
 case isFalse=>simp at e
 rename_i hb;replace hl:=HE S hl;replace hh:=HE S hh;have hlen:=Q4 S hx hn;have fin:∀ {a0:Option Addr} {len cap:Nat},v = .slice a0 len cap→n=(len:Int)∧len≤cap:=by
  rintro a0 len cap rfl;rcases hlen with ⟨s,-,h,-⟩ | ⟨a1,l1,c1,h,rfl,h3⟩
  ·simp at h
  obtain ⟨-,rfl,rfl⟩:=Value.slice.inj h;exact ⟨rfl,h3⟩
 have df:∀ {a0:Option Addr} {len cap:Nat},v = .slice a0 len cap→(BV t v (lo.map a.eval) (hi.map a.eval) none).run P w = .ok (sliced a0 l.toNat h.toNat cap (c.ti (c.ti t).elem).size) w∧(0≤l∧l≤h∧h≤(len:Int))∧len≤cap:=by rintro a0 len cap rfl;obtain ⟨rfl,h2⟩:=fin rfl;exact ⟨YL (w:=w) S.bw hk hs hl hh hb h2,hb,h2⟩
 cases x with
 | str s=>
  have bB:(c.ti (c.ti t).elem).size=0:=bm bB;omega
 | nil=>
  obtain ⟨h1,hb,h2⟩:=df hx;refine ⟨_,e,_,h1,?_⟩;have e1:l.toNat=0:=by omega
  have e2:h.toNat=0:=by omega
  simp [aV,sliced,e1,e2]
 | sh u xs=>
  have bB:(c.ti (c.ti t).elem).size=u.size:=bm bB;obtain ⟨a0,len,cap,hv,-⟩:=id hx;obtain ⟨h1,hb,h2⟩:=df hv;subst hv;rw [bB] at h1;exact ⟨_,e,_,h1,Q6 (v:=.nilIface) hx hb⟩
 | cZ u xs=>
  have bB:(c.ti (c.ti t).elem).size=u.size:=bm bB;obtain ⟨a0,len,cap,hv,-⟩:=id hx.1;obtain ⟨h1,hb,h2⟩:=df hv;subst hv;rw [bB] at h1;exact ⟨_,e,_,h1,Q6 (v:=.nilIface) hx.1 hb⟩
 | own id ver p tt=>
  have bB:(c.ti (c.ti t).elem).size=sr.su (.own id ver p tt):=bm bB;simp only at e;split at e
  ·rename_i u _ hr;obtain ⟨h1,h2,h3,h4,h5,hv⟩:=hx;obtain ⟨h6,h7,h8⟩:=K_ S.aX h5 h4 hr;obtain ⟨h9,hb,kr⟩:=df hv;refine ⟨_,e,_,h9,h1,h2,h3,h4,h5,?_⟩;have hu:(c.ti (c.ti t).elem).size=u.size:=by rw [bB]; simp [St.su,hr]
   refine ⟨_,_,rfl,by omega,by omega,by omega,fun hc=>?_,?_⟩;rotate_left
   ·split
    ·exact ⟨_,rfl⟩
    refine ⟨(g.hd id ver p).addr.map fun q=>(q.1,q.2+l.toNat*(c.ti (c.ti t).elem).size),?_⟩;cases (g.hd id ver p).addr<;>simp [vu]
   cases ha:(g.hd id ver p).addr with
   | none=>have:=h8 ha; omega
   | some q=>
    obtain ⟨b,o⟩:=q;refine ⟨b,o,rfl,?_⟩;rw [if_neg (by omega)];simp [vu,hu]
  simp at e
 | fK id ver p u off len=>
  have bB:(c.ti (c.ti t).elem).size=u.size:=bm bB;obtain ⟨h1,h2,h3,h4,h5,a0,cp,hv,h6,h7,h8,h9,AH⟩:=hx;obtain ⟨kr,hb,jG⟩:=df hv;refine ⟨_,e,_,kr,h1,h2,h3,h4,h5,?_⟩;refine ⟨_,_,rfl,by omega,by omega,by omega,fun hc=>?_,?_⟩;rotate_left
  ·obtain ⟨qq,rfl⟩:=AH;split
   ·exact ⟨_,rfl⟩
   refine ⟨qq.map fun q=>(q.1,q.2+l.toNat*(c.ti (c.ti t).elem).size),?_⟩;cases qq<;>simp [vu]
  obtain ⟨b,o,HF,rfl⟩:=h9 (by omega);refine ⟨b,o,HF,?_⟩;rw [if_neg (by omega)];simp [vu,bB,cY,bL]
 | fB id off len sz=>
  have bB:(c.ti (c.ti t).elem).size=sz:=bm bB;obtain ⟨h1,h2,a0,cp,hv,h3,h4,b,o,h5,h6⟩:=hx;obtain ⟨kr,hb,jG⟩:=df hv;cases l with
  | negSucc l=>simp at e
  | ofNat l=>
   cases h with
   | negSucc h=>simp at e
   | ofNat h=>
    refine ⟨_,e,_,kr,h1,h2,_,_,rfl,?_,?_,b,o,h5,fun hc=>?_⟩
    ·simp at hb ⊢; omega
    ·rw [← h4]; congr 1; simp at hb ⊢; omega
    simp only [Int.toNat_natCast,Int.ofNat_eq_natCast] at hc hb ⊢;have h6:=h6 (by omega);subst h6;split
    ·have:l=0:=by omega
     subst this; simp
    simp [vu,bB,cY,bL]
 | _=>simp at e
theorem YM {t:Nat} {s:List UInt8} {v:Value} {lo hi:Option Operand} (S:dp P c g w U sr a) (hk:(c.ti t).kind = .str) (hx:aV g w U (.str s) v)
  (e:tQ 0 sr (.str s) lo hi k=some r):∃ z,k ⟨z,[]⟩=some r∧Ok P g w U z (BV t v (lo.map a.eval) (hi.map a.eval) none):=by
 unfold tQ at e;split at e
 ·simp at e
 split at e
 case h_2=>simp at e
 rename_i l n hl hn;split at e
 case h_2=>simp at e
 rename_i h hh;unfold ab at e;split at e
 case isFalse=>simp at e
 rename_i hb;replace hl:=HE S hl;replace hh:=HE S hh;obtain rfl:(s.length:Int)=n:=by simpa [St.len] using hn
 obtain rfl:=hx;have hd:=Cp S.bw hk;have bB:(⟨s.toArray⟩:ByteArray).size=s.length:=rfl;refine ⟨_,e,.string ⟨((s.take h.toNat).drop l.toNat).toArray⟩,?_,rfl⟩;have YN:=Q5 (P:=P) (w:=w) (isS:=false) (cap:=s.length) hl hh hb (cj _);have e2:(⟨s.toArray⟩:ByteArray).extract l.toNat h.toNat=⟨((s.take h.toNat).drop l.toNat).toArray⟩:=by apply ByteArray.ext;apply Array.ext';simp [List.drop_take]
 simp [BV,Instr.slice,run_underlying hd,bB,YN,e2]
theorem YO {t:Nat} {s:List UInt8} {kk:IntKind} {n:Int} {v:Value} (hc:fY P c) (hk:(c.ti t).kind = .str) (hx:aV g w U (.str s) v) (hn:0≤n∧n<(s.length:Int)) :
  Ok P g w U (.int .u8 ((s.getD n.toNat 0).toNat:Int)) (Instr.index t v (.int kk n)):=by
 obtain rfl:=hx;have hd:=Cp hc hk;refine ⟨_,?_,rfl⟩;have ax:n.toNat<s.length:=by omega
 have e2:(⟨s.toArray⟩:ByteArray)[n.toNat]? = some (s.getD n.toNat 0):=by rw [ByteArray.getElem?_lt' _ _ ax];simp [jN,dU ax];rfl
 simp [Instr.index,asIntOf,run_underlying hd,hn.1,e2]
theorem YP {vs:List ag} {i:Nat} {x:ag} {v:Value} (hx:aV g w U (.gN vs) v) (e:vs[i]? = some x):Ok P g w U x (Instr.extract v i):=by obtain ⟨l,rfl,hl⟩:=hx;obtain ⟨h1,rfl⟩:=dV.1 e;obtain ⟨y,h2,h3⟩:=lU hl i h1;exact ⟨y,by simp [Instr.extract,h2],h3⟩
theorem Q8 {t:Nat} {kk:IntKind} (h:P.underlying t=some (.int kk)):(isAgg t).run P w = .ok false w:=by unfold isAgg;simp only [jz,run_underlying h,jy,Ah]
theorem Q9 (d : Nat) : ∀ (fs : List Field) (n : Nat) (as bs : List ag) (xs ys : List Value) (e : Bool), (∀ (m : Nat) (f : Field), fs[m]? = some f → f.offset = n + m ∧ f.name ≠ "_" ∧ ∃ kk, P.underlying f.type = some (.int kk)) →
    as.length = fs.length → cu g w U as (xs.drop n) → cu g w U bs (ys.drop n) → xH as bs = some e → (Op.eqFields (d + 1) xs.toArray ys.toArray fs).run P w = .ok e w
  | [], n, as, bs, xs, ys, e, hf, hl, hx, hy, he => by
    obtain rfl : as = [] := List.eq_nil_of_length_eq_zero (by simpa using hl)
    cases bs with
    | nil => obtain rfl : true = e := by simpa [xH] using he
             simp [Op.eqFields]
    | cons b bs => simp [xH] at he
  | f :: fs, n, [], bs, xs, ys, e, hf, hl, hx, hy, he => by simp at hl
  | f :: fs, n, a :: as, [], xs, ys, e, hf, hl, hx, hy, he => by simp [xH] at he
  | f :: fs, n, a :: as, b :: bs, xs, ys, e, hf, hl, hx, hy, he => by
    simp only [xH] at he
    split at he
    · rename_i k m l p h1 h2
      have h1 : a = .int k m := by cases a <;> simp [intOf] at h1; rw [h1.1, h1.2]
      have h2 : b = .int l p := by cases b <;> simp [intOf] at h2; rw [h2.1, h2.2]
      subst h1 h2
      split at he
      · rename_i e1 hk K4
        obtain rfl := o7 hk
        obtain rfl := aW he
        obtain ⟨h3, h4, kk, h5⟩ := hf 0 f rfl
        obtain ⟨x, xr, ex, rfl, YQ⟩ := hx
        obtain ⟨y, yr, ey, rfl, YR⟩ := hy
        have gx : xs[n]? = some (.int k m) := by
          have := congrArg (fun l => l[0]?) ex
          simpa using this
        have gy : ys[n]? = some (.int k p) := by
          have := congrArg (fun l => l[0]?) ey
          simpa using this
        have dx : xs.drop (n + 1) = xr := by rw [← KA, ex]; rfl
        have dy : ys.drop (n + 1) = yr := by rw [← KA, ey]; rfl
        have ih := Q9 d fs (n + 1) _ _ xs ys e1 (fun m f hm => by
          obtain ⟨a1, a2⟩ := hf (m + 1) f (by simpa using hm)
          exact ⟨by omega, a2⟩) (by simpa using hl) (by rw [dx]; exact YQ) (by rw [dy]; exact YR) K4
        have px : (Go.part f.type xs.toArray f.offset).run P w = .ok (.int k m) w := by
          simp [Go.part, Q8 h5, h3, gx]
        have py : (Go.part f.type ys.toArray f.offset).run P w = .ok (.int k p) w := by
          simp [Go.part, Q8 h5, h3, gy]
        have he : (BX (d + 1) f.type (.int k m) (.int k p)).run P w = .ok (m == p) w := run_equalIn_int w d f.type k kk m p h5
        simp only [Op.eqFields, Sem.run_ite, h4, ne_eq, not_false_eq_true, if_true, jz, px, py, he, jy]
        by_cases Ra : m = p
        · subst Ra; simp [ih]
        · simp [Ra]
      · simp at he
    · simp at he
theorem Rb {t:Nat} {op:BinOp} {as bs:List ag} {e:Bool} {X Y:Operand} {vx vy:Value} (hc:fY P c) (heq:(c.ti t).eq=true) (hlen:(c.ti t).fields.length=as.length)
  (hx:aV g w U (.agg as) vx) (hy:aV g w U (.agg bs) vy) (he:xH as bs=some e) :
  (do eqGuard .eql t X Y vx vy; binOp .eql t vx vy:Sem Value).run P w = .ok (.bool e) w∧(do eqGuard .neq t X Y vx vy; binOp .neq t vx vy:Sem Value).run P w = .ok (.bool (!e)) w:=by
 have hT:nu P t (c.ti t):=by
  unfold ba.ti at heq ⊢;cases e:look c.bw t with
  | none=>rw [e] at heq; simp at heq
  | some i=>exact hc t i e
 obtain ⟨h1,h2,fs,h3,h4,h5⟩:=hT.eqs heq;obtain ⟨xs,rfl,Cq⟩:=hx;obtain ⟨ys,rfl,YS⟩:=hy;have p9:P.fieldsOf t=fs:=by simp [Program.fieldsOf,h3]
 have xQ:=Q9 (P:=P) (g:=g) (w:=w) (U:=U) 9998 fs.toList 0 as bs xs ys e (fun m f hm=>by simpa using h5 m f hm) (by simp; omega) (by simpa using Cq) (by simpa using YS) he;have cC:(BX 10000 t (.agg xs.toArray) (.agg ys.toArray)).run P w = .ok e w:=by rw [run_equalIn_struct w 9999 t _ _ (by rw [p9]; exact h3) h1,p9];exact xQ
 constructor
 ·simp only [jz,run_eqGuard_agg w .eql t X Y _ _ h2,jy,run_eql_struct,cC]
 simp only [jz,run_eqGuard_agg w .neq t X Y _ _ h2,jy,run_neq_struct,cC]
end
end Go.Am
namespace Go.Am
open Go
abbrev Src:=Path→Option (Nat×Path×Hd)
def Em (g:Gh) (id vr:Nat) (p:Path):Hd:=g.hd id (j6 p vr) p
def dX:Hd:=⟨none,0,0⟩
def cQ (g:Gh) (L:bW) (w:World) (own:Bool) (σ:Src):(t:Ty)→(q:Path)→(i j:Nat)→t.T→(Nat→Option Value)→Prop
 | .int k,_,_,_,n,f=>f 0=some (.int k n)
 | .bool,_,_,_,x,f=>f 0=some (.bool x)
 | .str,_,_,_,s,f=>f 0=some (.string ⟨s.toArray⟩)
 | .err,_,_,_,e,f=>∃ v,f 0=some v∧AB e v
 | .pair s t,q,i,j,x,f=>cQ g L w own σ s q i j x.1 f∧cQ g L w own σ t q i (j+s.size) x.2 (fun k=>f (s.size+k))
 | .sl t,q,i,j,xs,f=>match own with
  | true=>(∃ id p h,σ (q++[(i,j)])=some (id,p,h)∧f 0=some h.val∧
    Cm w g.lab t.size (id,p) h (fun k x b o=>cQ g L w own σ t (q++[(i,j)]) k 0 x (fun d=>w.cell? (ad b (o+d)))) xs)∨
    (σ (q++[(i,j)])=none∧f 0=some (.slice none 0 0)∧xs=([]:List t.T))
  | false=>∃ v,f 0=some v∧gT t.size (Sh L w t) xs v
 | .bQ t,_,_,_,x,f=>∃ v,f 0=some v∧gT t.size (Sh L w t) (x.getD []) v∧(x=none↔∃ n c,v = .slice none n c)
structure Ren (g:Gh) (L:bW) (w:World) (g':Gh) (w':World) (σ:Src) (N V:Nat):Prop where
 hd:∀ q id p h,σ q=some (id,p,h)→g'.hd N V q=h
 nil:∀ q,q≠[]→σ q=none→g'.hd N V q=dX
 lab:∀ q id p h b o,σ q=some (id,p,h)→g.lab b o=some (id,p)→g'.lab b o=some (N,q)∧w'.cell? (ad b o)=w.cell? (ad b o)∧w'.frozen? (ad b o)=w.frozen? (ad b o)
 shr:∀ b o,L b o=none→∀ v,w.cell? (ad b o)=some v→w'.cell? (ad b o)=some v∧g'.lab b o=none
section
variable {g g':Gh} {L L':bW} {w w':World} {σ:Src} {N V:Nat}
theorem AI {own:Bool} (R:Ren g L w g' w' σ N V):∀ (t:Ty) (q:Path) (i j:Nat) (x:t.T) (f:Nat→Option Value) (b o:Nat),(∀ k,k<t.size→w'.cell? (ad b (o+k))=f k)→
  cQ g L w own σ t q i j x f→dK g' w' own N V t cP q i j x b o
 | .int _,q,i,j,x,f,b,o,hc,h=>by have:=hc 0 (by simp [Ty.size]); exact this.trans h
 | .bool,q,i,j,x,f,b,o,hc,h=>by have:=hc 0 (by simp [Ty.size]); exact this.trans h
 | .str,q,i,j,x,f,b,o,hc,h=>by have:=hc 0 (by simp [Ty.size]); exact this.trans h
 | .err,q,i,j,x,f,b,o,hc,h=>by obtain ⟨v,h1,h2⟩:=h;exact ⟨v,(hc 0 (by simp [Ty.size])).trans h1,h2⟩
 | .pair s t,q,i,j,x,f,b,o,hc,h=>by refine ⟨AI R s q i j x.1 f b o (fun k hk=>hc k (by simp [Ty.size]; omega)) h.1,AI R t q i (j+s.size) x.2 _ b (o+s.size) (fun k hk=>?_) h.2⟩;rw [bL]; exact hc _ (by simp [Ty.size]; omega)
 | .bQ t,q,i,j,x,f,b,o,hc,h=>by obtain ⟨v,h1,h2,h3⟩:=h;exact ⟨v,(hc 0 (by simp [Ty.size])).trans h1,ix (gb R.shr t) h2,h3⟩
 | .sl t,q,i,j,xs,f,b,o,hc,h=>by
  have h0:=hc 0 (by simp [Ty.size]);rw [dW] at h0;cases own with
  | false=>
   obtain ⟨v,h1,h2⟩:=h;exact ⟨v,h0.trans h1,ix (gb R.shr t) h2⟩
  | true=>
   rcases h with ⟨id,p,hh,h1,h2,h3⟩ | ⟨h1,h2,h3⟩
   ·refine .inr ⟨?_,?_⟩
    ·rw [R.hd _ _ _ _ h1,h0,h2]
    rw [R.hd _ _ _ _ h1];obtain ⟨r1,r2,r3,r4⟩:=h3;refine ⟨r1,r2,r3,fun b o hb=>?_⟩;obtain ⟨r5,r6⟩:=r4 b o hb;refine ⟨fun k hk=>?_,fun k hk=>?_⟩
    ·obtain ⟨a1,a2,a3⟩:=r5 k hk;obtain ⟨b1,b2,b3⟩:=R.lab _ _ _ _ _ _ h1 a1;exact ⟨b1,by rw [b2]; exact a2,by rw [b3]; exact a3⟩
    refine AI R t _ k 0 _ _ b (o+k*t.size) (fun d hd=>?_) (r6 k hk);have hle:(k+1)*t.size≤hh.cap*t.size:=fa _ (by omega);rw [cY] at hle;obtain ⟨a1,-,-⟩:=r5 (k*t.size+d) (by omega);rw [← bL] at a1;exact (R.lab _ _ _ _ _ _ h1 a1).2.1
   refine .inr ⟨?_,?_⟩
   ·rw [R.nil _ (by simp) h1,h0,h2]; rfl
   rw [R.nil _ (by simp) h1,h3];exact ⟨rfl,cj _,fun _=>rfl,fun b o hb=>by simp [dX] at hb⟩
theorem pd {own:Bool} {id vr:Nat} {σ:Src} (hL:∀ b o,g.lab b o=none→L b o=none):∀ (t:Ty) (p q:Path) (i j i' j':Nat) (x:t.T) (b o:Nat),
  (own=true→∀ d s,d<t.size→σ (q++(i',j'+d)::s)=some (id,p++(i,j+d)::s,g.hd id vr (p++(i,j+d)::s)))→
  dK g w own id vr t cP p i j x b o→cQ g L w own σ t q i' j' x (fun k=>w.cell? (ad b (o+k)))
 | .int _,p,q,i,j,i',j',x,b,o,fv,h=>h
 | .bool,p,q,i,j,i',j',x,b,o,fv,h=>h
 | .str,p,q,i,j,i',j',x,b,o,fv,h=>h
 | .err,p,q,i,j,i',j',x,b,o,fv,h=>h
 | .bQ t,p,q,i,j,i',j',x,b,o,fv,h=>by obtain ⟨v,h1,h2,h3⟩:=h;exact ⟨v,h1,ix (gb (fun b o hl v hv=>⟨hv,hL b o hl⟩) t) h2,h3⟩
 | .pair s t,p,q,i,j,i',j',x,b,o,fv,h=>by refine ⟨pd hL s p q i j i' j' x.1 b o (fun ho d r hd=>fv ho d r (by simp [Ty.size]; omega)) h.1,?_⟩;have:=pd hL t p q i (j+s.size) i' (j'+s.size) x.2 b (o+s.size) (fun ho d r hd=>by have:=fv ho (s.size+d) r (by simp [Ty.size]; omega);simpa [bL] using this) h.2;simpa [bL] using this
 | .sl t,p,q,i,j,i',j',xs,b,o,fv,h=>by
  cases own with
  | false=>
   obtain ⟨v,h1,h2⟩:=h;exact ⟨v,h1,ix (gb (fun b o hl v hv=>⟨hv,hL b o hl⟩) t) h2⟩
  | true=>
   rcases h with h | ⟨h1,h2⟩
   ·simp [cP] at h
   have h0:=fv rfl 0 [] (by simp [Ty.size]);simp only [dW] at h0;refine .inl ⟨id,p++[(i,j)],_,h0,by simpa using h1,?_⟩;obtain ⟨r1,r2,r3,r4⟩:=h2;refine ⟨r1,r2,r3,fun b o hb=>?_⟩;obtain ⟨r5,r6⟩:=r4 b o hb;refine ⟨r5,fun k hk=>?_⟩;refine pd hL t (p++[(i,j)]) (q++[(i',j')]) k 0 k 0 _ b _ (fun ho d s hd=>?_) (r6 k hk);have:=fv rfl 0 ((k,0+d)::s) (by simp [Ty.size]);simpa using this
theorem qa {own:Bool} {σ τ:Src} : ∀ (t:Ty) (q:Path) (i j:Nat) (x:t.T) (f:Nat→Option Value),(∀ d s,d<t.size→τ (q++(i,j+d)::s)=σ (q++(i,j+d)::s))→
  cQ g L w own σ t q i j x f→cQ g L w own τ t q i j x f
 | .int _,q,i,j,x,f,hc,h=>h
 | .bool,q,i,j,x,f,hc,h=>h
 | .str,q,i,j,x,f,hc,h=>h
 | .err,q,i,j,x,f,hc,h=>h
 | .bQ t,q,i,j,x,f,hc,h=>h
 | .pair s t,q,i,j,x,f,hc,h=>by refine ⟨qa s q i j x.1 f (fun d r hd=>hc d r (by simp [Ty.size]; omega)) h.1,qa t q i (j+s.size) x.2 _ (fun d r hd=>?_) h.2⟩;have:=hc (s.size+d) r (by simp [Ty.size]; omega);simpa [bL] using this
 | .sl t,q,i,j,xs,f,hc,h=>by
  cases own with
  | false=>exact h
  | true=>
   have h0:=hc 0 [] (by simp [Ty.size]);simp only [dW] at h0;rcases h with ⟨id,p,hh,h1,h2,h3⟩ | ⟨h1,h2,h3⟩
   ·refine .inl ⟨id,p,hh,by rw [h0]; exact h1,h2,?_⟩;obtain ⟨r1,r2,r3,r4⟩:=h3;refine ⟨r1,r2,r3,fun b o hb=>?_⟩;obtain ⟨r5,r6⟩:=r4 b o hb;refine ⟨r5,fun k hk=>qa t _ k 0 _ _ (fun d s hd=>?_) (r6 k hk)⟩;have:=hc 0 ((k,0+d)::s) (by simp [Ty.size]);simpa using this
   exact .inr ⟨by rw [h0]; exact h1,h2,h3⟩
theorem i_ {own:Bool} {σ:Src} : ∀ (t:Ty) (q:Path) (i j:Nat) (x:t.T) (f f':Nat→Option Value),(∀ k,k<t.size→f' k=f k)→
  cQ g L w own σ t q i j x f→cQ g L w own σ t q i j x f'
 | .int _,q,i,j,x,f,f',hc,h=>by have:=hc 0 (by simp [Ty.size]); exact this.trans h
 | .bool,q,i,j,x,f,f',hc,h=>by have:=hc 0 (by simp [Ty.size]); exact this.trans h
 | .str,q,i,j,x,f,f',hc,h=>by have:=hc 0 (by simp [Ty.size]); exact this.trans h
 | .err,q,i,j,x,f,f',hc,h=>by obtain ⟨v,h1,h2⟩:=h;exact ⟨v,(hc 0 (by simp [Ty.size])).trans h1,h2⟩
 | .bQ t,q,i,j,x,f,f',hc,h=>by obtain ⟨v,h1,h2⟩:=h;exact ⟨v,(hc 0 (by simp [Ty.size])).trans h1,h2⟩
 | .pair s t,q,i,j,x,f,f',hc,h=>by refine ⟨i_ s q i j x.1 f f' (fun k hk=>hc k (by simp [Ty.size]; omega)) h.1,i_ t q i (j+s.size) x.2 _ _ (fun k hk=>hc _ (by simp [Ty.size]; omega)) h.2⟩
 | .sl t,q,i,j,xs,f,f',hc,h=>by
  have h0:=hc 0 (by simp [Ty.size]);cases own with
  | false=>
   obtain ⟨v,h1,h2⟩:=h;exact ⟨v,h0.trans h1,h2⟩
  | true=>
   rcases h with ⟨id,p,hh,h1,h2,h3⟩ | ⟨h1,h2,h3⟩
   ·exact .inl ⟨id,p,hh,h1,h0.trans h2,h3⟩
   exact .inr ⟨h1,h0.trans h2,h3⟩
theorem AJ {own:Bool} {id vr:Nat} (hL:∀ b o,g.lab b o=none→L b o=none) (hd:∀ b o p,g.lab b o=some (id,p)→L b o=none):∀ (t:Ty) (p:Path) (i j:Nat) (x:t.T) (b o:Nat),
  (∀ k,k<t.size→∃ q,g.lab b (o+k)=some (id,q))→dK g w own id vr t cP p i j x b o→Sh L w t x b o
 | .int _,p,i,j,x,b,o,hl,h=>by obtain ⟨q,hq⟩:=hl 0 (by simp [Ty.size]); rw [dW] at hq;exact ⟨h,hd _ _ _ hq⟩
 | .bool,p,i,j,x,b,o,hl,h=>by obtain ⟨q,hq⟩:=hl 0 (by simp [Ty.size]); rw [dW] at hq;exact ⟨h,hd _ _ _ hq⟩
 | .str,p,i,j,x,b,o,hl,h=>by obtain ⟨q,hq⟩:=hl 0 (by simp [Ty.size]); rw [dW] at hq;exact ⟨h,hd _ _ _ hq⟩
 | .err,p,i,j,x,b,o,hl,h=>by obtain ⟨q,hq⟩:=hl 0 (by simp [Ty.size]); rw [dW] at hq;exact ⟨h,hd _ _ _ hq⟩
 | .bQ t,p,i,j,x,b,o,hl,h=>by obtain ⟨q,hq⟩:=hl 0 (by simp [Ty.size]); rw [dW] at hq;obtain ⟨v,h1,h2,h3⟩:=h;exact ⟨⟨v,h1,ix (gb (fun b o hl v hv=>⟨hv,hL b o hl⟩) t) h2,h3⟩,hd _ _ _ hq⟩
 | .pair s t,p,i,j,x,b,o,hl,h=>by refine ⟨AJ hL hd s p i j x.1 b o (fun k hk=>hl k (by simp [Ty.size]; omega)) h.1,AJ hL hd t p i (j+s.size) x.2 b (o+s.size) (fun k hk=>?_) h.2⟩;have:=hl (s.size+k) (by simp [Ty.size]; omega);rwa [← bL] at this
 | .sl t,p,i,j,xs,b,o,hl,h=>by
  obtain ⟨q,hq⟩:=hl 0 (by simp [Ty.size]); rw [dW] at hq;cases own with
  | false=>
   obtain ⟨v,h1,h2⟩:=h;exact ⟨⟨v,h1,ix (gb (fun b o hl v hv=>⟨hv,hL b o hl⟩) t) h2⟩,hd _ _ _ hq⟩
  | true=>
   rcases h with h | ⟨h1,h2⟩
   ·simp [cP] at h
   refine ⟨⟨_,h1,?_⟩,hd _ _ _ hq⟩;obtain ⟨r1,r2,r3,r4⟩:=h2;refine ⟨_,_,_,rfl,r1,r2,fun hn=>r3 (by simpa using hn),fun aA=>?_⟩;have hlen:0<xs.length:=jA.2 aA;cases ha:(g.hd id vr (p++[(i,j)])).addr with
   | none=>have:=r3 ha; omega
   | some a=>
    obtain ⟨b',o'⟩:=a;obtain ⟨r5,r6⟩:=r4 b' o' ha;refine ⟨b',o',by simp,fun k hk=>AJ hL hd t _ k 0 _ b' _ (fun d gC=>?_) (r6 k hk)⟩;have hle:(k+1)*t.size≤(g.hd id vr (p++[(i,j)])).cap*t.size:=fa _ (by omega);rw [cY] at hle;obtain ⟨a1,-,-⟩:=r5 (k*t.size+d) (by omega);exact ⟨_,by rw [bL]; exact a1⟩
end
end Go.Am
namespace Go.Am
open Go
theorem xR:∀ {l:List Nat},nodupB l=true↔l.Nodup
 | []=>by simp [nodupB]
 | a::r=>by
  simp only [nodupB,aw,List.nodup_cons,xR (l:=r),Bool.not_eq_true'];constructor
  ·rintro ⟨h1,h2⟩;refine ⟨fun hm=>?_,h2⟩;have:r.any (aM a)=true:=List.any_eq_true.2 ⟨a,hm,by simp⟩;rw [this] at h1; exact absurd h1 (by simp)
  rintro ⟨h1,h2⟩;refine ⟨?_,h2⟩;cases h:r.any (aM a) with
  | false=>rfl
  | true=>
   obtain ⟨x,hx,he⟩:=List.any_eq_true.1 h;obtain rfl:=bm he;exact absurd hx h1
theorem nz {u t:Ty} {xs:List u.T} {ys:List t.T} (h:Ty.cast (.sl u) (.sl t) xs=some ys):u=t∧HEq xs ys:=by
 unfold Ty.cast at h;split at h
 ·rename_i hb;have he:=Ty.eq_of_beq hb;have e:u=t:=by injection he
  subst e;exact ⟨rfl,heq_of_eq (aW h)⟩
 simp at h
structure Tk (u:List Nat) (σ:Src):Prop where
 ids:∀ p id p' h,σ p=some (id,p',h)→id∈u
 inj:u.Nodup→∀ p1 p2 id p' h1 h2,σ p1=some (id,p',h1)→σ p2=some (id,p',h2)→p1=p2
def gU (σ τ:Src):Src:=fun p=>match σ p with | some x=>some x | none=>τ p
theorem q_ {σ τ:Src} {p:Path} {x:Nat×Path×Hd} (h:gU σ τ p=some x):σ p=some x∨(σ p=none∧τ p=some x):=by
 unfold gU at h;cases e:σ p with
 | none=>rw [e] at h; exact .inr ⟨rfl,h⟩
 | some y=>rw [e] at h; exact .inl h
theorem Tk.or {u v:List Nat} {σ τ:Src} (h1:Tk u σ) (h2:Tk v τ):Tk (u++v) (gU σ τ):=by
 constructor
 ·intro p id p' h he;rcases q_ he with he | ⟨-,he⟩
  ·exact kO _ (h1.ids _ _ _ _ he)
  exact sn _ (h2.ids _ _ _ _ he)
 intro hn p1 p2 id p' ha hb e1 e2;obtain ⟨n1,n2,n3⟩:=List.nodup_append.1 hn;rcases q_ e1 with e1 | ⟨-,e1⟩<;>rcases q_ e2 with e2 | ⟨-,e2⟩
 ·exact h1.inj n1 _ _ _ _ _ _ e1 e2
 ·exact absurd rfl (n3 _ (h1.ids _ _ _ _ e1) _ (h2.ids _ _ _ _ e2))
 ·exact absurd rfl (n3 _ (h1.ids _ _ _ _ e2) _ (h2.ids _ _ _ _ e1))
 exact h2.inj n2 _ _ _ _ _ _ e1 e2
def K5 (q:Path) (i j n:Nat) (σ:Src):Prop:=∀ p,σ p≠none→∃ d s,d<n∧p=q++(i,j+d)::s
def HG (q:Path) (i n:Nat) (σ:Src):Prop:=∀ p,σ p≠none→∃ k d s,k<n∧p=q++(i+k,d)::s
def ca:Src:=fun _=>none
theorem Tk.none {u:List Nat} : Tk u ca:=⟨fun _ _ _ _ h=>by simp [ca] at h,fun _ _ _ _ _ _ _ h=>by simp [ca] at h⟩
def strip:Path→Path→Option Path
 | [],p=>some p
 | a::q,b::p=>if a=b then strip q p else none
 | _::_,[]=>none
theorem K6:∀ (q s:Path),strip q (q++s)=some s
 | [],s=>rfl
 | a::q,s=>by simp [strip,K6 q s]
theorem En:∀ {q p s:Path},strip q p=some s→p=q++s
 | [],p,s,h=>by simp [strip] at h; simpa using h
 | a::q,[],s,h=>by simp [strip] at h
 | a::q,b::p,s,h=>by
  simp only [strip] at h;split at h
  ·rename_i e; subst e; simp [En h]
  simp at h
def wholeAt (g:Gh) (id vr:Nat) (π:Path):Src:=fun p=>(strip π p).map fun s=>(id,s,Em g id vr s)
theorem Rc {g:Gh} {id vr:Nat} {π s:Path} : wholeAt g id vr π (π++s)=some (id,s,Em g id vr s):=by simp [wholeAt,K6]
theorem Tk.whole {g:Gh} {id vr:Nat} {π:Path} : Tk [id] (wholeAt g id vr π):=by
 constructor
 ·intro p az p' h e;simp only [wholeAt,vw] at e;obtain ⟨s,-,e⟩:=e;simp at e; simp [e.1]
 intro _ p1 p2 az p' h1 h2 e1 e2;simp only [wholeAt,vw] at e1 e2;obtain ⟨s1,e1,f1⟩:=e1;obtain ⟨s2,e2,f2⟩:=e2;have:s1=s2:=by simp at f1 f2; rw [f1.2.1,f2.2.1]
 subst this;rw [En e1,En e2]
def Cr (π:Path) (x:Nat×Path×Hd) (σ:Src):Src:=fun p=>if p=π then some x else σ p
section
variable {P:Program} {c:ba} {g:Gh} {L:bW} {w:World} {U:Nat→Prop} {sr:St}
theorem Cs {σ:Src} : ∀ (t:Ty) (q:Path) (i j:Nat) (x:t.T) (b o:Nat),(∀ k,k<t.size→L b (o+k)=none)→
  cQ g L w false σ t q i j x (fun k=>w.cell? (ad b (o+k)))→Sh L w t x b o
 | .int _,q,i,j,x,b,o,hl,h=>⟨h,by simpa using hl 0 (by simp [Ty.size])⟩
 | .bool,q,i,j,x,b,o,hl,h=>⟨h,by simpa using hl 0 (by simp [Ty.size])⟩
 | .str,q,i,j,x,b,o,hl,h=>⟨h,by simpa using hl 0 (by simp [Ty.size])⟩
 | .err,q,i,j,x,b,o,hl,h=>⟨h,by simpa using hl 0 (by simp [Ty.size])⟩
 | .sl _,q,i,j,x,b,o,hl,h=>⟨h,by simpa using hl 0 (by simp [Ty.size])⟩
 | .bQ _,q,i,j,x,b,o,hl,h=>⟨h,by simpa using hl 0 (by simp [Ty.size])⟩
 | .pair s t,q,i,j,x,b,o,hl,h=>by
  refine ⟨Cs s q i j x.1 b o (fun k hk=>hl k (by simp [Ty.size]; omega)) h.1,Cs (σ:=σ) t q i (j+s.size) x.2 b (o+s.size) (fun k hk=>?_) ?_⟩
  ·rw [bL]; exact hl _ (by simp [Ty.size]; omega)
  simpa [bL] using h.2
def gk (g:Gh) (w:World) (U:Nat→Prop) (cs:List ag) (f:Nat→Option Value):Prop:=∀ k (h:k<cs.length),∃ v,f k=some v∧aV g w U cs[k] v
theorem gk.head {a:ag} {cs:List ag} {f:Nat→Option Value} (h:gk g w U (a::cs) f):∃ v,f 0=some v∧aV g w U a v:=h 0 (by simp)
theorem gk.drop {cs:List ag} {f:Nat→Option Value} (h:gk g w U cs f) (n:Nat):gk g w U (cs.drop n) (fun k=>f (n+k)):=by intro k hk;simp only [qW] at hk;obtain ⟨v,h1,h2⟩:=h (n+k) (by omega);exact ⟨v,h1,by simpa using h2⟩
structure YT (g:Gh) (L:bW) (w:World) (own:Bool) (sr:St) (t:Ty) (q:Path) (i j:Nat) (x:t.T) (f:Nat→Option Value) (u:List Nat) (σ:Src):Prop where
 ow:cQ g L w own σ t q i j x f
 nA:K5 q i j t.size σ
 tk:Tk u σ
structure YU (g:Gh) (L:bW) (w:World) (own:Bool) (sr:St) (t:Ty) (n:Nat) (q:Path) (i:Nat) (xs:List t.T) (f:Nat→Option Value) (u:List Nat) (σ:Src):Prop where
 len:xs.length=n
 ow:∀ k (h:k<xs.length),cQ g L w own σ t q (i+k) 0 xs[k] (fun d=>f (k*t.size+d))
 nA:HG q i n σ
 tk:Tk u σ
theorem xS (hO:fq g w U sr) {id:Nat} {ro:List Bool} {cs:List ag} (h:sr.obj id=some (.cells ro cs)) :
  ∃ b o,g.hd id 0 []=⟨some (b,o),cs.length,cs.length⟩∧(∀ k,k<cs.length→g.lab b (o+k)=some (id,[])∧w.frozen? (ad b (o+k))=false)∧gk g w U cs (fun k=>w.cell? (ad b (o+k))):=by
 obtain ⟨-,-,b,o,h1,h2⟩:=hO id _ h;exact ⟨b,o,h1,fun k hk=>⟨(h2 k hk).1,(h2 k hk).2.1⟩,fun k hk=>(h2 k hk).2.2⟩
theorem Ct (hO:fq g w U sr) (hL:∀ b o,g.lab b o=none→L b o=none) (own:Bool):∀ d:Nat,
  (∀ (t:Ty) (cs:List ag) (x:t.T) (rest:List ag) (u:List Nat) (f:Nat→Option Value) (q:Path) (i j:Nat),gk g w U cs f→take sr own d t cs=some (x,rest,u)→
   (own=false→∀ id∈u,∀ b o p,g.lab b o=some (id,p)→L b o=none)→(∀ id∈u,sr.obj id≠none)∧t.size≤cs.length∧rest=cs.drop t.size∧∃ σ,YT g L w own sr t q i j x f u σ)∧
  (∀ (t:Ty) (n:Nat) (cs:List ag) (xs:List t.T) (u:List Nat) (f:Nat→Option Value) (q:Path) (i:Nat),gk g w U cs f→takeN sr own d t n cs=some (xs,u)→
   (own=false→∀ id∈u,∀ b o p,g.lab b o=some (id,p)→L b o=none)→(∀ id∈u,sr.obj id≠none)∧cs.length=n*t.size∧∃ σ,YU g L w own sr t n q i xs f u σ):=by
 intro d;induction d with
 | zero=>
  refine ⟨?_,?_⟩
  ·intro t cs x rest u f q i j hv e; cases t<;>simp [take] at e
  intro t n cs xs u f q i hv e; simp [takeN] at e
 | succ d ih=>
  obtain ⟨AK,xT⟩:=ih;refine ⟨?_,?_⟩
  ·intro t cs x rest u f q i j hv e gD;cases t with
   | int k=>
    cases cs with
    | nil=>simp [take] at e
    | cons c cs=>
     cases c<;>simp only [take] at e<;>try (simp at e; done)
     rename_i n;split at e
     ·rename_i hk;obtain rfl:=o7 hk;simp only [aF,bE] at e;obtain ⟨rfl,rfl,rfl⟩:=e;obtain ⟨v,h1,rfl⟩:=hv.head;exact ⟨by simp,by simp [Ty.size],by simp [Ty.size],ca,h1,fun p hp=>absurd rfl hp,.none⟩
     simp at e
   | bool=>
    cases cs with
    | nil=>simp [take] at e
    | cons c cs=>
     cases c<;>simp only [take] at e<;>try (simp at e; done)
     simp only [aF,bE] at e;obtain ⟨rfl,rfl,rfl⟩:=e;obtain ⟨v,h1,rfl⟩:=hv.head;exact ⟨by simp,by simp [Ty.size],by simp [Ty.size],ca,h1,fun p hp=>absurd rfl hp,.none⟩
   | str=>
    cases cs with
    | nil=>simp [take] at e
    | cons c cs=>
     cases c<;>simp only [take] at e<;>try (simp at e; done)
     simp only [aF,bE] at e;obtain ⟨rfl,rfl,rfl⟩:=e;obtain ⟨v,h1,rfl⟩:=hv.head;exact ⟨by simp,by simp [Ty.size],by simp [Ty.size],ca,h1,fun p hp=>absurd rfl hp,.none⟩
   | err=>
    cases cs with
    | nil=>simp [take] at e
    | cons c cs=>
     cases c<;>simp only [take] at e<;>try (simp at e; done)
     simp only [aF,bE] at e;obtain ⟨rfl,rfl,rfl⟩:=e;obtain ⟨v,h1,h2⟩:=hv.head;exact ⟨by simp,by simp [Ty.size],by simp [Ty.size],ca,⟨v,h1,h2⟩,fun p hp=>absurd rfl hp,.none⟩
   | bQ t=>cases cs<;>simp [take] at e
   | pair a b=>
    simp only [take] at e;split at e
    ·rename_i x1 r1 u1 e1;split at e
     ·rename_i x2 r2 u2 e2;simp only [aF,bE] at e;obtain ⟨rfl,rfl,rfl⟩:=e;obtain ⟨b1,b2,b3,eG,T1⟩:=AK a cs x1 r1 u1 f q i j hv e1 (fun ho id hi=>gD ho id (kO _ hi));subst b3;obtain ⟨c1,c2,c3,vO,T2⟩:=AK b _ x2 _ u2 _ q i (j+a.size) (hv.drop a.size) e2 (fun ho id hi=>gD ho id (sn _ hi));simp only [qW] at c2;refine ⟨?_,by simp only [Ty.size]; omega,by rw [c3,KA]; rfl,gU eG vO,⟨?_,?_⟩,?_,T1.tk.or T2.tk⟩
      ·intro id hi;rcases List.mem_append.1 hi with hi | hi
       ·exact b1 id hi
       exact c1 id hi
      ·refine qa a q i j x1 f (fun d s hd=>?_) T1.ow;unfold gU;split
       ·rename_i y hy; exact hy.symm
       rename_i hy;rw [hy];cases h2:vO (q++(i,j+d)::s) with
       | none=>rfl
       | some y=>
        obtain ⟨d',s',gC,he⟩:=T2.nA _ (by rw [h2]; simp);have:=BZ he;simp at this; omega
      ·refine qa b q i (j+a.size) x2 _ (fun d s hd=>?_) T2.ow;unfold gU;split
       ·rename_i y hy;obtain ⟨d',s',gC,he⟩:=T1.nA _ (by rw [hy]; simp);have:=BZ he;simp at this; omega
       rfl
      intro p hp;unfold gU at hp;cases h1:eG p with
      | some y=>
       obtain ⟨d',s',gC,he⟩:=T1.nA p (by rw [h1]; simp);exact ⟨d',s',by simp only [Ty.size]; omega,he⟩
      | none=>
       rw [h1] at hp;obtain ⟨d',s',gC,he⟩:=T2.nA p hp;exact ⟨a.size+d',s',by simp only [Ty.size]; omega,by rw [he,bL]⟩
     simp at e
    simp at e
   | sl t=>
    cases cs with
    | nil=>simp [take] at e
    | cons c cs=>
     obtain ⟨v,h1,h2⟩:=hv.head;cases c with
     | nil=>
      simp only [take,aF,bE] at e;obtain ⟨rfl,rfl,rfl⟩:=e;obtain rfl:=h2;refine ⟨by simp,by simp [Ty.size],by simp [Ty.size],ca,?_,fun p hp=>absurd rfl hp,.none⟩;cases own with
      | true=>exact .inr ⟨rfl,h1,rfl⟩
      | false=>exact ⟨_,h1,none,0,0,rfl,rfl,cj _,fun _=>rfl,fun hn=>absurd rfl hn⟩
     | sh u' ys=>
      simp only [take] at e;cases own with
      | true=>simp at e
      | false=>
       simp only at e;split at e
       ·rename_i hz;simp only [aF,bE] at e;obtain ⟨rfl,rfl,rfl⟩:=e;obtain ⟨rfl,hz⟩:=nz hz;obtain rfl:=eq_of_heq hz;exact ⟨by simp,by simp [Ty.size],by simp [Ty.size],ca,⟨_,h1,ix (gb (fun b o hl v hv=>⟨hv,hL b o hl⟩) _) h2⟩,fun p hp=>absurd rfl hp,.none⟩
       simp at e
     | fB id off len sz=>
      cases off with
      | succ off=>simp [take] at e
      | zero=>
       simp only [take] at e;split at e
       ·rename_i eg ho;split at e
        ·rename_i hb;rw [aw] at hb;obtain ⟨gj,dE⟩:=hb;obtain rfl:=bm gj;have dE:=bm dE;split at e
         ·rename_i ys u' e';replace e:=aW e;injection e with hx e;injection e with hr hu;subst hr hu;subst hx;obtain ⟨-,-,a,c,rfl,AL,eO,b,o,ha,kS⟩:=h2;obtain ⟨b',o',hh,cW,oc⟩:=xS hO ho;have kS:=kS (.inr rfl);rw [hh] at ha eO;simp only [aF,bE] at ha;obtain ⟨rfl,rfl⟩:=ha;simp only [jB,Nat.zero_mul,dW] at eO kS;have fw:=t.size_pos;obtain rfl:c=len:=Nat.eq_of_mul_eq_mul_right fw (by rw [eO,dE]);subst kS;obtain ⟨b1,b2,AM,T⟩:=xT t c eg ys u' _ (q++[(i,j)]) 0 oc e' (fun ho id hi=>gD ho id (jO _ hi));have YV:∀ p,AM p≠none→∃ k d s,p=q++(i,j)::(k,d)::s:=by intro p hp;obtain ⟨k,d,s,-,he⟩:=T.nA p hp;exact ⟨_,_,_,by simpa using he⟩
          refine ⟨?_,by simp [Ty.size],by simp [Ty.size],Cr (q++[(i,j)]) (id,[],⟨some (b',o'),c,c⟩) AM,?_,?_,?_,?_⟩
          ·intro az hi;rcases List.mem_cons.1 hi with rfl | hi
           ·rw [ho]; simp
           exact b1 _ hi
          ·cases own with
           | true=>
            refine .inl ⟨id,[],⟨some (b',o'),c,c⟩,by simp [Cr],by simpa [Hd.val] using h1,T.len.symm,cj _,by simp,fun b o HH=>?_⟩;simp only [aF,bE] at HH;obtain ⟨rfl,rfl⟩:=HH;refine ⟨fun k hk=>?_,fun k hk=>?_⟩
            ·have hk:k<eg.length:=by rw [← dE]; exact hk
             obtain ⟨v,hv,-⟩:=oc k hk;have hv:w.cell? (ad b' (o'+k))=some v:=hv;exact ⟨(cW k hk).1,by rw [hv]; rfl,(cW k hk).2⟩
            have:=T.ow k hk;rw [jB] at this;refine qa t _ k 0 _ _ (fun d s hd=>?_) (by simpa [bL] using this);unfold Cr;rw [if_neg];simp
           | false=>
            refine ⟨_,h1,some (ad b' o'),c,c,rfl,T.len.symm,cj _,by simp,fun aA=>⟨b',o',rfl,fun k hk=>?_⟩⟩;have:=T.ow k hk;refine Cs (σ:=AM) t _ _ _ _ b' (o'+k*t.size) (fun d hd=>?_) (by simpa [bL] using this);have ax:k*t.size+d<eg.length:=by rw [← dE,← T.len];have:(k+1)*t.size≤ys.length*t.size:=fa _ (by omega);rw [cY] at this; omega
            rw [bL];exact gD rfl id (by simp) _ _ _ (cW _ ax).1
          ·intro p hp;unfold Cr at hp;split at hp
           ·rename_i he;exact ⟨0,[],by simp [Ty.size],by simpa using he⟩
           obtain ⟨k,d,s,he⟩:=YV p hp;exact ⟨0,(k,d)::s,by simp [Ty.size],by simpa using he⟩
          ·intro p az p' h he;unfold Cr at he;split at he
           ·simp at he; simp [he.1]
           exact jO _ (T.tk.ids _ _ _ _ he)
          intro hn p1 p2 az p' k1 k2 e1 e2;obtain ⟨n1,n2⟩:=List.nodup_cons.1 hn;unfold Cr at e1 e2;split at e1<;>split at e2
          ·rename_i g1 g2; rw [g1,g2]
          ·simp at e1; exact absurd (T.tk.ids _ _ _ _ e2) (by rw [← e1.1]; exact n1)
          ·simp at e2; exact absurd (T.tk.ids _ _ _ _ e1) (by rw [← e2.1]; exact n1)
          exact T.tk.inj n2 _ _ _ _ _ _ e1 e2
         simp at e
        simp at e
       simp at e
     | own id ver p tt=>
      cases p with
      | cons a p=>simp [take] at e
      | nil=>
       simp only [take] at e;split at e
       ·rename_i o u' vr xs ho;split at e
        ·simp at e
        rename_i vP;split at e
        ·rename_i ys hz;simp only [aF,bE] at e;obtain ⟨rfl,rfl,rfl⟩:=e;obtain ⟨rfl,hz⟩:=nz hz;obtain rfl:=eq_of_heq hz;obtain ⟨-,-,-,-,qb,rfl⟩:=h2;obtain rfl:=qb rfl;obtain ⟨-,-,-,hR⟩:=hO id _ ho;obtain ⟨r1,r2,r3,r4⟩:=hR;cases own with
         | true=>
          have iy:o=true:=by cases o<;>simp_all
          subst iy;have hw:=Rc (g:=g) (id:=id) (vr:=vr) (π:=q++[(i,j)]) (s:=[]);rw [List.append_nil] at hw;refine ⟨by simp [ho],by simp [Ty.size],by simp [Ty.size],wholeAt g id vr (q++[(i,j)]),.inl ⟨id,[],g.hd id 0 [],hw,h1,r1,r2,r3,fun b o HH=>?_⟩,?_,.whole⟩
          ·obtain ⟨r5,r6⟩:=r4 b o HH;refine ⟨r5,fun k hk=>pd hL u' [] _ k 0 k 0 _ b _ (fun _ d s hd=>?_) (r6 k hk)⟩;rw [Rc]; rfl
          intro p hp;simp only [wholeAt,ne_eq,Option.map_eq_none_iff] at hp;cases hs:strip (q++[(i,j)]) p with
          | none=>exact absurd hs hp
          | some s=>exact ⟨0,s,by simp [Ty.size],by simpa using En hs⟩
         | false=>
          have hd:=gD rfl id (by simp);refine ⟨by simp [ho],by simp [Ty.size],by simp [Ty.size],ca,⟨_,h1,_,_,_,rfl,r1,r2,fun hn=>r3 (by simpa using hn),fun aA=>?_⟩,fun p hp=>absurd rfl hp,.none⟩;have hlen:0<xs.length:=jA.2 aA;cases ha:(g.hd id 0 []).addr with
          | none=>have:=r3 ha; omega
          | some a=>
           obtain ⟨b',o'⟩:=a;obtain ⟨r5,r6⟩:=r4 b' o' ha;refine ⟨b',o',by simp,fun k hk=>AJ hL hd u' _ k 0 _ b' _ (fun d gC=>?_) (r6 k hk)⟩;have hle:(k+1)*u'.size≤(g.hd id 0 []).cap*u'.size:=fa _ (by omega);rw [cY] at hle;obtain ⟨a1,-,-⟩:=r5 (k*u'.size+d) (by omega);exact ⟨_,by rw [bL]; exact a1⟩
        simp at e
       simp at e
     | _=>simp [take] at e
  intro t n cs xs u f q i hv e gD;cases n with
  | zero=>
   cases cs with
   | cons c cs=>simp [takeN] at e
   | nil=>
    simp only [takeN,aF,bE] at e;obtain ⟨rfl,rfl⟩:=e;exact ⟨by simp,by simp,ca,rfl,fun k hk=>by simp at hk,fun p hp=>absurd rfl hp,.none⟩
  | succ n=>
   simp only [takeN] at e;split at e
   ·rename_i x r1 u1 e1;split at e
    ·rename_i ys u2 e2;simp only [aF,bE] at e;obtain ⟨rfl,rfl⟩:=e;obtain ⟨b1,b2,b3,eG,T1⟩:=AK t cs x r1 u1 f q i 0 hv e1 (fun ho id hi=>gD ho id (kO _ hi));subst b3;obtain ⟨c1,c2,vO,T2⟩:=xT t n _ ys u2 _ q (i+1) (hv.drop t.size) e2 (fun ho id hi=>gD ho id (sn _ hi));simp only [qW] at c2;have YW:∀ k d s,0<k→eG (q++(i+k,d)::s)=none:=by
      intro k d s hk;cases h1:eG (q++(i+k,d)::s) with
      | none=>rfl
      | some y=>
       obtain ⟨d',s',-,he⟩:=T1.nA _ (by rw [h1]; simp);have:=BZ he;simp at this; omega
     have HI:∀ d s,vO (q++(i,d)::s)=none:=by
      intro d s;cases h1:vO (q++(i,d)::s) with
      | none=>rfl
      | some y=>
       obtain ⟨k',d',s',-,he⟩:=T2.nA _ (by rw [h1]; simp);have:=BZ he;simp at this; omega
     refine ⟨?_,by rw [cY]; omega,gU eG vO,by simp [T2.len],?_,?_,T1.tk.or T2.tk⟩
     ·intro id hi;rcases List.mem_append.1 hi with hi | hi
      ·exact b1 id hi
      exact c1 id hi
     ·intro k hk;cases k with
      | zero=>
       refine qa t q _ 0 _ _ (fun d s hd=>?_) (by simpa using T1.ow);unfold gU;split
       ·rename_i y hy; exact hy.symm
       rename_i hy;simp only [dW] at hy ⊢;rw [HI,hy]
      | succ k=>
       have:=T2.ow k (by simpa using hk);refine qa t q _ 0 _ _ (fun d s hd=>?_) (i_ t q _ 0 _ _ _ (fun m hm=>?_) (by
        have e3:i+1+k=i+(k+1):=by omega
        rw [e3] at this; exact this))
       ·unfold gU;rw [YW (k+1) _ _ (by omega)]
       congr 1; rw [cY]; omega
     intro p hp;unfold gU at hp;cases h1:eG p with
     | some y=>
      obtain ⟨d',s',gC,he⟩:=T1.nA p (by rw [h1]; simp);exact ⟨0,_,s',by omega,he⟩
     | none=>
      rw [h1] at hp;obtain ⟨k,d',s',gC,he⟩:=T2.nA p hp;exact ⟨k+1,d',s',by omega,by rw [he]; congr 3; omega⟩
    simp at e
   simp at e
end
end Go.Am
namespace Go.Am
open Go
theorem jH {α β γ:Type} {a a':α} {b b':β} {c c':γ} (h:some (a,b,c)=some (a',b',c')):a=a'∧b=b'∧c=c':=by simpa using h
section
variable {P:Program} {c:ba} {g:Gh} {w w':World} {U:Nat→Prop} {sr:St}
structure Kept (g:Gh) (w w':World) (id:Nat) (π:Path):Prop where
 cells:∀ b o p,g.lab b o=some (id,p)→p≠π→w'.cell? (ad b o)=w.cell? (ad b o)
 frozen:∀ b o,w'.frozen? (ad b o)=w.frozen? (ad b o)
 shr:∀ b o,g.lab b o=none→∀ v,w.cell? (ad b o)=some v→w'.cell? (ad b o)=some v
 Eo:∀ b o,(w.cell? (ad b o)).isSome=true→(w'.cell? (ad b o)).isSome=true
theorem Kept.sh {id:Nat} {π:Path} (K:Kept g w w' id π) {t:Ty} {xs:List t.T} {v:Value} (h:gT t.size (Sh g.lab w t) xs v):gT t.size (Sh g.lab w' t) xs v:=
 ix (gb (fun b o hl v hv=>⟨K.shr b o hl v hv,hl⟩) t) h
theorem pe {own:Bool} {id vr:Nat} {π:Path} (K:Kept g w w' id π):∀ (t:Ty) (sk:Nat→Nat→Bool) (p:Path) (i j:Nat) (x:t.T) (b o:Nat),
  (∀ k,k<t.size→w'.cell? (ad b (o+k))=w.cell? (ad b (o+k)))→(∀ d s,d<t.size→p++(i,j+d)::s≠π)→dK g w own id vr t sk p i j x b o→dK g w' own id vr t sk p i j x b o
 | .int _,sk,p,i,j,x,b,o,hc,hp,h=>by have:=hc 0 (by simp [Ty.size]); exact this.trans h
 | .bool,sk,p,i,j,x,b,o,hc,hp,h=>by have:=hc 0 (by simp [Ty.size]); exact this.trans h
 | .str,sk,p,i,j,x,b,o,hc,hp,h=>by have:=hc 0 (by simp [Ty.size]); exact this.trans h
 | .err,sk,p,i,j,x,b,o,hc,hp,h=>by obtain ⟨v,h1,h2⟩:=h;exact ⟨v,(hc 0 (by simp [Ty.size])).trans h1,h2⟩
 | .bQ t,sk,p,i,j,x,b,o,hc,hp,h=>by obtain ⟨v,h1,h2,h3⟩:=h;exact ⟨v,(hc 0 (by simp [Ty.size])).trans h1,K.sh h2,h3⟩
 | .pair s t,sk,p,i,j,x,b,o,hc,hp,h=>by
  refine ⟨pe K s sk p i j x.1 b o (fun k hk=>hc k (by simp [Ty.size]; omega)) (fun d r hd=>hp d r (by simp [Ty.size]; omega)) h.1,
   pe K t sk p i (j+s.size) x.2 b (o+s.size) (fun k hk=>?_) (fun d r hd=>?_) h.2⟩
  ·rw [bL]; exact hc _ (by simp [Ty.size]; omega)
  rw [bL]; exact hp _ r (by simp [Ty.size]; omega)
 | .sl t,sk,p,i,j,xs,b,o,hc,hp,h=>by
  have h0:=hc 0 (by simp [Ty.size]);rw [dW] at h0;cases own with
  | false=>
   obtain ⟨v,h1,h2⟩:=h;exact ⟨v,h0.trans h1,K.sh h2⟩
  | true=>
   rcases h with h | ⟨h1,r1,r2,r3,r4⟩
   ·exact .inl h
   have aA:p++[(i,j)]≠π:=hp 0 [] (by simp [Ty.size]);refine .inr ⟨h0.trans h1,r1,r2,r3,fun b o hb=>?_⟩;obtain ⟨r5,r6⟩:=r4 b o hb;refine ⟨fun k hk=>?_,fun k hk=>?_⟩
   ·obtain ⟨a1,a2,a3⟩:=r5 k hk;exact ⟨a1,K.Eo _ _ a2,by rw [K.frozen]; exact a3⟩
   refine pe K t _ _ k 0 _ b _ (fun d hd=>?_) (fun d s hd=>?_) (r6 k hk)
   ·have hle:(k+1)*t.size≤(g.hd id vr (p++[(i,j)])).cap*t.size:=fa _ (by omega);rw [cY] at hle;obtain ⟨a1,-,-⟩:=r5 (k*t.size+d) (by omega);rw [← bL] at a1;exact K.cells _ _ _ a1 aA
   have:=hp 0 ((k,0+d)::s) (by simp [Ty.size]);simpa using this
theorem HJ {own tX:Bool} {d:Nat} {id vr i j:Nat} {π:Path} {t:Ty} {v:ag} {y:t.T} {r:List ag} {u:List Nat} {z:Value} {b o:Nat}
  (ht:(∃ k,t = .int k)∨t = .bool∨t = .str∨t = .err) (e:take sr tX d t [v]=some (y,r,u)) (hz:aV g w U v z) (hw:w'.cell? (ad b o)=some z):dK g w' own id vr t cP π i j y b o:=by
 cases d with
 | zero=>cases t<;>simp [take] at e
 | succ d=>
  rcases ht with ⟨k,rfl⟩ | rfl | rfl | rfl<;>cases v<;>simp only [take] at e<;>try (simp at e; done)
  ·split at e
   ·rename_i hk;obtain rfl:=o7 hk;obtain ⟨rfl,-,-⟩:=jH e;obtain rfl:=hz;exact hw
   simp at e
  ·obtain ⟨rfl,-,-⟩:=jH e;obtain rfl:=hz;exact hw
  ·obtain ⟨rfl,-,-⟩:=jH e;obtain rfl:=hz;exact hw
  obtain ⟨rfl,-,-⟩:=jH e;exact ⟨z,hw,hz⟩
theorem YX {own:Bool} {id vr lo:Nat} {vs:List ag} {f:Nat→Option Value} {π:Path} (K:Kept g w w' id π) (hv:gk g w U vs f):∀ (d:Nat) (t:Ty) (i j:Nat) (x y:t.T) (u:List Nat) (b o:Nat),
  (∀ k,k<t.size→lo≤j+k→j+k<lo+vs.length→w'.cell? (ad b (o+k))=f (j+k-lo))→(∀ k,k<t.size→¬ (lo≤j+k∧j+k<lo+vs.length)→w'.cell? (ad b (o+k))=w.cell? (ad b (o+k)))→
  lQ sr own d t x j lo vs=some (y,u,false)→dK g w own id vr t cP π i j x b o→dK g w' own id vr t cP π i j y b o:=by
 intro d;induction d with
 | zero=>intro t i j x y u b o hc hk e; cases t<;>simp [lQ] at e
 | succ d ih=>
  intro t i j x y u b o hc hk e h;cases t with
  | pair s t=>
   simp only [lQ] at e;split at e
   ·rename_i y1 u1 _ e1;split at e
    ·rename_i y2 u2 _ e2;obtain ⟨hy,hu,hh⟩:=jH e;rw [Bool.or_eq_false_iff] at hh;obtain ⟨rfl,rfl⟩:=hh;subst hy hu;refine ⟨ih s i j x.1 y1 u1 b o (fun k cr=>hc k (by simp [Ty.size]; omega)) (fun k cr=>hk k (by simp [Ty.size]; omega)) e1 h.1,
      ih t i (j+s.size) x.2 y2 u2 b (o+s.size) (fun k cr=>?_) (fun k cr=>?_) e2 h.2⟩
     ·have:=hc (s.size+k) (by simp [Ty.size]; omega);rw [← bL,← bL] at this;exact this
     have:=hk (s.size+k) (by simp [Ty.size]; omega);rw [← bL,← bL] at this;exact this
    simp at e
   simp at e
  | sl t=>
   simp only [lQ] at e;split at e
   ·rename_i hb;obtain ⟨ks,-,-⟩:=jH e;subst ks;refine pe K _ _ _ _ _ _ b o (fun k cr=>hk k cr ?_) (fun d s hd=>by intro he; have:=congrArg lr he; simp at this) h;intro Ep;have pf:k=0:=by simp [Ty.size] at cr; exact cr
    subst pf;have:(fJ lo j&&cL j (lo+vs.length))=true:=by simp [dJ]; omega
    rw [this] at hb; exact absurd hb (by simp)
   split at e
   ·split at e
    ·simp at e
    simp at e
   simp at e
  | bQ t=>
   simp only [lQ] at e;split at e
   ·rename_i hb;obtain ⟨ks,-,-⟩:=jH e;subst ks;refine pe K _ _ _ _ _ _ b o (fun k cr=>hk k cr ?_) (fun d s hd=>by intro he; have:=congrArg lr he; simp at this) h;intro Ep;have pf:k=0:=by simp [Ty.size] at cr; exact cr
    subst pf;have:(fJ lo j&&cL j (lo+vs.length))=true:=by simp [dJ]; omega
    rw [this] at hb; exact absurd hb (by simp)
   split at e
   ·split at e
    ·simp at e
    simp at e
   simp at e
  | int k=>
   simp only [lQ] at e;split at e
   ·rename_i hb;obtain ⟨ks,-,-⟩:=jH e;subst ks;refine pe K _ _ _ _ _ _ b o (fun k cr=>hk k cr ?_) (fun d s hd=>by intro he; have:=congrArg lr he; simp at this) h;intro Ep;have pf:k=0:=by simp [Ty.size] at cr; exact cr
    subst pf;have:(fJ lo j&&cL j (lo+vs.length))=true:=by simp [dJ]; omega
    rw [this] at hb; exact absurd hb (by simp)
   rename_i hb;simp only [aw,Hc,dJ] at hb;split at e
   ·rename_i v r hd;split at e
    ·rename_i y' r' u' ht;obtain ⟨ks,-,-⟩:=jH e;subst ks;have ax:j-lo<vs.length:=by omega
     have mJ:vs[j-lo]=v:=by have:=congrArg (fun l=>l[0]?) hd;simpa [dU ax] using this
     obtain ⟨z,pg,iI⟩:=hv (j-lo) ax;rw [mJ] at iI;have hw:=hc 0 (by simp [Ty.size]) (by omega) (by omega);simp only [dW] at hw;rw [pg] at hw;exact HJ (.inl ⟨k,rfl⟩) ht iI hw
    simp at e
   simp at e
  | bool=>
   simp only [lQ] at e;split at e
   ·rename_i hb;obtain ⟨ks,-,-⟩:=jH e;subst ks;refine pe K _ _ _ _ _ _ b o (fun k cr=>hk k cr ?_) (fun d s hd=>by intro he; have:=congrArg lr he; simp at this) h;intro Ep;have pf:k=0:=by simp [Ty.size] at cr; exact cr
    subst pf;have:(fJ lo j&&cL j (lo+vs.length))=true:=by simp [dJ]; omega
    rw [this] at hb; exact absurd hb (by simp)
   rename_i hb;simp only [aw,Hc,dJ] at hb;split at e
   ·rename_i v r hd;split at e
    ·rename_i y' r' u' ht;obtain ⟨ks,-,-⟩:=jH e;subst ks;have ax:j-lo<vs.length:=by omega
     have mJ:vs[j-lo]=v:=by have:=congrArg (fun l=>l[0]?) hd;simpa [dU ax] using this
     obtain ⟨z,pg,iI⟩:=hv (j-lo) ax;rw [mJ] at iI;have hw:=hc 0 (by simp [Ty.size]) (by omega) (by omega);simp only [dW] at hw;rw [pg] at hw;exact HJ (.inr (.inl rfl)) ht iI hw
    simp at e
   simp at e
  | str=>
   simp only [lQ] at e;split at e
   ·rename_i hb;obtain ⟨ks,-,-⟩:=jH e;subst ks;refine pe K _ _ _ _ _ _ b o (fun k cr=>hk k cr ?_) (fun d s hd=>by intro he; have:=congrArg lr he; simp at this) h;intro Ep;have pf:k=0:=by simp [Ty.size] at cr; exact cr
    subst pf;have:(fJ lo j&&cL j (lo+vs.length))=true:=by simp [dJ]; omega
    rw [this] at hb; exact absurd hb (by simp)
   rename_i hb;simp only [aw,Hc,dJ] at hb;split at e
   ·rename_i v r hd;split at e
    ·rename_i y' r' u' ht;obtain ⟨ks,-,-⟩:=jH e;subst ks;have ax:j-lo<vs.length:=by omega
     have mJ:vs[j-lo]=v:=by have:=congrArg (fun l=>l[0]?) hd;simpa [dU ax] using this
     obtain ⟨z,pg,iI⟩:=hv (j-lo) ax;rw [mJ] at iI;have hw:=hc 0 (by simp [Ty.size]) (by omega) (by omega);simp only [dW] at hw;rw [pg] at hw;exact HJ (.inr (.inr (.inl rfl))) ht iI hw
    simp at e
   simp at e
  | err=>
   simp only [lQ] at e;split at e
   ·rename_i hb;obtain ⟨ks,-,-⟩:=jH e;subst ks;refine pe K _ _ _ _ _ _ b o (fun k cr=>hk k cr ?_) (fun d s hd=>by intro he; have:=congrArg lr he; simp at this) h;intro Ep;have pf:k=0:=by simp [Ty.size] at cr; exact cr
    subst pf;have:(fJ lo j&&cL j (lo+vs.length))=true:=by simp [dJ]; omega
    rw [this] at hb; exact absurd hb (by simp)
   rename_i hb;simp only [aw,Hc,dJ] at hb;split at e
   ·rename_i v r hd;split at e
    ·rename_i y' r' u' ht;obtain ⟨ks,-,-⟩:=jH e;subst ks;have ax:j-lo<vs.length:=by omega
     have mJ:vs[j-lo]=v:=by have:=congrArg (fun l=>l[0]?) hd;simpa [dU ax] using this
     obtain ⟨z,pg,iI⟩:=hv (j-lo) ax;rw [mJ] at iI;have hw:=hc 0 (by simp [Ty.size]) (by omega) (by omega);simp only [dW] at hw;rw [pg] at hw;exact HJ (.inr (.inr (.inr rfl))) ht iI hw
    simp at e
   simp at e
theorem YY {own:Bool} {id hv vr:Nat} {u:Ty} {π:Path} {ys:List u.T} {i:Nat} {y:u.T} (K:Kept g w w' id π) (h:eN g w own id hv vr u cP π ys)
  (hc:∀ b o,(g.hd id hv π).addr=some (b,o)→∀ k,¬ (i*u.size≤k∧k<i*u.size+u.size)→g.lab b (o+k)=some (id,π)→w'.cell? (ad b (o+k))=w.cell? (ad b (o+k)))
  (hy:∀ b o (hi:i<ys.length),(g.hd id hv π).addr=some (b,o)→dK g w own id vr u cP π i 0 ys[i] b (o+i*u.size)→dK g w' own id vr u cP π i 0 y b (o+i*u.size)) :
  eN g w' own id hv vr u cP π (ys.set i y):=by
 obtain ⟨r1,r2,r3,r4⟩:=h;refine ⟨by rw [Hb]; exact r1,r2,r3,fun b o hb=>?_⟩;obtain ⟨r5,r6⟩:=r4 b o hb;refine ⟨fun k hk=>?_,fun k hk=>?_⟩
 ·obtain ⟨a1,a2,a3⟩:=r5 k hk;exact ⟨a1,K.Eo _ _ a2,by rw [K.frozen]; exact a3⟩
 rw [Hb] at hk;by_cases q7:i=k
 ·subst q7;rw [QC];exact hy b o hk hb (r6 i hk)
 rw [QB q7];refine pe K u _ _ k 0 _ b _ (fun d hd=>?_) (fun d s hd=>by intro he; have:=congrArg lr he; simp at this) (r6 k hk);have hle:(k+1)*u.size≤(g.hd id hv π).cap*u.size:=fa _ (by omega);rw [cY] at hle;obtain ⟨a1,-,-⟩:=r5 (k*u.size+d) (by omega);rw [bL];refine hc b o hb _ ?_ a1;rintro ⟨h1,h2⟩;rcases Nat.lt_or_gt_of_ne q7 with h | h
 ·have:(i+1)*u.size≤k*u.size:=fa _ h;rw [cY] at this; omega
 have:(k+1)*u.size≤i*u.size:=fa _ h;rw [cY] at this; omega
theorem Re (s t:Ty) (x:(Ty.pair s t).T) (m:Nat) (F:(u:Ty)→List u.T→Option (List u.T)):sq (.pair s t) x m F=(match cL m s.size with
  | true=>match sq s x.1 m F with | some y=>some (y,x.2) | none=>none
  | false=>match sq t x.2 (m-s.size) F with | some y=>some (x.1,y) | none=>none):=rfl
theorem Rf (t:Ty) (x:(Ty.sl t).T) (F:(u:Ty)→List u.T→Option (List u.T)):sq (.sl t) x 0 F=F t x:=rfl
theorem Rg (t:Ty) (x:(Ty.sl t).T) (m:Nat) (F:(u:Ty)→List u.T→Option (List u.T)):sq (.sl t) x (m+1) F=none:=rfl
theorem K7 {id vr:Nat} {π:Path} (K:Kept g w w' id π):∀ (t:Ty) (p:Path) (i j:Nat) (x y:t.T) (b o m:Nat) (F:(u:Ty)→List u.T→Option (List u.T)),
  (∀ k,k<t.size→w'.cell? (ad b (o+k))=w.cell? (ad b (o+k)))→(∀ d s,d<t.size→d≠m→p++(i,j+d)::s≠π)→
  (∀ u ys AN,eN g w true id vr vr u cP (p++[(i,j+m)]) ys→F u ys=some AN→eN g w' true id vr vr u cP (p++[(i,j+m)]) AN)→
  sq t x m F=some y→dK g w true id vr t cP p i j x b o→dK g w' true id vr t cP p i j y b o
 | .pair s t,p,i,j,x,y,b,o,m,F,hc,hp,hF,e,h=>by
  rw [Re] at e;split at e
  ·rename_i hb;have hb:m<s.size:=by simpa [dJ] using hb
   split at e
   ·rename_i y1 e1;obtain rfl:=aW e;refine ⟨K7 K s p i j x.1 y1 b o m F (fun k hk=>hc k (by simp [Ty.size]; omega)) (fun d r hd=>hp d r (by simp [Ty.size]; omega)) hF e1 h.1,?_⟩;refine pe K t _ p i (j+s.size) x.2 b (o+s.size) (fun k hk=>?_) (fun d r hd=>?_) h.2
    ·rw [bL]; exact hc _ (by simp [Ty.size]; omega)
    rw [bL]; exact hp _ r (by simp [Ty.size]; omega) (by omega)
   simp at e
  rename_i hb;have hb:¬ m<s.size:=by
   intro ax;have:cL m s.size=true:=by simpa [dJ] using ax
   rw [this] at hb; exact absurd hb (by simp)
  split at e
  ·rename_i y1 e1;obtain rfl:=aW e;refine ⟨pe K s _ p i j x.1 b o (fun k hk=>hc k (by simp [Ty.size]; omega)) (fun d r hd=>hp d r (by simp [Ty.size]; omega) (by omega)) h.1,?_⟩;refine K7 K t p i (j+s.size) x.2 y1 b (o+s.size) (m-s.size) F (fun k hk=>?_) (fun d r hd aA=>?_) ?_ e1 h.2
   ·rw [bL]; exact hc _ (by simp [Ty.size]; omega)
   ·rw [bL]; exact hp _ r (by simp [Ty.size]; omega) (by omega)
   have:j+s.size+(m-s.size)=j+m:=by omega
   rw [this]; exact hF
  simp at e
 | .sl t,p,i,j,x,y,b,o,m,F,hc,hp,hF,e,h=>by
  cases m with
  | succ m=>rw [Rg] at e; simp at e
  | zero=>
   rw [Rf] at e;have h0:=hc 0 (by simp [Ty.size]);rw [dW] at h0;rcases h with h | ⟨h1,h2⟩
   ·simp [cP] at h
   exact .inr ⟨h0.trans h1,hF t x y h2 e⟩
 | .int _,_,_,_,_,_,_,_,m,_,_,_,_,e,_=>by cases m<;>(have e:none=some _:=e; simp at e)
 | .bool,_,_,_,_,_,_,_,m,_,_,_,_,e,_=>by cases m<;>(have e:none=some _:=e; simp at e)
 | .str,_,_,_,_,_,_,_,m,_,_,_,_,e,_=>by cases m<;>(have e:none=some _:=e; simp at e)
 | .err,_,_,_,_,_,_,_,m,_,_,_,_,e,_=>by cases m<;>(have e:none=some _:=e; simp at e)
 | .bQ _,_,_,_,_,_,_,_,m,_,_,_,_,e,_=>by cases m<;>(have e:none=some _:=e; simp at e)
theorem Rh {id vr:Nat} : ∀ (q:Path) (t:Ty) (p:Path) (xs lR:List t.T) (F:(u:Ty)→List u.T→Option (List u.T)),Kept g w w' id (p++q)→
  (∀ u ys AN,eN g w true id (j6 (p++q) vr) vr u cP (p++q) ys→F u ys=some AN→eN g w' true id (j6 (p++q) vr) vr u cP (p++q) AN)→
  xG t xs q F=some lR→eN g w true id (j6 p vr) vr t cP p xs→eN g w' true id (j6 p vr) vr t cP p lR
 | [],t,p,xs,lR,F,K,hF,e,h=>by simp only [xG] at e;rw [List.append_nil] at hF;exact hF t xs lR h e
 | (i,j)::q,t,p,xs,lR,F,K,hF,e,h=>by
  simp only [xG] at e;split at e
  ·rename_i y e1;obtain rfl:=aW e;obtain ⟨r1,r2,r3,r4⟩:=h;refine ⟨by rw [Hb]; exact r1,r2,r3,fun b o hb=>?_⟩;obtain ⟨r5,r6⟩:=r4 b o hb;have aA:p≠p++(i,j)::q:=by intro he; have:=congrArg lr he; simp at this
   refine ⟨fun k hk=>?_,fun k hk=>?_⟩
   ·obtain ⟨a1,a2,a3⟩:=r5 k hk;exact ⟨a1,K.Eo _ _ a2,by rw [K.frozen]; exact a3⟩
   rw [Hb] at hk;have nB:∀ d,d<t.size→w'.cell? (ad b (o+k*t.size+d))=w.cell? (ad b (o+k*t.size+d)):=by intro d hd;have hle:(k+1)*t.size≤(g.hd id (j6 p vr) p).cap*t.size:=fa _ (by omega);rw [cY] at hle;obtain ⟨a1,-,-⟩:=r5 (k*t.size+d) (by omega);rw [← bL] at a1;exact K.cells _ _ _ a1 aA
   by_cases q7:i=k
   ·subst q7;rw [QC];have h6:=r6 i hk;rw [← vM hk] at h6;refine K7 K t p i 0 _ y b _ j _ nB (fun d s hd hdj=>?_) (fun u ys AN hu he=>?_) e1 h6
    ·intro he;have:=BZ he;simp at this; omega
    rw [jB] at hu ⊢;have Ri:j6 (p++[(i,j)]) vr=vr:=by cases p<;>rfl
    have K':Kept g w w' id ((p++[(i,j)])++q):=by simpa using K
    have:=Rh q u (p++[(i,j)]) ys AN F K' (by simpa using hF) he (by rw [Ri]; exact hu);rwa [Ri] at this
   rw [QB q7];refine pe K t _ p k 0 _ b _ nB (fun d s hd=>?_) (r6 k hk);intro he;have:=BZ he;simp at this; omega
  simp at e
end
end Go.Am
namespace Go.Am
open Go
theorem Cu {α:Type} {id az:Nat} {x:α} (h:(look [(id,x)] az).isSome=true):az=id:=by
 simp only [look] at h;split at h
 ·rename_i hb; exact (bm hb).symm
 simp [look] at h
theorem Fr.trans {F:Nat→Nat→Prop} {w1 w2 w3:World} (h:Fr F w1 w2) (h':Fr F w2 w3):Fr F w1 w3:=by
 refine ⟨h'.os.trans h.os,h'.tape.trans h.tape,h'.output.trans h.output,Nat.le_trans h.size h'.size,fun k c e f hk=>?_,fun k hk hF=>?_,fun k b hb hn=>h'.kind k b (h.kind k b hb hn) hn⟩
 ·obtain ⟨c1,h1,h2,h3⟩:=h.cells k c e f hk;obtain ⟨c2,h4,h5,h6⟩:=h'.cells k c1 e f h1;exact ⟨c2,h4,by rw [h5,h2],fun o ho=>by rw [h6 o ho,h3 o ho]⟩
 rw [h'.block k (nk hk h.size) hF,h.block k hk hF]
theorem Fr.mono {F F':Nat→Nat→Prop} {w w':World} (h:Fr F w w') (hF:∀ b o,b<w.heap.size→F b o→F' b o):Fr F' w w':=by
 refine ⟨h.os,h.tape,h.output,h.size,fun k c e f hk=>?_,fun k hk hn=>h.block k hk (fun o ho=>hn o (hF k o hk ho)),h.kind⟩;obtain ⟨c1,h1,h2,h3⟩:=h.cells k c e f hk;refine ⟨c1,h1,h2,fun o ho=>h3 o (fun hf=>ho (hF k o ?_ hf))⟩;rcases jP k w.heap.size with hh | hh
 ·exact hh
 rw [xD hh] at hk; simp at hk
theorem YZ {F:Nat→Nat→Prop} (w:World) (b o:Nat) (v:Value) (h:F b o):Fr F w (w.setCell (ad b o) v):=by
 refine ⟨rfl,rfl,rfl,by simp,fun k c e f hk=>?_,fun k hk hn=>?_,fun k bl hb hn=>?_⟩;rotate_left 2
 ·simp only [Kz,Kw,hb];split
  ·cases bl<;>first | rfl | exact absurd rfl (hn _ _ _)
  rfl
 ·simp only [Kz,Kw,hk];by_cases hb:b=k
  ·subst hb;refine ⟨c.setIfInBounds o v,by simp,by simp,fun o' ho=>?_⟩;rw [Array.getElem?_setIfInBounds];rw [if_neg];rintro rfl; exact ho h
  exact ⟨c,by simp [hb],rfl,fun _ _=>rfl⟩
 simp only [Kz,Kw];rw [if_neg];rintro rfl; exact hn o h
theorem vQ {F:Nat→Nat→Prop} (b:Nat):∀ (vs:List Value) (o:Nat) (w:World),(∀ k,k<vs.length→F b (o+k))→Fr F w (w.setCells b o vs)
 | [],o,w,h=>.refl _ _
 | v::vs,o,w,h=>(YZ w b o v (by simpa using h 0 (by simp))).trans (vQ b vs (o+1) _ (fun k hk=>by have:=h (k+1) (by simpa using hk);rwa [show o+(k+1)=o+1+k by omega] at this))
section
variable {P:Program} {c:ba} {g:Gh} {w:World} {U:Nat→Prop} {sr:St} {a:Act} {site:Nat} {o:Oper} {ρ:Type} {r:ρ} {k:cG→Option ρ}
theorem AO {x:ag} {v:Value} (h:aV g w U x v) (hc:jQ x.cells=true):cu g w U x.cells v.cells.toList∧∀ y∈v.cells.toList,y.oneCell'=true:=by
 have one:∀ {y:ag} {z:Value},aV g w U y z→jQ [y]=true→z.oneCell'=true:=by
  intro y z hy hc;cases y with
  | undef=>simp [jQ] at hc
  | agg cs=>simp [jQ] at hc
  | gN cs=>simp [jQ] at hc
  | int k n=>obtain rfl:=hy; rfl
  | bool b=>obtain rfl:=hy; rfl
  | str s=>obtain rfl:=hy; rfl
  | err e=>rcases AF hy with ⟨-,rfl⟩ | ⟨-,ti,x,rfl⟩<;>rfl
  | nil=>obtain rfl:=hy; rfl
  | sh t xs=>obtain ⟨_,_,_,rfl,-⟩:=hy; rfl
  | cZ t x=>obtain ⟨⟨_,_,_,rfl,-⟩,-⟩:=hy; rfl
  | ga t x j=>obtain ⟨_,_,rfl,-⟩:=hy; rfl
  | own id ver p t=>obtain ⟨-,-,-,-,-,rfl⟩:=hy; rfl
  | fK id ver p t off len=>obtain ⟨-,-,-,-,-,_,_,rfl,-⟩:=hy; rfl
  | fb id ver p t i j=>obtain ⟨-,-,-,-,-,-,_,_,-,rfl⟩:=hy; rfl
  | bn id j=>obtain ⟨-,-,_,_,-,rfl⟩:=hy; rfl
  | fB id off len sz=>obtain ⟨-,-,_,_,rfl,-⟩:=hy; rfl
  | fn f cs=>obtain ⟨_,rfl,-⟩:=hy; rfl
  | so=>obtain rfl:=hy; rfl
  | tL=>obtain rfl:=hy; rfl
 have all:∀ {cs:List ag} {l:List Value},cu g w U cs l→jQ cs=true→∀ y∈l,y.oneCell'=true:=by
  intro cs;induction cs with
  | nil=>intro l hl _ y hy; obtain rfl:=hl; simp at hy
  | cons x cs ih=>
   intro l hl hc y hy;obtain ⟨z,l,rfl,hz,hl⟩:=hl;have Rj:jQ [x]=true∧jQ cs=true:=by cases x<;>simp_all [jQ]
   rcases List.mem_cons.1 hy with rfl | hy
   ·exact one hz Rj.1
   exact ih hl Rj.2 y hy
 cases x with
 | agg cs=>
  obtain ⟨l,rfl,hl⟩:=h;exact ⟨by simpa [ag.cells,Value.cells] using hl,by simpa [Value.cells] using all hl hc⟩
 | undef=>simp [ag.cells,jQ] at hc
 | gN cs=>simp [ag.cells,jQ] at hc
 | _=>
  have h1:=one h hc;have hv:v.cells = #[v]:=by cases v<;>first | rfl | simp [Value.oneCell'] at h1
  rw [hv];exact ⟨⟨v,[],rfl,h,rfl⟩,by simpa using h1⟩
theorem K8 {t:Nat} {i:mD} (hT:nu P t i) {b o:Nat} {v:Value} (hs:v.cells.size=i.size) (hc:∀ k,k<i.size→(w.cell? (ad b (o+k))).isSome=true∧w.frozen? (ad b (o+k))=false)
  (h1:∀ y∈v.cells.toList,y.oneCell'=true):(sj t (.pointer (some (ad b o))) v).run P w = .ok () (w.setCells b o v.cells.toList):=by
 have hl:v.cells.toList.length=i.size:=by simpa using hs
 have:=run_storeCells_cells (P:=P) b o v.cells.toList 0 w (fun j hj=>(hc j (by omega)).1) (fun j hj=>(hc j (by omega)).2) h1;simp [sj,Ky,storeVar,xP hT,hs,this]
theorem HK {id b o:Nat} {π:Path} {vs:List Value} (hl:∀ k,k<vs.length→g.lab b (o+k)=some (id,π)):Kept g w (w.setCells b o vs) id π:=by
 have out:∀ b' o',(∀ k,k<vs.length→¬ (b'=b∧o'=o+k))→(w.setCells b o vs).cell? (ad b' o')=w.cell? (ad b' o'):=by
  intro b' o' hn;refine tK b vs o w _ (fun hb _=>?_);simp only at hb ⊢;rcases jP o' o with h | h
  ·exact .inl h
  rcases jP o' (o+vs.length) with h' | h'
  ·exact absurd ⟨hb,by omega⟩ (hn (o'-o) (by omega))
  exact .inr h'
 refine ⟨fun b' o' p hp aA=>out b' o' ?_,fun b' o'=>Aj b vs o w _,fun b' o' hn v hv=>?_,fun b' o' hs=>?_⟩
 ·rintro k hk ⟨rfl,rfl⟩;rw [hl k hk] at hp;simp at hp; exact aA hp.symm
 ·rw [out b' o']
  ·exact hv
  rintro k hk ⟨rfl,rfl⟩;rw [hl k hk] at hn; simp at hn
 have:∀ (vs:List Value) (o:Nat) (w:World),(w.cell? (ad b' o')).isSome=true→((w.setCells b o vs).cell? (ad b' o')).isSome=true:=by
  intro vs;induction vs with
  | nil=>intro o w h; exact h
  | cons v vs ih=>
   intro o w h;refine ih (o+1) _ ?_;by_cases he:ad b o=ad b' o'
   ·rw [← he];obtain ⟨u,hu⟩:=Option.isSome_iff_exists.1 h;rw [← he] at hu;rw [World.cell?_setCell_same _ _ _ hu]; rfl
   rw [World.cell?_setCell_other _ _ _ _ he]; exact h
 exact this vs o w hs
theorem K9 {id b o:Nat} {π:Path} {vs:List Value} {T:Nat→Prop} (hT:T id) (hl:∀ k,k<vs.length→g.lab b (o+k)=some (id,π)):eJ T g w U g (w.setCells b o vs) U:=by
 have K:=HK (w:=w) hl;refine ⟨fun _ h=>h,fun _ _ _ _ _=>rfl,fun b' o' hn v hv=>⟨K.shr b' o' hn v hv,hn⟩,fun b' o' az p hp tY=>⟨hp,?_,K.frozen b' o'⟩⟩;refine tK b vs o w _ (fun hb _=>?_);simp only at hb ⊢;subst hb;rcases jP o' o with h | h
 ·exact .inl h
 rcases jP o' (o+vs.length) with h' | h'
 ·have:=hl (o'-o) (by omega);rw [show o+(o'-o)=o' by omega] at this;rw [this] at hp;simp at hp;exact absurd (hp.1▸hT) tY
 exact .inr h'
theorem q8:∀ (cs:List ag) (j:Nat) (vs:List ag),(putCells cs j vs).length=cs.length
 | cs,_,[]=>by cases cs<;>rfl
 | [],_,v::vs=>rfl
 | c::cs,0,v::vs=>by simp [putCells,q8 cs 0 vs]
 | c::cs,j+1,v::vs=>by simp [putCells,q8 cs j (v::vs)]
theorem HL:∀ (cs:List ag) (j:Nat) (vs:List ag) (k:Nat),j+vs.length≤cs.length→
  (putCells cs j vs)[k]? = if j≤k∧k<j+vs.length then vs[k-j]? else cs[k]?
 | cs,j,[],k,h=>by
  have:putCells cs j []=cs:=by cases cs<;>rfl
  rw [this,if_neg (by simp only [List.length_nil]; omega)]
 | [],j,v::vs,k,h=>by simp at h
 | c::cs,0,v::vs,0,h=>by simp [putCells]
 | c::cs,0,v::vs,k+1,h=>by
  have:=HL cs 0 vs k (by simp at h ⊢; omega);simp only [putCells,D_,this];by_cases hk:k<vs.length
  ·rw [if_pos (by omega),if_pos (by simp; omega)]; simp
  rw [if_neg (by omega),if_neg (by simp; omega)]
 | c::cs,j+1,v::vs,0,h=>by simp [putCells]
 | c::cs,j+1,v::vs,k+1,h=>by
  have:=HL cs j (v::vs) k (by simp at h ⊢; omega);simp only [putCells,D_,this];by_cases hk:j≤k∧k<j+(v::vs).length
  ·rw [if_pos hk,if_pos (by omega)]; congr 1; omega
  rw [if_neg hk,if_neg (by omega)]
theorem Y_ (S:dp P c g w U sr a) {t:Nat} (ht:0<(c.ti t).size) {id j:Nat} {x:ag} {ro:List Bool} {cs:List ag} {va v:Value} (ha:aV g w U (.bn id j) va) (hx:aV g w U x v)
  (hlen:x.cells.length=(c.ti t).size) (bF:jQ x.cells=true) (ho:sr.obj id=some (.cells ro cs)) (hj:j+(c.ti t).size≤cs.length) :
  ∃ w',(sj t va v).run P w = .ok () w'∧dL g w U site ⟨.undef,[(id,some (.cells ro (putCells cs j x.cells)))]⟩ undef w' g U:=by
 obtain ⟨hU,kR,b,o,hb,rfl⟩:=ha;obtain ⟨b',o',hh,cW,oc⟩:=xS S.aX ho;rw [hh] at hb;simp only [aF,bE] at hb;obtain ⟨rfl,rfl⟩:=hb;obtain ⟨eQ,h1⟩:=AO hx bF;have bB:v.cells.toList.length=(c.ti t).size:=by rw [mI eQ,hlen]
 have hl:∀ k,k<v.cells.toList.length→g.lab b' (o'+j+k)=some (id,[]):=by intro k hk;rw [bL]; exact (cW (j+k) (by omega)).1
 refine ⟨_,K8 (oa S.bw (.inl ht)) (by simpa using bB) (fun k hk=>?_) h1,?_⟩
 ·have h2:=cW (j+k) (by omega);obtain ⟨y,hy,-⟩:=oc (j+k) (by omega);have hy:w.cell? (ad b' (o'+(j+k)))=some y:=hy;rw [bL];exact ⟨by rw [hy]; rfl,h2.2⟩
 have dz:∀ {T:Nat→Prop},T id→eJ T g w U g (w.setCells b' (o'+j) v.cells.toList) U:=fun hT=>K9 hT hl;have AP:eJ (fun i=>(look [(id,some (dD.cells ro (putCells cs j x.cells)))] i).isSome=true) g w U g (w.setCells b' (o'+j) v.cells.toList) U:=dz (by simp [look]);refine ⟨AP,trivial,fun az o2 e=>?_,fun s hs=>.inl hs,fun b o q h=>?_,fun b o q hb h=>by rw [h]; simp,?_,?_⟩
 ·simp only [look] at e;split at e
  ·rename_i he;obtain rfl:=bm he;simp only [aF] at e;obtain rfl:=e;refine ⟨hU,kR,b',o',by rw [q8]; exact hh,fun k hk=>?_⟩;rw [q8] at hk;refine ⟨(cW k hk).1,by rw [Aj]; exact (cW k hk).2,?_⟩;have hg:=HL cs j x.cells k (by omega);by_cases cC:j≤k∧k<j+x.cells.length
   ·rw [if_pos cC] at hg;obtain ⟨y,Cv,La⟩:=lU eQ (k-j) (by omega);refine ⟨y,?_,?_⟩
    ·obtain ⟨ax,Y0⟩:=dV.1 Cv;have:=Ai b' v.cells.toList (o'+j) w (fun m hm=>by have h2:=cW (j+m) (by omega);obtain ⟨z,hz,-⟩:=oc (j+m) (by omega);have hz:w.cell? (ad b' (o'+(j+m)))=some z:=hz;rw [bL,hz]; rfl) (k-j) ax;rw [show o'+j+(k-j)=o'+k by omega] at this;rw [this,Y0]
    have od:(putCells cs j x.cells)[k]'(by rw [q8]; exact hk)=x.cells[k-j]'(by omega):=by
     have h3:k-j<x.cells.length:=by omega
     rw [dU (by rw [q8]; exact hk),dU h3] at hg;exact aW hg
    rw [od];exact AP.tV _ _ La
   rw [if_neg cC] at hg;obtain ⟨y,Cv,La⟩:=oc k hk;have Cv:w.cell? (ad b' (o'+k))=some y:=Cv;refine ⟨y,?_,?_⟩
   ·rw [tK b' _ _ _ _ (fun _ _=>by simp only; rw [bB,← hlen]; omega)];exact Cv
   have od:(putCells cs j x.cells)[k]'(by rw [q8]; exact hk)=cs[k]:=by rw [dU (by rw [q8]; exact hk),dU hk] at hg;exact aW hg
   rw [od];exact AP.tV _ _ La
  simp [look] at e
 ·have:=S.b9 b o q h;have hs:=(vQ (F:=fun _ _=>True) b' v.cells.toList (o'+j) w (fun _ _=>trivial)).size;exact nk this hs
 ·exact vQ b' _ _ w (fun k hk=>⟨id,[],hl k hk,S.nf id (by rw [ho]; simp)⟩)
 exact fun az h=>by rw [Cu h]; exact S.nf id (by rw [ho]; simp)
theorem Y1 (S:dp P c g w U sr a) {t0:Nat} (ht:0<(c.ti t0).size) {id ver:Nat} {p:Path} {tt:Ty} {i j:Nat} {x:ag} {own:Bool} {t:Ty} {vr:Nat} {xs lR:List t.T} {u:Ty} {ys:List u.T} {y:u.T} {used:List Nat} {va v:Value}
  (ha:aV g w U (.fb id ver p tt i j) va) (hx:aV g w U x v) (hlen:x.cells.length=(c.ti t0).size) (bF:jQ x.cells=true)
  (ho:sr.obj id=some (.row own t vr xs)) (hp:p=[]∨(own=true∧ver=vr)) (fS:place t xs p=some ⟨u,ys⟩) (Y2:tt=u) (hj:j+(c.ti t0).size≤u.size)
  (he:lQ sr own 50 u (el u ys i) 0 j x.cells=some (y,used,false)) (lV:xG t xs p (fun u' _=>Ty.cast (.sl u) (.sl u') (ys.set i y))=some lR) :
  ∃ w',(sj t0 va v).run P w = .ok () w'∧dL g w U site ⟨.undef,[(id,some (.row own t vr lR))]⟩ undef w' g U:=by
 subst Y2;obtain ⟨hU,KX,kR,cC,sD,hi,b,o,hb,rfl⟩:=ha;obtain ⟨-,-,nv,hR⟩:=S.aX id _ ho;obtain ⟨eQ,h1⟩:=AO hx bF;have bB:v.cells.toList.length=(c.ti t0).size:=by rw [mI eQ,hlen]
 have mK:eN g w own id ver vr tt cP p ys∧(p≠[]→own=true∧ver=vr):=by
  rcases hp with rfl | ⟨rfl,rfl⟩
  ·obtain rfl:=sD rfl;simp only [place,aF] at fS;obtain ⟨rfl,fS⟩:=nU fS;obtain rfl:=eq_of_heq fS;exact ⟨hR,fun h=>absurd rfl h⟩
  refine ⟨?_,fun _=>⟨rfl,rfl⟩⟩;have:=KT (g:=g) (w:=w) p t [] xs tt ys hR fS cC;rw [List.nil_append] at this;have e1:j6 p ver=ver:=by
   cases p with
   | nil=>exact (sD rfl).symm
   | cons q p=>rfl
  rwa [e1] at this
 obtain ⟨Rk,aA⟩:=mK;have Y3:=Rk;obtain ⟨r1,r2,r3,r4⟩:=Y3;obtain ⟨r5,r6⟩:=r4 b o hb;have fu:(i+1)*tt.size≤(g.hd id ver p).cap*tt.size:=fa _ (by omega);rw [cY] at fu;have hl:∀ k,k<v.cells.toList.length→g.lab b (o+i*tt.size+j+k)=some (id,p):=by intro k hk;have:=(r5 (i*tt.size+(j+k)) (by omega)).1;rw [show o+i*tt.size+j+k=o+(i*tt.size+(j+k)) by omega];exact this
 have K:=HK (w:=w) hl;have dz:∀ {T:Nat→Prop},T id→eJ T g w U g (w.setCells b (o+i*tt.size+j) v.cells.toList) U:=fun hT=>K9 hT hl;have iJ:∀ m,(m<o+i*tt.size+j∨o+i*tt.size+j+v.cells.toList.length≤m)→(w.setCells b (o+i*tt.size+j) v.cells.toList).cell? (ad b m)=w.cell? (ad b m):=by intro m hm;exact tK b _ _ w _ (fun _ _=>hm)
 have Rl:eN g (w.setCells b (o+i*tt.size+j) v.cells.toList) own id ver vr tt cP p (ys.set i y):=by
  refine YY K Rk (fun b' o' cD k hk _=>?_) (fun b' o' gm cD hy=>?_)
  ·rw [hb] at cD;simp only [aF,bE] at cD;obtain ⟨rfl,rfl⟩:=cD;refine iJ _ ?_;omega
  rw [hb] at cD;simp only [aF,bE] at cD;obtain ⟨rfl,rfl⟩:=cD;rw [vM gm] at he;have hV:gk g w U x.cells (fun k=>v.cells.toList[k]?):=by intro k hk;obtain ⟨z,h2,h3⟩:=lU eQ k hk;exact ⟨z,h2,h3⟩
  refine YX K hV 50 tt i 0 _ y used b _ (fun k hk h2 h3=>?_) (fun k hk h2=>?_) he hy
  ·have:=Ai b v.cells.toList (o+i*tt.size+j) w (fun m hm=>by have:=(r5 (i*tt.size+(j+m)) (by omega)).2.1;rw [show o+i*tt.size+j+m=o+(i*tt.size+(j+m)) by omega];exact this) (k-j) (by omega);rw [show o+i*tt.size+j+(k-j)=o+i*tt.size+k by omega] at this;rw [this,jB,dU]
  refine iJ _ ?_;omega
 have AP:eJ (fun i'=>(look [(id,some (dD.row own t vr lR))] i').isSome=true) g w U g (w.setCells b (o+i*tt.size+j) v.cells.toList) U:=dz (by simp [look]);refine ⟨_,K8 (oa S.bw (.inl ht)) (by simpa using bB) (fun k hk=>?_) h1,AP,trivial,fun az o2 e=>?_,fun s hs=>.inl hs,fun b' o' q h=>?_,fun b o q hb h=>by rw [h]; simp,?_,?_⟩
 ·obtain ⟨h2,h3,h4⟩:=r5 (i*tt.size+(j+k)) (by omega);rw [show o+i*tt.size+j+k=o+(i*tt.size+(j+k)) by omega];exact ⟨h3,h4⟩
 ·simp only [look] at e;split at e
  ·rename_i xU;obtain rfl:=bm xU;simp only [aF] at e;obtain rfl:=e;refine ⟨hU,kR,nv,?_⟩;cases p with
   | nil=>
    obtain rfl:=sD rfl;simp only [place,aF] at fS;obtain ⟨rfl,fS⟩:=nU fS;obtain rfl:=eq_of_heq fS;simp only [xG] at lV;obtain ⟨-,lV⟩:=nz lV;obtain rfl:=eq_of_heq lV;exact Rl
   | cons q p=>
    obtain ⟨rfl,rfl⟩:=aA (by simp);have:=Rh (g:=g) (w:=w) (id:=id) (vr:=ver) (q::p) t [] xs lR _ (by simpa using K) (fun u' zs zs' hz qc=>?_) lV hR
    ·exact this
    obtain ⟨rfl,qc⟩:=nz qc;obtain rfl:=eq_of_heq qc;exact Rl
  simp [look] at e
 ·have:=S.b9 b' o' q h;have hs:=(vQ (F:=fun _ _=>True) b v.cells.toList (o+i*tt.size+j) w (fun _ _=>trivial)).size;exact nk this hs
 ·exact vQ b _ _ w (fun k hk=>⟨id,p,hl k hk,S.nf id (by rw [ho]; simp)⟩)
 exact fun az h=>by rw [Cu h]; exact S.nf id (by rw [ho]; simp)
end
end Go.Am
namespace Go.Am
open Go
structure kt (w w':World) (arr:Array Value) (e:TypeId):Prop where
 heap:w'.heap=w.heap.push (.cells arr e)
 os:w'.os=w.os
 tape:w'.tape=w.tape
 output:w'.output=w.output
theorem Er (w:World) (arr:Array Value) (e:TypeId):kt w (w.alloc (.cells arr e)) arr e:=⟨rfl,rfl,rfl,rfl⟩
theorem Rm (w:World) (arr:Array Value) (e:TypeId):kt w (w.drew.alloc (.cells arr e)) arr e:=⟨rfl,rfl,rfl,rfl⟩
section
variable {w w':World} {arr:Array Value} {e:TypeId}
theorem kt.size (B:kt w w' arr e):w'.heap.size=w.heap.size+1:=by rw [B.heap]; simp
theorem kt.new (B:kt w w' arr e) (o:Nat):w'.cell? (ad w.heap.size o)=arr[o]?:=by simp [World.cell?,B.heap]
theorem kt.HM (B:kt w w' arr e) (o:Nat):w'.frozen? (ad w.heap.size o)=false:=by simp [World.frozen?,B.heap]
theorem kt.cB (B:kt w w' arr e) {b:Nat} (h:b≠w.heap.size) (o:Nat):w'.cell? (ad b o)=w.cell? (ad b o):=by simp only [World.cell?,B.heap,DY];simp [h]
theorem kt.Es (B:kt w w' arr e) {b:Nat} (h:b≠w.heap.size) (o:Nat):w'.frozen? (ad b o)=w.frozen? (ad b o):=by simp only [World.frozen?,B.heap,DY];simp [h]
theorem kt.fr (B:kt w w' arr e) (F:Nat→Nat→Prop):Fr F w w':=by
 refine ⟨B.os,B.tape,B.output,by rw [B.size]; omega,fun k c e' f hk=>⟨c,?_,rfl,fun _ _=>rfl⟩,fun k hk _=>?_,fun k bl hb _=>?_⟩
 ·have ax:k<w.heap.size:=by
   rcases jP k w.heap.size with h | h
   ·exact h
   rw [xD h] at hk; simp at hk
  rw [B.heap,DY,if_neg (by omega)]; exact hk
 ·rw [B.heap,DY,if_neg (by omega)]
 have ax:k<w.heap.size:=by
  rcases jP k w.heap.size with h | h
  ·exact h
  rw [xD h] at hb; simp at hb
 rw [B.heap,DY,if_neg (by omega)]; exact hb
end
theorem AQ {w:World} {b o:Nat} {v:Value} (h:w.cell? (ad b o)=some v):b<w.heap.size:=World.block_lt_of_cell? w (ad b o) h
def ja (g:Gh) (site:Nat) (R H:Nat→Path→Hd) (lab:bW):Gh where
 hd id ver p:=if ver=site then H id p else if id / 1024=site then R id p else g.hd id ver p
 lab:=lab
theorem Lb {g:Gh} {site:Nat} {R H:Nat→Path→Hd} {lab:bW} {U:Nat→Prop} (hs:¬ U site) {id ver:Nat} {p:Path} (h1:U (id / 1024)) (h2:U ver):(ja g site R H lab).hd id ver p=g.hd id ver p:=by unfold ja;simp only;rw [if_neg (by rintro rfl; exact hs h2),if_neg (by intro e; rw [e] at h1; exact hs h1)]
theorem j9 (site:Nat):site*1024 / 1024=site:=Nat.mul_div_cancel _ (by omega)
theorem tZ {g:Gh} {site:Nat} {R H:Nat→Path→Hd} {lab:bW} (h0:site≠0) (p:Path):(ja g site R H lab).hd (site*1024) 0 p=R (site*1024) p:=by unfold ja;simp only;rw [if_neg (fun e=>h0 e.symm),if_pos (j9 site)]
theorem Ld {g:Gh} {site:Nat} {R H:Nat→Path→Hd} {lab:bW} (id:Nat) (p:Path):(ja g site R H lab).hd id site p=H id p:=by unfold ja; simp
def AR (l:bW) (b n N:Nat):bW:=fun b' o=>if b'=b then (if o<n then some (N,[]) else none) else l b' o
section
variable {P:Program} {c:ba} {g:Gh} {w w':World} {U:Nat→Prop} {sr:St} {a:Act} {site:Nat} {o:Oper} {ρ:Type} {r:ρ} {k:cG→Option ρ} {arr:Array Value} {e:TypeId}
def U' (U:Nat→Prop) (site:Nat):Nat→Prop:=fun s=>U s∨s=site
theorem Y4 (B:kt w w' arr e) (hs:¬ U site) (hl:∀ b o q,g.lab b o=some q→b<w.heap.size) {R H:Nat→Path→Hd} {n N:Nat} {T:Nat→Prop} :
  eJ T g w U (ja g site R H (AR g.lab w.heap.size n N)) w' (U' U site):=by
 refine ⟨fun s h=>.inl h,fun id ver p h1 h2=>Lb hs h1 h2,fun b o hn v hv=>?_,fun b o id p h _=>?_⟩
 ·have hb:b≠w.heap.size:=Nat.ne_of_lt (AQ hv);exact ⟨by rw [B.cB hb]; exact hv,by simp [ja,AR,hb,hn]⟩
 have hb:b≠w.heap.size:=Nat.ne_of_lt (hl _ _ _ h);exact ⟨by simp [ja,AR,hb,h],B.cB hb o,B.Es hb o⟩
theorem Cw (S:dp P c g w U sr a) (hs:¬ U site) (B:kt w w' arr e) {cs:List ag} (hv:cu g w U cs arr.toList) {x:ag} {v:Value}
  (hx:∀ g',g'.hd (site*1024) 0 []=⟨some (w.heap.size,0),cs.length,cs.length⟩→aV g' w' (U' U site) x v) :
  ∃ g' U',dL g w U site ⟨x,[(site*1024,some (.cells [] cs))]⟩ v w' g' U':=by
 have h0:site≠0:=by rintro rfl; exact hs S.u0
 have hlen:=mI hv;have st:∀ {T:Nat→Prop},eJ T g w U (ja g site (fun _ _=>⟨some (w.heap.size,0),cs.length,cs.length⟩) (fun _ _=>dX) (AR g.lab w.heap.size cs.length (site*1024))) w' (U' U site):=Y4 B hs S.b9;refine ⟨_,_,st,hx _ (tZ h0 _),fun id ob bD=>?_,fun s h=>h,fun b o q h=>?_,fun b o q hb h=>?_,B.fr _,fun id h=>by rw [Cu h,j9]; rintro rfl; exact hs S.AD⟩
 ·simp only [look] at bD;split at bD
  ·rename_i hb;obtain rfl:=bm hb;simp only [aF] at bD;subst bD;refine ⟨.inr (j9 site),.inl S.u0,w.heap.size,0,tZ h0 _,fun k hk=>⟨by simp [ja,AR,hk],B.HM _,?_⟩⟩;obtain ⟨y,h1,h2⟩:=lU hv k hk;exact ⟨y,by rw [B.new,jB]; simpa using h1,st (T:=fun _=>True) |>.tV _ _ h2⟩
  simp [look] at bD
 ·rw [B.size];simp only [ja,AR] at h;split at h
  ·omega
  have:=S.b9 _ _ _ h; omega
 simp only [ja,AR] at h;rw [if_neg (by omega)] at h;rw [h]; simp
theorem AS {t:Nat} {i:mD} (h:nu P t i):∃ z:Value,z.cells.size=i.size∧(∀ w,(zeroValue t).run P w = .ok z w)∧(∀ g w U,cu g w U i.zero z.cells.toList)∧∃ ti:TypeInfo,P.info? t=some ti∧ti.zero=some z∧ti.size=i.size∧ti.bytes=i.bytes:=by obtain ⟨ti,h1,h2,h3,z,h4,h5,h6⟩:=h.info;exact ⟨z,h5,fun w=>by simp [zeroValue,typeInfo,h1,h4],h6,ti,h1,h4,h2,h3⟩
theorem Y5 (S:dp P c g w U sr a) (hs:¬ U site) {t:Nat} (ht:0<(c.ti t).size) :
  ∃ v w' g' U',(Instr.alloc t true (.tuple #[])).run P w = .ok v w'∧dL g w U site ⟨.bn (site*1024) 0,[(site*1024,some (.cells [] (c.ti t).zero))]⟩ v w' g' U':=by
 obtain ⟨z,hz,hr,hv,-⟩:=AS (oa S.bw (.inl ht));have B:=Er w z.cells t;obtain ⟨g',U',hp⟩:=Cw S hs B (hv g w U) (x:=.bn (site*1024) 0) (v:=.pointer (some (ad w.heap.size 0))) (fun g' hg=>⟨.inr (j9 site),.inl S.u0,_,_,by rw [hg],by simp⟩);exact ⟨_,_,g',U',by simp [Instr.alloc,hr,newVar,newRow],hp⟩
theorem Y6 (S:dp P c g w U sr a) (hs:¬ U site) {t:Nat} {x:ag} {vx:Value} (hx:aV g w U x vx) (bF:jQ x.cells=true) :
  ∃ v w' g' U',(Instr.box t vx).run P w = .ok v w'∧dL g w U site ⟨.bn (site*1024) 0,[(site*1024,some (.cells [] x.cells))]⟩ v w' g' U':=by
 have hv:=(AO hx bF).1;have B:=Er w vx.cells t;obtain ⟨g',U',hp⟩:=Cw S hs B hv (x:=.bn (site*1024) 0) (v:=.pointer (some (ad w.heap.size 0))) (fun g' hg=>⟨.inr (j9 site),.inl S.u0,_,_,by rw [hg],by simp⟩);exact ⟨_,_,g',U',by simp [Instr.box,newVar,newRow],hp⟩
end
end Go.Am
