/- The abstract machine is right: functions, calls, regions in any order, arguments, laws; plain laws of loops. No condition. -/
import Derived.Test.YtjfaphipihgomaaGreatDoorAmC
import Derived.Orders
import Derived.ProofKit
import Derived.ChangeOld
import Derived.Below
import Derived.RowKit
import Derived.WideShapes
noncomputable section
set_option linter.unusedVariables false
set_option linter.unusedSimpArgs false
open Array renaming all_eq_true' → FR, getD_eq_getD_getElem? → oG, getElem?_append → Fv, getElem?_eq_getElem → s_, getElem?_toList → s4, replicate → wh
open Bool renaming and_eq_true → aB, not_eq_true → pM, not_eq_true' → BT, or_eq_false_iff → oW, or_eq_true → rM, or_false → yE
open Go.Calls renaming mono → BU
open Go.DataW renaming TrodAll → FU
open Go.Oper renaming upon_enter → DP, wp → DQ
open Go.Region renaming binds → tJ, ready → q7, wanted → nQ
open List renaming all_cons → l9, all_eq_true → iy, any_eq_true → y8, append_assoc → nR, cons_append → pI, count_eq_zero → TF, drop_eq_getElem_cons → TG, eq_nil_of_length_eq_zero → yz, getD_eq_getElem?_getD → lG, getElem?_cons_succ → H_, getElem?_cons_zero → A5, getElem?_drop → FV, getElem?_eq_getElem → eX, getElem?_eq_some_iff → eE, length_cons → bh, length_drop → pH, length_erase_of_mem → ZA, length_reverse → Zi, map_cons → mM, mem_append → eF, mem_append_left → lH, mem_cons → gC, mem_cons_of_mem → kD, mem_erase_of_ne → ZB, mem_map → kE, nodup_append → M_, nodup_cons → qK
open List.cons renaming injEq → LC
open Nat renaming add_assoc → cg, add_zero → eG, beq → aT, beq_eq → td, ble → fR, blt → cS, blt_eq → eH, eq_of_beq_eq_true → bB, le_of_ble_eq_true → gz, le_refl → cx, lt_of_lt_of_le → oL, lt_or_ge → kj, mul_le_mul_right → fk, pred_succ → M3, sub_zero → Jn, testBit → ec, zero_le → tK
open Option renaming bind_eq_some_iff → Jo, bind_some → aA
open Option.some renaming inj → aZ, injEq → aN
open Prod renaming fst → rY, snd → q8
open Prod.mk renaming injEq → bS
namespace Go.Am
open Go
section
variable {P:Program} {c:bd} {g g':Gh} {L:b9} {w:World} {U U':Nat→Prop} {st:St} {a:Act}
theorem Jp {base site:Nat} : ∀ (t:Ty) (x:t.T) (j:Nat) (id:Nat) (oo:Option dL),look (fV base site t x j) id=some oo→
  ∃ u xs k,oo=some (.row true u site xs)∧(t.jJ=true→u.jJ=true)∧j≤k∧k<j+t.size∧id=base+k
 | .int _,_,_,_,_,h=>by simp [fV,look] at h
 | .bool,_,_,_,_,h=>by simp [fV,look] at h
 | .str,_,_,_,_,h=>by simp [fV,look] at h
 | .err,_,_,_,_,h=>by simp [fV,look] at h
 | .bW _,_,_,_,_,h=>by simp [fV,look] at h
 | .sl u,xs,j,id,oo,h=>by
  replace h:look [(base+j,some (dL.row true u site xs))] id=some oo:=h;rw [dQ] at h;split at h
  ·rename_i he;simp only [aN] at h;exact ⟨u,xs,j,h.symm,fun h=>h,cx _,by simp [Ty.size],he.symm⟩
  simp [look] at h
 | .pair s t,x,j,id,oo,h=>by
  replace h:look (fV base site s x.1 j++fV base site t x.2 (j+s.size)) id=some oo:=h;rw [iU] at h;cases hq:look (fV base site s x.1 j) id with
  | some y=>
   rw [hq] at h;simp only [aN] at h;subst h;obtain ⟨u,xs,k,h1,h2,h3,h4,h5⟩:=Jp s x.1 j id _ hq;exact ⟨u,xs,k,h1,fun hn=>h2 (by simp only [Ty.jJ,aB] at hn; exact hn.1),h3,by simp only [Ty.size]; omega,h5⟩
  | none=>
   rw [hq] at h;obtain ⟨u,xs,k,h1,h2,h3,h4,h5⟩:=Jp t x.2 _ id _ h;exact ⟨u,xs,k,h1,fun hn=>h2 (by simp only [Ty.jJ,aB] at hn; exact hn.2),by omega,by simp only [Ty.size]; omega,h5⟩
def oX (st:St) (uo:List Nat) (base:Nat):(t:Ty)→Nat→{os:List Ty}→cj (t.gY os)→(cj os→Prop)→Prop
 | .pair a b,j,os,y,K=>oX st uo base a j (os:=b.gY os) y (fun y=>oX st uo base b (j+a.size) (os:=os) y K)
 | .sl u,j,_,y,K=>(∃ vr,st.obj (base+j)=some (.row true u vr y.1))∧base+j∈uo∧K y.2
 | .int _,_,_,y,K=>K y
 | .bool,_,_,y,K=>K y
 | .str,_,_,y,K=>K y
 | .err,_,_,y,K=>K y
 | .bW _,_,_,y,K=>K y
theorem oX.mono {uo FW:List Nat} (h:∀ i∈uo,i∈FW) {base:Nat} : ∀ (t:Ty) (j:Nat) {os:List Ty} (y:cj (t.gY os)) {K K':cj os→Prop},(∀ y,K y→K' y)→oX st uo base t j y K→oX st FW base t j y K'
 | .pair a b,j,os,y,K,K',hK,h'=>oX.mono h a j (os:=b.gY os) y (fun y hy=>oX.mono h b (j+a.size) (os:=os) y hK hy) h'
 | .sl u,j,_,y,K,K',hK,⟨h1,h2,h3⟩=>⟨h1,h _ h2,hK _ h3⟩
 | .int _,_,_,y,K,K',hK,h'=>hK y h'
 | .bool,_,_,y,K,K',hK,h'=>hK y h'
 | .str,_,_,y,K,K',hK,h'=>hK y h'
 | .err,_,_,y,K,K',hK,h'=>hK y h'
 | .bW _,_,_,y,K,K',hK,h'=>hK y h'
theorem M4 {base:Nat} : ∀ (t:Ty) (j:Nat) {os:List Ty} (z:cj os) (w:List Nat) (y:cj (t.gY os)) (u:List Nat) (K:cj os→Prop),Bs st base t j z w=some (y,u)→K z→
  oX st u base t j y K∧(∀ i∈w,i∈u)∧∀ i∈u,i∈w∨st.obj i≠none
 | .pair a b,j,os,z,w,y,u,K,e,hK=>by
  replace e:(match Bs st base b (j+a.size) (os:=os) z w with
   | some (z,w)=>Bs st base a j (os:=b.gY os) z w
   | none=>none)=some (y,u):=e
  split at e
  ·rename_i z1 w1 e1;obtain ⟨h1,h2,h3⟩:=M4 b (j+a.size) z w z1 w1 K e1 hK;obtain ⟨k1,k2,k3⟩:=M4 a j z1 w1 y u (fun y=>oX st w1 base b (j+a.size) (os:=os) y K) e h1;refine ⟨oX.mono (fun _ h=>h) a j (os:=b.gY os) y (fun y hy=>oX.mono k2 b (j+a.size) (os:=os) y (fun _ h=>h) hy) k1,fun i hi=>k2 i (h2 i hi),fun i hi=>?_⟩
   grind
  grind
 | .sl t,j,os,z,w,y,u,K,e,hK=>by
  replace e:(match st.obj (base+j) with
   | some (.row true u _ xs)=>(match Ty.cast (.sl u) (.sl t) xs with | some ys=>some ((ys,z),(base+j)::w) | none=>none)
   | _=>none)=some (y,u):=e
  cases bQ:st.obj (base+j) with
  | none=>grind
  | some ob=>
   rw [bQ] at e;cases ob with
   | row own u' vr xs=>
    cases own with
    | false=>grind
    | true=>
     replace e:(match Ty.cast (.sl u') (.sl t) xs with | some ys=>some ((ys,z),(base+j)::w) | none=>none)=some (y,u):=e;split at e
     ·rename_i ys hc;have e1:(ys,z)=y:=congrArg rY (aZ e);have e2:(base+j)::w=u:=congrArg q8 (aZ e);subst e1;subst e2;obtain ⟨rfl,hh⟩:=nO hc;obtain rfl:=eq_of_heq hh;refine ⟨⟨⟨vr,bQ⟩,by simp,hK⟩,fun i hi=>by grind,fun i hi=>?_⟩
      grind
     grind
   | _=>grind
 | .int _,j,os,z,w,y,u,K,e,hK=>by have e:some (z,w)=some (y,u):=e;have e1:z=y:=congrArg rY (aZ e);have e2:w=u:=congrArg q8 (aZ e);subst e1; subst e2;exact ⟨hK,fun i h=>h,fun i h=>.inl h⟩
 | .bool,j,os,z,w,y,u,K,e,hK=>by have e:some (z,w)=some (y,u):=e;have e1:z=y:=congrArg rY (aZ e);have e2:w=u:=congrArg q8 (aZ e);subst e1; subst e2;exact ⟨hK,fun i h=>h,fun i h=>.inl h⟩
 | .str,j,os,z,w,y,u,K,e,hK=>by have e:some (z,w)=some (y,u):=e;have e1:z=y:=congrArg rY (aZ e);have e2:w=u:=congrArg q8 (aZ e);subst e1; subst e2;exact ⟨hK,fun i h=>h,fun i h=>.inl h⟩
 | .err,j,os,z,w,y,u,K,e,hK=>by have e:some (z,w)=some (y,u):=e;have e1:z=y:=congrArg rY (aZ e);have e2:w=u:=congrArg q8 (aZ e);subst e1; subst e2;exact ⟨hK,fun i h=>h,fun i h=>.inl h⟩
 | .bW _,j,os,z,w,y,u,K,e,hK=>by have e:some (z,w)=some (y,u):=e;have e1:z=y:=congrArg rY (aZ e);have e2:w=u:=congrArg q8 (aZ e);subst e1; subst e2;exact ⟨hK,fun i h=>h,fun i h=>.inl h⟩
def qa (st:St) (uo:List Nat):Nat→(ps:List PK)→cj (PK.outs ps)→Prop
 | _,[],_=>True
 | i,.io t::ps,y=>oX st uo (i*1024) t 0 y (fun y=>qa st uo (i+1) ps y)
 | _,.jH _ _::_,_=>False
 | i,.val _::ps,y=>qa st uo (i+1) ps y
 | i,.fX _::ps,y=>qa st uo (i+1) ps y
 | i,.jI _ _::ps,y=>qa st uo (i+1) ps y
theorem qa.mono {uo FW:List Nat} (h:∀ i∈uo,i∈FW):∀ (ps:List PK) (i:Nat) (y:cj (PK.outs ps)),qa st uo i ps y→qa st FW i ps y
 | [],_,_,_=>trivial
 | .io t::ps,i,y,h'=>oX.mono h t 0 (os:=PK.outs ps) y (fun y hy=>qa.mono (ps:=ps) h (i+1) y hy) h'
 | .jH _ _::_,_,_,h=>h
 | .val _::ps,i,y,h'=>qa.mono (ps:=ps) h (i+1) y h'
 | .fX _::ps,i,y,h'=>qa.mono (ps:=ps) h (i+1) y h'
 | .jI _ _::ps,i,y,h'=>qa.mono (ps:=ps) h (i+1) y h'
theorem FX:∀ (ps:List PK) (i:Nat) (zo:cj (PK.outs ps)) (uo:List Nat),ps.all PK.jU=true→yQ st i ps=some (zo,uo)→qa st uo i ps zo∧∀ id∈uo,st.obj id≠none
 | [],i,zo,uo,he,e=>by replace e:some ((),[])=some (zo,uo):=e;have e2:([]:List Nat)=uo:=congrArg q8 (aZ e);subst e2;exact ⟨trivial,by simp⟩
 | .io t::ps,i,zo,uo,he,e=>by
  simp only [l9,aB] at he;replace e:(match yQ st (i+1) ps with
   | some (z,w)=>Bs st (i*1024) t 0 z w
   | none=>none)=some (zo,uo):=e
  split at e
  ·rename_i z w hf;obtain ⟨h1,h2⟩:=FX ps (i+1) z w he.2 hf;obtain ⟨k1,k2,k3⟩:=M4 t 0 z w zo uo (fun y=>qa st w (i+1) ps y) e h1;refine ⟨oX.mono (fun _ h=>h) t 0 (os:=PK.outs ps) zo (fun y hy=>hy.mono k2) k1,fun id hid=>?_⟩
   grind
  grind
 | .jH _ _::_,i,zo,uo,he,e=>by simp [PK.jU] at he
 | .val _::ps,i,zo,uo,he,e=>FX ps (i+1) zo uo (by grind) e
 | .fX _::ps,i,zo,uo,he,e=>FX ps (i+1) zo uo (by grind) e
 | .jI _ _::ps,i,zo,uo,he,e=>FX ps (i+1) zo uo (by grind) e
open Classical in
noncomputable def kr (g:Gh) (site:Nat) (S:List Nat) (σs:Nat→Src):Gh where
 hd n ver s:=if n / 1024=site then (match σs ((n % 1024) / 32) ((0,n % 32)::s) with | some (_,_,h)=>h | none=>eh) else g.hd n ver s
 lab b o:=match g.lab b o with
  | none=>none
  | some (id,p)=>if id∈S then none else
   if h:∃ q:Nat×Nat×Path,∃ hd,σs q.1 ((0,q.2.1)::q.2.2)=some (id,p,hd) then some (site*1024+32*h.choose.1+h.choose.2.1,h.choose.2.2) else some (id,p)
section
variable {site:Nat} {S:List Nat} {σs:Nat→Src}
theorem abH {k j ver:Nat} {s:Path} (hk:k<16) (hj:j<32):(kr g site S σs).hd (site*1024+32*k+j) ver s=match σs k ((0,j)::s) with | some (_,_,h)=>h | none=>eh:=by
 have h1:(site*1024+32*k+j) / 1024=site:=by omega
 have h2:(site*1024+32*k+j) % 1024 / 32=k:=by omega
 have h3:(site*1024+32*k+j) % 32=j:=by omega
 simp only [kr,h1,h2,h3,if_true]
theorem M5 {n ver:Nat} {s:Path} (h:n / 1024≠site):(kr g site S σs).hd n ver s=g.hd n ver s:=by simp [kr,h]
theorem M6 {b o:Nat} (h:g.lab b o=none):(kr g site S σs).lab b o=none:=by simp [kr,h]
theorem abI {b o id:Nat} {p:Path} (h:g.lab b o=some (id,p)) (hS:id∈S):(kr g site S σs).lab b o=none:=by simp [kr,h,hS]
theorem TH {b o id:Nat} {p:Path} (h:g.lab b o=some (id,p)) (hS:id∉S) (fQ:∀ m s p hd,σs m s≠some (id,p,hd)):(kr g site S σs).lab b o=some (id,p):=by
 simp only [kr,h,hS,if_false]
 grind
theorem abJ {b o id k j:Nat} {p s:Path} {hh:Hd} (h:g.lab b o=some (id,p)) (hS:id∉S) (e:σs k ((0,j)::s)=some (id,p,hh))
  (inj:∀ m s m' s' id p h h',σs m s=some (id,p,h)→σs m' s'=some (id,p,h')→m=m'∧s=s'):(kr g site S σs).lab b o=some (site*1024+32*k+j,s):=by
 have hex:∃ q:Nat×Nat×Path,∃ hd,σs q.1 ((0,q.2.1)::q.2.2)=some (id,p,hd):=⟨(k,j,s),hh,e⟩
 simp only [kr,h,hS,if_false,dif_pos hex]
 grind
theorem TI {U':Nat→Prop} (h0:U' 0) (hs:U' site) (hL:∀ b o,L b o=none→(kr g site S σs).lab b o=none)
  (hS:∀ m s id p h,σs m s=some (id,p,h)→id∉S) (inj:∀ m s m' s' id p h h',σs m s=some (id,p,h)→σs m' s'=some (id,p,h')→m=m'∧s=s') :
  ∀ (rs:List RK) (k:Nat) (bG:List Value) (os:List Ty) (z:cj (RK.bm rs++os)) (zo:cj os),rs.all RK.jU=true→rs.all (fun r=>fR r.ty.size 30)=true→k+rs.length≤15→
   FO g L w σs k rs bG os z zo→
   cz (kr g site S σs) w U' (gA site (32*k) rs os z).1 bG∧
   (∀ id o,look (gA site (32*k) rs os z).2.1 id=some (some o)→id / 1024=site∧fy (kr g site S σs) w U' id o)∧(gA site (32*k) rs os z).2.2=zo
 | [],k,bG,os,z,zo,he,hz,hk,h=>by obtain ⟨rfl,rfl⟩:=h;exact ⟨rfl,fun id o h=>by simp [gA,look] at h,rfl⟩
 | r::rs,k,bG,os,z,zo,he,hz,hk,h=>by
  simp only [l9,aB] at he hz;simp only [bh] at hk;obtain ⟨v,tI,rfl,⟨f,hf,hw⟩,hr⟩:=h;obtain ⟨i1,i2,i3⟩:=TI h0 hs hL hS inj rs (k+1) tI os z.2 zo he.2 hz.2 (by omega) hr;rw [show 32*(k+1)=32*k+32 by omega] at i1 i2 i3;have bF:=gz hz.1;have one:aV (kr g site S σs) w U' (sZ site (32*k) r z.1).1 v∧∀ id o,look (sZ site (32*k) r z.1).2 id=some (some o)→id / 1024=site∧fy (kr g site S σs) w U' id o:=by
   cases r with
   | val t=>
    obtain ⟨a1,a2⟩:=MZ (g:=g) (g':=kr g site S σs) (L:=L) (w:=w) (U':=U') (base:=site*1024+32*k) (site:=site) (σ:=σs k) hL h0 hs
     (fun j ver s hj=>abH (by omega) hj) (fun j hj=>by grind)
     (fun j s id p h b o hj e hl=>abJ hl (hS _ _ _ _ _ e) e inj) t 0 z.1 f (by have:t.size≤30:=bF; omega) hw
    refine ⟨FN hf (kq _ _ _ _) a1,fun id o hl=>?_⟩;obtain ⟨⟨j,j1,j2,rfl⟩,h2⟩:=a2 id o hl;have:t.size≤30:=bF
    grind
   | sh t=>exact ⟨FN hf (kq _ _ _ _) (FP hL t _ _ _ _ _ _ hw),fun id o h=>by simp [sZ,look] at h⟩
   | ptr t ms=>simp [RK.jU] at he
  refine ⟨⟨v,tI,rfl,one.1,i1⟩,fun id o hl=>?_,i3⟩;replace hl:look ((sZ site (32*k) r z.1).2++(gA site (32*k+32) rs os z.2).2.1) id=some (some o):=hl;rw [iU] at hl
  grind
theorem M7 (hO:fA g w U st) {uo:List Nat} {base i:Nat} (M8:base=i*1024) (hi:i<15) (nC:site≥20) (hS:∀ id∈uo,id∉S) (fQ:∀ id∈uo,∀ m s p hd,σs m s≠some (id,p,hd)) :
  ∀ (t:Ty) (j:Nat) {os:List Ty} (y:cj (t.gY os)) {K K':cj os→Prop},j+t.size≤32→(∀ y,K y→K' y)→oX st uo base t j y K→FQ (kr g site S σs) w base t j y K'
 | .pair a b,j,os,y,K,K',hj,hK,h=>by simp only [Ty.size] at hj;exact M7 hO M8 hi nC hS fQ a j (os:=b.gY os) y (by omega) (fun y hy=>M7 hO M8 hi nC hS fQ b (j+a.size) (os:=os) y (by omega) hK hy) h
 | .sl u,j,os,y,K,K',hj,hK,⟨⟨vr,h1⟩,h2,h3⟩=>by
  simp only [Ty.size] at hj;refine ⟨⟨vr,?_⟩,hK _ h3⟩;obtain ⟨-,-,-,hR⟩:=hO _ _ h1;have aG:(base+j) / 1024≠site:=by subst M8; omega
  exact Ja (M5 aG) (fun q _=>M5 aG) (fun b o p hl=>TH hl (hS _ h2) (fQ _ h2)) (fun b o hl=>M6 hl) hR
 | .int _,_,_,y,K,K',hj,hK,h=>hK y h
 | .bool,_,_,y,K,K',hj,hK,h=>hK y h
 | .str,_,_,y,K,K',hj,hK,h=>hK y h
 | .err,_,_,y,K,K',hj,hK,h=>hK y h
 | .bW _,_,_,y,K,K',hj,hK,h=>hK y h
theorem FY (hO:fA g w U st) {uo:List Nat} (nC:site≥20) (hS:∀ id∈uo,id∉S) (fQ:∀ id∈uo,∀ m s p hd,σs m s≠some (id,p,hd)):∀ (ps:List PK) (i:Nat) (y:cj (PK.outs ps)),i+ps.length≤15→
  ps.all (fun p=>match p with | .io t=>fR t.size 30 | _=>true)=true→qa st uo i ps y→zf (kr g site S σs) w i ps y
 | [],_,_,_,_,_=>trivial
 | .io t::ps,i,y,hi,hz,h=>by simp only [bh] at hi;simp only [l9,aB] at hz;have bF:=gz hz.1;exact M7 hO rfl (by omega) nC hS fQ t 0 (os:=PK.outs ps) y (by omega) (fun y hy=>FY (ps:=ps) hO nC hS fQ (i+1) y (by omega) hz.2 hy) h
 | .jH _ _::_,_,_,_,_,h=>h
 | .val _::ps,i,y,hi,hz,h'=>FY (ps:=ps) hO nC hS fQ (i+1) y (by grind) (by grind) h'
 | .fX _::ps,i,y,hi,hz,h'=>FY (ps:=ps) hO nC hS fQ (i+1) y (by grind) (by grind) h'
 | .jI _ _::ps,i,y,hi,hz,h'=>FY (ps:=ps) hO nC hS fQ (i+1) y (by grind) (by grind) h'
theorem M9:∀ (ps:List PK) (i:Nat) (x:iS ps) (t:Nat) (v:ah),look (entry i ps x).1 t=some v→∃ j,t=i+j∧((entry i ps x).1.map (·.2))[j]? = some v
 | [],i,x,t,v,h=>by simp [entry,look] at h
 | p::ps,i,x,t,v,h=>by
  replace h:look ((i,(wc i p x.1).1)::(entry (i+1) ps x.2).1) t=some v:=h;rw [dQ] at h;split at h
  ·rename_i he;exact ⟨0,by omega,by simpa [entry] using h⟩
  obtain ⟨j,h1,h2⟩:=M9 ps (i+1) x.2 t v h;exact ⟨j+1,by omega,by simpa [entry] using h2⟩
theorem Na:∀ (ps:List PK) (i:Nat) (x:iS ps) (id:Nat) (o:Option dL),ps.all PK.jU=true→ps.all (fun p=>match p with | .io t=>fR t.size 30 | _=>true)=true→
  look (entry i ps x).2 id=some o→i≤id / 1024∧id / 1024<i+ps.length∧o.isSome=true
 | [],i,x,id,o,he,hz,h=>by simp [entry,look] at h
 | p::ps,i,x,id,o,he,hz,h=>by
  simp only [l9,aB] at he hz;have rest:look (entry (i+1) ps x.2).2 id=some o→i≤id / 1024∧id / 1024<i+(p::ps).length∧o.isSome=true:=by intro h;obtain ⟨h1,h2,h3⟩:=Na ps (i+1) x.2 id o he.2 hz.2 h;exact ⟨by omega,by grind,h3⟩
  cases p with
  | val t=>exact rest h
  | fX t=>exact rest h
  | jI f caps=>exact rest h
  | jH t ms=>simp [PK.jU] at he
  | io t=>
   have bF:=gz hz.1;replace h:look (fV (i*1024) 0 t x.1 0++(entry (i+1) ps x.2).2) id=some o:=h;rw [iU] at h;cases hq:look (fV (i*1024) 0 t x.1 0) id with
   | some y=>
    rw [hq] at h;simp only [aN] at h;subst h;obtain ⟨u,xs,k,rfl,-,h3,h4,rfl⟩:=Jp t x.1 0 id _ hq
    grind
   | none=>
    grind
end
end
def tL:List Value→Value
 | [v]=>v
 | vs=>.tuple vs.toArray
theorem TJ {P:Program} {fn:Func} {tmps:Array Value} {w:World} {bG:List Value} (h:(fn.results.toList.mapM (DN tmps)).run P w = .ok bG w) :
  (results fn tmps).run P w = .ok (tL bG) w:=by
 have e:results fn tmps=(do let vs ← fn.results.mapM (DN tmps); pure (if h:vs.size=1 then vs[0] else .tuple vs)):=by unfold results;congr 1
 rw [e];clear e;revert h;generalize fn.results=rs;obtain ⟨l⟩:=rs;intro h;rw [List.mapM_toArray];simp only [Sem.run_bind,Sem.run_map];rw [show (List.mapM (DN tmps) l).run P w=_ from h]
 match bG with
 | []=>simp [tL]
 | [v]=>simp [tL]
 | v::v'::vs=>simp [tL]
theorem wU {N N':Nat} (h:N≤N'):∀ (code:Code),hY N code=true→hY N' code=true
 | .region _ ops _,hd=>by
  refine iy.2 (fun o ho=>?_);have:=iy.1 hd o ho;cases e:o.dst with
  | none=>rfl
  | some d=>
   rw [e] at this;simp only [eH] at this ⊢;omega
 | .seq a b,hd=>by replace hd:(hY N a&&hY N b)=true:=hd;show (hY N' a&&hY N' b)=true;rw [aB] at hd ⊢;exact ⟨wU h a hd.1,wU h b hd.2⟩
 | .cond _ a b,hd=>by replace hd:(hY N a&&hY N b)=true:=hd;show (hY N' a&&hY N' b)=true;rw [aB] at hd ⊢;exact ⟨wU h a hd.1,wU h b hd.2⟩
 | .block _ b,hd=>wU h b hd
 | .loop b,hd=>wU h b hd
 | .scope b,hd=>wU h b hd
 | .skip,_=>rfl
 | .exit _,_=>rfl
 | .ret,_=>rfl
 | .label _,_=>rfl
 | .goto _,_=>rfl
 | .rangeFunc _ _ _ _,_=>rfl
 | .refuse _,_=>rfl
theorem Fr.cell {F:Nat→Nat→Prop} {w w':World} (h:Fr F w w') {b o:Nat} (hb:b<w.heap.size) (hn:¬ F b o):w'.cell? (ad b o)=w.cell? (ad b o)∧w'.frozen? (ad b o)=w.frozen? (ad b o):=by
 obtain ⟨x,hx⟩:∃ x,w.heap[b]? = some x:=⟨_,s_ hb⟩
 by_cases hc:∃ c e f,x = .cells c e f
 ·obtain ⟨c,e,f,rfl⟩:=hc;obtain ⟨c',h1,h2,h3⟩:=h.cells b c e f hx;have:=h3 o hn;simp only [World.cell?,World.frozen?,h1,hx]
  grind
 have:=h.kind b x hx (fun c e f he=>hc ⟨c,e,f,he⟩);simp only [World.cell?,World.frozen?,this,hx]
 grind
theorem TL {P:Program} {c:bd} {n:Nat} {f:FuncId} {fn:Func} {an:iH} {m:ar} (HR:BS P c) (hc:gb P c) (hf:P.funcs[f]? = some fn) {code:Code} (hb:fn.body=some code)
  (hd:hY fn.ntmps code=true) {x:iS m.ps} {st0:St} (hn:st0.nxt=20) (abK:st0.heap=(entry 0 m.ps x).2) {y:cj (RK.bm m.rs++PK.outs m.ps)}
  (hy:g_ c n code an _ st0 (fun e st=>match e with | .exit _=>none | _=>finish c fn m.ps m.rs st)=some y) (bK:yP m.ps m.rs=true) {site:Nat} (FZ:20≤site)
  {g:Gh} {w:World} {args:List Value} (s8:∀ t v,look st0.env t=some v→∃ x,args[t]? = some x∧aV g w gK v x)
  (EO:∀ id o,look (entry 0 m.ps x).2 id=some (some o)→fy g w gK id o) (Nb:∀ b o q,g.lab b o=some q→b<w.heap.size) (hG:Gl P g.lab w) :
  Calls P f args.toArray w fun e w'=>∃ v g',e = .returned v∧zg g w site m y v g' w':=by
 unfold yP at bK;simp only [aB] at bK;obtain ⟨⟨⟨⟨⟨⟨⟨⟨qb,F_⟩,zh⟩,wV⟩,wW⟩,TM⟩,-⟩,-⟩,vi⟩:=bK;have zh:=gz zh;have wV:=gz wV;refine calls_of_wp hf hb ?_
 let a0:Act:={ tmps:=args.toArray++wh (fn.ntmps-args.toArray.size) undef,defers:=[] }
 have tf:∀ id o,st0.obj id=some o→look (entry 0 m.ps x).2 id=some (some o):=by
  intro id o h;unfold St.obj at h;rw [abK] at h;split at h
  ·grind
  grind
 have hN:fn.ntmps≤a0.tmps.size:=by simp [a0]; omega
 have R0:Rel w g.lab a0.tmps.size g gK st0 a0 w:=by
  refine ⟨fun t v h=>?_,fun id o h=>?_,fun s h=>by rw [hn]; exact h,Nb,fun b o id p hb hl=>?_,fun b o id p hf jX=>hf,.refl _ _,rfl,rfl,by show (0:Nat)<20; omega,fun s hs=>hs,fun id h=>?_⟩
  ·obtain ⟨v',h5,h6⟩:=s8 t v h;have:a0.eval (.tmp t)=v':=by have aF:t<args.length:=(eE.1 h5).1;have h7:args[t]=v':=(eE.1 h5).2;simp only [Act.eval,a0];simp [oG,Fv,aF,h7]
   grind
  ·obtain ⟨h1,h2,-⟩:=Na m.ps 0 x id _ qb vi (tf id o h);exact ⟨by show id / 1024<20; omega,EO _ o (tf _ o h)⟩
  ·by_cases jX:id / 1024=19
   ·grind
   exact .inr ⟨id,p,hl,jX⟩
  cases ho:st0.obj id with
  | none=>grind
  | some o=>
   obtain ⟨h1,h2,-⟩:=Na m.ps 0 x id _ qb vi (tf id o ho);omega
 have FL:hY a0.tmps.size code=true:=wU hN code hd;refine oV HR hG code an _ y st0 _ (bodyPost P fn fun e w'=>∃ v g',e = .returned v∧zg g w site m y v g' w') a0 w g gK FL R0 hy (fun ex st' a' w' g1 U1 R1 E1 e1=>?_);have main:finish c fn m.ps m.rs st'=some y→a'.defers=[]∧∃ v,(results fn a'.tmps).run P w' = .ok v w'∧∃ v' g',Ending.returned v = .returned v'∧zg g w site m y v' g' w':=by
  intro e1;unfold finish at e1;split at e1
  ·rename_i vs fj;split at e1
   ·rename_i z u hz;split at e1
    ·rename_i eW;obtain rfl:=aZ e1;have eW:=yT.1 eW;obtain ⟨bG,mV,ze⟩:=Jl hc R1.heap R1.env _ _ fj;refine ⟨R1.defers,tL bG,TJ mV,tL bG,?_⟩
     let S:=vh st' m.rs vs
     let L:b9:=fun b o=>match g1.lab b o with | none=>none | some (id,p)=>if id∈S then none else some (id,p)
     obtain ⟨zo,uo,uR,σs,k1,rfl,k3,k4,k5,k6,k7,k8⟩:=TE (L:=L) R1.heap (fun b o h=>by grind) m.rs 0 vs bG _ _ z u F_ ze hz (fun id hid b o p hl=>by grind);obtain ⟨n1,n2,n3⟩:=M_.1 eW;obtain ⟨inj,abL⟩:=k8 n1;obtain ⟨o1,o2⟩:=FX m.ps 0 zo uo qb k1;have aij:∀ s,(U' gK site) s→s<20∨s=site:=fun s h=>h;have hL':∀ b o,L b o=none→(kr g1 site S σs).lab b o=none:=by
      intro b o h;cases hl:g1.lab b o with
      | none=>exact M6 hl
      | some q=>
       obtain ⟨id,p⟩:=q;have:id∈S:=by
        simp only [L,hl] at h;by_cases hm:id∈S
        ·exact hm
        grind
       exact abI hl this
     obtain ⟨r1,r2,r3⟩:=TI (g:=g1) (L:=L) (w:=w') (site:=site) (S:=S) (σs:=σs) (U':=U' gK site) (.inl (by show (0:Nat)<20; omega)) (.inr rfl) hL' (fun m s id p h e=>abL m s id p h e) inj m.rs 0 bG _ z zo F_ wW (by omega) k3;refine ⟨kr g1 site S σs,rfl,⟨?_,r2,?_,fun i hi=>?_,fun b o hl v hv=>?_,fun b o id p hl jX=>?_,fun b o q h=>?_,fun b o q hb h=>?_,R1.fr⟩⟩
     ·revert r1;generalize (gA site (32*0) m.rs (PK.outs m.ps) z).1=l;intro r1;have hlen:=mU r1
      match l,bG,r1,hlen with
      | [],[],r1,_=>exact ⟨[],rfl,rfl⟩
      | [v],[v'],r1,_=>
       obtain ⟨a,b,e,h1,-⟩:=r1;simp only [LC] at e;rw [e.1]; exact h1
      | v::v2::l,x1::x2::xs,r1,_=>exact ⟨_,rfl,r1⟩
     ·have:=r3;rw [show (gA site 0 m.rs (PK.outs m.ps) z).2.2=zo from r3];exact FY R1.heap FZ (fun id hid hS=>n3 id (k6 id hS) id hid rfl) (fun id hid m' s p hd hs=>n3 id (k5 _ _ _ _ _ hs) id hid rfl) m.ps 0 zo (by omega) vi o1
     ·rw [M5 (by omega)];exact E1.par i hi (by show i / 1024<20; omega)
     ·have hb:=BI hv;have hm:¬ Fh g.lab b o:=fun ⟨id,p,e,_⟩=>by grind
      have hc:=Fr.cell R1.fr hb hm;refine ⟨by grind,M6 ?_⟩;cases iP:g1.lab b o with
      | none=>rfl
      | some q=>
       obtain ⟨id,p⟩:=q;rcases R1.cI b o id p hb iP with h | h
       ·grind
       grind
     ·have h1:=R1.oQ b o id p hl jX;refine TH h1 (fun hS=>R1.nf id (k7 id (k6 id hS)) jX) (fun m' s p' hd hs=>R1.nf id (k7 id (k5 _ _ _ _ _ hs)) jX)
     ·cases hl:g1.lab b o with
      | none=>grind
      | some q'=>exact R1.cm b o q' hl
     obtain ⟨⟨id,p⟩,iP⟩:∃ q,g1.lab b o=some q:=by grind
     intro hn;rcases R1.cI b o id p hb iP with h | ⟨i',p',h,-⟩
     ·grind
     grind
    grind
   grind
  grind
 cases ex with
 | normal=>exact main e1
 | ret=>exact main e1
 | exit j=>grind
theorem Nc {P:Program} {c:bd} {n:Nat} {f:FuncId} {fn:Func} {an:iH} {m:ar} (HR:BS P c) (hc:gb P c) (hf:P.funcs[f]? = some fn) (hm:∀ x,m.m x=Dj c n fn an m.ps m.rs x):Sound P f m:=by
 intro x y hy bK site FZ g w args E hG;rw [hm] at hy;unfold Dj at hy;split at hy
 ·rename_i hb;split at hy
  ·grind
  rename_i hd;refine TL HR hc hf hb (by omega) rfl rfl hy bK FZ (fun t v h=>?_) E.bb E.cm hG;obtain ⟨j,h1,h2⟩:=M9 m.ps 0 x t v h;have ht:t=j:=by omega
  subst ht;obtain ⟨h3,h4⟩:=eE.1 h2;obtain ⟨v',h5,h6⟩:=mi E.bG t h3
  grind
 grind
def zi (c:bd) (n:Nat) (fn:Func) (an:iH) (ps:List PK) (rs:List RK) (v:ah) (env:List (Nat×ah)) (heap:List (Nat×Option dL)):Option (cj (RK.bm rs++PK.outs ps)):=
 match fn.body with
 | some code=>match hY fn.ntmps code with
  | false=>none
  | true=>g_ c n code an _ { env:=(0,v)::env,heap:=heap,nxt:=20 } fun e st=>match e with
   | .exit _=>none
   | _=>finish c fn ps rs st
 | none=>none
theorem TN {P:Program} {c:bd} {n:Nat} {f:FuncId} {fn:Func} {an:iH} {t:Ty} {ps:List PK} {rs:List RK} {F:iS (.val (.sl t)::ps)→Option (cj (RK.bm rs++PK.outs (.val (.sl t)::ps)))} (HR:BS P c) (hc:gb P c)
  (hf:P.funcs[f]? = some fn)
  (h1:∀ x y,F x=some y→x.1=([]:List t.T)→zi c n fn an (.val (.sl t)::ps) rs .nil (entry 1 ps x.2).1 (entry 1 ps x.2).2=some y)
  (h2:∀ x y,F x=some y→zi c n fn an (.val (.sl t)::ps) rs (.dn t (some x.1)) (entry 1 ps x.2).1 (entry 1 ps x.2).2=some y):Sound P f ⟨.val (.sl t)::ps,rs,F⟩:=by
 intro x y hy bK site FZ g w args E hG;have hy:F x=some y:=hy;obtain ⟨v0,vs,rfl,Nd,fj⟩:=E.bG;have go:∀ v:ah,aV g w gK v v0→zi c n fn an (.val (.sl t)::ps) rs v (entry 1 ps x.2).1 (entry 1 ps x.2).2=some y→
   Calls P f (v0::vs).toArray w fun e w'=>∃ v g',e = .returned v∧zg g w site ⟨.val (.sl t)::ps,rs,F⟩ y v g' w':=by
  intro v hv hr;unfold zi at hr;split at hr
  ·rename_i hb;split at hr
   ·grind
   rename_i hd;refine TL (m:=⟨.val (.sl t)::ps,rs,F⟩) (x:=x) HR hc hf hb (by omega) rfl rfl hr bK FZ (fun k u h=>?_) E.bb E.cm hG;replace h:look ((0,v)::(entry 1 ps x.2).1) k=some u:=h;rw [dQ] at h;split at h
   ·grind
   obtain ⟨j,e1,e2⟩:=M9 ps 1 x.2 k u h;obtain ⟨e3,e4⟩:=eE.1 e2;obtain ⟨v',e5,e6⟩:=mi fj j e3
   grind
  grind
 have Nd:hZ t.size (Sh g.lab w t) x.1 v0:=Nd;obtain ⟨a,len,cap,rfl,hl,tM,hn,hx⟩:=Nd;cases a with
 | none=>
  have fF:=hn rfl;have hlen:len=0:=by omega
  subst fF;subst hlen;have za:x.1=([]:List t.T):=yz hl.symm;exact go .nil rfl (h1 x y hy za)
 | some a=>exact go (.dn t (some x.1)) ⟨⟨_,_,_,rfl,hl,tM,hn,hx⟩,by simp⟩ (h2 x y hy)
end Go.Am
namespace Go.Am
open Go
def vj:Nat→List ah→List (Nat×Nat)
 | _,[]=>[]
 | n,v::r=>(match v with | .own id _ _ _=>[(n,id)] | _=>[])++vj (n+1) r
def eu:Nat→List PK→List ah→List (Nat×Nat)
 | i,p::ps,v::vs=>(match p with | .io t=>vj (i*1024) (pR t v) | _=>[])++eu (i+1) ps vs
 | _,_,_=>[]
def swp (l:List (Nat×Nat)):List (Nat×Nat):=l.map fun p=>(p.2,p.1)
theorem TO:∀ (cs:List ah) (n:Nat),(vj n cs).map (·.2)=E5 cs
 | [],n=>rfl
 | v::cs,n=>by have ih:=TO cs (n+1);cases v<;>simp [vj,E5,ih]
theorem wX:∀ (cs:List ah) (n:Nat) (m id:Nat),(m,id)∈vj n cs↔∃ k ver p u,cs[k]? = some (.own id ver p u)∧m=n+k
 | [],n,m,id=>by simp [vj]
 | v::cs,n,m,id=>by
  have ih:=wX cs (n+1) m id;simp only [vj,eF,ih];constructor
  ·rintro (h | ⟨k,ver,p,u,h1,h2⟩)
   ·cases v<;>simp at h;simp_all
   exact ⟨k+1,ver,p,u,by grind,by omega⟩
  grind
theorem TP:∀ (cs:List ah) (n:Nat),((vj n cs).map (·.1)).Nodup
 | [],n=>by simp [vj]
 | v::cs,n=>by
  simp only [vj,List.map_append];refine M_.2 ⟨by grind,TP cs (n+1),?_⟩;intro a ha b hb yF;subst yF;have h1:a=n:=by cases v<;>simp at ha; exact ha
  obtain ⟨⟨m,id⟩,hp,he⟩:=kE.1 hb;obtain ⟨k,-,-,-,-,h2⟩:=(wX cs (n+1) m id).1 hp;omega
theorem Jq {st:St} : ∀ (ps:List PK) (vs:List ah) (i:Nat),ps.all PK.jU=true→oP st ps vs=(eu i ps vs).map (·.2)
 | [],vs,i,he=>by cases vs<;>rfl
 | p::ps,[],i,he=>by cases p<;>rfl
 | p::ps,v::vs,i,he=>by
  simp only [l9,aB] at he;have ih:=Jq (st:=st) ps vs (i+1) he.2;cases p with
  | jH t ms=>simp [PK.jU] at he
  | io t=>cases v<;>simp [oP,eu,ih,TO]
  | _=>cases v<;>simp [oP,eu,ih]
theorem DR {st:St} : ∀ (t:Ty) (cs:List ah) (x:t.T) (r:List ah),dT st t cs=some (x,r)→t.size≤cs.length∧r=cs.drop t.size
 | .int k,cs,x,r,e=>by
  cases cs with
  | nil=>simp [dT] at e
  | cons c cs=>
   cases c<;>simp only [dT] at e<;>try grind
   split at e
   ·have e2:=congrArg q8 (aZ e);exact ⟨by simp [Ty.size],by simpa [Ty.size] using e2.symm⟩
   grind
 | .bool,cs,x,r,e=>by
  cases cs with
  | nil=>simp [dT] at e
  | cons c cs=>
   cases c<;>simp only [dT] at e<;>try grind
   have e2:=congrArg q8 (aZ e);exact ⟨by simp [Ty.size],by simpa [Ty.size] using e2.symm⟩
 | .str,cs,x,r,e=>by
  cases cs with
  | nil=>simp [dT] at e
  | cons c cs=>
   cases c<;>simp only [dT] at e<;>try grind
   have e2:=congrArg q8 (aZ e);exact ⟨by simp [Ty.size],by simpa [Ty.size] using e2.symm⟩
 | .err,cs,x,r,e=>by
  cases cs with
  | nil=>simp [dT] at e
  | cons c cs=>
   cases c<;>simp only [dT] at e<;>try grind
   have e2:=congrArg q8 (aZ e);exact ⟨by simp [Ty.size],by simpa [Ty.size] using e2.symm⟩
 | .bW t,cs,x,r,e=>by simp [dT] at e
 | .pair a b,cs,x,r,e=>by
  replace e:(match dT st a cs with
   | some (x,r)=>(match dT st b r with | some (y,r)=>some ((x,y),r) | none=>none)
   | none=>none)=some (x,r):=e
  split at e
  ·rename_i y r1 e1;split at e
   ·rename_i z r2 e2;obtain ⟨h1,rfl⟩:=DR a cs y r1 e1;obtain ⟨h2,rfl⟩:=DR b _ z r2 e2;have e3:=congrArg q8 (aZ e);simp only at e3;subst e3;simp only [pH] at h2;exact ⟨by simp only [Ty.size]; omega,by simp [Ty.size,List.drop_drop]⟩
   grind
  grind
 | .sl t,cs,x,r,e=>by
  cases cs with
  | nil=>exact absurd (show none=some _ from e) (by simp)
  | cons c cs=>
   cases c with
   | own id ver p u=>
    cases p with
    | cons a p=>exact absurd (show none=some _ from e) (by simp)
    | nil=>
     replace e:(match st.obj id with
      | some (.row true u _ xs)=>(match Ty.cast (.sl u) (.sl t) xs with | some ys=>some (ys,cs) | none=>none)
      | _=>none)=some (x,r):=e
     cases ho:st.obj id with
     | none=>grind
     | some ob=>
      rw [ho] at e;cases ob with
      | row own u' vr xs=>
       cases own with
       | false=>grind
       | true=>
        replace e:(match Ty.cast (.sl u') (.sl t) xs with | some ys=>some (ys,cs) | none=>none)=some (x,r):=e;split at e
        ·have e2:=congrArg q8 (aZ e);exact ⟨by simp [Ty.size],by simpa [Ty.size] using e2.symm⟩
        grind
      | _=>grind
   | _=>exact absurd (show none=some _ from e) (by simp)
theorem DS {st sr:St} {t:Ty} {x:t.T} {v:ah} (e:qR st sr (.io t) v=some x):dT st t (pR t v)=some (x,[])∧(pR t v).length=t.size:=by
 replace e:(match dT st t (pR t v) with | some (x,[])=>some x | _=>none)=some x:=e;split at e
 ·rename_i x' h;obtain rfl:=aZ e;obtain ⟨h1,h2⟩:=DR t _ x' [] h;refine ⟨h,?_⟩;have:=congrArg List.length h2
  grind
 grind
theorem Jr {st sr:St} {p:PK} {ps:List PK} {v:ah} {vs:List ah} {x:iS (p::ps)} (e:mS st sr (p::ps) (v::vs)=some x):qR st sr p v=some x.1∧mS st sr ps vs=some x.2:=by
 replace e:(match qR st sr p v with
  | some x=>(match mS st sr ps vs with | some r=>some (x,r) | none=>none)
  | none=>none)=some x:=e
 grind
theorem Nf {st sr:St} : ∀ (ps:List PK) (x:iS ps) (vs:List ah) (i:Nat),ps.all (fun p=>match p with | .io t=>fR t.size 30 | _=>true)=true→mS st sr ps vs=some x→
  ∀ p∈eu i ps vs,i≤p.1 / 1024∧p.1 / 1024<i+ps.length
 | [],x,vs,i,hz,hx,p,h=>by simp [eu] at h
 | q::ps,x,[],i,hz,hx,p,h=>by simp [eu] at h
 | q::ps,x,v::vs,i,hz,hx,p,h=>by
  simp only [l9,aB] at hz;obtain ⟨za,F0⟩:=Jr hx;simp only [eu,eF] at h;rcases h with h | h
  ·cases q with
   | io t=>
    obtain ⟨m,id⟩:=p;obtain ⟨k,ver,pp,u,h1,h2⟩:=(wX _ _ _ _).1 h;have hk:=(eE.1 h1).1;have hl:=(DS za).2;have hs:=gz hz.1
    grind
   | _=>grind
  have:=Nf ps x.2 vs (i+1) hz.2 F0 p h
  grind
theorem Ng {st sr:St} : ∀ (ps:List PK) (x:iS ps) (vs:List ah) (i:Nat),ps.all (fun p=>match p with | .io t=>fR t.size 30 | _=>true)=true→mS st sr ps vs=some x→((eu i ps vs).map (·.1)).Nodup
 | [],x,vs,i,hz,hx=>by simp [eu]
 | q::ps,x,[],i,hz,hx=>by simp [eu]
 | q::ps,x,v::vs,i,hz,hx=>by
  have Mr:=hz;simp only [l9,aB] at hz;obtain ⟨za,F0⟩:=Jr hx;simp only [eu,List.map_append];refine M_.2 ⟨?_,Ng ps x.2 vs (i+1) hz.2 F0,?_⟩
  ·cases q with
   | io t=>exact TP _ _
   | _=>simp
  intro a ha b hb yF;subst yF;have h1:a / 1024=i:=by
   cases q with
   | io t=>
    obtain ⟨⟨m,id⟩,hp,he⟩:=kE.1 ha;obtain ⟨k,ver,pp,u,h1,h2⟩:=(wX _ _ _ _).1 hp;have hk:=(eE.1 h1).1;have hl:=(DS za).2;have hs:=gz hz.1;omega
   | _=>grind
  obtain ⟨p,hp,he⟩:=kE.1 hb;have:=Nf ps x.2 vs (i+1) hz.2 F0 p hp;omega
theorem F1 {α:Type} : ∀ {l:List (Nat×α)},(l.map (·.1)).Nodup→∀ {k:Nat} {v:α},(k,v)∈l→look l k=some v
 | [],_,k,v,h=>by grind
 | (a,b)::l,hn,k,v,h=>by
  simp only [mM,qK] at hn;rw [dQ];rcases gC.1 h with e | e
  ·grind
  rw [if_neg]
  ·exact F1 hn.2 e
  grind
def jj (st:St) (g:Gh) (SH:Bool) (l:List (Nat×Nat)):Gh where
 hd n _ s:=match look l n with | some id=>Fp g id (qZ st id) s | none=>eh
 lab b o:=match g.lab b o with
  | none=>none
  | some (id,p)=>match look (swp l) id with
   | some n=>some (n,p)
   | none=>match SH with | true=>some (19*1024,[]) | false=>none
section
variable {g g1 g':Gh} {w:World} {U U':Nat→Prop} {st sr:St}
theorem Js {SH:Bool} {l:List (Nat×Nat)} {b o:Nat} (h:g.lab b o=none):(jj st g SH l).lab b o=none:=by simp [jj,h]
theorem abM {SH:Bool} {l:List (Nat×Nat)} {b o id i:Nat} {p:Path} (h:g.lab b o=some (id,p)) (hl:look (swp l) id=some i):(jj st g SH l).lab b o=some (i,p):=by simp [jj,h,hl]
theorem F2 {SH:Bool} {l:List (Nat×Nat)} {b o id:Nat} {p:Path} (h:g.lab b o=some (id,p)) (hl:look (swp l) id=none) :
  (jj st g SH l).lab b o=match SH with | true=>some (19*1024,[]) | false=>none:=by simp [jj,h,hl]
theorem Nh {SH:Bool} {l:List (Nat×Nat)} {i id ver:Nat} {s:Path} (hl:look l i=some id):(jj st g SH l).hd i ver s=Fp g id (qZ st id) s:=by simp [jj,hl]
theorem TQ {α:Type} {cs:List α} {n:Nat} (h:([]:List α)=cs.drop n) (h':n≤cs.length):cs.length=n:=by
 have:=congrArg List.length h
 grind
mutual
theorem BV (hO:fA g w U sr) (hL:∀ b o,g.lab b o=none→g1.lab b o=none) (hD:∀ id,sr.obj id≠none→∀ b o p,g.lab b o=some (id,p)→g1.lab b o=none) :
  ∀ (p:PK) (x:p.T) (v:ah) (vx:Value),qR st sr p v=some x→aV g w U v vx→aV g1 w gK (R9 p x) vx
 | .io t,x,v,vx,e,hv=>trivial
 | .jH t ms,x,v,vx,e,hv=>trivial
 | .val t,x,v,vx,e,hv=>by
  have e:(match je sr 50 t (pR t v) with | some (x,[])=>some x | _=>none)=some x:=by cases t<;>exact e
  split at e
  ·rename_i x' hp;obtain rfl:=aZ e;obtain ⟨f,h1,h2⟩:=MX t hv;obtain ⟨h3,h4,h5⟩:=(TB hO hL hD 50).1 t _ x' [] f [] 0 0 h1 hp;exact FN (h2 (TQ h4 h3)) (kq _ _ _ _) (FP (fun _ _ h=>h) t _ _ _ _ _ _ h5)
  grind
 | .fX t,x,v,vx,e,hv=>by
  cases v with
  | gp u x0 j=>
   cases j with
   | succ j=>exact absurd (show none=some x from e) (by simp)
   | zero=>
    have e:Ty.cast u t x0=some x:=e;obtain ⟨he,hh⟩:=cast_eq e;subst he;obtain rfl:=eq_of_heq hh;obtain ⟨b,o,rfl,h⟩:=hv;exact ⟨b,o,rfl,gq (fun b o hl v hv=>⟨hv,hL b o hl⟩) u _ b o h⟩
  | bt id j=>
   have e:(match sr.obj id with
    | some (.cells _ cs)=>(match je sr 50 t ((cs.drop j).take t.size) with | some (x,[])=>some x | _=>none)
    | _=>none)=some x:=e
   split at e
   ·rename_i cs ho;split at e
    ·rename_i x' hp;obtain rfl:=aZ e;obtain ⟨b,o,dN,dr,oT⟩:=yU hO ho;obtain ⟨-,-,b',o',hb,rfl⟩:=hv;rw [dN] at hb;simp only [aN,bS] at hb;obtain ⟨rfl,rfl⟩:=hb;have hV:gB g w U ((cs.drop j).take t.size) (fun k=>w.cell? (ad b (o+j+k))):=by intro k hk;simp only [List.length_take,pH] at hk;obtain ⟨v,h1,h2⟩:=oT (j+k) (by omega);refine ⟨v,(by grind),?_⟩;simp only [List.getElem_take,List.getElem_drop];exact h2
     obtain ⟨h3,h4,h5⟩:=(TB hO hL hD 50).1 t _ x' [] _ [] 0 0 hV hp;have hlen:=TQ h4 h3;simp only [List.length_take,pH] at hlen;refine ⟨b,o+j,rfl,Dq (g:=g) (σ:=cn) t [] 0 0 _ b (o+j) (fun k hk=>?_) h5⟩;rw [cg];exact hD id (by grind) _ _ _ (dr (j+k) (by omega)).1
    grind
   grind
  | fl id ver p tt i j=>
   cases p with
   | cons a p=>exact absurd (show none=some x from e) (by simp)
   | nil=>
    cases j with
    | succ j=>exact absurd (show none=some x from e) (by simp)
    | zero=>
     have e:(match sr.obj id with
      | some (.row _ u _ xs)=>(match Ty.beq tt u with | true=>Ty.cast u t (el u xs i) | false=>none)
      | _=>none)=some x:=e
     split at e
     ·rename_i u _ xs ho;split at e
      ·rename_i hb;obtain rfl:=Ty.eq_of_beq hb;obtain ⟨he,hh⟩:=cast_eq e;subst he;obtain rfl:=eq_of_heq hh;obtain ⟨-,-,-,-,qV,hi,b,o,ha,rfl⟩:=hv;obtain rfl:=qV rfl;obtain ⟨-,-,-,r1,r2,r3,r4⟩:=hO id _ ho;obtain ⟨r5,r6⟩:=r4 b o ha;have gU:i<xs.length:=by omega
       refine ⟨b,o+i*tt.size,rfl,?_⟩;rw [wD gU];refine BA hL (hD id (by grind)) tt [] i 0 _ b _ (fun d hd=>?_) (r6 i gU);have hle:(i+1)*tt.size≤(g.hd id 0 []).cap*tt.size:=fk _ (by omega);rw [Nat.add_mul] at hle;obtain ⟨a1,-,-⟩:=r5 (i*tt.size+d) (by omega)
       grind
      grind
     grind
  | _=>exact absurd (show none=some x from e) (by simp)
 | .jI f caps,x,v,vx,e,hv=>by
  cases v with
  | fn f' vs=>
   replace e:(match aT f f' with | true=>mS st sr caps vs | false=>none)=some x:=e;split at e
   ·rename_i hb;obtain rfl:=bB hb;obtain ⟨l,rfl,hl⟩:=hv;exact ⟨l,rfl,TR hO hL hD caps x vs l e hl⟩
   grind
  | _=>exact absurd (show none=some x from e) (by simp)
theorem TR (hO:fA g w U sr) (hL:∀ b o,g.lab b o=none→g1.lab b o=none) (hD:∀ id,sr.obj id≠none→∀ b o p,g.lab b o=some (id,p)→g1.lab b o=none) :
  ∀ (ps:List PK) (x:iS ps) (vs:List ah) (l:List Value),mS st sr ps vs=some x→cz g w U vs l→cz g1 w gK (Ip ps x) l
 | [],x,vs,l,e,hv=>by
  cases vs with
  | nil=>exact hv
  | cons v vs=>exact absurd (show none=some x from e) (by simp)
 | p::ps,x,vs,l,e,hv=>by
  cases vs with
  | nil=>exact absurd (show none=some x from e) (by simp)
  | cons v vs=>
   have e:(match qR st sr p v with
    | some x=>(match mS st sr ps vs with | some r=>some (x,r) | none=>none)
    | none=>none)=some x:=e
   split at e
   ·rename_i x1 e1;split at e
    ·rename_i r1 e2;obtain rfl:=aZ e;obtain ⟨a,b,rfl,ha,hb⟩:=hv;exact ⟨a,b,rfl,BV hO hL hD p x1 v a e1 ha,TR hO hL hD ps r1 vs b e2 hb⟩
    grind
   grind
end
theorem Ni {SH:Bool} {l:List (Nat×Nat)} {base:Nat} (hb:∀ j,j<32→gK ((base+j) / 1024)) (hO:fA g w U st) (hL:∀ b o,g.lab b o=none→(jj st g SH l).lab b o=none) :
  ∀ (t:Ty) (j:Nat) (cs:List ah) (x:t.T) (r:List ah) (f:Nat→Option Value),j+t.size≤32→dT st t cs=some (x,r)→gB g w U cs f→
   (∀ k id ver p u,k<t.size→cs[k]? = some (.own id ver p u)→look l (base+j+k)=some id∧look (swp l) id=some (base+j+k))→
   gB (jj st g SH l) w gK (flat (wq base) t x j) f∧∀ id o,look (fV base 0 t x j) id=some (some o)→fy (jj st g SH l) w gK id o
 | .int k,j,cs,x,r,f,hj,e,hv,hl=>by
  cases cs with
  | nil=>simp [dT] at e
  | cons c cs=>
   obtain ⟨v,h1,h2⟩:=hv.head;cases c<;>simp only [dT] at e<;>try grind
   split at e
   ·rename_i hk;obtain rfl:=pQ hk;have e1:=congrArg rY (aZ e);simp only at e1;subst e1;refine ⟨fun k hk=>?_,fun id o h=>by simp [fV,look] at h⟩;have:k=0:=by simpa [flat] using hk
    subst this;exact ⟨v,h1,h2⟩
   grind
 | .bool,j,cs,x,r,f,hj,e,hv,hl=>by
  cases cs with
  | nil=>simp [dT] at e
  | cons c cs=>
   obtain ⟨v,h1,h2⟩:=hv.head;cases c<;>simp only [dT] at e<;>try grind
   have e1:=congrArg rY (aZ e);simp only at e1;subst e1;refine ⟨fun k hk=>?_,fun id o h=>by simp [fV,look] at h⟩;have:k=0:=by simpa [flat] using hk
   subst this;exact ⟨v,h1,h2⟩
 | .str,j,cs,x,r,f,hj,e,hv,hl=>by
  cases cs with
  | nil=>simp [dT] at e
  | cons c cs=>
   obtain ⟨v,h1,h2⟩:=hv.head;cases c<;>simp only [dT] at e<;>try grind
   have e1:=congrArg rY (aZ e);simp only at e1;subst e1;refine ⟨fun k hk=>?_,fun id o h=>by simp [fV,look] at h⟩;have:k=0:=by simpa [flat] using hk
   subst this;exact ⟨v,h1,h2⟩
 | .err,j,cs,x,r,f,hj,e,hv,hl=>by
  cases cs with
  | nil=>simp [dT] at e
  | cons c cs=>
   obtain ⟨v,h1,h2⟩:=hv.head;cases c<;>simp only [dT] at e<;>try grind
   have e1:=congrArg rY (aZ e);simp only at e1;subst e1;refine ⟨fun k hk=>?_,fun id o h=>by simp [fV,look] at h⟩;have:k=0:=by simpa [flat] using hk
   subst this;exact ⟨v,h1,h2⟩
 | .bW t,j,cs,x,r,f,hj,e,hv,hl=>by simp [dT] at e
 | .pair a b,j,cs,x,r,f,hj,e,hv,hl=>by
  simp only [Ty.size] at hj;replace e:(match dT st a cs with
   | some (x,r)=>(match dT st b r with | some (y,r)=>some ((x,y),r) | none=>none)
   | none=>none)=some (x,r):=e
  split at e
  ·rename_i y r1 e1;split at e
   ·rename_i z r2 e2;have e3:=congrArg rY (aZ e);simp only at e3;subst e3;obtain ⟨d1,rfl⟩:=DR a cs y r1 e1;obtain ⟨a1,a2⟩:=Ni hb hO hL a j cs y _ f (by omega) e1 hv (fun k id ver p u hk h=>hl k id ver p u (by simp only [Ty.size]; omega) h);obtain ⟨b1,b2⟩:=Ni hb hO hL b (j+a.size) _ z r2 _ (by omega) e2 (hv.drop a.size) (fun k id ver p u hk h=>by
     have:=hl (a.size+k) id ver p u (by simp only [Ty.size]; omega) (by rw [FV] at h; exact h)
     grind)
    refine ⟨gB.app a1 (by rw [kq]; exact b1),fun id o h=>?_⟩;replace h:look (fV base 0 a y j++fV base 0 b z (j+a.size)) id=some (some o):=h;rw [iU] at h
    grind
   grind
  grind
 | .sl t,j,cs,x,r,f,hj,e,hv,hl=>by
  simp only [Ty.size] at hj;cases cs with
  | nil=>exact absurd (show none=some _ from e) (by simp)
  | cons c cs=>
   obtain ⟨v,h1,h2⟩:=hv.head;cases c with
   | own id ver p u=>
    cases p with
    | cons a p=>exact absurd (show none=some _ from e) (by simp)
    | nil=>
     replace e:(match st.obj id with
      | some (.row true u _ xs)=>(match Ty.cast (.sl u) (.sl t) xs with | some ys=>some (ys,cs) | none=>none)
      | _=>none)=some (x,r):=e
     cases ho:st.obj id with
     | none=>grind
     | some ob=>
      rw [ho] at e;cases ob with
      | row own u' vr xs=>
       cases own with
       | false=>grind
       | true=>
        replace e:(match Ty.cast (.sl u') (.sl t) xs with | some ys=>some (ys,cs) | none=>none)=some (x,r):=e;split at e
        ·rename_i ys hc;have e1:ys=x:=congrArg rY (aZ e);subst e1;obtain ⟨rfl,hh⟩:=nO hc;obtain rfl:=eq_of_heq hh;obtain ⟨l1,l2⟩:=hl 0 id ver [] u (by simp [Ty.size]) rfl;rw [eG] at l1 l2;obtain ⟨-,-,-,-,qV,rfl⟩:=h2;obtain rfl:=qV rfl;have TS:∀ ver,(jj st g SH l).hd (base+j) ver []=g.hd id 0 []:=fun ver=>by rw [Nh l1]; rfl
         refine ⟨fun k hk=>?_,fun aE o h=>?_⟩
         ·have:k=0:=by simpa [flat] using hk
          subst this;exact ⟨_,h1,hb j (by omega),by show (0:Nat)<20; omega,by show (0:Nat)<20; omega,trivial,fun _=>rfl,by rw [TS]⟩
         replace h:look [(base+j,some (dL.row true u' 0 xs))] aE=some (some o):=h;rw [dQ] at h;split at h
         ·rename_i h';subst h';simp only [aN] at h;subst h;obtain ⟨-,-,-,hR⟩:=hO id _ ho;refine ⟨by show (0:Nat)<20; omega,by show (0:Nat)<20; omega,Ja (TS 0) (fun q hq=>?_) (fun b o p BW=>abM BW l2) hL hR⟩;rw [Nh l1];unfold Fp qZ;rw [ho];cases q with
          | nil=>grind
          | cons=>rfl
         simp [look] at h
        grind
      | _=>grind
   | _=>exact absurd (show none=some _ from e) (by simp)
theorem TT {SH:Bool} {l:List (Nat×Nat)} (hO:fA g w U st) (hOr:fA g w U sr) (hL:∀ b o,g.lab b o=none→(jj st g SH l).lab b o=none)
  (hD:∀ id,sr.obj id≠none→∀ b o p,g.lab b o=some (id,p)→(jj st g SH l).lab b o=none) :
  ∀ (ps:List PK) (i:Nat) (x:iS ps) (vs:List ah) (bG:List Value),ps.all PK.jU=true→ps.all (fun p=>match p with | .io t=>fR t.size 30 | _=>true)=true→i+ps.length≤15→mS st sr ps vs=some x→cz g w U vs bG→
   (∀ p∈eu i ps vs,look l p.1=some p.2∧look (swp l) p.2=some p.1)→
   cz (jj st g SH l) w gK ((entry i ps x).1.map (·.2)) bG∧∀ id o,look (entry i ps x).2 id=some (some o)→fy (jj st g SH l) w gK id o
 | [],i,x,vs,bG,he,hz,hi,e,hv,hl=>by
  cases vs with
  | nil=>exact ⟨hv,fun id o h=>by simp [entry,look] at h⟩
  | cons v vs=>exact absurd (show none=some x from e) (by simp)
 | p::ps,i,x,vs,bG,he,hz,hi,e,hv,hl=>by
  simp only [l9,aB] at he hz;simp only [bh] at hi;cases vs with
  | nil=>exact absurd (show none=some x from e) (by simp)
  | cons v vs=>
   have e:(match qR st sr p v with
    | some x=>(match mS st sr ps vs with | some r=>some (x,r) | none=>none)
    | none=>none)=some x:=e
   split at e
   ·rename_i x1 e1;split at e
    ·rename_i r1 e2;obtain rfl:=aZ e;obtain ⟨a,b,rfl,ha,hb⟩:=hv;obtain ⟨i1,i2⟩:=TT hO hOr hL hD ps (i+1) r1 vs b he.2 hz.2 (by omega) e2 hb (fun q hq=>hl q (by simp only [eu,eF]; exact .inr hq));have jU:aV (jj st g SH l) w gK (wc i p x1).1 a∧∀ id o,look (wc i p x1).2 id=some (some o)→fy (jj st g SH l) w gK id o:=by
      cases p with
      | val t=>exact ⟨BV hOr hL hD (.val t) x1 v a e1 ha,fun id o h=>by simp [wc,look] at h⟩
      | fX t=>exact ⟨BV hOr hL hD (.fX t) x1 v a e1 ha,fun id o h=>by simp [wc,look] at h⟩
      | jI f caps=>exact ⟨BV hOr hL hD (.jI f caps) x1 v a e1 ha,fun id o h=>by simp [wc,look] at h⟩
      | jH t ms=>simp [PK.jU] at he
      | io t=>
       obtain ⟨d1,d2⟩:=DS e1;have bF:=gz hz.1;obtain ⟨f,f1,f2⟩:=MX t ha;obtain ⟨k1,k2⟩:=Ni (SH:=SH) (l:=l) (base:=i*1024) (fun j hj=>by show (i*1024+j) / 1024<20; omega) hO hL t 0 _ x1 [] f (by omega) d1 f1 (fun k id ver p u hk h=>by
        have:=hl (i*1024+k,id) (by simp only [eu,eF];exact .inl ((wX _ _ _ _).2 ⟨k,ver,p,u,h,rfl⟩))
        grind)
       exact ⟨FN (f2 d2) (kq _ _ _ _) k1,k2⟩
     refine ⟨⟨a,b,rfl,jU.1,i1⟩,fun id o h=>?_⟩;replace h:look ((wc i p x1).2++(entry (i+1) ps r1).2) id=some (some o):=h;rw [iU] at h
     grind
    grind
   grind
end
end Go.Am
namespace Go.Am
open Go
section
variable {g g1 g':Gh} {w:World} {U U':Nat→Prop} {st sr:St}
theorem Jt {id aE vr CK:Nat} (dN:∀ q,q≠[]→g'.hd aE CK q=g.hd id vr q) (dr:∀ b o p,g.lab b o=some (id,p)→g'.lab b o=some (aE,p)) :
  ∀ (t:Ty) (sk:Nat→Nat→Bool) (p:Path) (i j:Nat) (x:t.T) (b o:Nat),t.jJ=true→dO g w true id vr t sk p i j x b o→dO g' w true aE CK t sk p i j x b o
 | .int _,_,_,_,_,_,_,_,_,h=>h
 | .bool,_,_,_,_,_,_,_,_,h=>h
 | .str,_,_,_,_,_,_,_,_,h=>h
 | .err,_,_,_,_,_,_,_,_,h=>h
 | .bW t,_,_,_,_,_,_,_,hn,h=>by simp [Ty.jJ] at hn
 | .pair s t,sk,p,i,j,x,b,o,hn,h=>by simp only [Ty.jJ,aB] at hn;exact ⟨Jt dN dr s sk p i j x.1 b o hn.1 h.1,Jt dN dr t sk p i (j+s.size) x.2 b (o+s.size) hn.2 h.2⟩
 | .sl t,sk,p,i,j,xs,b,o,hn,h=>by
  rcases h with h | ⟨h1,h2⟩
  ·exact .inl h
  refine .inr ⟨?_,?_⟩
  ·simp_all
  rw [dN _ (by simp)];obtain ⟨r1,r2,r3,r4⟩:=h2;refine ⟨r1,r2,r3,fun b o hb=>?_⟩;obtain ⟨r5,r6⟩:=r4 b o hb;exact ⟨fun k hk=>⟨dr _ _ _ (r5 k hk).1,(r5 k hk).2⟩,fun k hk=>Jt dN dr t _ _ k 0 _ b _ hn (r6 k hk)⟩
theorem Nj {id aE vr CK:Nat} {t:Ty} {xs:List t.T} (h0:g'.hd aE 0 []=g.hd id 0 []) (dN:∀ q,q≠[]→g'.hd aE CK q=g.hd id vr q)
  (dr:∀ b o p,g.lab b o=some (id,p)→g'.lab b o=some (aE,p)) (hn:t.jJ=true) (h:eZ g w true id 0 vr t de [] xs):eZ g' w true aE 0 CK t de [] xs:=by
 unfold eZ at h ⊢;rw [h0];obtain ⟨r1,r2,r3,r4⟩:=h;refine ⟨r1,r2,r3,fun b o hb=>?_⟩;obtain ⟨r5,r6⟩:=r4 b o hb;exact ⟨fun k hk=>⟨dr _ _ _ (r5 k hk).1,(r5 k hk).2⟩,fun k hk=>Jt dN dr t _ _ k 0 _ b _ hn (r6 k hk)⟩
def zj (site:Nat):ah→Bool
 | .int _ _ | .bool _ | .str _ | .err _=>true
 | .own id ver [] _=>aT ver 0&&aT (id / 1024) site
 | _=>false
theorem TU {site:Nat} (h0:U' 0) (hs:U' site) (dN:∀ id,id / 1024=site→g'.hd id 0 []=g.hd id 0 []) {v:ah} {x:Value} (hv:zj site v=true) (h:aV g w U v x):aV g' w U' v x:=by
 cases v<;>try (simp [zj] at hv; done)
 ·exact h
 ·exact h
 ·exact h
 ·exact h
 rename_i id _ p _;cases p with
 | cons a p=>simp [zj] at hv
 | nil=>
  simp only [zj,aB,td] at hv;obtain ⟨rfl,rfl⟩:=hv;obtain ⟨-,-,-,-,-,rfl⟩:=h;exact ⟨hs,h0,h0,trivial,fun _=>rfl,by grind⟩
theorem Nk {base site:Nat} (hb:∀ j,j<32→(base+j) / 1024=site):∀ (t:Ty) (x:t.T) (j:Nat),t.jJ=true→j+t.size≤32→∀ v∈flat (wq base) t x j,zj site v=true
 | .int _,_,_,_,_,v,h=>by simp [flat] at h; subst h; rfl
 | .bool,_,_,_,_,v,h=>by simp [flat] at h; subst h; rfl
 | .str,_,_,_,_,v,h=>by simp [flat] at h; subst h; rfl
 | .err,_,_,_,_,v,h=>by simp [flat] at h; subst h; rfl
 | .bW _,_,_,hn,_,v,h=>by simp [Ty.jJ] at hn
 | .sl u,xs,j,hn,hj,v,h=>by simp only [flat,List.mem_singleton] at h;subst h;simp only [Ty.size] at hj;simp [wq,zj,hb j (by omega)]
 | .pair s t,x,j,hn,hj,v,h=>by
  simp only [Ty.jJ,aB] at hn;simp only [Ty.size] at hj;have:=s.size_pos;have:=t.size_pos;simp only [flat,eF] at h;rcases h with h | h
  ·exact Nk hb s x.1 j hn.1 (by omega) v h
  exact Nk hb t x.2 (j+s.size) hn.2 (by omega) v h
theorem TV {site:Nat} (h0:U' 0) (hs:U' site) (dN:∀ id,id / 1024=site→g'.hd id 0 []=g.hd id 0 []):∀ {vs:List ah} {l:List Value},(∀ v∈vs,zj site v=true)→cz g w U vs l→cz g' w U' vs l
 | [],_,_,h=>h
 | v::vs,_,hv,⟨x,r,e,a,b⟩=>⟨x,r,e,TU h0 hs dN (hv v (by simp)) a,TV h0 hs dN (fun v h=>hv v (by simp [h])) b⟩
theorem abN {site:Nat} (h0:U' 0) (hs:U' site) (dN:∀ id,id / 1024=site→g'.hd id 0 []=g.hd id 0 []) {t:Ty} {cs:List ah} (hc:∀ v∈cs,zj site v=true) {x:Value}
  (h:aV g w U (shut t cs) x):aV g' w U' (shut t cs) x:=by
 cases t with
 | pair a b=>
  obtain ⟨l,rfl,hl⟩:=h;exact ⟨l,rfl,TV h0 hs dN hc hl⟩
 | _=>
  match cs,hc,h with
  | [],_,_=>trivial
  | [v],hc,h=>exact TU h0 hs dN (hc v (by simp)) h
  | _::_::_,_,_=>trivial
theorem Nl:∀ (t:Ty) (x:t.T) (j:Nat),∀ id,id∉ah.ids.iz (flat mO t x j)
 | .int _,_,_,id=>by simp [flat,ah.ids.iz,ah.ids]
 | .bool,_,_,id=>by simp [flat,ah.ids.iz,ah.ids]
 | .str,_,_,id=>by simp [flat,ah.ids.iz,ah.ids]
 | .err,_,_,id=>by simp [flat,ah.ids.iz,ah.ids]
 | .bW _,_,_,id=>by simp [flat,ah.ids.iz,ah.ids]
 | .sl _,_,_,id=>by simp [flat,mO,ah.ids.iz,ah.ids]
 | .pair s t,x,j,id=>by
  intro h;have app:∀ (l m:List ah),ah.ids.iz (l++m)=ah.ids.iz l++ah.ids.iz m:=by
   intro l m;induction l with
   | nil=>simp [ah.ids.iz]
   | cons a l ih=>simp [ah.ids.iz,ih]
  rw [flat,app,eF] at h;rcases h with h | h
  ·exact Nl s x.1 j id h
  exact Nl t x.2 _ id h
theorem abO {t:Ty} {cs:List ah} : ∀ id∈(shut t cs).ids,id∈ah.ids.iz cs:=by
 intro id h;cases t with
 | pair a b=>exact h
 | _=>
  match cs,h with
  | [],h=>exact absurd (show id∈[] from h) (by simp)
  | [v],h=>exact lH _ h
  | _::_::_,h=>exact absurd (show id∈[] from h) (by simp)
theorem abP (hU:∀ s,U s→U' s) (ji:∀ b o,g.lab b o=none→g'.lab b o=none) {v:ah} {x:Value} (hv:∀ id,id∉v.ids) (h:aV g w U v x):aV g' w U' v x:=
 Je hU ji v (fun id hid=>absurd hid (hv id)) x x h h
theorem TW {site:Nat} (h0:U' 0) (hs:U' site) (hU:∀ s,U s→U' s) (dN:∀ id ver p,id / 1024=site→g'.hd id ver p=g.hd id ver p)
  (dr:∀ b o id p,g.lab b o=some (id,p)→id / 1024=site→g'.lab b o=some (id,p)) :
  ∀ (rs:List RK) (q:Nat) (os:List Ty) (z:cj (RK.bm rs++os)) (bG:List Value),rs.all RK.jU=true→rs.all (fun r=>match r with | .val t=>t.jJ | _=>true)=true→
   rs.all (fun r=>fR r.ty.size 30)=true→q % 32=0→q+32*rs.length≤480→(rs.any wu=true→∀ b o,g.lab b o=none→g'.lab b o=none)→
   (cz g w U (gA site q rs os z).1 bG→cz g' w U' (gA site q rs os z).1 bG)∧
   ∀ id oo,look (gA site q rs os z).2.1 id=some oo→id / 1024=site∧∃ ob,oo=some ob∧(fy g w U id ob→fy g' w U' id ob)
 | [],q,os,z,bG,he,hn,hz,hq,hl,ji=>⟨fun h=>h,fun id oo h=>by simp [gA,look] at h⟩
 | r::rs,q,os,z,bG,he,hn,hz,hq,hl,ji=>by
  simp only [l9,aB] at he hn hz;simp only [bh] at hl;have bF:=gz hz.1;have ih:=fun bG=>TW h0 hs hU dN dr rs (q+32) os z.2 bG he.2 hn.2 hz.2 (by omega) (by omega) (fun h=>ji (by simp [h]));have one:(∀ v,aV g w U (sZ site q r z.1).1 v→aV g' w U' (sZ site q r z.1).1 v)∧
    ∀ id oo,look (sZ site q r z.1).2 id=some oo→id / 1024=site∧∃ ob,oo=some ob∧(fy g w U id ob→fy g' w U' id ob):=by
   cases r with
   | val t=>
    have bF:t.size≤30:=bF;refine ⟨fun v h=>abN h0 hs (fun id hid=>dN id 0 [] hid) (Nk (fun j hj=>by omega) t z.1 0 hn.1 (by omega)) h,fun id oo h=>?_⟩;obtain ⟨u,xs,k,rfl,h2,h3,h4,rfl⟩:=Jp t z.1 0 id oo h;have hdiv:(site*1024+q+k) / 1024=site:=by omega
    refine ⟨hdiv,_,rfl,fun hO=>⟨h0,hs,Nj (dN _ _ _ hdiv) (fun q _=>dN _ _ _ hdiv) (fun b o p hb=>dr _ _ _ _ hb hdiv) (h2 hn.1) hO.2.2⟩⟩
   | sh t=>
    refine ⟨fun v h=>abP hU (ji (by simp [wu])) (fun id hid=>Nl t z.1 0 id (abO id hid)) h,fun id oo h=>by simp [sZ,look] at h⟩
   | ptr t ms=>simp [RK.jU] at he
  refine ⟨fun h=>?_,fun id oo h=>?_⟩
  ·obtain ⟨x,r',e,a,b⟩:=h;exact ⟨x,r',e,one.1 x a,(ih r').1 b⟩
  replace h:look ((sZ site q r z.1).2++(gA site (q+32) rs os z.2).2.1) id=some oo:=h;rw [iU] at h;cases rR:look (sZ site q r z.1).2 id with
  | some y=>
   grind
  | none=>
   rw [rR] at h;exact (ih []).2 id oo h
def wY (g:Gh) (w:World) (V:Nat→Nat) (base:Nat):(t:Ty)→Nat→{os:List Ty}→cj (t.gY os)→(cj os→Prop)→Prop
 | .pair a b,j,os,y,K=>wY g w V base a j (os:=b.gY os) y (fun y=>wY g w V base b (j+a.size) (os:=os) y K)
 | .sl u,j,_,y,K=>eZ g w true (base+j) 0 (V (base+j)) u de [] y.1∧K y.2
 | .int _,_,_,y,K=>K y
 | .bool,_,_,y,K=>K y
 | .str,_,_,y,K=>K y
 | .err,_,_,y,K=>K y
 | .bW _,_,_,y,K=>K y
theorem Ju {V V':Nat→Nat} {base:Nat} : ∀ (t:Ty) (j:Nat) {os:List Ty} (y:cj (t.gY os)) {K K':cj os→Prop},(∀ m,base+j≤m→V' m=V m)→(∀ y,K y→K' y)→wY g w V base t j y K→wY g w V' base t j y K'
 | .pair a b,j,os,y,K,K',h,hK,h'=>Ju a j (os:=b.gY os) y h (fun y hy=>Ju b (j+a.size) (os:=os) y (fun m hm=>h m (by omega)) hK hy) h'
 | .sl u,j,_,y,K,K',h,hK,⟨h1,h2⟩=>⟨by grind,hK _ h2⟩
 | .int _,_,_,y,K,K',h,hK,h'=>hK y h'
 | .bool,_,_,y,K,K',h,hK,h'=>hK y h'
 | .str,_,_,y,K,K',h,hK,h'=>hK y h'
 | .err,_,_,y,K,K',h,hK,h'=>hK y h'
 | .bW _,_,_,y,K,K',h,hK,h'=>hK y h'
theorem Nn {base:Nat} : ∀ (t:Ty) (j:Nat) {os:List Ty} (y:cj (t.gY os)) {K:cj os→Prop} {KV:(Nat→Nat)→cj os→Prop},FQ g w base t j y K→(∀ y,K y→∃ V,KV V y)→
  (∀ V V' y,(∀ m,base+j+t.size≤m→V' m=V m)→KV V y→KV V' y)→∃ V,wY g w V base t j y (KV V)
 | .pair a b,j,os,y,K,KV,h,hK,hc=>by have hs:=a.size_pos;have Jv:=b.size_pos;refine Nn a j (os:=b.gY os) y (KV:=fun V y=>wY g w V base b (j+a.size) (os:=os) y (KV V)) h (fun y hy=>Nn b (j+a.size) (os:=os) y hy hK (fun V V' y hm hv=>hc V V' y (fun m qM=>hm m (by simp only [Ty.size] at qM; omega)) hv)) (fun V V' y hm hv=>?_);exact Ju b (j+a.size) (os:=os) y (fun m qM=>hm m (by omega)) (fun y hy=>hc V V' y (fun m qM=>hm m (by simp only [Ty.size] at qM; omega)) hy) hv
 | .sl u,j,_,y,K,KV,⟨⟨v,h1⟩,h2⟩,hK,hc=>by obtain ⟨V,h3⟩:=hK _ h2;refine ⟨fun m=>if m=base+j then v else V m,by grind,hc V _ y.2 (fun m hm=>if_neg (by simp only [Ty.size] at hm; omega)) h3⟩
 | .int _,_,_,y,K,KV,h,hK,hc=>hK y h
 | .bool,_,_,y,K,KV,h,hK,hc=>hK y h
 | .str,_,_,y,K,KV,h,hK,hc=>hK y h
 | .err,_,_,y,K,KV,h,hK,hc=>hK y h
 | .bW _,_,_,y,K,KV,h,hK,hc=>hK y h
def rZ (g:Gh) (w:World) (V:Nat→Nat):Nat→(ps:List PK)→cj (PK.outs ps)→Prop
 | _,[],_=>True
 | i,.io t::ps,y=>wY g w V (i*1024) t 0 y (fun y=>rZ g w V (i+1) ps y)
 | _,.jH _ _::_,_=>False
 | i,.val _::ps,y=>rZ g w V (i+1) ps y
 | i,.fX _::ps,y=>rZ g w V (i+1) ps y
 | i,.jI _ _::ps,y=>rZ g w V (i+1) ps y
theorem abQ {i m:Nat} (h:(i+1)*1024≤m):i*1024≤m:=Nat.le_trans (fk _ (Nat.le_succ i)) h
theorem abR {V V':Nat→Nat} : ∀ (ps:List PK) (i:Nat) (y:cj (PK.outs ps)),(∀ m,i*1024≤m→V' m=V m)→rZ g w V i ps y→rZ g w V' i ps y:=by
 intro ps;induction ps with
 | nil=>intro i y h h'; trivial
 | cons p ps ih=>
  intro i y h h';have h2:∀ m,(i+1)*1024≤m→V' m=V m:=fun m hm=>h m (abQ hm);cases p with
  | io t=>exact Ju t 0 (os:=PK.outs ps) y (fun m hm=>h m (by grind)) (fun y hy=>ih (i+1) y h2 hy) h'
  | jH t ms=>exact h'
  | val t=>exact ih (i+1) y h2 h'
  | fX t=>exact ih (i+1) y h2 h'
  | jI f caps=>exact ih (i+1) y h2 h'
theorem abS:∀ (ps:List PK) (i:Nat) (y:cj (PK.outs ps)),ps.all (fun p=>match p with | .io t=>fR t.size 30 | _=>true)=true→zf g w i ps y→∃ V,rZ g w V i ps y:=by
 intro ps;induction ps with
 | nil=>intro i y hz h; exact ⟨fun _=>0,trivial⟩
 | cons p ps ih=>
  intro i y hz h;simp only [l9,aB] at hz;cases p with
  | io t=>
   have hs:=gz hz.1;exact Nn t 0 (os:=PK.outs ps) y (KV:=fun V y=>rZ g w V (i+1) ps y) h (fun y hy=>ih (i+1) y hz.2 hy)
    (fun V V' y hm hv=>abR ps (i+1) y (fun m qM=>hm m (by grind)) hv)
  | jH t ms=>exact h.elim
  | val t=>exact ih (i+1) y hz.2 h
  | fX t=>exact ih (i+1) y hz.2 h
  | jI f caps=>exact ih (i+1) y hz.2 h
theorem F3:∀ t:Ty,t.beq t=true
 | .int k=>by cases k<;>rfl
 | .bool | .str | .err=>rfl
 | .pair a b=>by simp [Ty.beq,F3 a,F3 b]
 | .sl t=>by simp [Ty.beq,F3 t]
 | .bW t=>by simp [Ty.beq,F3 t]
theorem Jw {p:Ty→Bool} : ∀ (t:Ty) (os:List Ty),(t.gY os).all p=true→os.all p=true
 | .pair a b,os,h=>Jw b os (Jw a _ h)
 | .sl u,os,h=>by
  replace h:(Ty.sl u::os).all p=true:=h
  grind
 | .int _,os,h=>h
 | .bool,os,h=>h
 | .str,os,h=>h
 | .err,os,h=>h
 | .bW _,os,h=>h
theorem Jx {n:Nat} {cs:List ah} {os:List Ty} {y:cj os} {o:List (Nat×Option dL)} {eo:List ah} {y':cj os} {K:cj os→Prop} {P:Nat→Option dL→Prop} {st:St} (hn:n=1)
  (tc:∀ id ver p u,cs[0]?≠some (.own id ver p u)) (ho:some ([],cs.tail,y)=some (o,eo,y')) (hV:K y) :
  eo=cs.drop n∧K y'∧(∀ id oo,look o id=some oo→P id oo)∧(∀ k id ver p u,k<n→cs[k]? = some (.own id ver p u)→(look o id).isSome=true∧st.obj id≠none):=by
 have ho:=aZ ho;have f1:([]:List (Nat×Option dL))=o:=congrArg (fun p=>p.1) ho;have f2:cs.tail=eo:=congrArg (fun p=>p.2.1) ho;have f3:y=y':=congrArg (fun p=>p.2.2) ho;subst f1; subst f2; subst f3;subst hn;refine ⟨by simp,hV,fun id oo h=>by simp [look] at h,fun k id ver p u hk h=>?_⟩
 grind
theorem No {site:Nat} {l:List (Nat×Nat)} {V:Nat→Nat} (h0:U' 0) (hs:U' site) (DT:∀ s,U s→U' s)
  (p6:∀ n id,look l n=some id→g'.hd id 0 []=g.hd n 0 []) (DU:∀ n id q,look l n=some id→g'.hd id site q=g.hd n (V n) q)
  (dr:∀ n id b o p,look l n=some id→g.lab b o=some (n,p)→g'.lab b o=some (id,p)) {base:Nat} :
  ∀ (t:Ty) (j:Nat) (cs:List ah) (x:t.T) (r:List ah) {os:List Ty} (y:cj (t.gY os)) (o:List (Nat×Option dL)) (eo:List ah) (y':cj os) (K:cj os→Prop),
   (t.gY os).all Ty.jJ=true→dT st t cs=some (x,r)→Bk st site t cs y=some (o,eo,y')→
   (∀ k id ver p u,k<t.size→cs[k]? = some (.own id ver p u)→look l (base+j+k)=some id)→wY g w V base t j y K→
   eo=cs.drop t.size∧K y'∧
   (∀ id oo,look o id=some oo→st.obj id≠none∧(∃ k ver p u,k<t.size∧cs[k]? = some (.own id ver p u))∧∃ ob,oo=some ob∧∀ w1,fA g1 w1 U st→U' (id / 1024)∧fy g' w U' id ob)∧
   (∀ k id ver p u,k<t.size→cs[k]? = some (.own id ver p u)→(look o id).isSome=true∧st.obj id≠none)
 | .pair a b,j,cs,x,r,os,y,o,eo,y',K,hn,hd,ho,hl,hV=>by
  replace hd:(match dT st a cs with
   | some (x,r)=>(match dT st b r with | some (y,r)=>some ((x,y),r) | none=>none)
   | none=>none)=some (x,r):=hd
  replace ho:(match Bk st site a cs (os:=b.gY os) y with
   | some (o,cs,y)=>(match Bk st site b cs (os:=os) y with | some (p,cs,y)=>some (o++p,cs,y) | none=>none)
   | none=>none)=some (o,eo,y'):=ho
  split at hd
  ·rename_i xa r1 d1;split at hd
   ·rename_i xb _ d2;split at ho
    ·rename_i o1 c1 y1 e1;split at ho
     ·rename_i o2 c2 y2 e2;have ho:=aZ ho;have f1:o1++o2=o:=congrArg (fun p=>p.1) ho;have f2:c2=eo:=congrArg (fun p=>p.2.1) ho;have f3:y2=y':=congrArg (fun p=>p.2.2) ho;subst f1; subst f2; subst f3;obtain ⟨-,rfl⟩:=DR a cs xa r1 d1;obtain ⟨a1,a2,a3,a4⟩:=No h0 hs DT p6 DU dr a j cs xa _ y o1 c1 y1 (fun y=>wY g w V base b (j+a.size) (os:=os) y K) hn d1 e1 (fun k id ver p u hk h=>hl k id ver p u (by simp only [Ty.size]; omega) h) hV;subst a1;obtain ⟨b1,b2,b3,b4⟩:=No h0 hs DT p6 DU dr b (j+a.size) _ xb _ y1 o2 c2 y2 K (Jw a _ hn) d2 e2 (fun k id ver p u hk h=>by
       have:=hl (a.size+k) id ver p u (by simp only [Ty.size]; omega) (by grind)
       grind) a2
      refine ⟨by rw [b1,List.drop_drop]; rfl,b2,fun id oo h=>?_,fun k id ver p u hk h=>?_⟩
      ·rw [iU] at h;cases hq:look o1 id with
       | some q=>
        rw [hq] at h;simp only [aN] at h;subst h;obtain ⟨c1,⟨k,ver,p,u,hk,hc⟩,c3⟩:=a3 id _ hq;exact ⟨c1,⟨k,ver,p,u,by simp only [Ty.size]; omega,hc⟩,c3⟩
       | none=>
        rw [hq] at h;obtain ⟨c1,⟨k,ver,p,u,hk,hc⟩,c3⟩:=b3 id _ h;exact ⟨c1,⟨a.size+k,ver,p,u,by simp only [Ty.size]; omega,by grind⟩,c3⟩
      simp only [Ty.size] at hk;rw [iU];by_cases RD:k<a.size
      ·grind
      obtain ⟨c1,c2⟩:=b4 (k-a.size) id ver p u (by omega) (by grind)
      grind
     grind
    grind
   grind
  grind
 | .sl t,j,cs,x,r,os,y,o,eo,y',K,hn,hd,ho,hl,⟨hV1,Np⟩=>by
  replace hn:(Ty.sl t::os).all Ty.jJ=true:=hn;simp only [l9,aB] at hn;cases cs with
  | nil=>exact absurd (show none=some _ from hd) (by simp)
  | cons c cs=>
   cases c with
   | own id ver p u=>
    cases p with
    | cons a p=>exact absurd (show none=some _ from hd) (by simp)
    | nil=>
     replace hd:(match st.obj id with
      | some (.row true u _ xs)=>(match Ty.cast (.sl u) (.sl t) xs with | some ys=>some (ys,cs) | none=>none)
      | _=>none)=some (x,r):=hd
     replace ho:(match st.obj id with
      | some (.row own u _ _)=>(match Ty.cast (.sl t) (.sl u) y.1 with | some xs=>some ([(id,some (.row own u site xs))],cs,y.2) | none=>none)
      | _=>none)=some (o,eo,y'):=ho
     cases bQ:st.obj id with
     | none=>grind
     | some ob=>
      rw [bQ] at hd ho;cases ob with
      | row own u' vr xs=>
       cases own with
       | false=>grind
       | true=>
        replace hd:(match Ty.cast (.sl u') (.sl t) xs with | some ys=>some (ys,cs) | none=>none)=some (x,r):=hd;replace ho:(match Ty.cast (.sl t) (.sl u') y.1 with | some xs=>some ([(id,some (dL.row true u' site xs))],cs,y.2) | none=>none)=some (o,eo,y'):=ho;split at hd
        ·rename_i ys hc;obtain ⟨rfl,-⟩:=nO hc;have abT:Ty.cast (.sl u') (.sl u') y.1=some y.1:=by unfold Ty.cast;rw [dif_pos (F3 _)]
         rw [abT] at ho;have ho:=aZ ho;have f1:[(id,some (dL.row true u' site y.1))]=o:=congrArg (fun p=>p.1) ho;have f2:cs=eo:=congrArg (fun p=>p.2.1) ho;have f3:y.2=y':=congrArg (fun p=>p.2.2) ho;subst f1; subst f2; subst f3;have iP:look l (base+j)=some id:=by have:=hl 0 id ver [] u (by simp [Ty.size]) rfl;simpa using this
         refine ⟨rfl,Np,fun aE oo h=>?_,fun k aE oI p' u' hk h=>?_⟩
         ·rw [dQ] at h;split at h
          ·rename_i he;subst he;simp only [aN] at h;refine ⟨by grind,⟨0,_,_,_,by simp [Ty.size],rfl⟩,_,h.symm,fun w1 hO1=>⟨DT _ (hO1 id _ bQ).1,h0,hs,?_⟩⟩;exact Nj (p6 _ id iP) (fun q' _=>DU _ id q' iP) (fun b o p hb=>dr _ id b o p iP hb) hn.1 hV1
          simp [look] at h
         simp only [Ty.size] at hk;have:k=0:=by omega
         subst this;simp only [A5,aN,ah.own.injEq] at h;obtain ⟨rfl,-⟩:=h;exact ⟨by rw [dQ,if_pos rfl]; rfl,by grind⟩
        grind
      | _=>grind
   | _=>exact absurd (show none=some _ from hd) (by simp)
 | .int k,j,cs,x,r,os,y,o,eo,y',K,hn,hd,ho,hl,hV=>by
  have ho:some ([],cs.tail,y)=some (o,eo,y'):=ho;exact Jx (by simp [Ty.size]) (by
   intro id ver p u h;cases cs with
   | nil=>grind
   | cons c cs=>simp at h; subst h; simp [dT] at hd) ho hV
 | .bool,j,cs,x,r,os,y,o,eo,y',K,hn,hd,ho,hl,hV=>by
  have ho:some ([],cs.tail,y)=some (o,eo,y'):=ho;exact Jx (by simp [Ty.size]) (by
   intro id ver p u h;cases cs with
   | nil=>grind
   | cons c cs=>simp at h; subst h; simp [dT] at hd) ho hV
 | .str,j,cs,x,r,os,y,o,eo,y',K,hn,hd,ho,hl,hV=>by
  have ho:some ([],cs.tail,y)=some (o,eo,y'):=ho;exact Jx (by simp [Ty.size]) (by
   intro id ver p u h;cases cs with
   | nil=>grind
   | cons c cs=>simp at h; subst h; simp [dT] at hd) ho hV
 | .err,j,cs,x,r,os,y,o,eo,y',K,hn,hd,ho,hl,hV=>by
  have ho:some ([],cs.tail,y)=some (o,eo,y'):=ho;exact Jx (by simp [Ty.size]) (by
   intro id ver p u h;cases cs with
   | nil=>grind
   | cons c cs=>simp at h; subst h; simp [dT] at hd) ho hV
 | .bW t,j,cs,x,r,os,y,o,eo,y',K,hn,hd,ho,hl,hV=>by simp [dT] at hd
theorem TX {site:Nat} {l:List (Nat×Nat)} {V:Nat→Nat} (h0:U' 0) (hs:U' site) (DT:∀ s,U s→U' s)
  (p6:∀ n id,look l n=some id→g'.hd id 0 []=g.hd n 0 []) (DU:∀ n id q,look l n=some id→g'.hd id site q=g.hd n (V n) q)
  (dr:∀ n id b o p,look l n=some id→g.lab b o=some (n,p)→g'.lab b o=some (id,p)) :
  ∀ (ps:List PK) (i q:Nat) (x:iS ps) (vs:List ah) (y:cj (PK.outs ps)) (o:List (Nat×Option dL)),ps.all PK.jU=true→(PK.outs ps).all Ty.jJ=true→mS st sr ps vs=some x→
   tv st site q ps vs y=some o→(∀ p∈eu i ps vs,look l p.1=some p.2)→rZ g w V i ps y→
   (∀ id oo,look o id=some oo→st.obj id≠none∧(∃ i',(i',id)∈eu i ps vs)∧∃ ob,oo=some ob∧∀ w1,fA g1 w1 U st→U' (id / 1024)∧fy g' w U' id ob)∧
   (∀ p∈eu i ps vs,(look o p.2).isSome=true∧st.obj p.2≠none)
 | [],i,q,x,vs,y,o,he,hn,e,ho,hl,hV=>by
  cases vs with
  | nil=>
   obtain rfl:=aZ (show some []=some o from ho);exact ⟨fun id oo h=>by simp [look] at h,fun p h=>by simp [eu] at h⟩
  | cons v vs=>exact absurd (show none=some x from e) (by simp)
 | p::ps,i,q,x,[],y,o,he,hn,e,ho,hl,hV=>absurd (show none=some x from e) (by simp)
 | p::ps,i,q,x,v::vs,y,o,he,hn,e,ho,hl,hV=>by
  simp only [l9,aB] at he;obtain ⟨e1,e2⟩:=Jr e;have A1:∀ p∈eu (i+1) ps vs,look l p.1=some p.2:=fun p' hp=>hl p' (by simp only [eu,eF]; exact .inr hp);have rest:=fun (y':cj (PK.outs ps)) (o':List (Nat×Option dL)) (ep:(PK.outs ps).all Ty.jJ=true) (iJ:tv st site (q+32) ps vs y'=some o') (Nq:rZ g w V (i+1) ps y')=>
   TX h0 hs DT p6 DU dr ps (i+1) _ x.2 vs y' o' he.2 ep e2 iJ A1 Nq
  have same:eu i (p::ps) (v::vs)=eu (i+1) ps vs→∀ (y':cj (PK.outs ps)),(PK.outs ps).all Ty.jJ=true→tv st site (q+32) ps vs y'=some o→rZ g w V (i+1) ps y'→
    (∀ id oo,look o id=some oo→st.obj id≠none∧(∃ i',(i',id)∈eu i (p::ps) (v::vs))∧∃ ob,oo=some ob∧∀ w1,fA g1 w1 U st→U' (id / 1024)∧fy g' w U' id ob)∧
    (∀ p'∈eu i (p::ps) (v::vs),(look o p'.2).isSome=true∧st.obj p'.2≠none):=by
   intro h1 y' ep iJ Nq;rw [h1];exact rest y' o ep iJ Nq
  cases p with
  | jH t ms=>simp [PK.jU] at he
  | val t=>exact same (by simp [eu]) y hn ho hV
  | fX t=>exact same (by simp [eu]) y hn ho hV
  | jI f caps=>exact same (by simp [eu]) y hn ho hV
  | io t=>
   obtain ⟨d1,d2⟩:=DS e1;replace hn:(t.gY (PK.outs ps)).all Ty.jJ=true:=hn;replace ho:(match Bk st site t (pR t v) y with
    | some (o,_,y')=>(match tv st site (q+32) ps vs y' with | some r=>some (o++r) | none=>none)
    | none=>none)=some o:=ho
   split at ho
   ·rename_i o1 c1 y1 iO;split at ho
    ·rename_i o2 tN;obtain rfl:=aZ ho;obtain ⟨-,Np,a3,a4⟩:=No (g1:=g1) h0 hs DT p6 DU dr t 0 _ x.1 [] (os:=PK.outs ps) y o1 c1 y1 (fun y=>rZ g w V (i+1) ps y) hn d1 iO (fun k id ver p u hk h=>by have:=hl (i*1024+k,id) (by simp only [eu,eF];exact .inl ((wX _ _ _ _).2 ⟨k,ver,p,u,h,rfl⟩));simpa using this) hV;obtain ⟨k1,k2⟩:=rest y1 o2 (Jw t _ hn) tN Np;refine ⟨fun id oo h=>?_,fun p' ma=>?_⟩
     ·rw [iU] at h;cases hq:look o1 id with
      | some qq=>
       rw [hq] at h;simp only [aN] at h;subst h;obtain ⟨c1,⟨k,ver,p,u,hk,hc⟩,c3⟩:=a3 id _ hq;refine ⟨c1,⟨i*1024+k,?_⟩,c3⟩;simp only [eu,eF];exact .inl ((wX _ _ _ _).2 ⟨k,ver,p,u,hc,rfl⟩)
      | none=>
       rw [hq] at h;obtain ⟨a1,⟨i',a2⟩,a3⟩:=k1 id oo h;exact ⟨a1,⟨i',by simp only [eu,eF]; exact .inr a2⟩,a3⟩
     simp only [eu,eF] at ma;rw [iU];rcases ma with ma | ma
     ·obtain ⟨m,id⟩:=p';obtain ⟨k,ver,p,u,h1,h2⟩:=(wX _ _ _ _).1 ma
      grind
     grind
    grind
   grind
end
end Go.Am
namespace Go.Am
open Go
def ck (P:Program) (f:FuncId):Prop:=∃ fn,P.funcs[f]? = some fn∧(fn.name== "runtime.NumGoroutine")=false∧fn.body.isNone=false
structure Jy (P:Program) (f:FuncId):Prop where
 a:∀ (w:World) (b o:Nat) (op:Int),w.cell? (ad b o)=some (.int .i64 op)→k9 op=true→Calls P f #[.pointer (some (ad b o))] w fun e w'=>
  e = .returned (.slice (some (ad w.heap.size 0)) 2 2)∧∃ t,kZ w w' #[.pointer (some (ad b (o+1))),.pointer (some (ad b (o+2)))] t
 b:∀ (w:World) (b o:Nat) (op:Int),w.cell? (ad b o)=some (.int .i64 op)→j4 op=true→Calls P f #[.pointer (some (ad b o))] w fun e w'=>
  e = .returned (.slice (some (ad w.heap.size 0)) 3 3)∧∃ t,kZ w w' #[.pointer (some (ad b (o+1))),.pointer (some (ad b (o+2))),.pointer (some (ad b (o+3)))] t
 c:∀ (w:World) (b o:Nat) (op:Int),w.cell? (ad b o)=some (.int .i64 op)→nK op=true→Calls P f #[.pointer (some (ad b o))] w fun e w'=>
  e = .returned (.slice (some (ad w.heap.size 0)) 1 1)∧∃ t,kZ w w' #[.pointer (some (ad b (o+2)))] t
 n:∀ (w:World) (b o:Nat) (op:Int),w.cell? (ad b o)=some (.int .i64 op)→k9 op=false→j4 op=false→nK op=false→Calls P f #[.pointer (some (ad b o))] w fun e w'=>
  e = .returned (.slice none 0 0)∧w'=w
def Jz (P:Program) (c:bd):Prop:=∀ f,c.nB.any (aT (f+3000000))=true→Jy P f∧ck P f
def F4 (P:Program) (c:bd):Prop:=(∀ f m,(f,m)∈c.calls→Sound P (C9 f) m∧ck P (C9 f))∧Jz P c
theorem Nr {P:Program} {c:bd} (h:c.nB.all (fun x=>cS x 3000000)=true):Jz P c:=by
 intro f hf;obtain ⟨x,hx,he⟩:=y8.1 hf;have h1:=iy.1 h x hx;have h2:=bB he;have h3:x<3000000:=by simpa [eH] using h1
 omega
theorem TY {P:Program} {c:bd} {f:FuncId} (h:c.nB.all (fun x=>cS x 3000000||aT x (f+3000000))=true) (hp:Jy P f) (hg:ck P f):Jz P c:=by
 intro f' hf;obtain ⟨x,hx,he⟩:=y8.1 hf;have h1:=iy.1 h x hx;have h2:=bB he;simp only [rM] at h1;rcases h1 with h1 | h1
 ·have h3:x<3000000:=by simpa [eH] using h1
  omega
 simp_all
theorem Ns {st:St} {f:Nat} {args:List ah} : ∀ (l:List (Nat×ar)) (m:ar) (x:iS m.ps),C7 st f args l=some ⟨m,x⟩→(f,m)∈l∧mS st (yO st m.rs (oP st m.ps args)) m.ps args=some x
 | [],m,x,e=>by simp [C7] at e
 | (g,m')::l,m,x,e=>by
  simp only [C7] at e;split at e
  ·obtain ⟨h1,h2⟩:=Ns l m x e
   grind
  rename_i hb;obtain rfl:=bB hb;split at e
  ·grind
  obtain ⟨h1,h2⟩:=Ns l m x e
  grind
theorem TZ {st:St} {rs:List RK} {io:List Nat} {id:Nat} {ob:dL} (h:(yO st rs io).obj id=some ob):rs.any wu=false∧id∉io∧st.obj id=some ob:=by
 unfold yO at h;split at h
 ·simp [St.obj,look] at h
 rename_i hr;unfold St.obj at h;simp only [iU,mj] at h;by_cases hm:id∈io
 ·grind
 simp only [hm,if_false] at h;exact ⟨hr,hm,h⟩
theorem JA {g:Gh} {w:World} {U:Nat→Prop} : ∀ {as bs:List ah} {l m:List Value},cz g w U as l→cz g w U bs m→cz g w U (as++bs) (l++m)
 | [],bs,l,m,h,h'=>by obtain rfl:=h; exact h'
 | a::as,bs,l,m,⟨x,r,e,h1,h2⟩,h'=>⟨x,r++m,by grind,h1,JA h2 h'⟩
section
variable {P:Program} {c:bd} {g:Gh} {w:World} {U:Nat→Prop} {sr:St} {a:Act} {site:Nat} {o:Oper} {ρ:Type} {r:ρ} {k:cK→Option ρ}
theorem T_ {l:List (Nat×Nat)} (h1:(l.map (·.1)).Nodup) (h2:(l.map (·.2)).Nodup):(∀ p∈l,look l p.1=some p.2∧look (swp l) p.2=some p.1)∧(∀ i id,look l i=some id→look (swp l) id=some i)∧(∀ i id,look (swp l) id=some i→look l i=some id):=by
 have hn:((swp l).map (·.1)).Nodup:=by simpa [swp,Function.comp_def] using h2
 have qW:∀ i id,(i,id)∈l→(id,i)∈swp l:=fun i id h=>kE.2 ⟨_,h,rfl⟩;refine ⟨fun p hp=>⟨F1 h1 hp,F1 hn (qW _ _ hp)⟩,fun i id h=>F1 hn (qW _ _ (kJ h)),fun i id h=>?_⟩;obtain ⟨p,hp,e⟩:=kE.1 (kJ h);simp only [bS] at e;obtain ⟨rfl,rfl⟩:=e;exact F1 h1 hp
def iV (g g1:Gh) (site:Nat) (l:List (Nat×Nat)) (V:Nat→Nat):Gh where
 hd n ver s:=if n / 1024=site then g1.hd n ver s else if ver=site then (match look (swp l) n with | some i=>g1.hd i (V i) s | none=>eh) else g.hd n ver s
 lab b o:=match g1.lab b o with
  | none=>(match g.lab b o with | some (id,p)=>(match look (swp l) id with | some _=>none | none=>some (id,p)) | none=>none)
  | some (id,p)=>if id / 1024=site then some (id,p) else (match look l id with
    | some cy=>some (cy,p)
    | none=>(match g.lab b o with | some q=>some q | none=>some (site*1024+1023,[])))
theorem Nt {st:St} : ∀ (t:Ty) (cs:List ah) (x:t.T) (r:List ah),dT st t cs=some (x,r)→∀ k id ver p u,k<t.size→cs[k]? = some (.own id ver p u)→∃ ob,st.obj id=some ob
 | .pair a b,cs,x,r,e,k,id,ver,p,u,hk,h=>by
  replace e:(match dT st a cs with
   | some (x,r)=>(match dT st b r with | some (y,r)=>some ((x,y),r) | none=>none)
   | none=>none)=some (x,r):=e
  split at e
  ·rename_i y r1 e1;split at e
   ·rename_i z r2 e2;obtain ⟨-,rfl⟩:=DR a cs y r1 e1;by_cases RD:k<a.size
    ·exact Nt a cs y _ e1 k id ver p u RD h
    simp only [Ty.size] at hk;exact Nt b _ z r2 e2 (k-a.size) id ver p u (by omega) (by grind)
   grind
  grind
 | .sl t,cs,x,r,e,k,id,ver,p,u,hk,h=>by
  simp only [Ty.size] at hk;have:k=0:=by omega
  subst this;cases cs with
  | nil=>grind
  | cons c cs=>
   simp only [A5,aN] at h;subst h;cases p with
   | cons a p=>exact absurd (show none=some _ from e) (by simp)
   | nil=>
    replace e:(match st.obj id with
     | some (.row true u _ xs)=>(match Ty.cast (.sl u) (.sl t) xs with | some ys=>some (ys,cs) | none=>none)
     | _=>none)=some (x,r):=e
    grind
 | .int k',cs,x,r,e,k,id,ver,p,u,hk,h=>by
  simp only [Ty.size] at hk;have:k=0:=by omega
  subst this;cases cs with
  | nil=>grind
  | cons c cs=>simp only [A5,aN] at h; subst h; simp [dT] at e
 | .bool,cs,x,r,e,k,id,ver,p,u,hk,h=>by
  simp only [Ty.size] at hk;have:k=0:=by omega
  subst this;cases cs with
  | nil=>grind
  | cons c cs=>simp only [A5,aN] at h; subst h; simp [dT] at e
 | .str,cs,x,r,e,k,id,ver,p,u,hk,h=>by
  simp only [Ty.size] at hk;have:k=0:=by omega
  subst this;cases cs with
  | nil=>grind
  | cons c cs=>simp only [A5,aN] at h; subst h; simp [dT] at e
 | .err,cs,x,r,e,k,id,ver,p,u,hk,h=>by
  simp only [Ty.size] at hk;have:k=0:=by omega
  subst this;cases cs with
  | nil=>grind
  | cons c cs=>simp only [A5,aN] at h; subst h; simp [dT] at e
 | .bW t,cs,x,r,e,k,id,ver,p,u,hk,h=>by simp [dT] at e
theorem F5 {st sr:St} : ∀ (ps:List PK) (i:Nat) (x:iS ps) (vs:List ah),ps.all PK.jU=true→mS st sr ps vs=some x→∀ p∈eu i ps vs,∃ ob,st.obj p.2=some ob
 | [],i,x,vs,he,e,p,hp=>by cases vs<;>simp [eu] at hp
 | q::ps,i,x,[],he,e,p,hp=>by simp [eu] at hp
 | q::ps,i,x,v::vs,he,e,p,hp=>by
  simp only [l9,aB] at he;obtain ⟨e1,e2⟩:=Jr e;simp only [eu,eF] at hp;rcases hp with hp | hp
  ·cases q with
   | io t=>
    obtain ⟨m,id⟩:=p;obtain ⟨k,ver,pp,u,h1,h2⟩:=(wX _ _ _ _).1 hp;exact Nt t _ x.1 [] (DS e1).1 k id ver pp u (by have:=(eE.1 h1).1;rw [(DS e1).2] at this; exact this) h1
   | _=>grind
  exact F5 ps (i+1) x.2 vs he.2 e2 p hp
theorem abU (S:dC P c g w U sr a) (hs:¬ U site) {m:ar} {x:iS m.ps} {vs:List ah} {y:cj (RK.bm m.rs++PK.outs m.ps)} {os:List (Nat×Option dL)} (bK:yP m.ps m.rs=true)
  (eW:(oP sr m.ps vs).Nodup) (hx:mS sr (yO sr m.rs (oP sr m.ps vs)) m.ps vs=some x) (ho:tv sr site 0 m.ps vs (gA site 0 m.rs (PK.outs m.ps) y).2.2=some os)
  {v:Value} {g1:Gh} {w':World} (E:zg (jj sr g (m.rs.any wu) (eu 0 m.ps vs)) w site m y v g1 w') :
  ∃ g',dP g w U site ⟨match (gA site 0 m.rs (PK.outs m.ps) y).1 with | [v]=>v | vs=>.gX vs,(gA site 0 m.rs (PK.outs m.ps) y).2.1++os⟩ v w' g' (U' U site):=by
 unfold yP at bK;simp only [aB] at bK;obtain ⟨⟨⟨⟨⟨⟨⟨⟨qb,F_⟩,zh⟩,wV⟩,wW⟩,TM⟩,T3⟩,T4⟩,vi⟩:=bK;have zh:=gz zh;have wV:=gz wV;have wZ:20≤site:=by
  rcases kj site 20 with h | h
  ·exact absurd (S.nL site h) hs
  exact h
 obtain ⟨V,hV⟩:=abS m.ps 0 _ vi E.outs
 let SH:=m.rs.any wu
 let l:=eu 0 m.ps vs
 rw [Jq m.ps vs 0 qb] at eW;obtain ⟨Nu,T5,Lm⟩:=T_ (Ng m.ps x vs 0 vi hx) eW;have RO:∀ i id,look l i=some id→i / 1024<15:=fun i id h=>by have:=Nf m.ps x vs 0 vi hx _ (kJ h);omega
 have iP:∀ p∈eu 0 m.ps vs,look l p.1=some p.2:=fun p hp=>(Nu p hp).1;have EP:∀ b o,g.lab b o=none→(jj sr g SH l).lab b o=none:=fun b o h=>Js h;have H2:∀ b o,u6 (jj sr g SH l) b o→∃ id p i,g.lab b o=some (id,p)∧look (swp l) id=some i:=by
  rintro b o ⟨id,p,h1,h2⟩;cases hg:g.lab b o with
  | none=>grind
  | some q=>
   obtain ⟨aE,p'⟩:=q;cases hw:look (swp l) aE with
   | some i=>grind
   | none=>
    rw [F2 hg hw] at h1
    grind
 let g':=iV g g1 site l V
 have abV:∀ b o id p,g.lab b o=some (id,p)→look (swp l) id=none→b<w.heap.size→g'.lab b o=some (id,p):=by
  intro b o id p hg hw hb;cases zk:SH with
  | true=>
   have cU:(jj sr g SH l).lab b o=some (19*1024,[]):=by rw [F2 hg hw,zk]
   have jV:=E.oQ b o (19*1024) [] cU rfl;have abW:look l (19*1024)=none:=by
    cases h:look l (19*1024) with
    | none=>rfl
    | some id=>
     grind
   show (iV g g1 site l V).lab b o=_;have nC:¬ 19*1024 / 1024=site:=fun e=>by omega
   simp only [iV,jV,hg,nC,if_false,abW]
  | false=>
   have cU:(jj sr g SH l).lab b o=none:=by rw [F2 hg hw,zk]
   have jV:g1.lab b o=none:=by
    cases h:g1.lab b o with
    | none=>rfl
    | some q=>exact absurd cU (E.cI b o q hb h)
   show (iV g g1 site l V).lab b o=_;simp only [iV,jV,hg,hw]
 have abX:∀ b o id p,g1.lab b o=some (id,p)→id / 1024=site→g'.lab b o=some (id,p):=by intro b o id p h1 h2;show (iV g g1 site l V).lab b o=_;simp only [iV,h1,h2,if_true]
 have abY:∀ i id b o p,look l i=some id→g1.lab b o=some (i,p)→g'.lab b o=some (id,p):=by intro i id b o p h1 h2;have:=RO i id h1;show (iV g g1 site l V).lab b o=_;simp only [iV,h2];rw [if_neg (by omega),h1]
 have hU:∀ s,U' gK site s→U' U site s:=by
  rintro s (h | h)
  ·exact .inl (S.nL s h)
  exact .inr h
 have hdS:∀ id ver p,id / 1024=site→g'.hd id ver p=g1.hd id ver p:=by intro id ver p h;show (iV g g1 site l V).hd id ver p=_;simp [iV,h]
 have T6:∀ id ver p,U (id / 1024)→U ver→g'.hd id ver p=g.hd id ver p:=by intro id ver p h1 h2;show (iV g g1 site l V).hd id ver p=_;simp only [iV];rw [if_neg (fun e:id / 1024=site=>hs (e▸h1)),if_neg (fun e:ver=site=>hs (e▸h2))]
 have abZ:m.rs.any wu=true→∀ b o,g1.lab b o=none→g'.lab b o=none:=by
  intro zk b o h1;cases hg:g.lab b o with
  | none=>
   show (iV g g1 site l V).lab b o=_;simp only [iV,h1,hg]
  | some q=>
   obtain ⟨id,p⟩:=q;cases hw:look (swp l) id with
   | some i=>
    show (iV g g1 site l V).lab b o=_;simp only [iV,h1,hg,hw]
   | none=>
    have cU:(jj sr g SH l).lab b o=some (19*1024,[]):=by rw [F2 hg hw,show SH=true from zk]
    rw [E.oQ b o (19*1024) [] cU rfl] at h1
    grind
 obtain ⟨Zj,ab_⟩:=TX (g:=g1) (g1:=g) (g':=iV g g1 site l V) (U:=U) (U':=U' U site) (w:=w') (st:=sr) (site:=site) (l:=l) (V:=V) (.inl S.u0) (.inr rfl) (fun s h=>.inl h)
  (fun i id h=>by
   have hu:U (id / 1024):=by
    obtain ⟨p,hp,e⟩:∃ p∈l,p=(i,id):=⟨_,kJ h,rfl⟩
    subst e;obtain ⟨aE,mX⟩:=F5 m.ps 0 x vs qb hx _ hp;exact (S.bb id _ mX).1
   rw [show (iV g g1 site l V).hd id 0 []=_ from T6 id 0 [] hu S.u0,E.par i (by grind),Nh h];rfl)
  (fun i id q h=>by
   have hu:U (id / 1024):=by obtain ⟨aE,mX⟩:=F5 m.ps 0 x vs qb hx _ (kJ h);exact (S.bb id _ mX).1
   have aG:¬ id / 1024=site:=fun e=>hs (e▸hu);have h2:look (swp l) id=some i:=T5 i id h;simp only [iV,aG,if_false,if_true,h2])
  (fun i id b o p h1 h2=>abY i id b o p h1 h2)
  m.ps 0 0 x vs _ os qb T4 hx ho iP hV
 have wN:=fun bG=>TW (g:=g1) (g':=g') (w:=w') (U:=U' gK site) (U':=U' U site) (site:=site) (.inl S.u0) (.inr rfl) hU hdS (fun b o id p h1 h2=>abX b o id p h1 h2)
  m.rs 0 (PK.outs m.ps) y bG F_ T3 wW rfl (by omega) abZ
 have hT:∀ id,(look ((gA site 0 m.rs (PK.outs m.ps) y).2.1++os) id).isSome=true→id / 1024=site∨∃ i,look l i=some id:=by
  intro id h;rw [iU] at h;cases hq:look (gA site 0 m.rs (PK.outs m.ps) y).2.1 id with
  | some oo=>exact .inl ((wN []).2 id oo hq).1
  | none=>
   rw [hq] at h;cases kI:look os id with
   | none=>grind
   | some oo=>
    grind
 have H0:∀ i id,look l i=some id→(look ((gA site 0 m.rs (PK.outs m.ps) y).2.1++os) id).isSome=true:=by
  intro i id h;rw [iU];cases hq:look (gA site 0 m.rs (PK.outs m.ps) y).2.1 id with
  | some oo=>rfl
  | none=>exact (ab_ _ (kJ h)).1
 refine ⟨g',⟨⟨fun s h=>.inl h,T6,fun b o hl v hv=>?_,fun b o id p hl wH=>?_⟩,?_,fun id ob h=>?_,fun s h=>h,fun b o q h=>?_,fun b o q hb h=>?_,?_,fun id h=>?_⟩⟩
 ·obtain ⟨h1,h2⟩:=E.shr b o (EP b o hl) v hv;refine ⟨h1,?_⟩;show (iV g g1 site l V).lab b o=_;simp only [iV,h2,hl]
 ·have hw:look (swp l) id=none:=by
   cases h:look (swp l) id with
   | none=>rfl
   | some i=>grind
  have hb:=S.cm b o _ hl;refine ⟨abV b o id p hl hw hb,Fr.cell E.fr hb (fun hm=>?_)⟩
  grind
 ·have hv:=E.val;revert hv;have w_:=fun bG=>(wN bG).1;revert w_;generalize (gA site 0 m.rs (PK.outs m.ps) y).1=rl;intro w_ hv
  match rl,w_,hv with
  | [],w_,hv=>
   obtain ⟨bG,e,h⟩:=hv;exact ⟨bG,e,w_ bG h⟩
  | [a1],w_,hv=>
   obtain ⟨x',r',e,h1,-⟩:=w_ [v] ⟨v,[],rfl,hv,rfl⟩
   grind
  | a1::a2::rl,w_,hv=>
   obtain ⟨bG,e,h⟩:=hv;exact ⟨bG,e,w_ bG h⟩
 ·replace h:look ((gA site 0 m.rs (PK.outs m.ps) y).2.1++os) id=some (some ob):=h;rw [iU] at h;cases hq:look (gA site 0 m.rs (PK.outs m.ps) y).2.1 id with
  | some oo=>
   rw [hq] at h;simp only [aN] at h;subst h;obtain ⟨h1,vg,h2,h3⟩:=(wN []).2 id _ hq;simp only [aN] at h2;subst h2;exact ⟨by rw [h1]; exact .inr rfl,h3 (E.bb id ob hq).2⟩
  | none=>
   rw [hq] at h;obtain ⟨-,-,vg,h2,h3⟩:=Zj id _ h;simp only [aN] at h2;subst h2;exact h3 w S.bb
 ·cases h1:g1.lab b o with
  | some q'=>exact E.cm b o q' h1
  | none=>
   cases hg:g.lab b o with
   | some q'=>exact oL (S.cm b o q' hg) E.fr.size
   | none=>
    have:g'.lab b o=none:=by show (iV g g1 site l V).lab b o=_;simp only [iV,h1,hg]
    grind
 ·intro hg;have cU:=EP b o hg;have h1:g1.lab b o=none:=by
   cases h1:g1.lab b o with
   | none=>rfl
   | some q'=>exact absurd cU (E.cI b o q' hb h1)
  have:g'.lab b o=none:=by show (iV g g1 site l V).lab b o=_;simp only [iV,h1,hg]
  grind
 ·refine E.fr.mono (fun b o hb hm=>?_);obtain ⟨id,p,i,h1,h2⟩:=H2 b o hm;obtain ⟨aE,mX⟩:=F5 m.ps 0 x vs qb hx _ (kJ (Lm i id h2));exact ⟨id,p,h1,S.nf id (by grind)⟩
 rcases hT id h with h | ⟨i,h⟩
 ·omega
 obtain ⟨aE,mX⟩:=F5 m.ps 0 x vs qb hx _ (kJ h);exact S.nf id (by grind)
theorem ab0 {f:Operand} {args:Array Operand} {ts:Array TypeId} (aP:o.op = .call ⟨.value f,args,ts⟩) {jE:Nat} {tO:List Value} (yC:a.eval f = .func (.func jE) #[] tO.toArray) (hg:ck P jE) :
  (execOp a.eval o).run P w = .ok (.enter jE (args.toList.map a.eval++tO).toArray) w:=by
 obtain ⟨fn,w4,F6,zl⟩:=hg;unfold execOp;rw [aP];simp only [resolve,yC,Deferred.ofValue,invoke,callFunc];have F7:¬ fn.name = "runtime.NumGoroutine" :=by simpa using F6
 have F8:¬ fn.body=none:=by intro hh; rw [hh] at zl; simp at zl
 simp [w4,F7,F8]
theorem ab1 {jE:Nat} (hP:Jy P jE∧ck P jE) (S:dC P c g w U sr a) (hs:¬ U site) {f:Operand} {args:Array Operand} {ts:Array TypeId} (aP:o.op = .call ⟨.value f,args,ts⟩) {caps:List ah} (hf:sr.ev f = .fn jE caps)
  (e:C8 sr site (args.toList.map sr.ev++caps) k=some r):∃ bu,k bu=some r∧nN P g w U site o a bu:=by
 have zm:=S.ev f;rw [hf] at zm;obtain ⟨tO,yC,fF⟩:=zm;have p8:cz g w U (args.toList.map sr.ev++caps) (args.toList.map a.eval++tO):=by
  refine JA ?_ fF;have:∀ l:List Operand,cz g w U (l.map sr.ev) (l.map a.eval):=by
   intro l;induction l with
   | nil=>rfl
   | cons x l ih=>exact ⟨_,_,rfl,S.ev x,ih⟩
  exact this _
 generalize hA:args.toList.map sr.ev++caps=A at e p8;have hex:=ab0 (w:=w) aP yC hP.2;generalize args.toList.map a.eval++tO=V at p8 hex;unfold C8 at e;split at e
 ·rename_i id;split at e
  ·rename_i op _ bQ;obtain ⟨h0,b,o',dN,kY⟩:=(S.bb id _ bQ).2;obtain ⟨x,rr,rfl,hx,hrr⟩:=p8;obtain rfl:rr=[]:=hrr;obtain ⟨hu,hu0,b1,o1,Nv,rfl⟩:=hx;rw [dN] at Nv;simp only [aN,bS] at Nv;obtain ⟨rfl,rfl⟩:=Nv;have hc:w.cell? (ad b o')=some (.int .i64 op):=by obtain ⟨_,_,v,hv,hr⟩:=kY 0 (by simp);obtain rfl:v = .int .i64 op:=hr;simpa using hv
   have p:∀ j,aV g w U (.bt id j) (.pointer (some (ad b (o'+j)))):=fun j=>⟨hu,hu0,b,o',by rw [dN],rfl⟩
   split at e
   ·rename_i hk;refine ⟨_,e,fun next Q hn=>?_⟩;unfold DQ;rw [hex,DP];refine BU (hP.1.a w b o' op hc hk) (fun en w' h=>?_);obtain ⟨rfl,t,B⟩:=h;obtain ⟨g',U',hp⟩:=Dt S hs B (cs:=[.bt id 1,.bt id 2]) ⟨_,_,rfl,p 1,_,_,rfl,p 2,rfl⟩ (x:=.fJ (site*1024) 0 2 1) (v:=.slice (some (ad w.heap.size 0)) 2 2)
     (fun g' hg=>⟨.inr (kz site),.inl S.u0,_,2,rfl,cx _,by grind,w.heap.size,0,by rw [hg],fun _=>rfl⟩)
    exact hn _ _ _ _ hp
   rename_i tb;split at e
   ·rename_i hk;refine ⟨_,e,fun next Q hn=>?_⟩;unfold DQ;rw [hex,DP];refine BU (hP.1.b w b o' op hc hk) (fun en w' h=>?_);obtain ⟨rfl,t,B⟩:=h;obtain ⟨g',U',hp⟩:=Dt S hs B (cs:=[.bt id 1,.bt id 2,.bt id 3]) ⟨_,_,rfl,p 1,_,_,rfl,p 2,_,_,rfl,p 3,rfl⟩ (x:=.fJ (site*1024) 0 3 1) (v:=.slice (some (ad w.heap.size 0)) 3 3)
     (fun g' hg=>⟨.inr (kz site),.inl S.u0,_,3,rfl,cx _,by grind,w.heap.size,0,by rw [hg],fun _=>rfl⟩)
    exact hn _ _ _ _ hp
   rename_i lM;split at e
   ·rename_i hk;refine ⟨_,e,fun next Q hn=>?_⟩;unfold DQ;rw [hex,DP];refine BU (hP.1.c w b o' op hc hk) (fun en w' h=>?_);obtain ⟨rfl,t,B⟩:=h;obtain ⟨g',U',hp⟩:=Dt S hs B (cs:=[.bt id 2]) ⟨_,_,rfl,p 2,rfl⟩ (x:=.fJ (site*1024) 0 1 1) (v:=.slice (some (ad w.heap.size 0)) 1 1)
     (fun g' hg=>⟨.inr (kz site),.inl S.u0,_,1,rfl,cx _,by grind,w.heap.size,0,by rw [hg],fun _=>rfl⟩)
    exact hn _ _ _ _ hp
   rename_i hk3;refine ⟨_,e,fun next Q hn=>?_⟩;unfold DQ;rw [hex,DP];refine BU (hP.1.n w b o' op hc tb lM hk3) (fun en w' h=>?_);obtain ⟨rfl,rfl⟩:=h;exact hn _ _ _ _ (dP.same S.cm rfl)
  grind
 grind
theorem ab2 (hC:F4 P c) (S:dC P c g w U sr a) (hs:¬ U site) {f:Operand} {args:Array Operand} {ts:Array TypeId} (aP:o.op = .call ⟨.value f,args,ts⟩) {jE:Nat} {caps:List ah} (hf:sr.ev f = .fn jE caps)
  (e:Da c sr site jE (args.toList.map sr.ev++caps) k=some r):∃ bu,k bu=some r∧nN P g w U site o a bu:=by
 have zm:=S.ev f;rw [hf] at zm;obtain ⟨tO,yC,fF⟩:=zm;unfold Da at e;split at e
 ·split at e
  ·rename_i hq;exact ab1 (hC.2 jE hq) S hs aP hf e
  grind
 rename_i m x Mq;obtain ⟨qW,hx⟩:=Ns _ _ _ Mq;split at e
 ·grind
 rename_i hq;simp only [aB] at hq;obtain ⟨⟨eW,bK⟩,aF⟩:=hq;have eW:=yT.1 eW;obtain ⟨y,hy,e⟩:=Jo.1 e;simp only at e;split at e
 ·rename_i hos;refine ⟨_,e,fun next Q hn=>?_⟩;have T7:=hC.1 _ m qW;rw [ZN aF] at T7;obtain ⟨hS,fn,w4,F6,zl⟩:=T7;have wZ:20≤site:=by
   rcases kj site 20 with h | h
   ·exact absurd (S.nL site h) hs
   exact h
  have BX:=bK;unfold yP at BX;simp only [aB] at BX;obtain ⟨⟨⟨⟨⟨⟨⟨⟨qb,F_⟩,zh⟩,wV⟩,wW⟩,TM⟩,T3⟩,T4⟩,vi⟩:=BX;have wV:=gz wV;have p8:cz g w U (args.toList.map sr.ev++caps) (args.toList.map a.eval++tO):=by
   refine JA ?_ fF;have:∀ l:List Operand,cz g w U (l.map sr.ev) (l.map a.eval):=by
    intro l;induction l with
    | nil=>rfl
    | cons x l ih=>exact ⟨_,_,rfl,S.ev x,ih⟩
   exact this _
  let vs:=args.toList.map sr.ev++caps
  have T8:=eW;rw [Jq m.ps vs 0 qb] at T8;obtain ⟨Nu,T5,Lm⟩:=T_ (Ng m.ps x vs 0 vi hx) T8;have hD:∀ id,(yO sr m.rs (oP sr m.ps vs)).obj id≠none→∀ b o p,g.lab b o=some (id,p)→(jj sr g (m.rs.any wu) (eu 0 m.ps vs)).lab b o=none:=by
   intro id hid b o p hl;cases bQ:(yO sr m.rs (oP sr m.ps vs)).obj id with
   | none=>grind
   | some ob=>
    obtain ⟨h1,h2,h3⟩:=TZ bQ;rw [F2 hl,h1];cases hw:look (swp (eu 0 m.ps vs)) id with
    | none=>rfl
    | some i=>
     refine absurd ?_ h2;rw [Jq m.ps vs 0 qb];exact kE.2 ⟨_,kJ (Lm i id hw),rfl⟩
  have hOr:fA g w U (yO sr m.rs (oP sr m.ps vs)):=by intro id ob bQ;exact S.bb id ob (TZ bQ).2.2
  obtain ⟨en1,en2⟩:=TT (SH:=m.rs.any wu) (l:=eu 0 m.ps vs) S.bb hOr (fun b o h=>Js h) hD m.ps 0 x vs _ qb vi (by omega) hx p8 Nu;have hC2:=hS x y hy bK site wZ _ w _ ⟨en1,en2,fun b o q h=>?_⟩ (S.gl.mono (Fr.refl _ _) (fun b o _ h=>Js h))
  ·have hex:(execOp a.eval o).run P w = .ok (.enter jE (args.toList.map a.eval++tO).toArray) w:=by
    unfold execOp;rw [aP];simp only [resolve,yC,Deferred.ofValue,invoke,callFunc];have F7:¬ fn.name = "runtime.NumGoroutine" :=by simpa using F6
    have F8:¬ fn.body=none:=by intro hh; rw [hh] at zl; simp at zl
    simp [w4,F7,F8]
   unfold DQ;rw [hex,DP];refine BU hC2 (fun en w' h=>?_);obtain ⟨v,g1,rfl,E⟩:=h;obtain ⟨g',hp⟩:=abU S hs bK eW hx hos E
   grind
  cases hg:g.lab b o with
  | none=>rw [Js hg] at h; simp at h
  | some q'=>exact S.cm b o q' hg
 grind
end
end Go.Am
namespace Go.Am
open Go
def F9 (l:List Value):Act:={ tmps:=l.toArray,defers:=[] }
theorem JB (l:List Value) (t:Nat):(F9 l).eval (.tmp t)=l.getD t undef:=by simp [F9,Act.eval,oG]
theorem Ga:∀ (l:List ah) (n t:Nat),look (number n l) t=if n≤t then l[t-n]? else none
 | [],n,t=>by simp [number,look]
 | v::l,n,t=>by
  simp only [number];rw [dQ,Ga l]
  grind
structure JC (g:Gh) (w:World) (lb:LA) (y:lb.LT) (bG:List Value) (gf:Gh) (Uf:Nat→Prop) (stf:St) (w':World):Prop where
 bb:fA gf w' Uf stf
 env:∀ t v,look stf.env t=some v→aV gf w' Uf v ((F9 bG).eval (.tmp t))
 len:bG.length=lb.cH.length
 rd:lb.LR stf=some y
 par:∀ n,n / 1024<15→gf.hd n 0 []=g.hd n 0 []
 shr:∀ b o,g.lab b o=none→∀ v,w.cell? (ad b o)=some v→w'.cell? (ad b o)=some v∧gf.lab b o=none
 oQ:∀ b o id p,g.lab b o=some (id,p)→id / 1024=19→gf.lab b o=some (id,p)
 cm:∀ b o q,gf.lab b o=some q→b<w'.heap.size
 cI:∀ b o q,b<w.heap.size→gf.lab b o=some q→g.lab b o≠none
 fr:Fr (u6 g) w w'
 nf:∀ id,stf.obj id≠none→id / 1024≠19
def oY (P:Program) (f:FuncId) (M:cM):Prop:=
 ∀ (x:M.la.wo Mp) (y:M.lb.LT),M.m x=some y→∀ (g:Gh) (w:World) (args:List Value),args.length=M.la.cH.length→
  (∀ t v,look (M.la.lJ x).env t=some v→∃ xv,args[t]? = some xv∧aV g w gK v xv)→
  (∀ id o,(M.la.lJ x).obj id=some o→id / 1024<15∧fy g w gK id o)→
  (∀ b o q,g.lab b o=some q→b<w.heap.size)→Gl P g.lab w→
  Calls P f args.toArray w fun e w'=>∃ bG gf Uf stf,e = .returned (tL bG)∧JC g w M.lb y bG gf Uf stf w'
theorem DV {P:Program} {c:bd} {n:Nat} {f:FuncId} {fn:Func} {an:iH} {M:cM} (HR:BS P c) (hc:gb P c) (hf:P.funcs[f]? = some fn)
  (hm:∀ x,M.m x=cM.run c n fn an M.la M.lb x):oY P f M:=by
 intro x y hy g w args _ s8 EO Nb hG;rw [hm] at hy;unfold cM.run at hy;split at hy
 ·rename_i code hb;split at hy
  ·grind
  rename_i hd;have hd:hY fn.ntmps code=true:=by simpa using hd
  refine calls_of_wp hf hb ?_
  let a0:Act:={ tmps:=args.toArray++wh (fn.ntmps-args.toArray.size) undef,defers:=[] }
  have hN:fn.ntmps≤a0.tmps.size:=by simp [a0]; omega
  have R0:Rel w g.lab a0.tmps.size g gK (M.la.lJ x) a0 w:=by
   refine ⟨fun t v h=>?_,fun id o h=>?_,fun s h=>h,Nb,fun b o id p hb hl=>?_,fun b o id p hf jX=>hf,.refl _ _,rfl,rfl,by show (0:Nat)<20; omega,fun s hs=>hs,fun id h=>?_⟩
   ·obtain ⟨v',h5,h6⟩:=s8 t v h;have:a0.eval (.tmp t)=v':=by have aF:t<args.length:=(eE.1 h5).1;have h7:args[t]=v':=(eE.1 h5).2;simp only [Act.eval,a0];simp [oG,Fv,aF,h7]
    grind
   ·obtain ⟨h1,h2⟩:=EO id o h;exact ⟨by show id / 1024<20; omega,h2⟩
   ·by_cases jX:id / 1024=19
    ·grind
    exact .inr ⟨id,p,hl,jX⟩
   cases ho:(M.la.lJ x).obj id with
   | none=>grind
   | some o=>
    grind
  have FL:hY a0.tmps.size code=true:=wU hN code hd;refine oV HR hG code an _ y (M.la.lJ x) _ (bodyPost P fn fun e w'=>∃ bG gf Uf stf,e = .returned (tL bG)∧JC g w M.lb y bG gf Uf stf w') a0 w g gK FL R0 hy (fun ex st' a' w' g1 U1 R1 E1 e1=>?_);have main:(match wB st' (fun t=>((c.ti t).agg,(c.ti t).size)) fn.results.toList with
    | some vs=>(match aT vs.length M.lb.cH.length with
     | true=>M.lb.LR { env:=number 0 vs,heap:=st'.heap,nxt:=st'.nxt }
     | false=>none)
    | none=>none)=some y→a'.defers=[]∧∃ v,(results fn a'.tmps).run P w' = .ok v w'∧∃ bG gf Uf stf,Ending.returned v = .returned (tL bG)∧JC g w M.lb y bG gf Uf stf w':=by
   intro e1;split at e1
   ·rename_i vs fj;split at e1
    ·rename_i hlen;have hlen:=bB hlen;obtain ⟨bG,mV,ze⟩:=Jl hc R1.heap R1.env _ _ fj;have hvl:=mU ze;refine ⟨R1.defers,tL bG,TJ mV,bG,g1,U1,{ env:=number 0 vs,heap:=st'.heap,nxt:=st'.nxt },rfl,fun id o h=>R1.heap id o h,fun t v h=>?_,by omega,e1,fun i hi=>?_,fun b o hl v hv=>?_,fun b o id p hl jX=>R1.oQ b o id p hl jX,R1.cm,fun b o q hb h=>?_,R1.fr,fun id h=>R1.nf id h⟩
     ·replace h:look (number 0 vs) t=some v:=h;rw [Ga,if_pos (tK _),Jn] at h;obtain ⟨h3,h4⟩:=eE.1 h;obtain ⟨x',h5,h6⟩:=mi ze t h3;rw [JB]
      grind
     ·exact E1.par i (by omega) (by show i / 1024<20; omega)
     ·have hb:=BI hv;have hm:¬ Fh g.lab b o:=fun ⟨id,p,e,_⟩=>by grind
      have hc:=Fr.cell R1.fr hb hm;refine ⟨by grind,?_⟩;cases iP:g1.lab b o with
      | none=>rfl
      | some q=>
       obtain ⟨id,p⟩:=q;rcases R1.cI b o id p hb iP with h | h
       ·grind
       grind
     obtain ⟨id,p⟩:=q;intro hn;rcases R1.cI b o id p hb h with h | ⟨i',p',h,-⟩
     ·grind
     grind
    grind
   grind
  cases ex with
  | normal=>exact main e1
  | ret=>exact main e1
  | exit j=>grind
 grind
def lO (g:Gh) (SH:Bool) (hs:List Nat):Gh where
 hd:=g.hd
 lab b o:=match g.lab b o with
  | none=>none
  | some (id,p)=>match SH||hs.any (aT id) with | true=>some (id,p) | false=>none
section
variable {P:Program} {c:bd} {g g1 g' gf:Gh} {w w':World} {U:Nat→Prop} {sr st stf:St} {a:Act} {site:Nat} {o:Oper} {ρ:Type} {r:ρ} {k:cK→Option ρ} {SH:Bool} {hs:List Nat}
theorem Gb {b o:Nat} (h:g.lab b o=none):(lO g SH hs).lab b o=none:=by simp [lO,h]
theorem ab3 {b o id:Nat} {p:Path} (hi:id∈hs) (h:g.lab b o=some (id,p)):(lO g SH hs).lab b o=some (id,p):=by have:hs.any (aT id)=true:=any_beq.2 hi;simp [lO,h,this]
theorem ab4 {b o id:Nat} {p:Path} (hS:SH=false) (hi:id∉hs) (h:g.lab b o=some (id,p)):(lO g SH hs).lab b o=none:=by
 have:hs.any (aT id)=false:=by rw [← pM]; exact fun h=>hi (any_beq.1 h)
 simp only [lO,h,hS,this,Bool.or_self]
theorem Nw {b o:Nat} {q:Nat×Path} (h:(lO g SH hs).lab b o=some q):g.lab b o=some q:=by
 simp only [lO] at h
 grind
theorem ab5 {b o:Nat} (hS:SH=true):(lO g SH hs).lab b o=g.lab b o:=by
 subst hS;simp only [lO,Bool.true_or]
 grind
theorem ab6 {v:ah} {x:Value} (h:aV g w U v x):aV (lO g SH hs) w U v x:=
 eV.u5 (T:=fun _=>True) (g:=g) (w:=w) (U:=U) (g':=lO g SH hs) (w':=w) (U':=U) ⟨fun _ h=>h,fun _ _ _ _ _=>rfl,fun b o hl v hv=>⟨hv,Gb hl⟩,fun _ _ _ _ _ hn=>absurd trivial hn⟩ v x h
theorem ab7 {id:Nat} {ob:dL} (hi:id∈hs) (hu:U (id / 1024)) (h:fy g w U id ob):fy (lO g SH hs) w U id ob:=
 Iw (T:=fun i=>i∉hs) (g:=g) (w:=w) (U:=U) (g':=lO g SH hs) (w':=w) (U':=U) ⟨fun _ h=>h,fun _ _ _ _ _=>rfl,fun b o hl v hv=>⟨hv,Gb hl⟩,fun b o id p hl hn=>⟨ab3 (Classical.not_not.1 hn) hl,rfl,rfl⟩⟩ (fun h=>h hi) hu ob h
mutual
theorem ab8 (hO:fA g w U sr) (hL:∀ b o,g.lab b o=none→g1.lab b o=none) (hD:∀ id,sr.obj id≠none→∀ b o p,g.lab b o=some (id,p)→g1.lab b o=none)
  (hV:∀ v x,aV g w U v x→aV g1 w U v x):∀ (s:cF) (v:ah) (x:Value),aV g w U v x→aV g1 w U (RZ sr s v) x
 | .sh t,v,x,h=>by
  show aV g1 w U (match qR sr sr (.val (.sl t)) v with | some x=>.sh t x | none=>v) x;split
  ·rename_i y hy;exact BV hO hL hD (.val (.sl t)) y v x hy h
  grind
 | .dn t,v,x,h=>by
  show aV g1 w U (match qR sr sr (.val (.bW t)) v with | some x=>.dn t x | none=>v) x;split
  ·rename_i y hy;exact BV hO hL hD (.val (.bW t)) y v x hy h
  grind
 | .gp t 0,v,x,h=>by
  show aV g1 w U (match qR sr sr (.fX t) v with | some x=>.gp t x 0 | none=>v) x;split
  ·rename_i y hy;exact BV hO hL hD (.fX t) y v x hy h
  grind
 | .gp t (j+1),v,x,h=>hV _ _ h
 | .agg l,v,x,h=>by
  cases v with
  | agg vs=>
   obtain ⟨l',rfl,h'⟩:=h;exact ⟨l',rfl,JD hO hL hD hV l vs l' h'⟩
  | _=>exact hV _ _ h
 | .fn f l,v,x,h=>by
  cases v with
  | fn f' vs=>
   obtain ⟨l',rfl,h'⟩:=h;exact ⟨l',rfl,JD hO hL hD hV l vs l' h'⟩
  | _=>exact hV _ _ h
 | .int _,v,x,h=>hV _ _ h
 | .bool,v,x,h=>hV _ _ h
 | .str,v,x,h=>hV _ _ h
 | .err,v,x,h=>hV _ _ h
 | .own _ _,v,x,h=>hV _ _ h
 | .fS _ _,v,x,h=>hV _ _ h
 | .bt _ _,v,x,h=>hV _ _ h
 | .fl _ _ _,v,x,h=>hV _ _ h
 | .nJ _ _ _ _,v,x,h=>hV _ _ h
 | .mc _,v,x,h=>hV _ _ h
theorem JD (hO:fA g w U sr) (hL:∀ b o,g.lab b o=none→g1.lab b o=none) (hD:∀ id,sr.obj id≠none→∀ b o p,g.lab b o=some (id,p)→g1.lab b o=none)
  (hV:∀ v x,aV g w U v x→aV g1 w U v x):∀ (l:List cF) (vs:List ah) (xs:List Value),cz g w U vs xs→cz g1 w U (Bl sr l vs) xs
 | [],vs,xs,h=>by
  have all:∀ (vs:List ah) (xs:List Value),cz g w U vs xs→cz g1 w U vs xs:=by
   intro vs;induction vs with
   | nil=>intro xs h; exact h
   | cons v vs ih=>rintro xs ⟨y,ys,rfl,h1,h2⟩; exact ⟨y,ys,rfl,hV _ _ h1,ih _ h2⟩
  exact all vs xs h
 | s::l,[],xs,h=>h
 | s::l,v::vs,xs,h=>by obtain ⟨y,ys,rfl,h1,h2⟩:=h;exact ⟨y,ys,rfl,ab8 hO hL hD hV s v y h1,JD hO hL hD hV l vs ys h2⟩
end
open Classical in
def q9 (st:St) (M:Mp) (gL:Gh) (SH:Bool):Gh where
 hd id ver p:=if h:∃ q:Nat×Nat×Nat,look M q.1=some q.2∧id=cu 20 q.1 then
   (if p=[] then ei gL h.choose.2.1 h.choose.2.2 else if h.choose.2.2=0 then gL.hd h.choose.2.1 (qZ st h.choose.2.1) p else eh)
  else eh
 lab b o:=match gL.lab b o with
  | none=>none
  | some (id,p)=>if h:∃ k d,look M k=some (id,d)∧id≠db then some (cu 20 h.choose,p) else (match SH with | true=>some (19*1024,[]) | false=>none)
variable {M M' mp:Mp} {gL:Gh}
theorem Nx (hM:∀ k a d,look M k=some (a,d)→k<15) {k a d:Nat} (hk:look M k=some (a,d)) (ver:Nat) (p:Path) :
  (q9 st M gL SH).hd (cu 20 k) ver p=if p=[] then ei gL a d else if d=0 then gL.hd a (qZ st a) p else eh:=by
 have hex:∃ q:Nat×Nat×Nat,look M q.1=some q.2∧cu 20 k=cu 20 q.1:=⟨(k,a,d),hk,rfl⟩
 simp only [q9,dif_pos hex];have hs:=hex.choose_spec;have e:hex.choose=(k,a,d):=by generalize hex.choose=q at hs;obtain ⟨k',a',d'⟩:=q;have e:=To (cx 20) (fun _=>by grind) (fun _=>by grind) hs.2;subst e;have h1:=hs.1;simp only [hk,aN] at h1;rw [h1]
 rw [e]
theorem Gc {b o:Nat} (h:gL.lab b o=none):(q9 st M gL SH).lab b o=none:=by simp [q9,h]
theorem ab9 (hI:lN M) {k a d b o:Nat} {p:Path} (hk:look M k=some (a,d)) (aG:a≠db) (hl:gL.lab b o=some (a,p)):(q9 st M gL SH).lab b o=some (cu 20 k,p):=by
 have hex:∃ k d,look M k=some (a,d)∧a≠db:=⟨k,d,hk,aG⟩
 simp only [q9,hl,dif_pos hex];obtain ⟨d',h1,h2⟩:=hex.choose_spec;rw [hI _ _ _ _ _ h1 hk aG]
theorem Ny {b o id:Nat} {p:Path} (hl:gL.lab b o=some (id,p)) (tc:¬ ∃ k d,look M k=some (id,d)∧id≠db) :
  (q9 st M gL SH).lab b o=match SH with | true=>some (19*1024,[]) | false=>none:=by
 simp only [q9,hl,dif_neg tc]
theorem T9 {b o:Nat} {q:Nat×Path} (h:(q9 st M gL SH).lab b o=some q):∃ q',gL.lab b o=some q':=by
 cases hl:gL.lab b o with
 | none=>rw [Gc hl] at h; simp at h
 | some q'=>grind
open Classical in
def dX (g gf:Gh) (stf:St) (mp M':Mp) (site:Nat) (hide:Bool):Gh where
 hd n ver s:=if h:(n / 1024=site∨ver=site)∧∃ q:Nat×Nat×Nat,look M' q.1=some q.2∧n=dF mp site q.1 then
   (if s=[] then ei gf h.2.choose.2.1 h.2.choose.2.2 else if h.2.choose.2.2=0 then gf.hd h.2.choose.2.1 (qZ stf h.2.choose.2.1) s else eh)
  else g.hd n ver s
 lab b o:=match gf.lab b o with
  | some (a',p)=>if h:∃ k d,look M' k=some (a',d)∧a'≠db then some (dF mp site h.choose,p) else (match g.lab b o with | some q=>some q | none=>some (site*1024+1023,[]))
  | none=>match hide with
   | true=>none
   | false=>match g.lab b o with
    | some (id,p)=>if (∃ k d,look mp k=some (id,d)∧id≠db) then none else some (id,p)
    | none=>none
theorem Ua {hide:Bool} (hJ:∀ k1 k2 a1 a2,look M' k1=some a1→look M' k2=some a2→dF mp site k1=dF mp site k2→k1=k2) {k a d ver:Nat} (hk:look M' k=some (a,d)) (hv:dF mp site k / 1024=site∨ver=site) (p:Path) :
  (dX g gf stf mp M' site hide).hd (dF mp site k) ver p=if p=[] then ei gf a d else if d=0 then gf.hd a (qZ stf a) p else eh:=by
 have hex:(dF mp site k / 1024=site∨ver=site)∧∃ q:Nat×Nat×Nat,look M' q.1=some q.2∧dF mp site k=dF mp site q.1:=⟨hv,(k,a,d),hk,rfl⟩
 simp only [dX,dif_pos hex]
 grind
theorem Ub {hide:Bool} {n ver:Nat} (h1:n / 1024≠site) (h2:ver≠site) (p:Path):(dX g gf stf mp M' site hide).hd n ver p=g.hd n ver p:=by
 simp only [dX]
 grind
theorem aca {hide:Bool} (hI:lN M') {k a d b o:Nat} {p:Path} (hk:look M' k=some (a,d)) (aG:a≠db) (hl:gf.lab b o=some (a,p)):(dX g gf stf mp M' site hide).lab b o=some (dF mp site k,p):=by
 have hex:∃ k d,look M' k=some (a,d)∧a≠db:=⟨k,d,hk,aG⟩
 simp only [dX,hl,dif_pos hex];obtain ⟨d',h1,h2⟩:=hex.choose_spec;rw [hI _ _ _ _ _ h1 hk aG]
theorem Nz {b o:Nat} (hl:gf.lab b o=none):(dX g gf stf mp M' site true).lab b o=none:=by simp [dX,hl]
theorem JE {b o:Nat} (hl:gf.lab b o=none) (hg:g.lab b o=none):(dX g gf stf mp M' site false).lab b o=none:=by simp [dX,hl,hg]
theorem acb {b o id:Nat} {p:Path} (hl:gf.lab b o=none) (hg:g.lab b o=some (id,p)) (hn:¬ ∃ k d,look mp k=some (id,d)∧id≠db):(dX g gf stf mp M' site false).lab b o=some (id,p):=by simp only [dX,hl,hg,if_neg hn]
theorem acd {b o id:Nat} {p:Path} (hl:gf.lab b o=none) (hg:g.lab b o=some (id,p)) (hn:∃ k d,look mp k=some (id,d)∧id≠db):(dX g gf stf mp M' site false).lab b o=none:=by simp only [dX,hl,hg,if_pos hn]
theorem ace {hide:Bool} {b o a':Nat} {p:Path} {q:Nat×Path} (hl:gf.lab b o=some (a',p)) (hn:¬ ∃ k d,look M' k=some (a',d)∧a'≠db) (hg:g.lab b o=some q):(dX g gf stf mp M' site hide).lab b o=some q:=by simp only [dX,hl,dif_neg hn,hg]
mutual
theorem NA {L':b9} {nm:Nat→Nat} {vr:Nat} : ∀ (s:cF) {q:Type} (y:s.LT q) (x:Value),s.j_=false→aV g w U (reflect nm vr s y).1 x→aV ⟨g.hd,L'⟩ w U (reflect nm vr s y).1 x
 | .int _,_,_,_,_,h=>h
 | .bool,_,_,_,_,h=>h
 | .str,_,_,_,_,h=>h
 | .err,_,_,_,_,h=>h
 | .sh _,_,_,_,hs,_=>by simp [cF.j_] at hs
 | .dn _,_,_,_,hs,_=>by simp [cF.j_] at hs
 | .gp _ _,_,_,_,hs,_=>by simp [cF.j_] at hs
 | .own _ _,_,_,_,_,h=>h
 | .fS _ _,_,_,_,_,h=>h
 | .bt _ _,_,_,_,_,h=>h
 | .fl _ _ _,_,_,_,_,h=>h
 | .nJ _ _ _ _,_,_,_,_,h=>h
 | .agg l,_,y,x,hs,h=>by obtain ⟨l',e,h'⟩:=h;exact ⟨l',e,JF l y l' (by simpa [cF.j_] using hs) h'⟩
 | .fn f l,_,y,x,hs,h=>by obtain ⟨l',e,h'⟩:=h;exact ⟨l',e,JF l y l' (by simpa [cF.j_] using hs) h'⟩
 | .mc v,_,_,x,hs,h=>by
  have:CY v v=true:=by simpa [cF.j_] using hs
  exact Tl this h
theorem JF {L':b9} {nm:Nat→Nat} {vr:Nat} : ∀ (l:List cF) {q:Type} (y:cF.yM l q) (xs:List Value),cF.tu l=false→cz g w U (pE nm vr l y).1 xs→cz ⟨g.hd,L'⟩ w U (pE nm vr l y).1 xs
 | [],_,_,_,_,h=>h
 | s::l,_,y,xs,hs,h=>by obtain ⟨x,r,e,h1,h2⟩:=h;simp only [cF.tu,oW] at hs;exact ⟨x,r,e,NA s y x hs.1 h1,JF l _ r hs.2 h2⟩
end
theorem acf {L':b9} {nm:Nat→Nat} {vr id:Nat} (dr:∀ b o p,g.lab b o=some (id,p)→L' b o=some (id,p)):∀ (s:lI) {q:Type} (y:s.LT q),s.j_=false→
  fy g w U id (oO nm vr s y).1→fy ⟨g.hd,L'⟩ w U id (oO nm vr s y).1
 | .row own t,_,y,hs,h=>by simp only [lI.j_,oW,Bool.not_eq_false'] at hs;obtain ⟨rfl,hn⟩:=hs;obtain ⟨h1,h2,h3⟩:=h;exact ⟨h1,h2,Nj (g:=g) (g':=⟨g.hd,L'⟩) rfl (fun _ _=>rfl) dr hn h3⟩
 | .cells ro l,_,y,hs,h=>by
  obtain ⟨h0,b,o,hh,hc⟩:=h;have fj:cz g w U (pE nm vr l y).1 ((List.range (pE nm vr l y).1.length).map fun k=>(w.cell? (ad b (o+k))).getD undef):=by refine wE (by simp) (fun k hk cO=>?_);obtain ⟨-,-,v,h5,h6⟩:=hc k hk;simp [h5]; exact h6
  have Jb:=JF (L':=L') l y _ hs fj;refine ⟨h0,b,o,hh,fun k hk=>?_⟩;obtain ⟨h1,h2,v,h3,h4⟩:=hc k hk;refine ⟨dr _ _ _ h1,h2,v,h3,?_⟩;obtain ⟨x,hx,hr⟩:=mi Jb k hk
  grind
theorem acg {L':b9} {nm:Nat→Nat} {vr:Nat} {ev:Nat→Value} : ∀ (l:List (Nat×cF)) {q:Type} (y:uT l q),cF.tu (l.map (·.2))=false→
  (∀ t v,look (dj nm vr l y).1 t=some v→aV g w U v (ev t))→∀ t v,look (dj nm vr l y).1 t=some v→aV ⟨g.hd,L'⟩ w U v (ev t)
 | [],_,y,_,_,t,v,h=>by simp [dj,look] at h
 | (i,s)::l,_,y,hs,hh,t,v,h=>by
  simp only [mM,cF.tu,oW] at hs;replace h:look ((i,(reflect nm vr s y).1)::(dj nm vr l (reflect nm vr s y).2).1) t=some v:=h;have Zk:=hh t v h;rw [dQ] at h;split at h
  ·rename_i hi;simp only [aN] at h;subst h;exact NA s y _ hs.1 Zk
  rename_i hi;have go:∀ (l:List (Nat×cF)) {q:Type} (y:uT l q),cF.tu (l.map (·.2))=false→look (dj nm vr l y).1 t=some v→aV g w U v (ev t)→aV ⟨g.hd,L'⟩ w U v (ev t):=by
   intro l;induction l with
   | nil=>intro q y _ h; simp [dj,look] at h
   | cons p l ih=>
    obtain ⟨i,s⟩:=p;intro q y hs h hv;simp only [mM,cF.tu,oW] at hs;replace h:look ((i,(reflect nm vr s y).1)::(dj nm vr l (reflect nm vr s y).2).1) t=some v:=h;rw [dQ] at h;split at h
    ·simp only [aN] at h;subst h;exact NA s y _ hs.1 hv
    grind
  grind
theorem Uc {L':b9} {nm:Nat→Nat} {vr:Nat} {id:Nat} {ob:dL} (dr:∀ b o p,g.lab b o=some (id,p)→L' b o=some (id,p)):∀ (l:List (Nat×lI)) {q:Type} (y:wk l q),l.any (fun p=>p.2.j_)=false→
  look (fm nm vr l y).1 id=some (some ob)→fy g w U id ob→fy ⟨g.hd,L'⟩ w U id ob
 | [],_,y,_,h,_=>by simp [fm,look] at h
 | (i,s)::l,_,y,hs,h,hr=>by
  simp only [List.any_cons,oW] at hs;replace h:look ((nm i,some (oO nm vr s y).1)::(fm nm vr l (oO nm vr s y).2).1) id=some (some ob):=h;rw [dQ] at h;split at h
  ·simp only [aN] at h;subst h;exact acf dr s y hs.1 hr
  exact Uc dr l _ hs.2 h hr
theorem Ud {nm:Nat→Nat} {vr:Nat} : ∀ (l:List (Nat×lI)) {q:Type} (y:wk l q) (p:Nat×lI),p∈l→(look (fm nm vr l y).1 (nm p.1)).isSome=true
 | [],_,y,p,h=>by grind
 | (i,s)::l,_,y,p,h=>by
  show (look ((nm i,some (oO nm vr s y).1)::(fm nm vr l (oO nm vr s y).2).1) (nm p.1)).isSome=true;rw [dQ];split
  ·rfl
  rename_i hi;rcases gC.1 h with rfl | h
  ·grind
  exact Ud l _ p h
theorem NB {nm:Nat→Nat} {vr:Nat} : ∀ (l:List (Nat×cF)) (n:Nat) {q:Type} (y:uT l q),countB n l=true→(dj nm vr l y).1=number n ((dj nm vr l y).1.map (·.2))∧(dj nm vr l y).1.length=l.length
 | [],n,_,y,_=>⟨rfl,rfl⟩
 | (i,s)::l,n,_,y,h=>by
  simp only [countB,aB,td] at h;obtain ⟨rfl,h⟩:=h;obtain ⟨h1,h2⟩:=NB (nm:=nm) (vr:=vr) l (i+1) (reflect nm vr s y).2 h;refine ⟨?_,by show ((dj nm vr l (reflect nm vr s y).2).1.length+1)=_; rw [h2]; rfl⟩;show (i,(reflect nm vr s y).1)::(dj nm vr l (reflect nm vr s y).2).1=(i,(reflect nm vr s y).1)::number (i+1) ((dj nm vr l (reflect nm vr s y).2).1.map (·.2))
  grind
theorem NC {M:cM} {mp0:Mp} : ∀ (mp:Mp) (id:Nat),id∈qS M mp0 mp↔∃ p∈mp,p.2.1=id∧id≠db∧(∀ q∈M.lb.bb,q.1≠p.1)∧∃ d,look mp0 p.1=some (id,d)
 | [],id=>by simp [qS]
 | p::mp,id=>by
  have ih:=NC (M:=M) (mp0:=mp0) mp id;have key:(aT p.2.1 db||M.lb.bb.any (fun q=>aT q.1 p.1)||!(match look mp0 p.1 with | some ad=>aT ad.1 p.2.1 | none=>false))=false↔(p.2.1≠db∧(∀ q∈M.lb.bb,q.1≠p.1)∧∃ d,look mp0 p.1=some (p.2.1,d)):=by
   rw [oW,oW,Bool.not_eq_false',List.any_eq_false];constructor
   ·rintro ⟨⟨h1,h2⟩,h3⟩;refine ⟨fun e=>by simp_all,fun q hq e=>h2 q hq (by simp_all),?_⟩;split at h3
    ·rename_i ad _;obtain ⟨x,d⟩:=ad;simp_all
    grind
   rintro ⟨h1,h2,d,h3⟩;refine ⟨⟨?_,fun q hq e=>h2 q hq (bB e)⟩,by simp_all⟩;rw [← pM];simp_all
  simp only [qS];cases hb:(aT p.2.1 db||M.lb.bb.any (fun q=>aT q.1 p.1)||!(match look mp0 p.1 with | some ad=>aT ad.1 p.2.1 | none=>false)) with
  | true=>
   simp only;rw [ih];constructor
   ·simp_all
   rintro ⟨q,h1,h2,h3,h4,h5⟩;rcases gC.1 h1 with rfl | h1
   ·grind
   grind
  | false=>
   simp only [gC,ih];constructor
   ·rintro (rfl | ⟨q,h1,h2⟩)
    ·obtain ⟨a1,a2,a3⟩:=key.1 hb;exact ⟨p,.inl rfl,rfl,a1,a2,a3⟩
    exact ⟨q,.inr h1,h2⟩
   rintro ⟨q,h1,h2,h3⟩;rcases h1 with rfl | h1
   ·omega
   exact .inr ⟨q,h1,h2,h3⟩
end
end Go.Am
namespace Go.Am
open Go
def JG (P:Program) (c:bd):Prop:=∀ f M,(f,M)∈c.uV→oY P f M∧ck P f
section
variable {P:Program} {c:bd} {g gf:Gh} {w w':World} {U:Nat→Prop} {sr stf:St} {a:Act} {site:Nat} {o:Oper} {ρ:Type} {r:ρ} {k:cK→Option ρ}
structure Handed (g:Gh) (U:Nat→Prop) (M:cM) (hs:List Nat) (mp:Mp):Prop where
 inj:lN mp
 lt:∀ k a d,look mp k=some (a,d)→k<15
 mem:∀ k a d,look mp k=some (a,d)→a=db∨(a∈hs∧U (a / 1024)∧a / 1024≠19)
 all:∀ p∈M.la.bb,∃ a d,look mp p.1=some (a,d)
theorem RE {mp:Mp} {k a d:Nat} (h:k<1000) (hk:look mp k=some (a,d)):dF mp site k=a:=by
 have:cS k 1000=true:=by simpa using h
 simp [dF,this,hk]
theorem Zl {mp:Mp} {k:Nat} (h:¬ k<1000):dF mp site k=site*1024+(k-1000):=by
 have:cS k 1000=false:=by rw [← pM]; intro hh; exact h (by simp_all)
 simp [dF,this]
theorem ach (S:dC P c g w U sr a) (hs:¬ U site) {M:cM} {hl:List Nat} {eJ:St} {mp:Mp} (H:Handed g U M hl mp) {vs:List ah} (bK:Ie M vs mp=true) {y:M.lb.LT} {bG:List Value} {Uf:Nat→Prop}
  (X:JC (q9 eJ mp (lO g M.lb.j_ hl) M.lb.j_) w M.lb y bG gf Uf stf w') :
  ∃ g',dP g w U site ⟨match (dj (dF mp site) site M.lb.cH y).1.map (·.2) with | [v]=>v | vs=>.gX vs,
   (fm (dF mp site) site M.lb.bb (dj (dF mp site) site M.lb.cH y).2).1++gone (qS M mp mp)⟩ (tL bG) w' g' (U' U site):=by
 unfold Ie at bK;simp only [aB] at bK;obtain ⟨⟨⟨⟨-,-⟩,zh⟩,wV⟩,wW⟩:=bK;have wW:=iy.1 wW;have wZ:20≤site:=by
  rcases kj site 20 with h | h
  ·exact absurd (S.nL site h) hs
  exact h
 have Zm:∀ p∈M.lb.bb,p.1<1000→∃ aid,look mp p.1=some (aid,0)∧aid≠db:=by
  intro p hp aF;have:=wW p hp;rw [show cS p.1 1000=true by simp_all] at this;simp only at this;split at this
  ·rename_i ad hk;obtain ⟨aid,d⟩:=ad;simp only [aB,BT,td] at this;obtain ⟨t1,rfl⟩:=this;exact ⟨aid,hk,fun e=>by simp_all⟩
  grind
 have Zn:∀ p∈M.lb.bb,¬ p.1<1000→p.1<2000:=by intro p hp aF;have:=wW p hp;rw [show cS p.1 1000=false by rw [← pM]; intro hh; exact aF (by simp_all)] at this;simpa [eH] using this
 obtain ⟨M1,r1,r2,r3,r4⟩:=Jc (nm:=dF mp site) (vr:=site) X.bb X.env M.lb.cH [] _ y X.rd;obtain ⟨M',k1,k2,k3,k4,k5⟩:=FJ (nm:=dF mp site) (vr:=site) X.bb M.lb.bb M1 _ _ r3;have i0:lN []:=fun _ _ _ _ _ h=>by simp [look] at h
 have hI:lN M':=k2 (r2 i0);have fit:∀ k a d,look M' k=some (a,d)→(∃ q∈M.lb.bb,q.1=k)∧(k<1000→k<15∧a=k*1024∧d=0):=by
  unfold LA.RW at k3;split at k3
  ·rename_i hf;intro k a d hk;have:=iy.1 hf _ (kJ hk);simp only [aB] at this;obtain ⟨t1,t2⟩:=this;obtain ⟨q,h1,h2⟩:=y8.1 t1;refine ⟨⟨q,h1,bB h2⟩,fun aF=>?_⟩;rw [show cS k 1000=true by simp_all] at t2;simp_all
  grind
 have EU:∀ k a d,look M' k=some (a,d)→k<1000→∃ aid,look mp k=some (aid,0)∧aid≠db∧dF mp site k=aid∧U (aid / 1024)∧aid∈hl∧aid / 1024≠19:=by intro k a d hk aF;obtain ⟨⟨q,hq,rfl⟩,-⟩:=fit k a d hk;obtain ⟨aid,h1,h2⟩:=Zm q hq aF;obtain ⟨h3,h4,h5⟩:=(H.mem _ _ _ h1).resolve_left h2;exact ⟨aid,h1,h2,RE aF h1,h4,h3,h5⟩
 have nw:∀ k a d,look M' k=some (a,d)→¬ k<1000→dF mp site k=site*1024+(k-1000)∧dF mp site k / 1024=site∧k<2000:=by intro k a d hk aF;obtain ⟨⟨q,hq,rfl⟩,-⟩:=fit k a d hk;have:=Zn q hq aF;have e:=Zl (site:=site) (mp:=mp) aF;exact ⟨e,by omega,this⟩
 have hJ:∀ k1 k2 a1 a2,look M' k1=some a1→look M' k2=some a2→dF mp site k1=dF mp site k2→k1=k2:=by
  intro k1 k2 a1 a2 h1 h2 e;obtain ⟨a1,d1⟩:=a1;obtain ⟨a2,d2⟩:=a2;by_cases l1:k1<1000<;>by_cases l2:k2<1000
  ·obtain ⟨x1,y1,z1,e1,-⟩:=EU k1 _ _ h1 l1;obtain ⟨x2,y2,z2,e2,-⟩:=EU k2 _ _ h2 l2;rw [e1,e2] at e;subst e;exact H.inj _ _ _ _ _ y1 y2 z1
  ·grind
  ·grind
  grind
 have Ue:∀ k a d,look mp k=some (a,d)→k<15:=H.lt
 let SH:=M.lb.j_
 let gL:=lO g SH hl
 let gI:=q9 eJ mp gL SH
 have EP:∀ b o,g.lab b o=none→gI.lab b o=none:=fun b o h=>Gc (Gb h);have H2:∀ b o,u6 gI b o→∃ id p,g.lab b o=some (id,p)∧∃ k d,look mp k=some (id,d)∧id≠db:=by
  rintro b o ⟨id,p,h1,h2⟩;obtain ⟨⟨aE,p'⟩,hq⟩:=T9 h1;refine ⟨aE,p',Nw hq,?_⟩;by_cases hex:∃ k d,look mp k=some (aE,d)∧aE≠db
  ·omega
  exfalso;have h1:(q9 eJ mp gL SH).lab b o=some (id,p):=h1;rw [Ny hq hex] at h1
  grind
 have other:∀ b o id p,g.lab b o=some (id,p)→(¬ ∃ k d,look mp k=some (id,d)∧id≠db)→gI.lab b o=none∨gI.lab b o=some (19*1024,[]):=by
  intro b o id p hg hn;cases hq:gL.lab b o with
  | none=>exact .inl (Gc hq)
  | some q'=>
   have:=Nw hq;rw [hg] at this;obtain rfl:=aZ this;have e:gI.lab b o=_:=Ny hq hn
   grind
 let gO:=dX g gf stf mp M' site false
 let gH:=dX g gf stf mp M' site true
 have hU:∀ k a d,look M' k=some (a,d)→U' U site (dF mp site k / 1024):=by
  intro k a d hk;by_cases aF:k<1000
  ·obtain ⟨x1,y1,z1,e1,u1,-⟩:=EU k _ _ hk aF;rw [e1]; exact .inl u1
  exact .inr (nw k _ _ hk aF).2.1
 have p7:site≠0:=by omega
 have C:Cons stf (dF mp site) site M' gf gH (U' U site):=by
  refine ⟨fun k a d hk=>⟨hU k a d hk,?_⟩,.inl S.u0,.inr rfl,fun b o h=>Nz h,fun k a d b o p hk aG BW=>aca hI hk aG BW,fun k a d q hk hq=>?_⟩
  ·by_cases aF:k<1000
   ·obtain ⟨x1,y1,z1,e1,u1,m1,-⟩:=EU k _ _ hk aF;obtain ⟨-,ff⟩:=fit k a d hk;obtain ⟨f1,rfl,rfl⟩:=ff aF;have aG:k*1024≠db:=by unfold db; omega
    rw [e1];have:gH.hd x1 0 []=g.hd x1 0 []:=Ub (n:=x1) (ver:=0) (show x1 / 1024≠site from fun e=>hs (e▸u1)) (fun e=>p7 e.symm) [];rw [this];have hp:=X.par (k*1024) (by omega);have hh:=Nx (st:=eJ) (gL:=gL) (SH:=SH) Ue y1 0 [];rw [if_pos rfl,MN (by omega)] at hh;simp only [ei,aG,if_false,if_true];rw [hp,hh];simp [ei,z1,gL,lO]
   have:=Ua (g:=g) (gf:=gf) (stf:=stf) (hide:=true) hJ hk (ver:=0) (.inl (nw k _ _ hk aF).2.1) []
   grind
  have:=Ua (g:=g) (gf:=gf) (stf:=stf) (hide:=true) hJ hk (ver:=site) (.inr rfl) q
  grind
 have e1:=r4 gH _ (C.mono k1);have e2:=k5 gH _ C;have It:∀ b o p id,gH.lab b o=some (id,p)→gO.lab b o=some (id,p):=by
  intro b o p id h;cases hf:gf.lab b o with
  | none=>
   have:gH.lab b o=none:=Nz hf
   grind
  | some q=>
   have:gO.lab b o=gH.lab b o:=by simp only [gO,gH,dX,hf]
   grind
 have same:SH=true→gO=gH:=by
  intro hS;have:gO.lab=gH.lab:=by
   funext b o;cases hf:gf.lab b o with
   | some q=>simp only [gO,gH,dX,hf]
   | none=>
    have h2:gH.lab b o=none:=Nz hf;rw [h2];cases hg:g.lab b o with
    | none=>exact JE hf hg
    | some q=>
     obtain ⟨id,p⟩:=q;by_cases hex:∃ k d,look mp k=some (id,d)∧id≠db
     ·exact acd hf hg hex
     exfalso;have hgL:gL.lab b o=some (id,p):=by show (lO g SH hl).lab b o=_;rw [ab5 hS]; exact hg
     have cU:gI.lab b o=some (19*1024,[]):=by have e:gI.lab b o=_:=Ny hgL hex;rw [e,hS]
     have:=X.oQ b o (19*1024) [] cU rfl
     grind
  show Gh.mk gO.hd gO.lab=Gh.mk gH.hd gH.lab;rw [this];rfl
 have v1:∀ t v,look (dj (dF mp site) site M.lb.cH y).1 t=some v→aV gO w' (U' U site) v ((F9 bG).eval (.tmp t)):=by
  cases hS:SH with
  | true=>grind
  | false=>
   have BY:M.lb.j_=false:=hS;unfold LA.j_ at BY;rw [oW] at BY;exact acg (g:=gH) (L':=gO.lab) M.lb.cH y BY.1 e1
 have o1:∀ id ob,look (fm (dF mp site) site M.lb.bb (dj (dF mp site) site M.lb.cH y).2).1 id=some (some ob)→U' U site (id / 1024)∧fy gO w' (U' U site) id ob:=by
  cases hS:SH with
  | true=>grind
  | false=>
   have BY:M.lb.j_=false:=hS;unfold LA.j_ at BY;rw [oW] at BY;intro id ob h;obtain ⟨x1,x2⟩:=e2 id ob h;exact ⟨x1,Uc (g:=gH) (L':=gO.lab) (fun b o p hb=>It b o p id hb) M.lb.bb _ BY.2 h x2⟩
 have hT:∀ id,(look ((fm (dF mp site) site M.lb.bb (dj (dF mp site) site M.lb.cH y).2).1++gone (qS M mp mp)) id).isSome=true→id / 1024=site∨∃ k d,look mp k=some (id,d)∧id≠db:=by
  intro id h;rw [iU] at h;cases hq:look (fm (dF mp site) site M.lb.bb (dj (dF mp site) site M.lb.cH y).2).1 id with
  | some oo=>
   obtain ⟨p,hp,rfl,-⟩:=DL _ _ _ _ hq
   grind
  | none=>
   rw [hq,mj] at h;by_cases hm:id∈qS M mp mp
   ·obtain ⟨p,h1,h2,h3,-,d,hd⟩:=(NC mp id).1 hm
    grind
   grind
 have H0:∀ k id d,look mp k=some (id,d)→id≠db→(look ((fm (dF mp site) site M.lb.bb (dj (dF mp site) site M.lb.cH y).2).1++gone (qS M mp mp)) id).isSome=true:=by
  intro k id d hk aG;rw [iU];cases hq:look (fm (dF mp site) site M.lb.bb (dj (dF mp site) site M.lb.cH y).2).1 id with
  | some oo=>rfl
  | none=>
   simp only;have hm:id∈qS M mp mp:=by refine (NC mp id).2 ⟨_,kJ hk,rfl,aG,fun q kI e=>?_,d,hk⟩;have aF:=Ue k id d hk;simp only at e;have:=Ud (nm:=dF mp site) (vr:=site) M.lb.bb (dj (dF mp site) site M.lb.cH y).2 q kI;rw [e,RE (by omega) hk,hq] at this;simp at this
   rw [mj,if_pos hm]; rfl
 have iG:∀ b o id p,g.lab b o=some (id,p)→(¬ ∃ k d,look mp k=some (id,d)∧id≠db)→b<w.heap.size→gO.lab b o=some (id,p):=by
  intro b o id p hg hn hb;rcases other b o id p hg hn with h | h
  ·have hf:gf.lab b o=none:=by
    cases hf:gf.lab b o with
    | none=>rfl
    | some q=>exact absurd h (X.cI b o q hb hf)
   exact acb hf hg hn
  have hf:=X.oQ b o (19*1024) [] h rfl;refine ace hf ?_ hg;rintro ⟨k,d,hk,aG⟩;obtain ⟨⟨q,hq,hqk⟩,ff⟩:=fit k _ _ hk;obtain ⟨aa,dd,h1,h2⟩:=k4 q hq;rw [hqk,hk] at h1;simp only [aN,bS] at h1;rcases h2 with h2 | h2
  ·omega
  rw [← h1.1] at h2;exact X.nf _ h2 rfl
 refine ⟨gO,⟨⟨fun s h=>.inl h,fun id ver p h1 h2=>Ub (n:=id) (ver:=ver) (show id / 1024≠site from fun e=>hs (e▸h1)) (show ver≠site from fun e=>hs (e▸h2)) p,fun b o jW v hv=>?_,fun b o id p jW wH=>?_⟩,?_,fun id ob h=>?_,fun s h=>h,fun b o q h=>?_,fun b o q hb h=>?_,?_,fun id h=>?_⟩⟩
 ·obtain ⟨h1,h2⟩:=X.shr b o (EP b o jW) v hv;exact ⟨h1,JE h2 jW⟩
 ·have hn:¬ ∃ k d,look mp k=some (id,d)∧id≠db:=by rintro ⟨k,d,hk,aG⟩;exact wH (H0 k id d hk aG)
  have hb:=S.cm b o _ jW;refine ⟨iG b o id p jW hn hb,Fr.cell X.fr hb (fun hm=>?_)⟩
  grind
 ·obtain ⟨s1,s2⟩:=NB (nm:=dF mp site) (vr:=site) M.lb.cH 0 y zh;have hv:cz gO w' (U' U site) ((dj (dF mp site) site M.lb.cH y).1.map (·.2)) bG:=by
   refine wE (by simp [s2,X.len]) (fun k hk cO=>?_);have h1:=v1 k ((dj (dF mp site) site M.lb.cH y).1.map (·.2))[k] (by
    have h0:look (dj (dF mp site) site M.lb.cH y).1 k=look (number 0 ((dj (dF mp site) site M.lb.cH y).1.map (·.2))) k:=congrArg (fun e=>look e k) s1;rw [h0,Ga,if_pos (tK _),Jn]
    grind)
   rw [JB] at h1;simpa [cO] using h1
  revert hv;generalize (dj (dF mp site) site M.lb.cH y).1.map (·.2)=rl;intro hv
  match rl,bG,hv,mU hv with
  | [],[],hv,_=>exact ⟨[],rfl,hv⟩
  | [a1],[x1],hv,_=>
   obtain ⟨x',r',e,h1,-⟩:=hv;simp only [LC] at e;rw [e.1]; exact h1
  | a1::a2::rl,x1::x2::xs,hv,_=>exact ⟨_,rfl,hv⟩
 ·replace h:look ((fm (dF mp site) site M.lb.bb (dj (dF mp site) site M.lb.cH y).2).1++gone (qS M mp mp)) id=some (some ob):=h;rw [iU] at h;cases hq:look (fm (dF mp site) site M.lb.bb (dj (dF mp site) site M.lb.cH y).2).1 id with
  | some oo=>
   grind
  | none=>
   rw [hq] at h;replace h:look (gone (qS M mp mp)) id=some (some ob):=h;rw [mj] at h
   grind
 ·cases hf:gf.lab b o with
  | some q'=>exact X.cm b o q' hf
  | none=>
   cases hg:g.lab b o with
   | some q'=>exact oL (S.cm b o q' hg) X.fr.size
   | none=>
    have:gO.lab b o=none:=JE hf hg
    grind
 ·intro hg;have cU:=EP b o hg;have hf:gf.lab b o=none:=by
   cases hf:gf.lab b o with
   | none=>rfl
   | some q'=>exact absurd cU (X.cI b o q' hb hf)
  have:gO.lab b o=none:=JE hf hg
  grind
 ·refine X.fr.mono (fun b o hb hm=>?_);obtain ⟨id,p,h1,k,d,hk,aG⟩:=H2 b o hm;exact ⟨id,p,h1,((H.mem k id d hk).resolve_left aG).2.2⟩
 rcases hT id h with h | ⟨k,d,hk,aG⟩
 ·omega
 exact ((H.mem k id d hk).resolve_left aG).2.2
theorem Ug {st:St} {SH:Bool} {hl:List Nat} {id:Nat} {ob:dL} (h:(Db st SH hl).obj id=some ob):SH=false∧id∉hl∧st.obj id=some ob:=by
 cases SH with
 | true=>exact absurd (show (none:Option dL)=some ob from h) (by simp)
 | false=>
  replace h:({ st with heap:=gone hl++st.heap } : St).obj id=some ob:=h;unfold St.obj at h;simp only [iU,mj] at h;by_cases hm:id∈hl
  ·grind
  simp only [hm,if_false] at h;exact ⟨rfl,hm,h⟩
theorem aci (S:dC P c g w U sr a) (hs:¬ U site) {f:Operand} {args:Array Operand} {ts:Array TypeId} (aP:o.op = .call ⟨.value f,args,ts⟩) {jE:Nat} {caps:List ah} (hf:sr.ev f = .fn jE caps) {M:cM}
  (hM:oY P jE M) (hG:ck P jE) {x:M.la.wo Mp} (hx:LV sr M (args.toList.map sr.ev++caps)=some x) (e:E7 sr site M x k=some r):∃ bu,k bu=some r∧nN P g w U site o a bu:=by
 have zm:=S.ev f;rw [hf] at zm;obtain ⟨tO,yC,fF⟩:=zm;obtain ⟨fn,w4,F6,zl⟩:=hG;unfold LV at hx;split at hx
 ·rename_i x' ND;split at hx
  ·rename_i bK;obtain rfl:=aZ hx;obtain ⟨y,hy,e⟩:=Jo.1 e;refine ⟨_,e,fun next Q hn=>?_⟩
   let vs:=args.toList.map sr.ev++caps
   let l:=args.toList.map a.eval++tO
   have p8:cz g w U vs l:=by
    refine JA ?_ fF;have:∀ l:List Operand,cz g w U (l.map sr.ev) (l.map a.eval):=by
     intro l;induction l with
     | nil=>rfl
     | cons x l ih=>exact ⟨_,_,rfl,S.ev x,ih⟩
    exact this _
   let SH:=M.lb.j_
   let hl:=handed sr M.la vs
   let gL:=lO g SH hl
   let eJ:=R_ sr M vs
   have acj:cz gL w U (Bl (Db sr SH hl) (M.la.cH.map (·.2)) vs) l:=by
    refine JD (g:=g) (g1:=gL) (sr:=Db sr SH hl) (fun id ob h=>?_) (fun b o h=>Gb h) (fun id hid b o p h=>?_) (fun v x h=>ab6 h) _ vs l p8
    ·exact S.bb id ob (Ug h).2.2
    cases ho:(Db sr SH hl).obj id with
    | none=>exact absurd ho hid
    | some ob=>
     obtain ⟨h1,h2,-⟩:=Ug ho;exact ab4 h1 h2 h
   have tf:∀ id ob,eJ.obj id=some ob→id∈hl∧sr.obj id=some ob:=by
    intro id ob h;have h0:eJ.obj id=if id∈hl then sr.obj id else none:=BR (st:=sr) hl id
    rw [h0] at h;split at h
    ·grind
    grind
   have hO:fA gL w U eJ:=by intro id ob h;obtain ⟨h1,h2⟩:=tf id ob h;obtain ⟨u,hr⟩:=S.bb id ob h2;exact ⟨u,ab7 h1 u hr⟩
   have hE:∀ t v,look eJ.env t=some v→aV gL w U v ((F9 l).eval (.tmp t)):=by intro t v h;have h:look (number 0 (Bl (Db sr SH hl) (M.la.cH.map (·.2)) vs)) t=some v:=h;rw [Ga,if_pos (tK _),Jn] at h;obtain ⟨h3,h4⟩:=eE.1 h;obtain ⟨x',h5,h6⟩:=mi acj t h3;rw [JB,lG,h5,← h4];exact h6
   obtain ⟨M1,r1,r2,r3,r4⟩:=Jc (nm:=cu 20) (vr:=0) hO hE M.la.cH [] _ x' ND;obtain ⟨M2,k1,k2,k3,k4,k5⟩:=FJ (nm:=cu 20) (vr:=0) hO M.la.bb M1 _ _ r3;have i0:lN []:=fun _ _ _ _ _ h=>by simp [look] at h
   have hI:lN M2:=k2 (r2 i0);have fit:(∀ k a d,look M2 k=some (a,d)→(∃ q∈M.la.bb,q.1=k)∧k<15)∧M.la.tail x'=M2:=by
    unfold LA.RX at k3;split at k3
    ·rename_i hf;refine ⟨fun k a d hk=>?_,(aZ k3).symm⟩;have:=iy.1 hf _ (kJ hk);simp_all
    grind
   obtain ⟨fit,ZC⟩:=fit;have aF:∀ k a d,look M2 k=some (a,d)→k<15:=fun k a d h=>(fit k a d h).2;have H:Handed g U M hl M2:=by
    refine ⟨hI,aF,fun k a d hk=>?_,fun p hp=>?_⟩
    ·obtain ⟨⟨q,hq,rfl⟩,-⟩:=fit k a d hk;obtain ⟨a',d',h1,h2⟩:=k4 q hq;rw [hk] at h1;simp only [aN,bS] at h1;obtain ⟨rfl,rfl⟩:=h1;rcases h2 with h2 | h2
     ·omega
     cases ho:eJ.obj a with
     | none=>grind
     | some ob=>
      obtain ⟨h3,h4⟩:=tf a ob ho;exact .inr ⟨h3,(S.bb a ob h4).1,S.nf a (by grind)⟩
    grind
   let gI:=q9 eJ M2 gL SH
   have C:Cons eJ (cu 20) 0 M2 gL gI gK:=by
    refine ⟨fun k a d hk=>⟨?_,?_⟩,by show (0:Nat)<20; omega,by show (0:Nat)<20; omega,fun b o h=>Gc h,fun k a d b o p hk aG BW=>ab9 hI hk aG BW,fun k a d q hk hq=>?_⟩
    ·have:=aF k a d hk;show cu 20 k / 1024<20;rw [BQ,if_pos (by omega)]; omega
    ·have:=Nx (st:=eJ) (gL:=gL) (SH:=SH) aF hk 0 []
     grind
    have:=Nx (st:=eJ) (gL:=gL) (SH:=SH) aF hk 0 q
    grind
   have c1:=r4 gI _ (C.mono k1);have c2:=k5 gI _ C;have BX:=bK;unfold Ie at BX;simp only [aB,td] at BX;obtain ⟨⟨⟨⟨q1,q2⟩,-⟩,-⟩,-⟩:=BX;obtain ⟨s1,s2⟩:=NB (nm:=cu 20) (vr:=0) M.la.cH 0 x' q1;have hlen:l.length=M.la.cH.length:=by have:=mU p8;rw [q2]; exact this
   have we:=hM x' y hy gI w l hlen (fun t v h=>?_) (fun id ob h=>?_) (fun b o q h=>?_) (S.gl.mono (Fr.refl _ _) (fun b o _ h=>Gc (Gb h)))
   ·have hex:(execOp a.eval o).run P w = .ok (.enter jE (args.toList.map a.eval++tO).toArray) w:=by
     unfold execOp;rw [aP];simp only [resolve,yC,Deferred.ofValue,invoke,callFunc];have F7:¬ fn.name = "runtime.NumGoroutine" :=by simpa using F6
     have F8:¬ fn.body=none:=by intro hh; rw [hh] at zl; simp at zl
     simp [w4,F7,F8]
    unfold DQ;rw [hex,DP];refine BU we (fun en w' h=>?_);obtain ⟨bG,gf,Uf,stf,rfl,X⟩:=h;obtain ⟨g',hp⟩:=ach S hs H (vs:=vs) (by grind) X
    grind
   ·have h:look (dj (cu 20) 0 M.la.cH x').1 t=some v:=h;have hv:=c1 t v h;rw [JB] at hv;have ht:t<l.length:=by rw [s1,Ga,if_pos (tK _),Jn] at h;have:=(eE.1 h).1;rw [List.length_map,s2] at this;omega
    grind
   ·have h:(match look (fm (cu 20) 0 M.la.bb (dj (cu 20) 0 M.la.cH x').2).1 id with | some (some o)=>some o | _=>none)=some ob:=h;split at h
    ·rename_i h';obtain rfl:=aZ h;obtain ⟨p,hp,rfl,-⟩:=DL _ _ _ _ h';obtain ⟨a',d',h1,-⟩:=k4 p hp;have:=aF _ _ _ h1;exact ⟨by rw [BQ,if_pos (by omega)]; exact this,(c2 _ _ h').2⟩
    grind
   obtain ⟨q',hq⟩:=T9 h;exact S.cm b o q' (Nw hq)
  grind
 grind
theorem NF (hC:F4 P c) (hL:JG P c) (S:dC P c g w U sr a) (hs:¬ U site) {f:Operand} {args:Array Operand} {ts:Array TypeId} (aP:o.op = .call ⟨.value f,args,ts⟩) {jE:Nat} {caps:List ah} (hf:sr.ev f = .fn jE caps) :
  ∀ (l:List (Nat×cM)),(∀ p∈l,p∈c.uV)→uW c sr site jE (args.toList.map sr.ev++caps) k l=some r→∃ bu,k bu=some r∧nN P g w U site o a bu
 | [],_,e=>ab2 hC S hs aP hf e
 | (ack,M)::l,e_,e=>by
  simp only [uW] at e;split at e
  ·exact NF hC hL S hs aP hf l (fun p hp=>e_ p (kD _ hp)) e
  rename_i hb;obtain rfl:=bB hb;split at e
  ·rename_i hx;obtain ⟨h1,h2⟩:=hL ack M (e_ _ List.mem_cons_self);exact aci S hs aP hf h1 h2 hx e
  exact NF hC hL S hs aP hf l (fun p hp=>e_ p (kD _ hp)) e
theorem tP (hC:F4 P c) (hL:JG P c):zb P c:=by
 intro ρ r k g w U sr a site o S hs e;by_cases we:∃ f args ts jE caps,o.op = .call ⟨.value f,args,ts⟩∧sr.ev f = .fn jE caps
 ·obtain ⟨f,args,ts,jE,caps,aP,hf⟩:=we;rw [aP] at e;have e:(match sr.ev f with | .fn f caps=>uW c sr site f (args.toList.map sr.ev++caps) k c.uV | _=>none)=some r:=e;rw [hf] at e;exact NF hC hL S hs aP hf c.uV (fun _ h=>h) e
 cases hc:I6 o.op with
 | false=>exact aa7 S hs hc e
 | true=>
  exfalso;unfold I6 at hc;split at hc
  ·rename_i f args ts aP;rw [aP] at e;have e:(match sr.ev f with | .fn f caps=>uW c sr site f (args.toList.map sr.ev++caps) k c.uV | _=>none)=some r:=e
   grind
  grind
end
end Go.Am
namespace Go.Am
open Go
section
variable {ρ:Type} (k:cK→Option ρ)
theorem vk {α ρ:Type} (p:Prop) [Decidable p] (x:Option α) (f:α→Option ρ):(ab p x).bind f=ab p (x.bind f):=by unfold ab; split<;>rfl
theorem acm {α ρ:Type} (b:Bool) (x y:Option α) (f:α→Option ρ):(br b x y).bind f=br b (x.bind f) (y.bind f):=by cases b<;>rfl
theorem Uh {kd:TK} {yc:Bool} {op:BinOp} {x y:ah} (k:ah→Option ρ):wj kd yc op x y k=(wj kd yc op x y some).bind k:=by
 unfold wj
 repeat' (first | rfl | (split; done) | split)
theorem JH {n:Nat} {st:St} {x:ah} {i:Int} (k:ah→Option ρ):rL n st x i k=(rL n st x i some).bind k:=by
 unfold rL
 repeat' (first | rfl | split)
theorem acn (site id own t vr xs tt i j aE oI i' j' u off len):C0 site id own t vr xs tt i j aE oI i' j' u off len k=(C0 site id own t vr xs tt i j aE oI i' j' u off len some).bind k:=by
 unfold C0;split
 ·rfl
 rw [vk]
 grind
theorem aco (st site size id own t vr xs p tt i j vs):Bh st site size id own t vr xs p tt i j vs k=(Bh st site size id own t vr xs p tt i j vs some).bind k:=by
 unfold Bh
 repeat' (first | rfl | split)
theorem acp (st site size id t xs bi bj tt i j vs):C1 st site size id t xs bi bj tt i j vs k=(C1 st site size id t xs bi bj tt i j vs some).bind k:=by
 unfold C1;split
 ·rfl
 rw [vk]
 grind
theorem acq (st site size a v):C2 st site size a v k=(C2 st site size a v some).bind k:=by
 unfold C2
 repeat' (first | rfl | exact acn k _ _ _ _ _ _ _ _ _ _ _ _ _ _ _ _ | exact aco k _ _ _ _ _ _ _ _ _ _ _ _ _ | exact acp k _ _ _ _ _ _ _ _ _ _ _ _ | split)
theorem acr (fo st site t s x):Bi fo st site t s x k=(Bi fo st site t s x some).bind k:=by
 unfold Bi
 repeat' (first | rfl | (rw [vk]; rfl) | split)
theorem acs (fo st site id own t xs x):Bj fo st site id own t xs x k=(Bj fo st site id own t xs x some).bind k:=by
 unfold Bj
 repeat' (first | rfl | (rw [vk]; rfl) | split)
theorem acu (fo st site id t xs i j x):C3 fo st site id t xs i j x k=(C3 fo st site id t xs i j x some).bind k:=by
 unfold C3
 repeat' (first | rfl | (rw [vk,aA]; done) | split)
theorem acv (fo st site j3 gZ s x):C4 fo st site j3 gZ s x k=(C4 fo st site j3 gZ s x some).bind k:=by
 unfold C4
 repeat' (first | rfl | exact acr k _ _ _ _ _ _ | exact acs k _ _ _ _ _ _ _ _ | exact acu k _ _ _ _ _ _ _ _ _ | split)
theorem acw (fo st j3 s x):C5 fo st j3 s x k=(C5 fo st j3 s x some).bind k:=by
 unfold C5
 repeat' (first | rfl | (rw [vk,aA]; done) | split)
theorem acx (fo st site j3 s x):C6 fo st site j3 s x k=(C6 fo st site j3 s x some).bind k:=by
 unfold C6;split
 ·split
  ·rw [vk,aA]
  rfl
 rfl
theorem acy (fo site j3 s x):E4 fo site j3 s x k=(E4 fo site j3 s x some).bind k:=by unfold E4;split<;>first | rfl | (rw [vk]; rfl)
theorem acz (st id own t vr xs off len x):Bm st id own t vr xs off len x k=(Bm st id own t vr xs off len x some).bind k:=by
 unfold Bm
 grind
theorem acA (gZ st d x):Dc gZ st d x k=(Dc gZ st d x some).bind k:=by
 unfold Dc
 repeat' (first | rfl | exact acz k _ _ _ _ _ _ _ _ _ | split)
theorem acB (st site args):C8 st site args k=(C8 st site args some).bind k:=by
 unfold C8
 grind
theorem Ui (c st site f args):Da c st site f args k=(Da c st site f args some).bind k:=by
 unfold Da;split
 ·split
  ·exact acB k _ _ _
  rfl
 grind
theorem acC (st site M x):E7 st site M x k=(E7 st site M x some).bind k:=by
 unfold E7
 grind
theorem NG (c st site f args):∀ l,uW c st site f args k l=(uW c st site f args some l).bind k
 | []=>Ui k c st site f args
 | (g,M)::r=>by
  simp only [uW];split
  ·exact NG c st site f args r
  split
  ·exact acC k _ _ _ _
  exact NG c st site f args r
theorem NH (gZ st x lo hi):uX gZ st x lo hi k=(uX gZ st x lo hi some).bind k:=by
 unfold uX;split
 ·rfl
 split
 ·split
  ·rw [vk];congr 1
   repeat' (first | rfl | split)
  rfl
 rfl
theorem acD (ow gZ st site x lo hi):Bn ow gZ st site x lo hi k=(Bn ow gZ st site x lo hi some).bind k:=by
 unfold Bn;refine (NH _ _ _ _ _ _).trans ?_
 conv=>rhs; rw [NH]
 grind
theorem Uj {n:Nat} {st:St} {x:ah} {i:Int} {ρ:Type} (k:cK→Option ρ):∀ {m:Nat},yN n st x i (fun z=>k ⟨z,[]⟩) m=(yN n st x i (fun z=>some (⟨z,[]⟩:cK)) m).bind k
 | 0=>rfl
 | m+1=>by
  unfold yN;by_cases h:i=Int.ofNat m
  ·simp only [h,decide_true,br];rw [JH,JH (ρ:=cK)]
   grind
  simp only [h,decide_false,br];exact Uj k
theorem acE (c st site o):eI c st site o k=(eI c st site o some).bind k:=by
 unfold eI;have hv:∀ x:Option ah,(match x with | some y=>k ⟨y,[]⟩ | none=>none)=(match x with | some y=>some (⟨y,[]⟩:cK) | none=>none).bind k:=by intro x; cases x<;>rfl
 have hb:∀ {kd yc op x y},wj kd yc op x y (fun z=>k ⟨z,[]⟩)=(wj kd yc op x y (fun z=>some (⟨z,[]⟩:cK))).bind k:=by intro kd yc op x y;rw [Uh,Uh (ρ:=cK)];cases wj kd yc op x y some<;>rfl
 have hi:∀ {n x i},rL n st x i (fun z=>k ⟨z,[]⟩)=(rL n st x i (fun z=>some (⟨z,[]⟩:cK))).bind k:=by intro n x i;rw [JH,JH (ρ:=cK)];cases rL n st x i some<;>rfl
 split
 all_goals (try simp only)
 all_goals repeat' (first | rfl | (rw [vk,aA]; done) | (rw [acm,aA,aA]; done) | exact hb | exact hi | exact Uj k | exact acq k _ _ _ _ _ | exact acv k _ _ _ _ _ _ _ | exact acy k _ _ _ _ _ | exact acw k _ _ _ _ _ | exact acx k _ _ _ _ _ _ | exact acD k _ _ _ _ _ _ _ | exact Ui k _ _ _ _ _ | exact NG k _ _ _ _ _ _ | exact acA k _ _ _ _ | exact NH k _ _ _ _ _ | split)
end
end Go.Am
namespace Go.Am
open Go
section
variable {c:bd} {all:List Oper} {st0:St} {ρ:Type} {r:ρ}
structure Fact (c:bd) (all:List Oper) (st0:St) (i:Nat) (es:List cN) (o:Oper) (e:cN):Prop where
 dst:e.dst=o.dst
 mask:e.mask=pT (es.reverse.map (·.mask)) i o.after.toList
 Uk:E9 i o.after.toList=true
 acF:∀ t∈Df all o,t∈e.pS
 act:∃ runs:Bool,(match o.guard with | none=>runs=true | some (gd,want)=>∃ d,uY all gd=some d∧((∃ b,(mg st0 e.mask i.pred es).ev (.tmp d) = .bool b∧runs=(b==want))∨((mg st0 e.mask i.pred es).ev (.tmp d) = .gX []∧runs=false)))∧
  (match runs with
   | true=>(∀ t∈lK o.op.operands.toList,t∈e.pS)∧eI c (restrict (mg st0 e.mask i.pred es) (lK o.op.operands.toList) e.reads) (st0.nxt+i) o.op some=some e.bu
   | false=>e.bu=⟨.gX [],[]⟩)
inductive oZ (c:bd) (all:List Oper) (st0:St):Nat→List cN→Prop
 | nil:oZ c all st0 0 []
 | cons {i:Nat} {es:List cN} {o:Oper} {e:cN} (h:oZ c all st0 i es) (ho:all[i]? = some o) (hf:Fact c all st0 i es o e):oZ c all st0 (i+1) (e::es)
theorem oZ.len {i:Nat} {es:List cN} (h:oZ c all st0 i es):es.length=i:=by
 induction h with
 | nil=>rfl
 | cons h ho hf ih=>grind
theorem JI {mask d:Nat} {b:Bool} : ∀ (es:List cN) (i:Nat),Ij mask d i es=true→(mg st0 mask i es).ev (.tmp d) = .bool b→setBool d b es=es
 | [],i,h1,h2=>rfl
 | e::es,i,h1,h2=>by
  simp only [Ij,aB] at h1;obtain ⟨h1,h3⟩:=h1;simp only [mg] at h2;cases hd:e.dst with
  | none=>
   simp only [setBool,hd];congr 1;refine JI es i.pred h3 ?_;split at h2
   ·simpa [St.ev,St.put,hd] using h2
   omega
  | some x=>
   simp only [setBool,hd];by_cases hx:x=d
   ·subst hx;simp only [Nat.beq_refl];simp only [hd,Nat.beq_refl,Bool.not_true,yE] at h1;rw [h1] at h2;simp only [St.ev,St.put,hd] at h2;rw [dQ,if_pos rfl] at h2;simp only at h2;obtain ⟨m,ds,⟨v,os⟩,rs,us⟩:=e
    grind
   have hb:aT x d=false:=by rw [← pM]; intro h; exact hx (bB h)
   rw [hb];simp only;congr 1;refine JI es i.pred h3 ?_;split at h2
   ·simp only [St.ev,St.put,hd] at h2;rw [dQ,if_neg hx] at h2;exact h2
   omega
theorem JJ:∀ (ops:List Oper) (i:Nat) (es:List cN) (k:List cN→Option ρ),oZ c all st0 i es→all.drop i=ops→wx c all st0 ops i es k=some r→∃ iW,oZ c all st0 all.length iW∧k iW=some r
 | [],i,es,k,D,ha,e=>by
  refine ⟨es,?_,e⟩;have hi:all.length≤i:=by simpa using List.drop_eq_nil_iff.1 ha
  have:i≤all.length:=by
   cases D with
   | nil=>omega
   | cons h ho hf=>grind
  grind
 | o::ops,i,es,k,D,ha,e=>by
  have ho:all[i]? = some o:=by have:=congrArg (fun l=>l[0]?) ha;simpa using this
  have Ul:all.drop (i+1)=ops:=by have:=congrArg (List.drop 1) ha;simpa using this
  simp only [wx] at e;split at e
  ·grind
  rename_i EV;have run:∀ (dG:match o.guard with | none=>True | some (gd,want)=>∃ d b,uY all gd=some d∧(mg st0 (pT (es.reverse.map (·.mask)) i o.after.toList) i.pred es).ev (.tmp d) = .bool b∧true=(b==want)),
    eI c (restrict (mg st0 (pT (es.reverse.map (·.mask)) i o.after.toList) i.pred es) (lK o.op.operands.toList) (LW (mg st0 (pT (es.reverse.map (·.mask)) i o.after.toList) i.pred es) o.op)) (st0.nxt+i) o.op
     (fun e=>wx c all st0 ops (i+1) (⟨pT (es.reverse.map (·.mask)) i o.after.toList,o.dst,e,LW (mg st0 (pT (es.reverse.map (·.mask)) i o.after.toList) i.pred es) o.op,Df all o++lK o.op.operands.toList⟩::es) k)=some r→
    ∃ iW,oZ c all st0 all.length iW∧k iW=some r:=by
   intro dG e;rw [acE] at e;obtain ⟨bu,h1,h2⟩:=Jo.1 e;refine JJ ops (i+1) _ k (.cons D ho ⟨rfl,rfl,EV,fun t ht=>lH _ ht,true,?_,fun t ht=>List.mem_append_right _ ht,h1⟩) Ul h2;cases hg:o.guard with
   | none=>rfl
   | some gw=>
    grind
  have skip:∀ (dG:match o.guard with | none=>False | some (gd,want)=>∃ d,uY all gd=some d∧((∃ b,(mg st0 (pT (es.reverse.map (·.mask)) i o.after.toList) i.pred es).ev (.tmp d) = .bool b∧false=(b==want))∨(mg st0 (pT (es.reverse.map (·.mask)) i o.after.toList) i.pred es).ev (.tmp d) = .gX [])),
    wx c all st0 ops (i+1) (⟨pT (es.reverse.map (·.mask)) i o.after.toList,o.dst,⟨.gX [],[]⟩,[],Df all o⟩::es) k=some r→
    ∃ iW,oZ c all st0 all.length iW∧k iW=some r:=by
   intro dG e;refine JJ ops (i+1) _ k (.cons D ho ⟨rfl,rfl,EV,fun t ht=>ht,false,?_,rfl⟩) Ul e;cases hg:o.guard with
   | none=>grind
   | some gw=>
    grind
  cases hg:o.guard with
  | none=>
   grind
  | some gw=>
   obtain ⟨gd,want⟩:=gw;rw [hg] at e;simp only at e;split at e
   ·grind
   rename_i d _;split at e
   ·rename_i b RF hb;cases b with
    | true=>
     simp only [br] at e;rw [JI es i.pred RF hb] at e
     grind
    | false=>
     simp only [br] at e;rw [JI es i.pred RF hb] at e
     grind
   ·grind
   grind
def cq (st0:St) (S:Nat→Bool):List cN→St
 | []=>st0
 | e::r=>match S r.length with | true=>(cq st0 S r).put e.dst e.bu | false=>cq st0 S r
theorem NI {mask:Nat} : ∀ (es:List cN) (i:Nat),es.length=i→mg st0 mask i.pred es=cq st0 (ec mask) es
 | [],i,h=>rfl
 | e::es,i,h=>by simp only [bh] at h;subst h;simp only [mg,cq,M3];rw [NI es es.length rfl];rfl
theorem NJ {S:Nat→Bool} : ∀ (es:List cN),(∀ i,i<es.length→S i=true)→mh st0 es=cq st0 S es
 | [],_=>rfl
 | e::es,h=>by simp only [mh,cq,h es.length (by simp)];rw [NJ es (fun i hi=>h i (by grind))]
def e9 (es:List cN) (j:Nat):Option cN:=es.reverse[j]?
theorem qc (e:cN) (es:List cN) (j:Nat):e9 (e::es) j=if j<es.length then e9 es j else if j=es.length then some e else none:=by
 unfold e9
 grind
theorem DW {st:St} {d:Option Nat} {e:cK} {id:Nat} : (st.put d e).obj id=match look e.bb id with | some x=>x | none=>st.obj id:=by
 unfold St.obj St.put;simp only [iU];cases look e.bb id with
 | none=>rfl
 | some x=>cases x<;>rfl
theorem zn {st:St} {d:Option Nat} {e:cK} {t:Nat} : look (st.put d e).env t=if d=some t then some e.val else look st.env t:=by
 cases d with
 | none=>simp [St.put]
 | some x=>
  simp only [St.put];rw [dQ]
  grind
theorem Gd {S1 S2:Nat→Bool} {t:Nat} : ∀ (es:List cN),(∀ j e,e9 es j=some e→S1 j=S2 j∨e.dst≠some t)→look (cq st0 S1 es).env t=look (cq st0 S2 es).env t
 | [],_=>rfl
 | e::es,h=>by
  have ih:=Gd (S1:=S1) (S2:=S2) (t:=t) es (fun j f hf=>h j f (by
   rw [qc];have:j<es.length:=by have:=(eE.1 hf).1; simpa using this
   grind))
  have he:=h es.length e (by rw [qc]; simp);simp only [cq];rcases he with he | he
  ·rw [he];cases S2 es.length with
   | true=>simp only [zn,ih]
   | false=>exact ih
  cases S1 es.length<;>cases S2 es.length<;>simp only [zn,if_neg he,ih]
theorem Ge {S1 S2:Nat→Bool} {id:Nat} : ∀ (es:List cN),(∀ j e,e9 es j=some e→S1 j=S2 j∨id∉pU e)→(cq st0 S1 es).obj id=(cq st0 S2 es).obj id
 | [],_=>rfl
 | e::es,h=>by
  have ih:=Ge (S1:=S1) (S2:=S2) (id:=id) es (fun j f hf=>h j f (by
   rw [qc];have:j<es.length:=by have:=(eE.1 hf).1; simpa using this
   grind))
  have he:=h es.length e (by rw [qc]; simp);simp only [cq];rcases he with he | he
  ·rw [he];cases S2 es.length with
   | true=>simp only [DW,ih]
   | false=>exact ih
  have hn:look e.bu.bb id=none:=FK he;cases S1 es.length<;>cases S2 es.length<;>simp only [DW,hn,ih]
theorem NK {S:Nat→Bool} : ∀ (fs es:List cN),(∀ j,es.length≤j→S j=false)→cq st0 S (fs++es)=cq st0 S es
 | [],es,_=>rfl
 | f::fs,es,h=>by simp only [pI,cq];rw [h _ (by simp)];exact NK fs es h
theorem Um {e:cN} : ∀ (es:List cN),qT.go e es.length.pred es=true→∀ j f,e9 es j=some f→ec e.mask j=true∨E8 e f=true
 | [],_,j,f,hf=>by simp [e9] at hf
 | g::es,h,j,f,hf=>by
  simp only [bh,M3,qT.go,aB,rM] at h;rw [qc] at hf;split at hf
  ·exact Um es h.2 j f hf
  grind
theorem Gf:∀ (es:List cN),qT es.length.pred es=true→∀ j1 j2 f1 f2,j1<j2→e9 es j1=some f1→e9 es j2=some f2→ec f2.mask j1=true∨E8 f2 f1=true
 | [],_,j1,j2,f1,f2,hj,h1,h2=>by simp [e9] at h1
 | e::es,h,j1,j2,f1,f2,hj,h1,h2=>by
  simp only [bh,M3,qT,aB] at h;rw [qc] at h1 h2;split at h2
  ·rename_i aF;rw [if_pos (by omega)] at h1;exact Gf es h.2 j1 j2 f1 f2 hj h1 h2
  split at h2
  ·rename_i he;simp only [aN] at h2;subst h2;rw [if_pos (by omega)] at h1;exact Um es h.1 j1 f1 h1
  grind
structure Gg (a b:cN):Prop where
 t1:∀ i∈pU a,i∉b.reads
 t2:∀ i∈pU b,i∉a.reads
 t3:∀ i∈pU a,i∉pU b
 d1:∀ t,a.dst=some t→b.dst≠some t
 u1:∀ t,a.dst=some t→t∉b.pS
 u2:∀ t,b.dst=some t→t∉a.pS
theorem NL {a b:List Nat} (h:Ih a b=true):∀ i∈a,i∉b:=by
 intro i hi hb;have:=iy.1 h i hi;rw [any_beq.2 hb] at this
 grind
theorem JK {a b:cN} (h:E8 a b=true):Gg a b:=by
 unfold E8 at h;simp only [aB] at h;obtain ⟨⟨⟨⟨⟨h1,h2⟩,h3⟩,h4⟩,h5⟩,h6⟩:=h;refine ⟨NL h1,NL h2,NL h3,fun t ht hb=>?_,fun t ht hb=>?_,fun t ht hb=>?_⟩
 ·rw [ht,hb] at h4; simp [R5] at h4
 ·rw [ht] at h5; simp only [Ii] at h5; rw [any_beq.2 hb] at h5; simp at h5
 rw [ht] at h6; simp only [Ii] at h6; rw [any_beq.2 hb] at h6; simp at h6
theorem NM {Bp:List Nat} {i m:Nat} : ∀ (l:List Edge),ec (pT Bp i l) m=true→∃ e∈l,tJ .any e=true∧e.on<i∧(m=e.on∨ec (Bp.getD e.on 0) m=true)
 | [],h=>by simp [pT] at h
 | e::l,h=>by
  simp only [pT,Nat.testBit_or,rM] at h;rcases h with h | h
  ·split at h
   ·rename_i hb;simp only [aB,eH] at hb;rw [show Nat.lor (2 ^ e.on) (Bp.getD e.on 0)=2 ^ e.on||| Bp.getD e.on 0 from rfl,Nat.testBit_or,rM] at h
    grind
   grind
  obtain ⟨e',h1,h2⟩:=NM l h
  grind
theorem NN {i:Nat} : ∀ {l:List Edge},E9 i l=true→∀ e∈l,tJ .any e=true→e.on<i
 | [],_,e,he,_=>by grind
 | a::l,h,e,he,hb=>by
  simp only [E9,aB] at h;rcases gC.1 he with rfl | he
  ·simp_all
  exact NN h.2 e he hb
theorem oZ.at {n:Nat} {es:List cN} (D:oZ c all st0 n es):∀ i e,e9 es i=some e→∃ fs pre o,es=fs++e::pre∧pre.length=i∧all[i]? = some o∧Fact c all st0 i pre o e:=by
 induction D with
 | nil=>intro i e h; simp [e9] at h
 | @cons m iW o e' hD ho hf ih=>
  intro i e h;have hlen:=hD.len;rw [qc] at h;split at h
  ·grind
  split at h
  ·rename_i hi;simp only [aN] at h;subst h; subst hi;rw [hlen];exact ⟨[],iW,o,rfl,hlen,ho,hf⟩
  grind
theorem Un {fs pre:List cN} {e:cN} {j:Nat} (h:j<pre.length):e9 (fs++e::pre) j=e9 pre j:=by
 unfold e9
 grind
end
end Go.Am
namespace Go.Am
open Go
section
variable {P:Program} {c:bd} {w0:World} {F:b9} {N:Nat} {g g':Gh} {w w':World} {U U':Nat→Prop} {st:St} {a:Act}
theorem Rel.NO (R:Rel w0 F N g U st a w) {site:Nat} {e:cK} {v:Value} {dst:Option Nat} (hd:∀ x,dst=some x→x<N) (Q:dP g w U site e v w' g' U') {st':St}
  (s8:∀ t,look st'.env t=if dst=some t then some e.val else look st.env t) (tf:∀ id,st'.obj id=match look e.bb id with | some x=>x | none=>st.obj id) (hu:∀ s,U' s→s<st'.nxt) :
  Rel w0 F N g' U' st' (a.put dst v) w':=by
 have h_:∀ x,dst=some x→x<a.tmps.size:=by rw [R.size]; exact hd
 refine ⟨fun t x h=>?_,fun id ob h=>?_,hu,Q.cm,fun b o id p hb h=>?_,fun b o id p hf jX=>?_,?_,?_,?_,Q.jg.sub _ R.u0,fun s hs=>Q.jg.sub _ (R.nL s hs),fun id h=>?_⟩
 ·rw [wR h_];rw [s8] at h;by_cases mI:dst=some t
  ·rw [if_pos mI] at h ⊢;simp only [aN] at h;subst h; exact Q.val
  rw [if_neg mI] at h ⊢;exact Q.jg.u5 _ _ (R.env t x h)
 ·rw [tf] at h;cases hl:look e.bb id with
  | some vg=>
   rw [hl] at h;simp only at h;subst h;exact Q.bb id _ hl
  | none=>
   rw [hl] at h;obtain ⟨h1,h2⟩:=R.heap id ob h;exact ⟨Q.jg.sub _ h1,Iw Q.jg (by grind) h1 ob h2⟩
 ·have dh:b<w.heap.size:=oL hb R.fr.size;have aG:=Q.cI b o _ dh h;cases hl:g.lab b o with
  | none=>grind
  | some q=>
   obtain ⟨aE,p'⟩:=q;cases ht:(look e.bb aE).isSome with
   | true=>
    rcases R.cI b o aE p' hb hl with h2 | h2
    ·exact absurd h2.1 (Q.nf aE ht)
    grind
   | false=>
    have:=(Q.jg.own b o aE p' hl (by grind)).1;rw [this] at h;simp only [aN,bS] at h;obtain ⟨rfl,rfl⟩:=h;exact R.cI b o aE p' hb hl
 ·have hl:=R.oQ b o id p hf jX;refine (Q.jg.own b o id p hl (fun ht=>Q.nf id ht jX)).1
 ·refine R.fr.trans' Q.fr (fun b o hb h=>?_);obtain ⟨id,p,hl,hn⟩:=h;rcases R.cI b o id p hb hl with h2 | h2
  ·omega
  omega
 ·cases dst<;>exact R.defers
 ·cases dst<;>simp [Act.put,R.size]
 rw [tf] at h;cases hl:look e.bb id with
 | some vg=>exact Q.nf id (by grind)
 | none=>rw [hl] at h; exact R.nf id h
theorem Rel.same (R:Rel w0 F N g U st a w) {st':St} (s8:∀ t,look st'.env t=look st.env t) (tf:∀ id,st'.obj id=st.obj id) (hu:∀ s,U s→s<st'.nxt):Rel w0 F N g U st' a w:=
 ⟨fun t v h=>R.env t v (by grind),fun id o h=>R.heap id o (by grind),hu,R.cm,R.cI,R.oQ,R.fr,R.defers,R.size,R.u0,R.nL,fun id h=>R.nf id (by grind)⟩
structure Inv (w0:World) (F:b9) (N:Nat) (g0:Gh) (U0:Nat→Prop) (st0:St) (es:List cN) (D:Nat→Bool) (g:Gh) (U:Nat→Prop) (a:Act) (w:World):Prop where
 rel:Rel w0 F N g U ⟨(cq st0 D es).env,(cq st0 D es).heap,st0.nxt+es.length,[],[]⟩ a w
 used:∀ s,U s→s<st0.nxt∨∃ i,i<es.length∧D i=true∧s=st0.nxt+i
 wT:∀ i e,e9 es i=some e→D i=true→∀ m,ec e.mask m=true→m<i∧D m=true
 sub:∀ s,U0 s→U s
 hd:∀ id ver p,U0 (id / 1024)→U0 ver→g.hd id ver p=g0.hd id ver p
theorem Uo {α:Type} {l:List (Nat×α)} {q:Nat×α} {id:Nat} (hq:q∈l) (he:q.1=id) (h:look l id=none):False:=by
 induction l with
 | nil=>grind
 | cons p l ih=>
  obtain ⟨k,v⟩:=p;rw [dQ] at h
  grind
theorem Rel.drawn (R:Rel w0 F N g U st a w):Rel w0 F N g U st a { w with drawn:=w.drawn+1 }:=by
 have JL:Fr (u6 g) w { w with drawn:=w.drawn+1 }:=⟨rfl,rfl,rfl,cx _,fun _ c _ _ h=>⟨c,h,rfl,fun _ _=>rfl⟩,fun _ _ _=>rfl,fun _ _ h _=>h⟩
 have Q:dP g w U st.nxt ⟨.undef,[]⟩ undef { w with drawn:=w.drawn+1 } g U:=
  ⟨⟨fun s h=>h,fun _ _ _ _ _=>rfl,fun b o hl v hv=>⟨hv,hl⟩,fun b o id p hl _=>⟨hl,rfl,rfl⟩⟩,trivial,fun id o h=>by simp [look] at h,fun s h=>.inl h,R.cm,fun b o q _ h=>by grind,JL,fun id h=>by simp [look] at h⟩
 exact R.NO (dst:=none) (fun x h=>by grind) Q (fun t=>rfl) (fun id=>rfl) R.used
theorem NP {st0:St} {S:Nat→Bool} {t:Nat} (es:List cN):∀ (fs:List cN),(∀ j f,es.length≤j→e9 (fs++es) j=some f→S j=false∨f.dst≠some t)→look (cq st0 S (fs++es)).env t=look (cq st0 S es).env t
 | [],_=>rfl
 | f::fs,h=>by
  have ih:=NP (st0:=st0) es fs (fun j g hj hg=>h j g hj (by
   rw [pI,qc];have:j<(fs++es).length:=by have:=(eE.1 hg).1; simp at this ⊢; omega
   grind))
  have hf:=h (fs++es).length f (by simp) (by rw [pI,qc]; simp);simp only [pI,cq];rcases hf with hf | hf
  ·grind
  cases S (fs++es).length<;>simp only [zn,if_neg hf,ih]
theorem NQ {st0:St} {S:Nat→Bool} {id:Nat} (es:List cN):∀ (fs:List cN),(∀ j f,es.length≤j→e9 (fs++es) j=some f→S j=false∨id∉pU f)→(cq st0 S (fs++es)).obj id=(cq st0 S es).obj id
 | [],_=>rfl
 | f::fs,h=>by
  have ih:=NQ (st0:=st0) es fs (fun j g hj hg=>h j g hj (by
   rw [pI,qc];have:j<(fs++es).length:=by have:=(eE.1 hg).1; simp at this ⊢; omega
   grind))
  have hf:=h (fs++es).length f (by simp) (by rw [pI,qc]; simp);simp only [pI,cq];rcases hf with hf | hf
  ·grind
  have hn:look f.bu.bb id=none:=FK hf;cases S (fs++es).length<;>simp only [DW,hn,ih]
theorem acG (H:zb P c) (hc:gb P c) (hG:Gl P F w0) {ops:Array Oper} (hN:∀ o∈ops.toList,∀ x,o.dst=some x→x<N) {es:List cN} (D0:oZ c ops.toList st ops.toList.length es) (hp:qT es.length.pred es=true)
  {g0:Gh} {U0:Nat→Prop} {D:Nat→Bool} {i:Nat} {o:Oper} (ho:ops.toList[i]? = some o) (hi:D i=false) (hr:∀ e∈o.after.toList,tJ .any e=true→D e.on=true)
  (I:Inv w0 F N g0 U0 st es D g U a w) {K:Act→World→Prop} {Q:Exit→Act→World→Prop}
  (hK:∀ a' w' g' U',Inv w0 F N g0 U0 st es (fun j=>D j||j==i) g' U' a' w'→K a' w') :
  if nQ o (yielded ops a.tmps) then o.wp P a w K Q∨(o.asks P a w∧LetsOut Q) else K (a.put o.dst undef) w:=by
 have hlen:=D0.len;have H3:i<es.length:=by rw [hlen]; exact (eE.1 ho).1
 obtain ⟨e,he⟩:∃ e,e9 es i=some e:=⟨_,eX (by simpa using H3)⟩
 obtain ⟨fs,pre,o',nG,tH,iJ,hf⟩:=D0.at i e he;rw [ho] at iJ;obtain rfl:=aZ iJ;have CR:∀ m,ec e.mask m=true→m<i∧D m=true:=by
  intro m hm;rw [hf.mask] at hm;obtain ⟨ed,h1,h2,h3,h4⟩:=NM _ hm;have hD:=hr ed h1 h2;rcases h4 with rfl | h4
  ·exact ⟨h3,hD⟩
  have aF:ed.on<pre.length:=by omega
  obtain ⟨f,BZ⟩:∃ f,e9 pre ed.on=some f:=⟨_,eX (by simpa using aF)⟩
  have y0:(pre.reverse.map (·.mask)).getD ed.on 0=f.mask:=by rw [lG,List.getElem?_map];unfold e9 at BZ;rw [BZ]; rfl
  rw [y0] at h4;have:=I.wT ed.on f (by rw [nG,Un aF]; exact BZ) hD m h4;exact ⟨by omega,this.2⟩
 have w5:∀ j f,e9 es j=some f→D j=true→ec e.mask j=false→Gg e f∨Gg f e:=by
  intro j f hj gn hm;have aG:j≠i:=fun h=>by subst h; rw [hi] at gn; simp at gn
  rcases Nat.lt_or_gt_of_ne aG with h | h
  ·rcases Gf es hp j i f e h hj he with h1 | h1
   ·grind
   exact .inl (JK h1)
  rcases Gf es hp i j e f h he hj with h1 | h1
  ·have:=(I.wT j f hj gn i h1).2
   grind
  exact .inr (JK h1)
 have B_:∀ j,pre.length≤j→ec e.mask j=false:=by
  intro j hj;cases h:ec e.mask j with
  | false=>rfl
  | true=>grind
 have JM:mg st e.mask i.pred pre=cq st (ec e.mask) es:=by rw [NI pre i tH,nG];exact (NK (fs++[e]) pre B_).symm.trans (by grind)
 have ER:∀ t,(t∈e.pS)→look (cq st (ec e.mask) es).env t=look (cq st D es).env t:=by
  intro t ht;refine Gd es (fun j f hj=>?_);cases hm:ec e.mask j with
  | true=>grind
  | false=>
   cases gn:D j with
   | false=>grind
   | true=>
    refine .inr (fun hd=>?_);rcases w5 j f hj gn hm with hq | hq
    ·exact hq.u2 t hd ht
    exact hq.u1 t hd ht
 have Gi:∀ id,id∈e.reads→(cq st (ec e.mask) es).obj id=(cq st D es).obj id:=by
  intro id hid;refine Ge es (fun j f hj=>?_);cases hm:ec e.mask j with
  | true=>grind
  | false=>
   cases gn:D j with
   | false=>grind
   | true=>
    refine .inr (fun hd=>?_);rcases w5 j f hj gn hm with hq | hq
    ·exact hq.t2 id hd hid
    exact hq.t1 id hd hid
 have later:∀ j f,i<j→e9 es j=some f→∀ {t:Nat},((e.dst≠some t→False)→(fun j=>D j||j==i) j=false∨f.dst≠some t):=by
  intro j f hj kA t ht;cases gn:D j with
  | false=>grind
  | true=>
   have hm:ec e.mask j=false:=B_ j (by omega);have Gj:e.dst=some t:=Classical.not_not.1 ht;rcases w5 j f kA gn hm with hq | hq
   ·exact .inr (hq.d1 t Gj)
   exact .inr (fun h=>hq.d1 t h Gj)
 have Gk:¬ U (st.nxt+i):=by
  intro h;rcases I.used _ h with h | ⟨j,h1,h2,h3⟩
  ·omega
  grind
 have after:∀ v w' g' U',dP g w U (st.nxt+i) e.bu v w' g' U'→K (a.put o.dst v) w':=by
  intro v w' g' U' nS;refine hK _ _ g' U' ⟨?_,fun s h=>?_,fun j f hj gn m hm=>?_,fun s h=>nS.jg.sub s (I.sub s h),fun id ver p h1 h2=>?_⟩
  ·refine I.rel.NO (hN o (by rw [Array.mem_toList_iff]; exact Array.mem_of_getElem? (by rw [← s4]; exact ho))) nS (fun t=>?_) (fun id=>?_) (fun s h=>?_)
   ·by_cases mI:o.dst=some t
    ·rw [if_pos mI];show look (cq st (fun j=>D j||j==i) es).env t=_;have iF:look (cq st (fun j=>D j||j==i) es).env t=look (cq st (fun j=>D j||j==i) (e::pre)).env t:=by rw [nG];refine NP (e::pre) fs (fun j f hj kA=>?_);rw [← nG] at kA;simp only [bh] at hj;exact later j f (by omega) kA (fun hd=>hd (by rw [hf.dst]; exact mI))
     rw [iF];simp only [cq,tH,beq_self_eq_true,Bool.or_true,zn];rw [if_pos (by rw [hf.dst]; exact mI)]
    rw [if_neg mI];refine Gd es (fun j f hj=>?_);by_cases iQ:j=i
    ·subst iQ;rw [he] at hj;obtain rfl:=aZ hj;exact .inr (by rw [hf.dst]; exact mI)
    grind
   ·show (cq st (fun j=>D j||j==i) es).obj id=_;cases jY:look e.bu.bb id with
    | none=>
     refine Ge es (fun j f hj=>?_);by_cases iQ:j=i
     ·subst iQ;rw [he] at hj;obtain rfl:=aZ hj;refine .inr (fun hm=>?_);obtain ⟨q,hq,BO⟩:=kE.1 hm;exact Uo hq BO jY
     grind
    | some x=>
     have iF:(cq st (fun j=>D j||j==i) es).obj id=(cq st (fun j=>D j||j==i) (e::pre)).obj id:=by
      rw [nG];refine NQ (e::pre) fs (fun j f hj kA=>?_);rw [← nG] at kA;simp only [bh] at hj;cases gn:D j with
      | false=>grind
      | true=>
       have hm:ec e.mask j=false:=B_ j (by omega);have hid:id∈pU e:=kE.2 ⟨_,kJ jY,rfl⟩;rcases w5 j f kA gn hm with hq | hq
       ·exact .inr (fun h=>hq.t3 id hid h)
       exact .inr (fun h=>hq.t3 id h hid)
     rw [iF];simp only [cq,tH,beq_self_eq_true,Bool.or_true,DW,jY]
   rcases nS.used s h with h | h
   ·have:=I.rel.used s h; exact this
   grind
  ·rcases nS.used s h with h | h
   ·rcases I.used s h with h | ⟨j,h1,h2,h3⟩
    ·omega
    grind
   grind
  ·by_cases iQ:j=i
   ·grind
   have NR:D j=true:=by simpa [iQ] using gn
   obtain ⟨h1,h2⟩:=I.wT j f hj NR m hm
   grind
  rw [nS.jg.hd _ _ _ (I.sub _ h1) (I.sub _ h2),I.hd id ver p h1 h2]
 obtain ⟨runs,hg,DX⟩:=hf.act;have acH:nQ o (yielded ops a.tmps)=runs:=by
  cases tQ:o.guard with
  | none=>
   rw [tQ] at hg;simp only at hg;rw [hg];simp [nQ,tQ]
  | some gw=>
   obtain ⟨gd,want⟩:=gw;rw [tQ] at hg;obtain ⟨d,h1,hg⟩:=hg;rw [JM] at hg;have hd:d∈e.pS:=hf.acF d (by simp [Df,tQ,h1]);rcases hg with ⟨b,h2,h3⟩ | ⟨h2,h3⟩
   ·have hv:a.eval (.tmp d) = .bool b:=by
     have h4:look (cq st (ec e.mask) es).env d=some (.bool b):=by
      simp only [St.ev] at h2;split at h2
      ·grind
      grind
     rw [ER d hd] at h4;exact I.rel.env d _ h4
    have hy:yielded ops a.tmps gd=some b:=Th h1 hv;rw [h3];simp [nQ,tQ,hy]
   have hv:a.eval (.tmp d)=undef:=by
    have h4:look (cq st (ec e.mask) es).env d=some (.gX []):=by
     simp only [St.ev] at h2;split at h2
     ·grind
     grind
    rw [ER d hd] at h4;obtain ⟨l,h5,h6⟩:=I.rel.env d _ h4;obtain rfl:=h6;exact h5
   have hy:yielded ops a.tmps gd=none:=Ti h1 hv;rw [h3];simp [nQ,tQ,hy]
 rw [acH];cases runs with
 | false=>
  have DX:e.bu=⟨.gX [],[]⟩:=DX;simp only [Bool.false_eq_true,if_false];refine after undef w g (U' U (st.nxt+i)) ?_;rw [DX];exact ⟨⟨fun s h=>.inl h,fun _ _ _ _ _=>rfl,fun b o hl v hv=>⟨hv,hl⟩,fun b o id p hl _=>⟨hl,rfl,rfl⟩⟩,⟨[],rfl,rfl⟩,fun id o h=>by simp [look] at h,fun s h=>h,I.rel.cm,fun b o q _ h=>by grind,.refl _ _,fun id h=>by simp [look] at h⟩
 | true=>
  obtain ⟨hu,nT⟩:=DX;rw [JM] at nT;simp only [if_true];have S:dC P c g w U (restrict (cq st (ec e.mask) es) (lK o.op.operands.toList) e.reads) a:=by
   refine ⟨hc,fun t v h=>?_,fun id ob h=>?_,I.rel.cm,I.rel.u0,I.rel.nL,fun id h=>?_,I.rel.gl hG⟩
   ·rw [show (restrict (cq st (ec e.mask) es) (lK o.op.operands.toList) e.reads).env=jf (cq st (ec e.mask) es) (lK o.op.operands.toList) from rfl,DM] at h;split at h
    ·rename_i ht;rw [ER t (hu t ht)] at h;exact I.rel.env t v h
    grind
   ·have h':(if id∈e.reads then (cq st (ec e.mask) es).obj id else none)=some ob:=by rw [← BR]; exact h
    split at h'
    ·rename_i hid;rw [Gi id hid] at h';exact I.rel.heap id ob h'
    grind
   have h':(if id∈e.reads then (cq st (ec e.mask) es).obj id else none)≠none:=by rw [← BR]; exact h
   split at h'
   ·rename_i hid;rw [Gi id hid] at h';exact I.rel.nf id h'
   grind
  obtain ⟨bu,h1,h2⟩:=H S Gk nT;obtain rfl:=aZ h1;exact .inl (h2 _ _ (fun v w' g' U' hp=>after v w' g' U' hp))
def kK (D:Nat→Bool):Nat→Nat
 | 0=>0
 | n+1=>kK D n+(if D n=true then 0 else 1)
theorem NS {D:Nat→Bool} {i:Nat} (hi:D i=false):∀ n,(i<n→kK (fun j=>D j||j==i) n+1=kK D n)∧(n≤i→kK (fun j=>D j||j==i) n=kK D n)
 | 0=>⟨fun h=>by omega,fun _=>rfl⟩
 | n+1=>by
  obtain ⟨h1,h2⟩:=NS hi n;refine ⟨fun h=>?_,fun h=>?_⟩
  ·by_cases hn:n=i
   ·subst hn;have:=h2 (cx _);simp only [kK,this,hi];simp
   have:=h1 (by omega);have hb:(n==i)=false:=by simpa using hn
   simp only [kK,hb,yE];omega
  have hb:(n==i)=false:=by simp; omega
  have:=h2 (by omega);simp only [kK,this,hb,yE]
theorem DY {D:Nat→Bool} : ∀ n,kK D n=0→∀ i,i<n→D i=true
 | 0,_,i,h=>by omega
 | n+1,h0,i,h=>by
  simp only [kK] at h0;by_cases hn:i=n
  ·grind
  exact DY n (by omega) i (by omega)
theorem NT {D:Nat→Bool} : ∀ n,kK D n≠0→∃ i,i<n∧D i=false∧∀ j,j<i→D j=true
 | 0,h=>absurd rfl h
 | n+1,h=>by
  by_cases hn:kK D n=0
  ·refine ⟨n,by omega,?_,DY n hn⟩;simp only [kK,hn] at h
   grind
  obtain ⟨i,h1,h2,h3⟩:=NT n hn
  grind
theorem acI (H:zb P c) (hc:gb P c) (hG:Gl P F w0) {ops:Array Oper} (hN:∀ o∈ops.toList,∀ x,o.dst=some x→x<N) {es:List cN} (D0:oZ c ops.toList st ops.toList.length es) (hp:qT es.length.pred es=true)
  {g0:Gh} {U0:Nat→Prop} {Q:Exit→Act→World→Prop}
  (hQ:∀ a' w' g' U' (D:Nat→Bool),(∀ i,i<es.length→D i=true)→Inv w0 F N g0 U0 st es D g' U' a' w'→Q .normal a' w') :
  ∀ (fuel:Nat) (listed:Array Bool) (a:Act) (w:World) (g:Gh) (U:Nat→Prop),listed.size=ops.size→kK (fun i=>listed.getD i true) ops.size≤fuel→
   Inv w0 F N g0 U0 st es (fun i=>listed.getD i true) g U a w→wpAny P .any ops Q fuel listed a w:=by
 have hlen:=D0.len;have nG:es.length=ops.size:=by rw [hlen]; simp
 intro fuel;have ready:∀ (listed:Array Bool) (i:Nat),i∈q7 .any ops listed→i<ops.size∧listed.getD i true=false∧∀ o,ops[i]? = some o→∀ e∈o.after.toList,tJ .any e=true→listed.getD e.on false=true:=by intro listed i h;unfold q7 at h;obtain ⟨h1,h2⟩:=List.mem_filter.1 h;simp only [aB,BT] at h2;refine ⟨by grind,h2.1,fun o ho e he hb=>?_⟩;have h3:=h2.2;rw [ho] at h3;simp only [Option.map_some,Option.getD_some] at h3;have:=(FR.1 h3) e (by grind);simpa [hb] using this
 have least:∀ (listed:Array Bool),listed.size=ops.size→q7 .any ops listed=[]→∀ i,i<ops.size→listed.getD i true=true:=by
  intro listed hs hr;refine DY ops.size ?_;by_cases h0:kK (fun i=>listed.getD i true) ops.size=0
  ·exact h0
  exfalso;obtain ⟨i,h1,h2,h3⟩:=NT _ h0;have cU:i∈q7 .any ops listed:=by
   unfold q7;refine List.mem_filter.2 ⟨by grind,?_⟩;obtain ⟨o,ho⟩:∃ o,ops[i]? = some o:=⟨_,s_ h1⟩
   have iJ:ops.toList[i]? = some o:=by rw [s4]; exact ho
   obtain ⟨e,he⟩:∃ e,e9 es i=some e:=⟨_,eX (by grind)⟩
   obtain ⟨fs,pre,o',-,-,tN,hf⟩:=D0.at i e he;rw [iJ] at tN;obtain rfl:=aZ tN;simp only [h2,Bool.not_false,Bool.true_and,ho,Option.map_some,Option.getD_some];refine FR.2 (fun ed EV=>?_);cases hb:tJ .any ed with
   | false=>rfl
   | true=>
    have aF:=NN hf.Uk ed (by grind) hb
    grind
  grind
 induction fuel with
 | zero=>
  intro listed a w g U hs Gm I;have c8:=DY ops.size (Nat.le_zero.1 Gm);refine ⟨?_,hQ a w g U _ (fun i hi=>c8 i (by omega)) I⟩;cases hr:q7 .any ops listed with
  | nil=>rfl
  | cons i l=>
   obtain ⟨h1,h2,-⟩:=ready listed i (by grind)
   grind
 | succ fuel ih=>
  intro listed a w g U hs Gm I;refine ⟨fun hr=>hQ a w g U _ (fun i hi=>least listed hs hr i (by omega)) I,fun i hi=>?_⟩;obtain ⟨h1,h2,h3⟩:=ready listed i hi;obtain ⟨o,ho⟩:∃ o,ops[i]? = some o:=⟨_,s_ h1⟩
  unfold wpOp;rw [ho];simp only;have mL:∀ j,(listed.setIfInBounds i true).getD j true=(listed.getD j true||j==i):=by
   intro j;simp only [oG,Array.getElem?_setIfInBounds];by_cases iQ:i=j
   ·grind
   grind
  have iJ:ops.toList[i]? = some o:=by rw [s4]; exact ho
  refine acG H hc hG hN D0 hp iJ h2 (fun e he hb=>?_) I (fun a' w' g' U' I'=>ih _ a' w' g' U' (by grind) ?_ ?_)
  ·grind
  ·have:=(NS (D:=fun j=>listed.getD j true) h2 ops.size).1 h1;have e:(fun j=>(listed.setIfInBounds i true).getD j true)=(fun j=>listed.getD j true||j==i):=funext mL
   grind
  grind
theorem NU {g0:Gh} {U0:Nat→Prop} (e_:∀ s,U0 s→U s) (dN:∀ id ver p,U0 (id / 1024)→U0 ver→g.hd id ver p=g0.hd id ver p) (h0:U0 0):∀ (es:List cN),Ext g0 U0 st g U (mh st es)
 | []=>⟨e_,cx _,⟨[],rfl,fun _ _=>.inr rfl⟩,⟨[],rfl,fun _ _=>.inr ⟨rfl,fun ver p h1 h2=>dN _ _ _ h1 h2⟩⟩,fun i _ h=>dN _ _ _ h h0⟩
 | e::es=>by
  obtain ⟨x1,x2,⟨l,x3,x4⟩,⟨m,x5,x6⟩,x7⟩:=NU e_ dN h0 es;refine ⟨e_,Nat.le_succ_of_le x2,⟨(match e.dst with | some x=>[x] | none=>[])++l,?_,fun t ht=>?_⟩,⟨pU e++m,?_,fun id hid=>?_⟩,x7⟩
  ·show (match e.dst with | some d=>d::(mh st es).et | none=>(mh st es).et)=_
   grind
  ·simp only [eF,not_or] at ht;show look ((mh st es).put e.dst e.bu).env t=none∨look ((mh st es).put e.dst e.bu).env t=_;rw [zn,if_neg]
   ·grind
   grind
  ·show pU e++(mh st es).ht=_
   grind
  simp only [eF,not_or] at hid;show ((mh st es).put e.dst e.bu).obj id=none∨(((mh st es).put e.dst e.bu).obj id=_∧_);rw [DW,FK hid.1]
  grind
theorem NV:∀ es:List cN,(mh st es).nxt=st.nxt+es.length
 | []=>rfl
 | e::es=>by
  show (mh st es).nxt+1=_;rw [NV es]
  grind
theorem Up (hm:P.follows .mixedOrders=true) (H:zb P c) (hc:gb P c) {ρ:Type} {r:ρ} {w0:World} {F:b9} {N:Nat} (id:Nat) (ops:Array Oper) (st:St) (a:Act) (w:World) (g:Gh) (U:Nat→Prop)
  (k:St→Option ρ) (Q:Exit→Act→World→Prop) (hN:∀ o∈ops.toList,∀ x,o.dst=some x→x<N) (hG:Gl P F w0) (R:Rel w0 F N g U st a w) (e:Bq c ops st k=some r)
  (hQ:∀ st' a' w' g' U',Rel w0 F N g' U' st' a' w'→Ext g U st g' U' st'→k st'=some r→Q .normal a' w'):(Code.region id ops true).wp P Q a w:=by
 have e:wx c ops.toList st ops.toList 0 [] (fun es=>match qT (ops.toList.length-1) es with | true=>k (mh st es) | false=>none)=some r:=e;obtain ⟨es,D0,e⟩:=JJ ops.toList 0 [] _ .nil rfl e;have hlen:=D0.len;split at e
 ·rename_i hp;have hp:qT es.length.pred es=true:=by rw [hlen]; exact hp
  have Rd:Rel w0 F N g U st a { w with drawn:=w.drawn+1 }:=R.drawn;refine wp_region_any hm (acI (w0:=w0) (F:=F) (N:=N) H hc hG hN D0 hp (g0:=g) (U0:=U) (fun a' w' g' U' D hD I=>?_) ops.size _ a _ g U (by simp) ?_ ⟨?_,fun s h=>.inl (R.used s h),fun i f hf hi=>?_,fun s h=>h,fun _ _ _ _ _=>rfl⟩)
  ·have c8:=NJ (st0:=st) es hD;refine hQ (mh st es) a' w' g' U' (I.rel.same (fun t=>by rw [c8]) (fun id=>by rw [c8]; rfl) (fun s hs=>?_)) (NU I.sub I.hd R.u0 es) e;rw [NV];exact I.rel.used s hs
  ·have:∀ (D:Nat→Bool) n,kK D n≤n:=by
    intro D n;induction n with
    | zero=>exact cx _
    | succ n ih=>simp only [kK]; split<;>omega
   grind
  ·have NW:∀ iW:List cN,iW.length≤ops.size→cq st (fun i=>(wh ops.size false).getD i true) iW=st:=by
    intro iW;induction iW with
    | nil=>intro _; rfl
    | cons f iW ih=>
     intro hl;simp only [bh] at hl;have aF:iW.length<ops.size:=by omega
     have hb:(wh ops.size false).getD iW.length true=false:=by simp [oG,aF]
     simp only [cq,hb]
     grind
   have dK:=NW es (by grind);refine Rd.same (fun t=>by rw [dK]) (fun id=>by rw [dK]; rfl) (fun s hs=>?_);have:=R.used s hs
   grind
  exfalso;have aF:i<ops.size:=by have:=(eE.1 hf).1;simp only [Zi,hlen] at this;simpa using this
  simp_all
 grind
theorem vl (hm:P.follows .mixedOrders=true) (H:zb P c) (hc:gb P c) (h0:wA c=none:=by rfl):BS P c:=by
 intro ρ r w0 F N id ops draw st a w g U k Q hN hG R e hQ;cases draw with
 | false=>exact wp_region_list (Jj H hc hG hN ops.toList st a w g U k (fun o h=>h) R e hQ)
 | true=>
  have e:(match wA c with | none=>Bq c ops st k | some T=>match Fb ops.toList with | none=>Bq c ops st k | some mf=>match Fe T ops.toList mf with | true=>Fg c mf ops.toList st k | false=>none)=some r:=e;rw [h0] at e;exact Up hm H hc id ops st a w g U k Q hN hG R e hQ
end
end Go.Am
namespace Go.Am
open Go
def NX:ah→Value→Bool
 | .int k n,.int l m=>nI k l&&(n==m)
 | .bool b,.bool c=>b==c
 | .str [],.string s=>s.data.toList.isEmpty
 | .err true,.nilIface=>true
 | .nil,.slice none 0 0=>true
 | .tj,.pointer none=>true
 | .uS,.nilFunc=>true
 | .undef,_=>true
 | _,_=>false
def DZ:List ah→List Value→Bool
 | [],vs=>vs.isEmpty
 | a::as,vs=>match vs with
  | []=>false
  | v::vs=>NX a v&&DZ as vs
theorem acJ {g:Gh} {w:World} {U:Nat→Prop} {a:ah} {v:Value} (h:NX a v=true):aV g w U a v:=by
 unfold NX at h;split at h
 ·simp only [aB,beq_iff_eq] at h;obtain ⟨h1,rfl⟩:=h;obtain rfl:=pQ h1;rfl
 ·simp only [beq_iff_eq] at h; subst h; rfl
 ·rename_i d;show Value.string d = .string ⟨([]:List UInt8).toArray⟩;obtain ⟨⟨l⟩⟩:=d
  grind
 ·rfl
 ·rfl
 ·rfl
 ·rfl
 ·trivial
 grind
theorem Uq {g:Gh} {w:World} {U:Nat→Prop} : ∀ {as:List ah} {vs:List Value},DZ as vs=true→cz g w U as vs
 | [],vs,h=>by
  cases vs with
  | nil=>rfl
  | cons v vs=>simp [DZ] at h
 | a::as,vs,h=>by
  cases vs with
  | nil=>simp [DZ] at h
  | cons v vs=>
   simp only [DZ,aB] at h;exact ⟨v,vs,rfl,acJ h.1,Uq h.2⟩
def D_:List Field→List (Nat×Nat)→Bool
 | [],l=>l.isEmpty
 | f::fs,l=>match l with
  | []=>false
  | p::l=>aT f.offset p.1&&aT f.type p.2&&D_ fs l
theorem Ur:∀ {fs:List Field} {l:List (Nat×Nat)},D_ fs l=true→fs.map (fun f=>(f.offset,f.type))=l
 | [],l,h=>by cases l with | nil=>rfl | cons=>simp [D_] at h
 | f::fs,l,h=>by
  cases l with
  | nil=>simp [D_] at h
  | cons p l=>
   simp only [D_,aB] at h;obtain ⟨⟨h1,h2⟩,h3⟩:=h;rw [mM,Ur h3,bB h1,bB h2]
def Us (k:TK) (elem:Nat) (fields:List (Nat×Nat)) (d:TypeDesc):Bool:=match k,d with
 | .int k,.int l=>nI k l
 | .str,.string=>true
 | .bool,.bool=>true
 | .iface,.interface _=>true
 | .slice,.slice e=>aT e elem
 | .struct,.struct fs=>D_ fs.toList fields
 | .other,_=>true
 | _,_=>false
def D1:List ah→List ah→Bool
 | [],l=>l.isEmpty
 | a::as,l=>match l with
  | []=>false
  | b::bs=>(match a,b with
   | .int k n,.int l m=>nI k l&&(n==m)
   | .bool b,.bool c=>b==c
   | .str [],.str []=>true
   | .err a,.err b=>a==b
   | .nil,.nil=>true
   | _,_=>false)&&D1 as bs
theorem Ut:∀ {as bs:List ah},D1 as bs=true→as=bs
 | [],l,h=>by cases l with | nil=>rfl | cons=>simp [D1] at h
 | a::as,l,h=>by
  cases l with
  | nil=>simp [D1] at h
  | cons b bs=>
   simp only [D1,aB] at h;rw [Ut h.2];have h:=h.1;congr 1;split at h
   ·simp only [aB,beq_iff_eq] at h;rw [pQ h.1,h.2]
   ·grind
   ·rfl
   ·grind
   ·rfl
   grind
def JN (P:Program):Nat→List Field→Bool
 | _,[]=>true
 | n,f::fs=>aT f.offset n&&!(f.name== "_")&&(match P.underlying f.type with | some (.int _)=>true | _=>false)&&JN P (n+1) fs
theorem Uu {P:Program} : ∀ (fs:List Field) (m:Nat),JN P m fs=true→∀ (n:Nat) (f:Field),fs[n]? = some f→f.offset=m+n∧f.name≠ "_" ∧∃ kk,P.underlying f.type=some (.int kk)
 | [],m,h,n,f,hf=>by grind
 | g::fs,m,h,n,f,hf=>by
  simp only [JN,aB] at h;obtain ⟨⟨⟨h1,h2⟩,h3⟩,h4⟩:=h;cases n with
  | zero=>
   simp only [A5,aN] at hf;subst hf;refine ⟨bB h1,by grind,?_⟩
   grind
  | succ n=>
   obtain ⟨a1,a2⟩:=Uu fs (m+1) h4 n f (by grind)
   grind
def Gn (P:Program) (t:Nat) (i:mP):Bool:=
 (match P.info? t with
  | some ti=>aT ti.size i.size&&aT ti.bytes i.bytes&&(match ti.zero with | some z=>aT z.cells.size i.size&&DZ i.zero z.cells.toList | none=>false)
  | none=>false)&&
 (match i.ty with | some T=>D1 i.zero (Bv T)&&aT i.size T.size | none=>true)&&
 (match P.underlying t with
  | some d=>Us i.kind i.elem i.fields d&&(i.agg==(match d with | .struct _=>true | .array _ _=>true | _=>false))
  | none=>false)&&
 (match i.eq with
  | false=>true
  | true=>!(P.stoodInHeld t)&&!(P.eqGuardType P.depth t)&&(match P.underlying t with | some (.struct fs)=>aT fs.size i.fields.length&&JN P 0 fs.toList | _=>false))
theorem acK {P:Program} {t:Nat} {i:mP} (h:Gn P t i=true):nM P t i:=by
 unfold Gn at h;simp only [aB] at h;obtain ⟨⟨⟨h1,h2⟩,h3⟩,h4⟩:=h;refine ⟨?_,fun T hT=>?_,?_,fun he=>?_⟩
 ·split at h1
  ·rename_i ti qL;simp only [aB] at h1;obtain ⟨⟨a1,a2⟩,a3⟩:=h1;split at a3
   ·rename_i z hz;simp only [aB] at a3;exact ⟨ti,qL,bB a1,bB a2,z,hz,bB a3.1,fun g w U=>Uq a3.2⟩
   grind
  grind
 ·rw [hT] at h2;simp only [aB] at h2;exact ⟨Ut h2.1,bB h2.2⟩
 ·split at h3
  ·rename_i d hd;simp only [aB,beq_iff_eq] at h3;refine ⟨d,hd,?_,h3.2⟩;have h3:=h3.1;revert h3;cases i.kind<;>cases d<;>intro h3<;>simp only [Us] at h3<;>first
    | exact absurd h3 Bool.false_ne_true
    | trivial
    | (rw [pQ h3])
    | (rw [bB h3])
    | exact ⟨_,rfl⟩
    | exact ⟨_,rfl,Ur h3⟩
  grind
 rw [he] at h4;simp only [aB,BT] at h4;obtain ⟨⟨a1,a2⟩,a3⟩:=h4;split at a3
 ·rename_i fs yS;simp only [aB] at a3;refine ⟨a1,a2,fs,yS,bB a3.1,fun n f hf=>?_⟩;obtain ⟨b1,b2⟩:=Uu fs.toList 0 a3.2 n f hf
  grind
 grind
theorem cB {P:Program} {c:bd} (h:(c.bm.all fun p=>Gn P p.1 p.2)=true):gb P c:=by intro t i hl;exact acK (iy.1 h _ (kJ hl))
end Go.Am
namespace Go.Am
open Go Go.WideShapes Go.RowKit
def B0 (P:Program) (f:TypeId→Ty→Bool):List Field→Nat→Ty→Bool
 | [],_,_=>false
 | [x],off,T=>aT x.offset off&&f x.type T&&aT (P.cellsOf x.type) T.size
 | x::y::l,off,T=>match T with
  | .pair a b=>aT x.offset off&&f x.type a&&aT (P.cellsOf x.type) a.size&&B0 P f (y::l) (off+a.size) b
  | _=>false
def o_ (P:Program):Nat→TypeId→Ty→Bool
 | 0,_,_=>false
 | n+1,t,.int k=>match P.underlying t with | some (.int l)=>nI k l | _=>false
 | n+1,t,.bool=>match P.underlying t with | some .bool=>true | _=>false
 | n+1,t,.str=>match P.underlying t with | some .string=>true | _=>false
 | n+1,t,.sl u=>match P.underlying t with | some (.slice e)=>o_ P n e u&&aT (P.cellsOf e) u.size | _=>false
 | n+1,t,.pair a b=>match P.underlying t with | some (.struct fs)=>B0 P (o_ P n) fs.toList 0 (.pair a b)&&aT (P.cellsOf t) (Ty.pair a b).size | _=>false
 | _+1,_,_=>false
def qd:(t:Ty)→t.T→Prop
 | .int k,n=>(Lit.int k n).wf=true
 | .bool,_=>True
 | .str,s=>(s:List UInt8).length≤maxLen
 | .err,_=>True
 | .pair a b,x=>qd a x.1∧qd b x.2
 | .sl t,xs=>let ys:List t.T:=xs; ys.length≤maxLen∧∀ x∈ys,qd t x
 | .bW _,_=>True
section
variable {H:Type} {enc:TypeId×Value→H} {P:Program} {w:World} {held:Bool} {g:Gh}
abbrev L0:b9:=fun _ _=>none
theorem acL (a:Addr) (i k:Nat):a.add (i+k)=(a.add i).add k:=by
 unfold Addr.add
 grind
theorem acM {α:Type} (n:Nat) (p:Nat→α→Prop) (h:∀ i,i<n→∃ x,p i x):∃ xs:List α,xs.length=n∧∀ i (hi:i<xs.length),p i xs[i]:=by
 induction n with
 | zero=>simp_all
 | succ n ih=>
  obtain ⟨xs,h1,h2⟩:=ih (fun i hi=>h i (by omega));obtain ⟨x,hx⟩:=h n (by omega);refine ⟨xs++[x],by grind,fun i hi=>?_⟩
  grind
theorem Uv {f:TypeId→Ty→Bool} {n:Nat} {cs:List Value} (hf:∀ t T eo x,f t T=true→DataW.trod enc P w 0 (fun _=>true) held n t eo=some x→
   ∃ d:T.T,eo.length=T.size∧(∀ q i j,df g L0 w false cn T q i j d (fun k=>eo[k]?))∧qd T d) :
  ∀ (fs:List Field) (off:Nat) (T:Ty) (xs:List (DataW H×List MemPlace)),B0 P f fs off T=true→off+T.size≤cs.length→
   (∀ (i:Nat) (fd:Field),fs[i]? = some fd→∃ x,DataW.trod enc P w 0 (fun _=>true) held n fd.type ((cs.drop fd.offset).take (P.cellsOf fd.type))=some x)→
   ∃ d:T.T,(∀ q i j,df g L0 w false cn T q i j d (fun k=>cs[off+k]?))∧qd T d
 | [],off,T,xs,h,hl,hx=>by simp [B0] at h
 | [fd],off,T,xs,h,hl,hx=>by simp only [B0,aB] at h;obtain ⟨⟨h1,h2⟩,h3⟩:=h;obtain ⟨x,hx⟩:=hx 0 fd rfl;obtain ⟨d,a1,a2,a3⟩:=hf _ _ _ _ h2 hx;refine ⟨d,fun q i j=>km T q i j d _ _ (fun k hk=>?_) (a2 q i j),a3⟩;simp_all
 | fd::fe::fs,off,T,xs,h,hl,hx=>by
  cases T with
  | pair a b=>
   simp only [B0,aB] at h;obtain ⟨⟨⟨h1,h2⟩,h3⟩,h4⟩:=h;simp only [Ty.size] at hl;obtain ⟨x,vf⟩:=hx 0 fd rfl;obtain ⟨d,a1,a2,a3⟩:=hf _ _ _ _ h2 vf;obtain ⟨d2,b1,b2⟩:=Uv hf (fe::fs) (off+a.size) b [] h4 (by omega) (fun i fd' hi=>hx (i+1) fd' (by grind));refine ⟨(d,d2),fun q i j=>⟨km a q i j d _ _ (fun k hk=>?_) (a2 q i j),km b q i _ d2 _ _ (fun k hk=>?_) (b1 q i (j+a.size))⟩,a3,b2⟩
   ·simp_all
   grind
  | _=>simp [B0] at h
theorem NY:∀ (m:Nat) (t:TypeId) (T:Ty),o_ P m t T=true→∀ (n:Nat) (cs:List Value) (x:DataW H×List MemPlace),DataW.trod enc P w 0 (fun _=>true) held n t cs=some x→
  ∃ d:T.T,cs.length=T.size∧(∀ q i j,df g L0 w false cn T q i j d (fun k=>cs[k]?))∧qd T d
 | 0,t,T,h=>by simp [o_] at h
 | m+1,t,.int k,h=>by
  simp only [o_] at h;split at h
  ·rename_i l hu;obtain rfl:=pQ h;intro n cs x hx;obtain ⟨v,rfl,rfl,hw⟩:=DataW.trod_int hu hx;exact ⟨v,rfl,fun _ _ _=>rfl,hw⟩
  grind
 | m+1,t,.bool,h=>by
  simp only [o_] at h;split at h
  ·rename_i hu;intro n cs x hx;obtain ⟨v,rfl,rfl⟩:=DataW.trod_bool hu hx;exact ⟨v,rfl,fun _ _ _=>rfl,trivial⟩
  grind
 | m+1,t,.str,h=>by
  simp only [o_] at h;split at h
  ·rename_i hu;intro n cs x hx;obtain ⟨v,rfl,rfl,hw⟩:=DataW.trod_string hu hx;refine ⟨v.data.toList,rfl,fun _ _ _=>?_,by simpa [qd] using hw⟩;obtain ⟨⟨l⟩⟩:=v;rfl
  grind
 | m+1,t,.sl u,h=>by
  simp only [o_] at h;split at h
  ·rename_i e hu;simp only [aB] at h;obtain ⟨h1,h2⟩:=h;have h2:=bB h2;intro n cs x hx;rcases DataW.trod_slice hu hx with ⟨rfl,-⟩ | ⟨a,len,cap,elems,rest,n',rfl,rfl,rfl,hb,hl,hm,hlen,HU,-⟩
   ·exact ⟨([]:List u.T),rfl,fun _ _ _=>⟨_,rfl,none,0,0,rfl,rfl,cx _,fun _=>rfl,fun h=>absurd rfl h⟩,tK _,fun x hx=>absurd hx (by simp)⟩
   have each:∀ i,i<len→∃ d:u.T,(∀ k,k<u.size→∃ v,w.cell? (a.add (i*u.size+k))=some v)∧(∀ q i' j,df g L0 w false cn u q i' j d (fun k=>w.cell? (a.add (i*u.size+k))))∧qd u d:=by
    intro i hi;have hx:=HU i hi;have aF:i<elems.length:=by omega
    rw [eX aF,h2] at hx;obtain ⟨eo,hc,ht⟩:=Jo.1 hx;obtain ⟨-,c1,c2⟩:=World.cells?_some hc;obtain ⟨d,d1,d2,d3⟩:=NY m e u h1 n' eo _ ht;have oE:∀ k,k<u.size→w.cell? (a.add (i*u.size+k))=eo[k]?:=fun k hk=>by rw [← c2 k hk];congr 1;exact acL a _ _
    refine ⟨d,fun k hk=>?_,fun q i' j=>km u q i' j d _ _ (fun k hk=>oE k hk) (d2 q i' j),d3⟩;rw [oE k hk];exact ⟨_,eX (by omega)⟩
   obtain ⟨ds,e1,e2⟩:=acM len _ each;refine ⟨ds,rfl,fun _ _ _=>⟨_,rfl,some a,len,cap,rfl,e1.symm,hl,by simp,fun aG=>?_⟩,by omega,fun x hx=>?_⟩
   ·have fG:0<ds.length:=List.length_pos_iff.2 aG;have JO:a.spot=none:=by
     obtain ⟨v,hv⟩:=(e2 0 fG).1 0 u.size_pos;unfold World.cell? at hv;split at hv
     ·split at hv
      ·grind
      rename_i hs; simpa [Addr.add] using hs
     grind
    have ha:∀ k,a.add k=ad a.block (a.off+k):=fun k=>by obtain ⟨b,o,s⟩:=a;simp only at JO;subst JO;exact Addr.add_lit _ _ _
    have Lk:a=ad a.block a.off:=by obtain ⟨b,o,s⟩:=a;simp only at JO;subst JO;rfl
    refine ⟨a.block,a.off,by grind,fun i hi=>?_⟩;refine Dq (g:=g) (L:=L0) (σ:=cn) u [] 0 0 _ a.block (a.off+i*u.size) (fun _ _=>rfl) ?_
    grind
   obtain ⟨i,hi,rfl⟩:=List.getElem_of_mem hx
   grind
  grind
 | m+1,t,.pair a b,h=>by
  simp only [o_] at h;split at h
  ·rename_i fs hu;simp only [aB] at h;obtain ⟨h1,h2⟩:=h;intro n cs x hx;obtain ⟨xs,n',rfl,rfl,hl,hlen,HU⟩:=DataW.trod_struct hu hx;have A1:cs.length=(Ty.pair a b).size:=by rw [hl,bB h2]
   obtain ⟨d,d1,d2⟩:=Uv (g:=g) (cs:=cs) (fun t T eo x hb hx=>NY m t T hb n' eo x hx) fs.toList 0 (.pair a b) [] h1 (by omega) (fun i fd hi=>by grind)
   grind
  grind
 | m+1,t,.err,h=>by simp [o_] at h
 | m+1,t,.bW u,h=>by simp [o_] at h
theorem acN {m : Nat} {t : TypeId} {T : Ty} (hT : o_ P m t T = true) {v : Value} {d : DataW H} {ps : List MemPlace} {W0 : World} {base : Nat} (bK : Value.okWide P W0 .any base t v) (h : DataW.Trod enc P w 0 (fun _ => true) held t v d ps) (U : Nat → Prop) :
    ∃ x : T.T, aV ⟨fun _ _ _ => eh, L0⟩ w U (shut T (flat mO T x 0)) v ∧ qd T x := by
  obtain ⟨n, h⟩ := h
  obtain ⟨x, h1, h2, h3⟩ := NY (g := ⟨fun _ _ _ => eh, L0⟩) m t T hT n _ _ h
  refine ⟨x, FN (f := fun k => v.cells.toList[k]?) ?_ (kq _ _ _ _) (FP (fun _ _ h => h) T [] 0 0 0 x _ (h2 [] 0 0)), h3⟩
  cases T with
  | pair a b =>
    have bF : 2 ≤ (Ty.pair a b).size := by
      have := a.size_pos; have := b.size_pos; simp [Ty.size]; omega
    cases v with
    | agg cs =>
      exact ⟨cs.toList, by simp, h1, rfl⟩
    | _ => simp only [Value.cells, List.size_toArray, Array.toList, List.length_singleton] at h1; omega
  | _ =>
    have Uw : ∀ cs, v ≠ .agg cs := by
      cases m with
      | zero => simp [o_] at hT
      | succ m =>
        simp only [o_] at hT
        first
          | exact absurd hT Bool.false_ne_true
          | (split at hT
             · rename_i hu
               first
                 | (obtain ⟨_, rfl⟩ := okWide_int hu bK; intro cs h; simp at h; done)
                 | (obtain ⟨_, rfl⟩ := okWide_bool hu bK; intro cs h; simp at h; done)
                 | (obtain ⟨_, rfl⟩ := okWide_string hu bK; intro cs h; simp at h; done)
                 | (obtain ⟨_, _, _, rfl⟩ := okWide_slice hu bK; intro cs h; simp at h; done)
             · simp at hT)
    cases v with
    | agg cs => exact absurd rfl (Uw cs)
    | _ => rfl
def w6 (P:Program):List (Nat×ar)→Prop
 | []=>True
 | (k,m)::l=>(Sound P (C9 k) m∧ck P (C9 k))∧w6 P l
theorem F4.of {c:bd} (h:w6 P c.calls) (hp:Jz P c:=by exact Go.Am.Nr rfl):F4 P c:=by
 refine ⟨?_,hp⟩;intro f m hm;revert h hm;generalize c.calls=l;intro h hm;induction l with
 | nil=>grind
 | cons p l ih=>
  rcases gC.1 hm with e | e
  ·rw [← e] at h; exact h.1
  exact ih h.2 e
def w7 (P:Program):List (Nat×cM)→Prop
 | []=>True
 | p::l=>(oY P p.1 p.2∧ck P p.1)∧w7 P l
theorem JG.of {c:bd} (h:w7 P c.uV):JG P c:=by
 intro f m hm;revert h hm;generalize c.uV=l;intro h hm;induction l with
 | nil=>grind
 | cons p l ih=>
  rcases gC.1 hm with e | e
  ·rw [← e] at h; exact h.1
  exact ih h.2 e
def NZ:(ps:List PK)→iS ps→Prop
 | [],_=>True
 | .val t::ps,x=>qd t x.1∧NZ ps x.2
 | _::_,_=>False
def zp (P:Program):List TypeId→List PK→Bool
 | [],[]=>true
 | t::ts,.val T::ps=>o_ P 20 t T&&zp P ts ps
 | _,_=>false
theorem Ux:∀ (ts:List TypeId) (ps:List PK) (vs:List Value) (ds:List (DataW H)) (p:List MemPlace) (i:Nat),zp P ts ps=true→FU enc P w 0 (fun _=>true) held ts vs ds p→
  (∀ (j:Nat) t v,ts[j]? = some t→vs[j]? = some v→∃ W0 base,Value.okWide P W0 .any base t v)→
  ∃ x:iS ps,cz ⟨fun _ _ _=>eh,L0⟩ w gK ((entry i ps x).1.map (·.2)) vs∧NZ ps x∧(entry i ps x).2=[]
 | [],ps,vs,ds,p,i,hb,h,bK=>by
  cases ps with
  | cons q ps=>simp [zp] at hb
  | nil=>
   cases vs with
   | nil=>exact ⟨(),rfl,trivial,rfl⟩
   | cons v vs=>exact absurd h (by cases ds<;>simp [FU])
 | t::ts,ps,vs,ds,p,i,hb,h,bK=>by
  cases ps with
  | nil=>simp [zp] at hb
  | cons q ps=>
   cases q with
   | val T=>
    simp only [zp,aB] at hb;cases vs with
    | nil=>exact absurd h (by cases ds<;>simp [FU])
    | cons v vs=>
     cases ds with
     | nil=>exact absurd h (by simp [FU])
     | cons d ds=>
      obtain ⟨p1,q1,h1,h2,-⟩:=h;obtain ⟨W0,base,acO⟩:=bK 0 t v rfl rfl;obtain ⟨x,x1,x2⟩:=acN hb.1 acO h1 gK;obtain ⟨y,y1,y2,y3⟩:=Ux ts ps vs ds q1 (i+1) hb.2 h2 (fun j t v a b=>bK (j+1) t v (by grind) (by grind));exact ⟨(x,y),⟨v,vs,rfl,x1,y1⟩,⟨x2,y2⟩,y3⟩
   | _=>simp [zp] at hb
theorem acP {f:FuncId} {ps:List PK} {F:Nat→iS ps→Option (cj (RK.bm [RK.val .bool]++PK.outs ps))} (hS:∀ n,Sound P f ⟨ps,[.val .bool],F n⟩) (bK:yP ps [.val .bool]=true)
  (acQ:∀ x,NZ ps x→∃ n y,F n x=some y∧(gA 20 0 [RK.val .bool] (PK.outs ps) y).1=[.bool true])
  {ts:List TypeId} {vs:List Value} {ds:List (DataW H)} {p:List MemPlace} (hT:zp P ts ps=true) (h:FU enc P w 0 (fun _=>true) held ts vs ds p)
  (hw:∀ (j:Nat) t v,ts[j]? = some t→vs[j]? = some v→∃ W0 base,Value.okWide P W0 .any base t v) (hG:Gl P L0 w) :
  Calls P f vs.toArray w fun e w'=>e = .returned (.bool true)∧Below w.heap.size w w':=by
 obtain ⟨x,x1,x2,x3⟩:=Ux ts ps vs ds p 0 hT h hw;obtain ⟨n,y,y1,y2⟩:=acQ x x2;refine BU (hS n x y y1 bK 20 (cx _) ⟨fun _ _ _=>eh,L0⟩ w vs ⟨x1,fun id o h=>?_,fun b o q h=>by grind⟩ hG) (fun e w' h=>?_)
 ·have h:look (entry 0 ps x).2 id=some (some o):=h;rw [x3] at h;simp [look] at h
 obtain ⟨v,g',rfl,E⟩:=h;have hv:=E.val;rw [y2] at hv;obtain rfl:v = .bool true:=hv;exact ⟨rfl,E.fr.os,E.fr.tape,E.fr.output,E.fr.size,fun k hk=>E.fr.block k hk (fun o ⟨id,p,h,_⟩=>by grind)⟩
end
end Go.Am
namespace Go.Am
open Go
theorem af {ρ:Type} {p:Prop} [Decidable p] {x:Option ρ} (h:p):ab p x=x:=by simp [ab,h]
theorem ax {ρ:Type} {x y:Option ρ} : br true x y=x:=rfl
theorem aw {ρ:Type} {x y:Option ρ} : br false x y=y:=rfl
theorem r_ {ρ:Type} {b:Bool} {x y:Option ρ} : br b x y=if b=true then x else y:=by cases b<;>rfl
theorem Uy {α ρ:Type} {F:(α→Option ρ)→α→Option ρ} (I:α→Prop) (μ:α→Nat) (Q:α→Option ρ→Prop)
  (step:∀ ih x,I x→(∀ y,I y→μ y<μ x→Q y (ih y))→Q x (F ih x)):∀ n x,I x→μ x<n→Q x (iter n F x)
 | 0,x,_,h=>absurd h (Nat.not_lt_zero _)
 | n+1,x,hx,h=>step (iter n F) x hx (fun y hy hm=>Uy I μ Q step n y hy (by omega))
theorem JP {σ ρ:Type} {F:(Int×σ→Option ρ)→Int×σ→Option ρ} (len:Nat) (P:Nat→σ→Option ρ→Prop)
  (hE:∀ ih s,P len s (F ih ((len:Int),s))) (hS:∀ ih (i:Nat) s,i<len→(∀ s',P (i+1) s' (ih (((i+1:Nat):Int),s')))→P i s (F ih ((i:Int),s))) :
  ∀ n (i:Nat) s,i≤len→len<n+i→P i s (iter n F ((i:Int),s))
 | 0,i,s,hi,h=>by omega
 | n+1,i,s,hi,h=>by
  show P i s (F (iter n F) ((i:Int),s));rcases Nat.lt_or_eq_of_le hi with aF | he
  ·exact hS _ i s aF (fun s'=>JP len P hE hS n (i+1) s' (by omega) (by omega))
  grind
theorem bM {n:Int} (h1 : -9223372036854775808≤n) (h2:n<9223372036854775808):ag n=n:=by unfold ag; omega
theorem ba {i:Nat} (h:i<4611686018427387904):ag ((i:Int)+1)=((i+1:Nat):Int):=by rw [bM]<;>omega
theorem aU {α:Type} {xs:List α} {i:Nat} (h:i<xs.length) (z:α):xs.getD i z=xs[i]:=by simp [h]
theorem N_ {α:Type} (a:List α) (ok:α→Bool) {F:(Int×Unit→Option (Bool×Unit))→Int×Unit→Option (Bool×Unit)}
  (hF:∀ ih (i:Nat) (hi:i<a.length),F ih ((i:Int),())=if ok a[i]=true then ih (((i+1:Nat):Int),()) else some (false,()))
  (hE:∀ ih,F ih ((a.length:Int),())=some (true,())) {n:Nat} (hn:a.length<n):iter n F (0,())=some (a.all ok,()):=by
 have:=JP (F:=F) a.length (fun i _ o=>o=some ((a.drop i).all ok,())) (fun ih s=>by grind) (fun ih i s hi h=>by
  rw [hF ih i hi];have hd:a.drop i=a[i]::a.drop (i+1):=TG hi
  grind) n 0 () (tK _) (by omega)
 grind
theorem N0 {α:Type} (a:List α) (p:α→Bool) {F:(Int×Unit→Option (Int×Unit))→Int×Unit→Option (Int×Unit)}
  (hF:∀ ih (i:Nat) (hi:i<a.length),F ih ((i:Int),())=if p a[i]=true then some ((i:Int),()) else ih (((i+1:Nat):Int),()))
  (hE:∀ ih,F ih ((a.length:Int),())=some (-1,())) {n:Nat} (hn:a.length<n):∃ r:Int,iter n F (0,())=some (r,())∧decide (0≤r)=a.any p:=by
 have:=JP (F:=F) a.length (fun i _ o=>∃ r:Int,o=some (r,())∧decide (0≤r)=(a.drop i).any p) (fun ih s=>by grind) (fun ih i s hi h=>by
  rw [hF ih i hi];have hd:a.drop i=a[i]::a.drop (i+1):=TG hi;rw [hd,List.any_cons];split
  ·grind
  simp_all) n 0 () (tK _) (by omega)
 grind
theorem Uz {α:Type} (a:List α) {F:(Int×List α×Unit→Option (List α×Unit))→Int×List α×Unit→Option (List α×Unit)}
  (hF:∀ ih (i:Nat) (hi:i<a.length) ys,ys.length=a.length→F ih ((i:Int),ys,())=ih (((i+1:Nat):Int),ys.set i a[i],()))
  (hE:∀ ih ys,F ih ((a.length:Int),ys,())=some (ys,())) {n:Nat} (hn:a.length<n) {ys:List α} (hy:ys.length=a.length):iter n F (0,ys,())=some (a,()):=by
 have:=JP (F:=F) a.length (fun i s o=>s.1.length=a.length→(∀ j (h1:j<i) (h2:j<a.length) (h3:j<s.1.length),s.1[j]=a[j])→o=some (a,())) (fun ih s hs h=>by
  obtain ⟨ys,u⟩:=s;have:ys=a:=List.ext_getElem hs (fun j h1 h2=>h j (by omega) h2 h1)
  grind) (fun ih i s hi h hs hj=>by
  grind) n 0 (ys,()) (tK _) (by omega)
 grind
theorem JQ {α σ ρ:Type} {F:(α→Option ρ)→α→Option ρ} (st:Nat→σ→α) (len:Nat) (P:Nat→σ→Option ρ→Prop)
  (hE:∀ ih s,P len s (F ih (st len s))) (hS:∀ ih (i:Nat) s,i<len→(∀ s',P (i+1) s' (ih (st (i+1) s')))→P i s (F ih (st i s))) :
  ∀ n (i:Nat) s,i≤len→len<n+i→P i s (iter n F (st i s))
 | 0,i,s,hi,h=>by omega
 | n+1,i,s,hi,h=>by
  show P i s (F (iter n F) (st i s));rcases Nat.lt_or_eq_of_le hi with aF | he
  ·exact hS _ i s aF (fun s'=>JQ st len P hE hS n (i+1) s' (by omega) (by omega))
  grind
theorem UA {ρ:Type} (len:Nat) (ok:Nat→Bool) (bad j6:Option ρ) {F:(Int×Unit→Option ρ)→Int×Unit→Option ρ}
  (hF:∀ ih (i:Nat) (hi:i<len),F ih ((i:Int),())=if ok i=true then ih (((i+1:Nat):Int),()) else bad)
  (hE:∀ ih,F ih ((len:Int),())=j6) {n:Nat} (hn:len<n) :
  ((∀ i,i<len→ok i=true)→iter n F (0,())=j6)∧(¬ (∀ i,i<len→ok i=true)→iter n F (0,())=bad):=by
 have:=JQ (F:=F) (fun i (s:Unit)=>((i:Int),())) len
  (fun i s o=>((∀ j,i≤j→j<len→ok j=true)→o=j6)∧(¬ (∀ j,i≤j→j<len→ok j=true)→o=bad))
  (fun ih s=>by grind)
  (fun ih i s hi h=>by
   rw [hF ih i hi];by_cases bK:ok i=true
   ·rw [if_pos bK];have h2:=h ()
    grind
   grind)
  n 0 () (tK _) (by omega)
 grind
def W {α:Type} (m:Option α) (Q:α→Prop):Prop:=∃ x,m=some x∧Q x
section
variable {α β ρ:Type} {Q:α→Prop}
theorem ao {x:α} : W (some x) Q↔Q x:=⟨fun ⟨y,e,h⟩=>by grind,fun h=>⟨x,rfl,h⟩⟩
theorem dt {m:Option β} {f:β→Option α} : W (m.bind f) Q↔W m (fun x=>W (f x) Q):=by
 cases m with
 | none=>simp [W]
 | some x=>simp [W]
theorem cC {b:Bool} {x y:Option α} : W (br b x y) Q↔((b=true→W x Q)∧(b=false→W y Q)):=by cases b<;>simp [br]
theorem cZ {p:Prop} [Decidable p] {x y:Option α} : W (br (decide p) x y) Q↔((p→W x Q)∧(¬ p→W y Q)):=by rw [cC]; simp
theorem vm {b:Bool} {x y:Option α} : W (br (!b) x y) Q↔((b=false→W x Q)∧(b=true→W y Q)):=by cases b<;>simp [br]
theorem fB {m:Option (Sum α β)} {f:β→Option α} : W (cut m f) Q↔W m (fun s=>match s with | .inl r=>Q r | .inr y=>W (f y) Q):=by
 cases m with
 | none=>simp [W,cut]
 | some s=>cases s<;>simp [W,cut]
theorem bA {m:Option α} {P:α→Prop} (h:W m P) (h':∀ x,P x→Q x):W m Q:=let ⟨x,e,p⟩:=h; ⟨x,e,h' x p⟩
theorem eM {m:Option α} {v:α} : W m (fun x=>x=v)↔m=some v:=⟨fun ⟨x,e,h⟩=>by grind,fun h=>⟨v,h,rfl⟩⟩
theorem acR {γ:Type} {F:(γ→Option α)→γ→Option α} (I:γ→Prop) (μ:γ→Nat)
  (step:∀ ih x,I x→(∀ y,I y→μ y<μ x→W (ih y) Q)→W (F ih x) Q) {n:Nat} {x:γ} (hx:I x) (hn:μ x<n):W (iter n F x) Q:=
 Uy I μ (fun _ o=>W o Q) step n x hx hn
theorem gu {γ σ:Type} {F:(γ→Option α)→γ→Option α} (st:Nat→σ→γ) (len:Nat) (I:Nat→σ→Prop) {n:Nat} {x:γ} {s0:σ} (hx:x=st 0 s0) (h0:I 0 s0) (hn:len<n)
  (hE:∀ ih s,I len s→W (F ih (st len s)) Q) (hS:∀ ih (i:Nat) s,i<len→I i s→(∀ s',I (i+1) s'→W (ih (st (i+1) s')) Q)→W (F ih (st i s)) Q):W (iter n F x) Q:=by
 subst hx;exact JQ (F:=F) st len (fun i s o=>I i s→W o Q) (fun ih s h=>hE ih s h) (fun ih i s hi hh h=>hS ih i s hi h (fun s' h'=>hh s' h')) n 0 s0 (tK _) (by omega) h0
theorem w8 {m:Option (Bool×Unit)} {P:Prop} [Decidable P] (h:W m (fun r=>(r.1=true↔P))):m=some (decide P,()):=by
 obtain ⟨⟨b,⟨⟩⟩,e,h⟩:=h
 grind
end
theorem Gp {α:Type} [BEq α] [LawfulBEq α]:∀ {l m:List α},l.Nodup→(∀ x∈l,x∈m)→l.length≤m.length
 | [],m,_,_=>tK _
 | a::l,m,h,hs=>by
  obtain ⟨h1,h2⟩:=qK.1 h;have ha:a∈m:=hs a (by simp);have:=Gp (m:=m.erase a) h2 (fun x hx=>by grind)
  grind
theorem UB {α:Type} [BEq α] [LawfulBEq α]:∀ {l m:List α},l.Nodup→(∀ x∈l,x∈m)→m.length≤l.length→l.Perm m
 | [],m,_,_,h=>by grind
 | a::l,m,h,hs,hl=>by
  obtain ⟨h1,h2⟩:=qK.1 h;have ha:a∈m:=hs a (by simp);have:=UB (m:=m.erase a) h2 (fun x hx=>by grind) (by grind)
  grind
theorem RP {α:Type} [BEq α] [LawfulBEq α]:∀ {l:List α},l.Nodup→∀ {a:α},a∈l→l.count a=1
 | [],_,a,h=>by grind
 | b::l,h,a,ha=>by grind
theorem UC {α:Type} [BEq α] [LawfulBEq α] {l m:List α} (hm:m.Nodup) (hs:∀ x∈l,x∈m):(∀ q∈m,l.count q=1)↔(l.Nodup∧m.length≤l.length):=by
 constructor
 ·intro h;have hp:l.Perm m:=List.perm_iff_count.2 (fun a=>by
   by_cases ha:a∈m
   ·grind
   grind)
  exact ⟨hp.nodup_iff.2 hm,by rw [hp.length_eq]; exact cx _⟩
 rintro ⟨h1,h2⟩ q hq;exact RP h1 ((UB h1 hs h2).mem_iff.2 hq)
end Go.Am
namespace Go.Am
open Go
section
variable {α β ρ:Type} {Q:α→Prop}
theorem re {m:Option (Sum α β)} {f:β→Option α} (y:β) (h:m=some (.inr y)) (h':W (f y) Q):W (cut m f) Q:=by subst h; exact h'
theorem UD {m:Option (Sum α β)} {f:β→Option α} (r:α) (h:m=some (.inl r)) (h':Q r):W (cut m f) Q:=by subst h; exact ⟨r,rfl,h'⟩
theorem au {p:Prop} [Decidable p] (h:¬ p) {x y:Option α} : br (decide p) x y=y:=by simp [h,br]
theorem aM {p:Prop} [Decidable p] (h:p) {x y:Option α} : br (decide p) x y=x:=by simp [h,br]
theorem zq {b:Bool} {x y:Option α} : br (!b) x y=if b=true then y else x:=by cases b<;>rfl
theorem o5 {F:(Int×Unit→Option α)→Int×Unit→Option α} (len:Nat) (ok:Nat→Bool) {bad j6:Option α}
  (hF:∀ ih (i:Nat) (hi:i<len),F ih ((i:Int),())=if ok i=true then ih (((i+1:Nat):Int),()) else bad) (hE:∀ ih,F ih ((len:Int),())=j6) {n:Nat} (hn:len<n)
  (hg:(∀ i,i<len→ok i=true)→W j6 Q) (hb:∀ i,i<len→ok i=false→W bad Q):W (iter n F (0,())) Q:=by
 obtain ⟨h1,h2⟩:=UA len ok bad j6 hF hE hn;by_cases h:∀ i,i<len→ok i=true
 ·grind
 grind
def nU (f:β→Bool) (ls:List β):Int:=if ls.countP f=0 then -1 else if ls.countP f=1 then (ls.findIdx f:Int) else -2
theorem acS {f:β→Bool} {ls:List β} {i:Nat} (hi:i<ls.length):(ls.take (i+1)).countP f=(ls.take i).countP f+(if f ls[i]=true then 1 else 0):=by rw [List.take_succ_eq_append_getElem hi,List.countP_append,List.countP_singleton]
theorem acT {f:β→Bool} {ls:List β} {i:Nat} (hi:i<ls.length) (h0:(ls.take i).countP f=0) (hf:f ls[i]=true):ls.findIdx f=i:=by
 refine (List.findIdx_eq hi).2 ⟨hf,fun j hj=>?_⟩;rw [List.countP_eq_zero] at h0;have:=h0 (ls[j]'(by omega)) (by
  rw [List.mem_take_iff_getElem]
  grind)
 grind
theorem UE (ls:List β) (f:β→Bool) {F:(Int×(Int×Unit)→Option (Int×Unit))→Int×(Int×Unit)→Option (Int×Unit)}
  (hF:∀ ih (i:Nat) (hi:i<ls.length) (at':Int),F ih (at',(i:Int),())=if f ls[i]=true then (if 0≤at' then some (-2,()) else ih ((i:Int),((i+1:Nat):Int),())) else ih (at',((i+1:Nat):Int),()))
  (hE:∀ ih at',F ih (at',(ls.length:Int),())=some (at',())) {n:Nat} (hn:ls.length<n):iter n F (-1,0,())=some (nU f ls,()):=by
 refine eM.1 (gu (fun i (s:Int)=>(s,(i:Int),())) ls.length (fun i s=>((ls.take i).countP f=0∧s = -1)∨((ls.take i).countP f=1∧s=(ls.findIdx f:Int))) rfl (.inl ⟨by simp,rfl⟩) hn
  (fun ih s hI=>?_) (fun ih i s hi hI hS=>?_))
 ·simp only [List.take_length] at hI;rw [hE,ao];unfold nU
  grind
 rw [hF ih i hi s];have hc:=acS (f:=f) hi;by_cases hf:f ls[i]=true
 ·rw [if_pos hf] at hc ⊢;rcases hI with ⟨h1,h2⟩ | ⟨h1,h2⟩
  ·rw [if_neg (by omega)];exact hS _ (.inr ⟨by omega,by rw [acT hi h1 hf]⟩)
  rw [if_pos (by omega),ao];have:(ls.take (i+1)).countP f≤ls.countP f:=List.Sublist.countP_le (List.take_sublist _ _);unfold nU
  grind
 grind
end
end Go.Am
