/- The abstract machine is right: functions, calls, regions in any order, arguments, laws; plain laws of loops. No condition. -/
import Derived.Test.YtjfaphipihgomaaGreatDoorAmC
import Derived.Orders
import Derived.ProofKit
import Derived.ChangeOld
import Derived.Below
import Derived.RowKit
import Derived.WideShapes
noncomputable section
set_option linter.unusedVariables false
set_option linter.unusedSimpArgs false
open Array renaming all_eq_true' → EY, getD_eq_getD_getElem? → lY, getElem?_append → Et, getElem?_eq_getElem → qd, getElem?_toList → qe, replicate → uj
open Bool renaming and_eq_true → aw, not_eq_true → oA, not_eq_true' → A0, or_eq_false_iff → oB, or_eq_true → pw, or_false → wj
open Go.Calls renaming mono → A1
open Go.DataW renaming TrodAll → EZ
open Go.Oper renaming upon_enter → CS, wp → CT
open Go.Region renaming binds → sN, ready → qp, wanted → nC
open List renaming all_cons → kz, all_eq_true → gp, any_eq_true → wb, append_assoc → lZ, cons_append → oe, count_eq_zero → L3, drop_eq_getElem_cons → Ss, eq_nil_of_length_eq_zero → vR, getD_eq_getElem?_getD → jN, getElem?_cons_succ → D_, getElem?_cons_zero → yn, getElem?_drop → A2, getElem?_eq_getElem → dU, getElem?_eq_some_iff → dV, length_cons → aQ, length_drop → qW, length_erase_of_mem → Su, length_reverse → Sv, map_cons → mL, mem_append → eh, mem_append_left → kO, mem_cons → fZ, mem_cons_of_mem → jO, mem_erase_of_ne → Sw, mem_map → kb, nodup_append → L4, nodup_cons → pj
open List.cons renaming injEq → Is
open Nat renaming add_assoc → bL, add_zero → dW, beq → aM, beq_eq → rj, ble → fJ, blt → cL, blt_eq → dJ, eq_of_beq_eq_true → bm, le_of_ble_eq_true → gh, le_refl → cj, lt_of_lt_of_le → nk, lt_or_ge → jP, mul_le_mul_right → fa, pred_succ → L5, sub_zero → It, testBit → dY, zero_le → uk
open Option renaming bind_eq_some_iff → Iu, bind_some → aC
open Option.some renaming inj → aW, injEq → aF
open Prod renaming fst → rk, snd → qt
open Prod.mk renaming injEq → bE
namespace Go.Am
open Go
section
variable {P:Program} {c:ba} {g g':Gh} {L:bW} {w:World} {U U':Nat→Prop} {st:St} {a:Act}
theorem Iv {base site:Nat} : ∀ (t:Ty) (x:t.T) (j:Nat) (id:Nat) (oo:Option dD),look (fL base site t x j) id=some oo→
  ∃ u xs k,oo=some (.row true u site xs)∧(t.jE=true→u.jE=true)∧j≤k∧k<j+t.size∧id=base+k
 | .int _,_,_,_,_,h=>by simp [fL,look] at h
 | .bool,_,_,_,_,h=>by simp [fL,look] at h
 | .str,_,_,_,_,h=>by simp [fL,look] at h
 | .err,_,_,_,_,h=>by simp [fL,look] at h
 | .bQ _,_,_,_,_,h=>by simp [fL,look] at h
 | .sl u,xs,j,id,oo,h=>by
  replace h:look [(base+j,some (dD.row true u site xs))] id=some oo:=h;rw [dM] at h;split at h
  ·rename_i he;simp only [aF] at h;exact ⟨u,xs,j,h.symm,fun h=>h,cj _,by simp [Ty.size],he.symm⟩
  simp [look] at h
 | .pair s t,x,j,id,oo,h=>by
  replace h:look (fL base site s x.1 j++fL base site t x.2 (j+s.size)) id=some oo:=h;rw [iK] at h;cases hq:look (fL base site s x.1 j) id with
  | some y=>
   rw [hq] at h;simp only [aF] at h;subst h;obtain ⟨u,xs,k,h1,h2,h3,h4,h5⟩:=Iv s x.1 j id _ hq;exact ⟨u,xs,k,h1,fun hn=>h2 (by simp only [Ty.jE,aw] at hn; exact hn.1),h3,by simp only [Ty.size]; omega,h5⟩
  | none=>
   rw [hq] at h;obtain ⟨u,xs,k,h1,h2,h3,h4,h5⟩:=Iv t x.2 _ id _ h;exact ⟨u,xs,k,h1,fun hn=>h2 (by simp only [Ty.jE,aw] at hn; exact hn.2),by omega,by simp only [Ty.size]; omega,h5⟩
def oC (st:St) (uo:List Nat) (base:Nat):(t:Ty)→Nat→{os:List Ty}→bZ (t.gP os)→(bZ os→Prop)→Prop
 | .pair a b,j,os,y,K=>oC st uo base a j (os:=b.gP os) y (fun y=>oC st uo base b (j+a.size) (os:=os) y K)
 | .sl u,j,_,y,K=>(∃ vr,st.obj (base+j)=some (.row true u vr y.1))∧base+j∈uo∧K y.2
 | .int _,_,_,y,K=>K y
 | .bool,_,_,y,K=>K y
 | .str,_,_,y,K=>K y
 | .err,_,_,y,K=>K y
 | .bQ _,_,_,y,K=>K y
theorem oC.mono {uo E_:List Nat} (h:∀ i∈uo,i∈E_) {base:Nat} : ∀ (t:Ty) (j:Nat) {os:List Ty} (y:bZ (t.gP os)) {K K':bZ os→Prop},(∀ y,K y→K' y)→oC st uo base t j y K→oC st E_ base t j y K'
 | .pair a b,j,os,y,K,K',hK,h'=>oC.mono h a j (os:=b.gP os) y (fun y hy=>oC.mono h b (j+a.size) (os:=os) y hK hy) h'
 | .sl u,j,_,y,K,K',hK,⟨h1,h2,h3⟩=>⟨h1,h _ h2,hK _ h3⟩
 | .int _,_,_,y,K,K',hK,h'=>hK y h'
 | .bool,_,_,y,K,K',hK,h'=>hK y h'
 | .str,_,_,y,K,K',hK,h'=>hK y h'
 | .err,_,_,y,K,K',hK,h'=>hK y h'
 | .bQ _,_,_,y,K,K',hK,h'=>hK y h'
theorem L6 {base:Nat} : ∀ (t:Ty) (j:Nat) {os:List Ty} (z:bZ os) (w:List Nat) (y:bZ (t.gP os)) (u:List Nat) (K:bZ os→Prop),Az st base t j z w=some (y,u)→K z→
  oC st u base t j y K∧(∀ i∈w,i∈u)∧∀ i∈u,i∈w∨st.obj i≠none
 | .pair a b,j,os,z,w,y,u,K,e,hK=>by
  replace e:(match Az st base b (j+a.size) (os:=os) z w with
   | some (z,w)=>Az st base a j (os:=b.gP os) z w
   | none=>none)=some (y,u):=e
  split at e
  ·rename_i z1 w1 e1;obtain ⟨h1,h2,h3⟩:=L6 b (j+a.size) z w z1 w1 K e1 hK;obtain ⟨k1,k2,k3⟩:=L6 a j z1 w1 y u (fun y=>oC st w1 base b (j+a.size) (os:=os) y K) e h1;refine ⟨oC.mono (fun _ h=>h) a j (os:=b.gP os) y (fun y hy=>oC.mono k2 b (j+a.size) (os:=os) y (fun _ h=>h) hy) k1,fun i hi=>k2 i (h2 i hi),fun i hi=>?_⟩;rcases k3 i hi with h | h
   ·exact h3 i h
   exact .inr h
  simp at e
 | .sl t,j,os,z,w,y,u,K,e,hK=>by
  replace e:(match st.obj (base+j) with
   | some (.row true u _ xs)=>(match Ty.cast (.sl u) (.sl t) xs with | some ys=>some ((ys,z),(base+j)::w) | none=>none)
   | _=>none)=some (y,u):=e
  cases bD:st.obj (base+j) with
  | none=>rw [bD] at e; exact absurd e (by simp)
  | some ob=>
   rw [bD] at e;cases ob with
   | row own u' vr xs=>
    cases own with
    | false=>exact absurd e (by simp)
    | true=>
     replace e:(match Ty.cast (.sl u') (.sl t) xs with | some ys=>some ((ys,z),(base+j)::w) | none=>none)=some (y,u):=e;split at e
     ·rename_i ys hc;have e1:(ys,z)=y:=congrArg rk (aW e);have e2:(base+j)::w=u:=congrArg qt (aW e);subst e1;subst e2;obtain ⟨rfl,hh⟩:=nz hc;obtain rfl:=eq_of_heq hh;refine ⟨⟨⟨vr,bD⟩,by simp,hK⟩,fun i hi=>by simp [hi],fun i hi=>?_⟩;rcases fZ.1 hi with rfl | hi
      ·exact .inr (by rw [bD]; simp)
      exact .inl hi
     simp at e
   | _=>exact absurd e (by simp)
 | .int _,j,os,z,w,y,u,K,e,hK=>by have e:some (z,w)=some (y,u):=e;have e1:z=y:=congrArg rk (aW e);have e2:w=u:=congrArg qt (aW e);subst e1; subst e2;exact ⟨hK,fun i h=>h,fun i h=>.inl h⟩
 | .bool,j,os,z,w,y,u,K,e,hK=>by have e:some (z,w)=some (y,u):=e;have e1:z=y:=congrArg rk (aW e);have e2:w=u:=congrArg qt (aW e);subst e1; subst e2;exact ⟨hK,fun i h=>h,fun i h=>.inl h⟩
 | .str,j,os,z,w,y,u,K,e,hK=>by have e:some (z,w)=some (y,u):=e;have e1:z=y:=congrArg rk (aW e);have e2:w=u:=congrArg qt (aW e);subst e1; subst e2;exact ⟨hK,fun i h=>h,fun i h=>.inl h⟩
 | .err,j,os,z,w,y,u,K,e,hK=>by have e:some (z,w)=some (y,u):=e;have e1:z=y:=congrArg rk (aW e);have e2:w=u:=congrArg qt (aW e);subst e1; subst e2;exact ⟨hK,fun i h=>h,fun i h=>.inl h⟩
 | .bQ _,j,os,z,w,y,u,K,e,hK=>by have e:some (z,w)=some (y,u):=e;have e1:z=y:=congrArg rk (aW e);have e2:w=u:=congrArg qt (aW e);subst e1; subst e2;exact ⟨hK,fun i h=>h,fun i h=>.inl h⟩
def pz (st:St) (uo:List Nat):Nat→(ps:List PK)→bZ (PK.outs ps)→Prop
 | _,[],_=>True
 | i,.io t::ps,y=>oC st uo (i*1024) t 0 y (fun y=>pz st uo (i+1) ps y)
 | _,.jC _ _::_,_=>False
 | i,.val _::ps,y=>pz st uo (i+1) ps y
 | i,.fQ _::ps,y=>pz st uo (i+1) ps y
 | i,.jD _ _::ps,y=>pz st uo (i+1) ps y
theorem pz.mono {uo E_:List Nat} (h:∀ i∈uo,i∈E_):∀ (ps:List PK) (i:Nat) (y:bZ (PK.outs ps)),pz st uo i ps y→pz st E_ i ps y
 | [],_,_,_=>trivial
 | .io t::ps,i,y,h'=>oC.mono h t 0 (os:=PK.outs ps) y (fun y hy=>pz.mono (ps:=ps) h (i+1) y hy) h'
 | .jC _ _::_,_,_,h=>h
 | .val _::ps,i,y,h'=>pz.mono (ps:=ps) h (i+1) y h'
 | .fQ _::ps,i,y,h'=>pz.mono (ps:=ps) h (i+1) y h'
 | .jD _ _::ps,i,y,h'=>pz.mono (ps:=ps) h (i+1) y h'
theorem E0:∀ (ps:List PK) (i:Nat) (zo:bZ (PK.outs ps)) (uo:List Nat),ps.all PK.jF=true→xN st i ps=some (zo,uo)→pz st uo i ps zo∧∀ id∈uo,st.obj id≠none
 | [],i,zo,uo,he,e=>by replace e:some ((),[])=some (zo,uo):=e;have e2:([]:List Nat)=uo:=congrArg qt (aW e);subst e2;exact ⟨trivial,by simp⟩
 | .io t::ps,i,zo,uo,he,e=>by
  simp only [kz,aw] at he;replace e:(match xN st (i+1) ps with
   | some (z,w)=>Az st (i*1024) t 0 z w
   | none=>none)=some (zo,uo):=e
  split at e
  ·rename_i z w hf;obtain ⟨h1,h2⟩:=E0 ps (i+1) z w he.2 hf;obtain ⟨k1,k2,k3⟩:=L6 t 0 z w zo uo (fun y=>pz st w (i+1) ps y) e h1;refine ⟨oC.mono (fun _ h=>h) t 0 (os:=PK.outs ps) zo (fun y hy=>hy.mono k2) k1,fun id hid=>?_⟩;rcases k3 id hid with h | h
   ·exact h2 id h
   exact h
  simp at e
 | .jC _ _::_,i,zo,uo,he,e=>by simp [PK.jF] at he
 | .val _::ps,i,zo,uo,he,e=>E0 ps (i+1) zo uo (by simp only [kz,aw] at he; exact he.2) e
 | .fQ _::ps,i,zo,uo,he,e=>E0 ps (i+1) zo uo (by simp only [kz,aw] at he; exact he.2) e
 | .jD _ _::ps,i,zo,uo,he,e=>E0 ps (i+1) zo uo (by simp only [kz,aw] at he; exact he.2) e
open Classical in
noncomputable def jV (g:Gh) (site:Nat) (S:List Nat) (σs:Nat→Src):Gh where
 hd n ver s:=if n / 1024=site then (match σs ((n % 1024) / 32) ((0,n % 32)::s) with | some (_,_,h)=>h | none=>dX) else g.hd n ver s
 lab b o:=match g.lab b o with
  | none=>none
  | some (id,p)=>if id∈S then none else
   if h:∃ q:Nat×Nat×Path,∃ hd,σs q.1 ((0,q.2.1)::q.2.2)=some (id,p,hd) then some (site*1024+32*h.choose.1+h.choose.2.1,h.choose.2.2) else some (id,p)
section
variable {site:Nat} {S:List Nat} {σs:Nat→Src}
theorem aaR {k j ver:Nat} {s:Path} (hk:k<16) (hj:j<32):(jV g site S σs).hd (site*1024+32*k+j) ver s=match σs k ((0,j)::s) with | some (_,_,h)=>h | none=>dX:=by
 have h1:(site*1024+32*k+j) / 1024=site:=by omega
 have h2:(site*1024+32*k+j) % 1024 / 32=k:=by omega
 have h3:(site*1024+32*k+j) % 32=j:=by omega
 simp only [jV,h1,h2,h3,if_true]
theorem L7 {n ver:Nat} {s:Path} (h:n / 1024≠site):(jV g site S σs).hd n ver s=g.hd n ver s:=by simp [jV,h]
theorem Iw {b o:Nat} (h:g.lab b o=none):(jV g site S σs).lab b o=none:=by simp [jV,h]
theorem aaS {b o id:Nat} {p:Path} (h:g.lab b o=some (id,p)) (hS:id∈S):(jV g site S σs).lab b o=none:=by simp [jV,h,hS]
theorem Sx {b o id:Nat} {p:Path} (h:g.lab b o=some (id,p)) (hS:id∉S) (fv:∀ m s p hd,σs m s≠some (id,p,hd)):(jV g site S σs).lab b o=some (id,p):=by simp only [jV,h,hS,if_false];rw [dif_neg];rintro ⟨q,hd,e⟩;exact fv _ _ _ _ e
theorem aaT {b o id k j:Nat} {p s:Path} {hh:Hd} (h:g.lab b o=some (id,p)) (hS:id∉S) (e:σs k ((0,j)::s)=some (id,p,hh))
  (inj:∀ m s m' s' id p h h',σs m s=some (id,p,h)→σs m' s'=some (id,p,h')→m=m'∧s=s'):(jV g site S σs).lab b o=some (site*1024+32*k+j,s):=by
 have hex:∃ q:Nat×Nat×Path,∃ hd,σs q.1 ((0,q.2.1)::q.2.2)=some (id,p,hd):=⟨(k,j,s),hh,e⟩
 simp only [jV,h,hS,if_false,dif_pos hex];have hc:hex.choose=(k,j,s):=by obtain ⟨hd,hs⟩:=hex.choose_spec;generalize hex.choose=q at hs;obtain ⟨k',j',s'⟩:=q;obtain ⟨h1,h2⟩:=inj _ _ _ _ _ _ _ _ hs e;simp only [Is,bE] at h2;rw [show k'=k from h1,h2.1.2,h2.2]
 rw [hc]
theorem Sy {b o:Nat} {q:Nat×Path} (h:(jV g site S σs).lab b o=some q):g.lab b o≠none:=by intro hn;rw [Iw hn] at h;simp at h
theorem Sz {U':Nat→Prop} (h0:U' 0) (hs:U' site) (hL:∀ b o,L b o=none→(jV g site S σs).lab b o=none)
  (hS:∀ m s id p h,σs m s=some (id,p,h)→id∉S) (inj:∀ m s m' s' id p h h',σs m s=some (id,p,h)→σs m' s'=some (id,p,h')→m=m'∧s=s') :
  ∀ (rs:List RK) (k:Nat) (bI:List Value) (os:List Ty) (z:bZ (RK.bw rs++os)) (zo:bZ os),rs.all RK.jF=true→rs.all (fun r=>fJ r.ty.size 30)=true→k+rs.length≤15→
   EV g L w σs k rs bI os z zo→
   cu (jV g site S σs) w U' (gi site (32*k) rs os z).1 bI∧
   (∀ id o,look (gi site (32*k) rs os z).2.1 id=some (some o)→id / 1024=site∧fo (jV g site S σs) w U' id o)∧(gi site (32*k) rs os z).2.2=zo
 | [],k,bI,os,z,zo,he,hz,hk,h=>by obtain ⟨rfl,rfl⟩:=h;exact ⟨rfl,fun id o h=>by simp [gi,look] at h,rfl⟩
 | r::rs,k,bI,os,z,zo,he,hz,hk,h=>by
  simp only [kz,aw] at he hz;simp only [aQ] at hk;obtain ⟨v,sM,rfl,⟨f,hf,hw⟩,hr⟩:=h;obtain ⟨i1,i2,i3⟩:=Sz h0 hs hL hS inj rs (k+1) sM os z.2 zo he.2 hz.2 (by omega) hr;rw [show 32*(k+1)=32*k+32 by omega] at i1 i2 i3;have bB:=gh hz.1;have one:aV (jV g site S σs) w U' (qY site (32*k) r z.1).1 v∧∀ id o,look (qY site (32*k) r z.1).2 id=some (some o)→id / 1024=site∧fo (jV g site S σs) w U' id o:=by
   cases r with
   | val t=>
    obtain ⟨a1,a2⟩:=L2 (g:=g) (g':=jV g site S σs) (L:=L) (w:=w) (U':=U') (base:=site*1024+32*k) (site:=site) (σ:=σs k) hL h0 hs
     (fun j ver s hj=>aaR (by omega) hj) (fun j hj=>by rw [show (site*1024+32*k+j) / 1024=site by omega]; exact hs)
     (fun j s id p h b o hj e hl=>aaT hl (hS _ _ _ _ _ e) e inj) t 0 z.1 f (by have:t.size≤30:=bB; omega) hw
    refine ⟨EU hf (j8 _ _ _ _) a1,fun id o hl=>?_⟩;obtain ⟨⟨j,j1,j2,rfl⟩,h2⟩:=a2 id o hl;have:t.size≤30:=bB;exact ⟨by omega,h2⟩
   | sh t=>exact ⟨EU hf (j8 _ _ _ _) (EW hL t _ _ _ _ _ _ hw),fun id o h=>by simp [qY,look] at h⟩
   | ptr t ms=>simp [RK.jF] at he
  refine ⟨⟨v,sM,rfl,one.1,i1⟩,fun id o hl=>?_,i3⟩;replace hl:look ((qY site (32*k) r z.1).2++(gi site (32*k+32) rs os z.2).2.1) id=some (some o):=hl;rw [iK] at hl;cases hq:look (qY site (32*k) r z.1).2 id with
  | some y=>
   rw [hq] at hl;simp only [aF] at hl;subst hl;exact one.2 id o hq
  | none=>
   rw [hq] at hl;exact i2 id o hl
theorem L8 (hO:fq g w U st) {uo:List Nat} {base i:Nat} (L9:base=i*1024) (hi:i<15) (mO:site≥20) (hS:∀ id∈uo,id∉S) (fv:∀ id∈uo,∀ m s p hd,σs m s≠some (id,p,hd)) :
  ∀ (t:Ty) (j:Nat) {os:List Ty} (y:bZ (t.gP os)) {K K':bZ os→Prop},j+t.size≤32→(∀ y,K y→K' y)→oC st uo base t j y K→EX (jV g site S σs) w base t j y K'
 | .pair a b,j,os,y,K,K',hj,hK,h=>by simp only [Ty.size] at hj;exact L8 hO L9 hi mO hS fv a j (os:=b.gP os) y (by omega) (fun y hy=>L8 hO L9 hi mO hS fv b (j+a.size) (os:=os) y (by omega) hK hy) h
 | .sl u,j,os,y,K,K',hj,hK,⟨⟨vr,h1⟩,h2,h3⟩=>by
  simp only [Ty.size] at hj;refine ⟨⟨vr,?_⟩,hK _ h3⟩;obtain ⟨-,-,-,hR⟩:=hO _ _ h1;have aA:(base+j) / 1024≠site:=by subst L9; omega
  exact Ic (L7 aA) (fun q _=>L7 aA) (fun b o p hl=>Sx hl (hS _ h2) (fv _ h2)) (fun b o hl=>Iw hl) hR
 | .int _,_,_,y,K,K',hj,hK,h=>hK y h
 | .bool,_,_,y,K,K',hj,hK,h=>hK y h
 | .str,_,_,y,K,K',hj,hK,h=>hK y h
 | .err,_,_,y,K,K',hj,hK,h=>hK y h
 | .bQ _,_,_,y,K,K',hj,hK,h=>hK y h
theorem E3 (hO:fq g w U st) {uo:List Nat} (mO:site≥20) (hS:∀ id∈uo,id∉S) (fv:∀ id∈uo,∀ m s p hd,σs m s≠some (id,p,hd)):∀ (ps:List PK) (i:Nat) (y:bZ (PK.outs ps)),i+ps.length≤15→
  ps.all (fun p=>match p with | .io t=>fJ t.size 30 | _=>true)=true→pz st uo i ps y→yl (jV g site S σs) w i ps y
 | [],_,_,_,_,_=>trivial
 | .io t::ps,i,y,hi,hz,h=>by simp only [aQ] at hi;simp only [kz,aw] at hz;have bB:=gh hz.1;exact L8 hO rfl (by omega) mO hS fv t 0 (os:=PK.outs ps) y (by omega) (fun y hy=>E3 (ps:=ps) hO mO hS fv (i+1) y (by omega) hz.2 hy) h
 | .jC _ _::_,_,_,_,_,h=>h
 | .val _::ps,i,y,hi,hz,h'=>E3 (ps:=ps) hO mO hS fv (i+1) y (by simp only [aQ] at hi; omega) (by simp only [kz,aw] at hz; exact hz.2) h'
 | .fQ _::ps,i,y,hi,hz,h'=>E3 (ps:=ps) hO mO hS fv (i+1) y (by simp only [aQ] at hi; omega) (by simp only [kz,aw] at hz; exact hz.2) h'
 | .jD _ _::ps,i,y,hi,hz,h'=>E3 (ps:=ps) hO mO hS fv (i+1) y (by simp only [aQ] at hi; omega) (by simp only [kz,aw] at hz; exact hz.2) h'
theorem Ma:∀ (ps:List PK) (i:Nat) (x:iH ps) (t:Nat) (v:ag),look (entry i ps x).1 t=some v→∃ j,t=i+j∧((entry i ps x).1.map (·.2))[j]? = some v
 | [],i,x,t,v,h=>by simp [entry,look] at h
 | p::ps,i,x,t,v,h=>by
  replace h:look ((i,(tU i p x.1).1)::(entry (i+1) ps x.2).1) t=some v:=h;rw [dM] at h;split at h
  ·rename_i he;exact ⟨0,by omega,by simpa [entry] using h⟩
  obtain ⟨j,h1,h2⟩:=Ma ps (i+1) x.2 t v h;exact ⟨j+1,by omega,by simpa [entry] using h2⟩
theorem Mb:∀ (ps:List PK) (i:Nat) (x:iH ps) (id:Nat) (o:Option dD),ps.all PK.jF=true→ps.all (fun p=>match p with | .io t=>fJ t.size 30 | _=>true)=true→
  look (entry i ps x).2 id=some o→i≤id / 1024∧id / 1024<i+ps.length∧o.isSome=true
 | [],i,x,id,o,he,hz,h=>by simp [entry,look] at h
 | p::ps,i,x,id,o,he,hz,h=>by
  simp only [kz,aw] at he hz;have rest:look (entry (i+1) ps x.2).2 id=some o→i≤id / 1024∧id / 1024<i+(p::ps).length∧o.isSome=true:=by intro h;obtain ⟨h1,h2,h3⟩:=Mb ps (i+1) x.2 id o he.2 hz.2 h;exact ⟨by omega,by simp only [aQ]; omega,h3⟩
  cases p with
  | val t=>exact rest h
  | fQ t=>exact rest h
  | jD f caps=>exact rest h
  | jC t ms=>simp [PK.jF] at he
  | io t=>
   have bB:=gh hz.1;replace h:look (fL (i*1024) 0 t x.1 0++(entry (i+1) ps x.2).2) id=some o:=h;rw [iK] at h;cases hq:look (fL (i*1024) 0 t x.1 0) id with
   | some y=>
    rw [hq] at h;simp only [aF] at h;subst h;obtain ⟨u,xs,k,rfl,-,h3,h4,rfl⟩:=Iv t x.1 0 id _ hq;exact ⟨by omega,by simp only [aQ]; omega,rfl⟩
   | none=>
    rw [hq] at h;exact rest h
end
end
def sO:List Value→Value
 | [v]=>v
 | vs=>.tuple vs.toArray
theorem SA {P:Program} {fn:Func} {tmps:Array Value} {w:World} {bI:List Value} (h:(fn.results.toList.mapM (CQ tmps)).run P w = .ok bI w) :
  (results fn tmps).run P w = .ok (sO bI) w:=by
 have e:results fn tmps=(do let vs ← fn.results.mapM (CQ tmps); pure (if h:vs.size=1 then vs[0] else .tuple vs)):=by unfold results;congr 1
 rw [e];clear e;revert h;generalize fn.results=rs;obtain ⟨l⟩:=rs;intro h;rw [List.mapM_toArray];simp only [Sem.run_bind,Sem.run_map];rw [show (List.mapM (CQ tmps) l).run P w=_ from h]
 match bI with
 | []=>simp [sO]
 | [v]=>simp [sO]
 | v::v'::vs=>simp [sO]
theorem wk {N N':Nat} (h:N≤N'):∀ (code:Code),gS N code=true→gS N' code=true
 | .region _ ops _,hd=>by
  refine gp.2 (fun o ho=>?_);have:=gp.1 hd o ho;cases e:o.dst with
  | none=>rfl
  | some d=>
   rw [e] at this;simp only [dJ] at this ⊢;omega
 | .seq a b,hd=>by replace hd:(gS N a&&gS N b)=true:=hd;show (gS N' a&&gS N' b)=true;rw [aw] at hd ⊢;exact ⟨wk h a hd.1,wk h b hd.2⟩
 | .cond _ a b,hd=>by replace hd:(gS N a&&gS N b)=true:=hd;show (gS N' a&&gS N' b)=true;rw [aw] at hd ⊢;exact ⟨wk h a hd.1,wk h b hd.2⟩
 | .block _ b,hd=>wk h b hd
 | .loop b,hd=>wk h b hd
 | .scope b,hd=>wk h b hd
 | .skip,_=>rfl
 | .exit _,_=>rfl
 | .ret,_=>rfl
 | .label _,_=>rfl
 | .goto _,_=>rfl
 | .rangeFunc _ _ _ _,_=>rfl
 | .refuse _,_=>rfl
theorem Fr.cell {F:Nat→Nat→Prop} {w w':World} (h:Fr F w w') {b o:Nat} (hb:b<w.heap.size) (hn:¬ F b o):w'.cell? (ad b o)=w.cell? (ad b o)∧w'.frozen? (ad b o)=w.frozen? (ad b o):=by
 obtain ⟨x,hx⟩:∃ x,w.heap[b]? = some x:=⟨_,qd hb⟩
 by_cases hc:∃ c e f,x = .cells c e f
 ·obtain ⟨c,e,f,rfl⟩:=hc;obtain ⟨c',h1,h2,h3⟩:=h.cells b c e f hx;have:=h3 o hn;simp only [World.cell?,World.frozen?,h1,hx];refine ⟨this,?_⟩
  first | rfl | trivial | simp [h2]
 have:=h.kind b x hx (fun c e f he=>hc ⟨c,e,f,he⟩);simp only [World.cell?,World.frozen?,this,hx]
 first | exact ⟨rfl,rfl⟩ | trivial | simp
theorem SB {P:Program} {c:ba} {n:Nat} {f:FuncId} {fn:Func} {an:iw} {m:au} (HR:A_ P c) (hc:fY P c) (hf:P.funcs[f]? = some fn) {code:Code} (hb:fn.body=some code)
  (hd:gS fn.ntmps code=true) {x:iH m.ps} {st0:St} (hn:st0.nxt=20) (aaU:st0.heap=(entry 0 m.ps x).2) {y:bZ (RK.bw m.rs++PK.outs m.ps)}
  (hy:gR c n code an _ st0 (fun e st=>match e with | .exit _=>none | _=>finish c fn m.ps m.rs st)=some y) (bF:xM m.ps m.rs=true) {site:Nat} (E4:20≤site)
  {g:Gh} {w:World} {args:List Value} (rm:∀ t v,look st0.env t=some v→∃ x,args[t]? = some x∧aV g w gE v x)
  (CU:∀ id o,look (entry 0 m.ps x).2 id=some (some o)→fo g w gE id o) (Mc:∀ b o q,g.lab b o=some q→b<w.heap.size) (hG:Gl P g.lab w) :
  Calls P f args.toArray w fun e w'=>∃ v g',e = .returned v∧ym g w site m y v g' w':=by
 unfold xM at bF;simp only [aw] at bF;obtain ⟨⟨⟨⟨⟨⟨⟨⟨pA,E5⟩,yp⟩,wm⟩,wo⟩,SC⟩,-⟩,-⟩,um⟩:=bF;have yp:=gh yp;have wm:=gh wm;refine calls_of_wp hf hb ?_
 let a0:Act:={ tmps:=args.toArray++uj (fn.ntmps-args.toArray.size) undef,defers:=[] }
 have rn:∀ id o,st0.obj id=some o→look (entry 0 m.ps x).2 id=some (some o):=by
  intro id o h;unfold St.obj at h;rw [aaU] at h;split at h
  ·rename_i h';simp only [aF] at h;rw [← h]; exact h'
  simp at h
 have hN:fn.ntmps≤a0.tmps.size:=by simp [a0]; omega
 have R0:Rel w g.lab a0.tmps.size g gE st0 a0 w:=by
  refine ⟨fun t v h=>?_,fun id o h=>?_,fun s h=>by rw [hn]; exact h,Mc,fun b o id p hb hl=>?_,fun b o id p hf jJ=>hf,.refl _ _,rfl,rfl,by show (0:Nat)<20; omega,fun s hs=>hs,fun id h=>?_⟩
  ·obtain ⟨v',h5,h6⟩:=rm t v h;have:a0.eval (.tmp t)=v':=by have ax:t<args.length:=(dV.1 h5).1;have h7:args[t]=v':=(dV.1 h5).2;simp only [Act.eval,a0];simp [lY,Et,ax,h7]
   rw [this]; exact h6
  ·obtain ⟨h1,h2,-⟩:=Mb m.ps 0 x id _ pA um (rn id o h);exact ⟨by show id / 1024<20; omega,CU _ o (rn _ o h)⟩
  ·by_cases jJ:id / 1024=19
   ·exact .inl ⟨jJ,hl⟩
   exact .inr ⟨id,p,hl,jJ⟩
  cases ho:st0.obj id with
  | none=>exact absurd ho h
  | some o=>
   obtain ⟨h1,h2,-⟩:=Mb m.ps 0 x id _ pA um (rn id o ho);omega
 have ES:gS a0.tmps.size code=true:=wk hN code hd;refine oz HR hG code an _ y st0 _ (bodyPost P fn fun e w'=>∃ v g',e = .returned v∧ym g w site m y v g' w') a0 w g gE ES R0 hy (fun ex st' a' w' g1 U1 R1 E1 e1=>?_);have main:finish c fn m.ps m.rs st'=some y→a'.defers=[]∧∃ v,(results fn a'.tmps).run P w' = .ok v w'∧∃ v' g',Ending.returned v = .returned v'∧ym g w site m y v' g' w':=by
  intro e1;unfold finish at e1;split at e1
  ·rename_i vs eQ;split at e1
   ·rename_i z u hz;split at e1
    ·rename_i eK;obtain rfl:=aW e1;have eK:=xR.1 eK;obtain ⟨bI,mJ,yj⟩:=Iq hc R1.heap R1.env _ _ eQ;refine ⟨R1.defers,sO bI,SA mJ,sO bI,?_⟩
     let S:=ui st' m.rs vs
     let L:bW:=fun b o=>match g1.lab b o with | none=>none | some (id,p)=>if id∈S then none else some (id,p)
     obtain ⟨zo,uo,uR,σs,k1,rfl,k3,k4,k5,k6,k7,k8⟩:=Sr (L:=L) R1.heap (fun b o h=>by simp [L,h]) m.rs 0 vs bI _ _ z u E5 yj hz (fun id hid b o p hl=>by have:id∈S:=hid;simp [L,hl,this]);obtain ⟨n1,n2,n3⟩:=L4.1 eK;obtain ⟨inj,aaV⟩:=k8 n1;obtain ⟨o1,o2⟩:=E0 m.ps 0 zo uo pA k1;have agL:∀ s,(U' gE site) s→s<20∨s=site:=fun s h=>h;have hL':∀ b o,L b o=none→(jV g1 site S σs).lab b o=none:=by
      intro b o h;cases hl:g1.lab b o with
      | none=>exact Iw hl
      | some q=>
       obtain ⟨id,p⟩:=q;have:id∈S:=by
        simp only [L,hl] at h;by_cases hm:id∈S
        ·exact hm
        simp [hm] at h
       exact aaS hl this
     obtain ⟨r1,r2,r3⟩:=Sz (g:=g1) (L:=L) (w:=w') (site:=site) (S:=S) (σs:=σs) (U':=U' gE site) (.inl (by show (0:Nat)<20; omega)) (.inr rfl) hL' (fun m s id p h e=>aaV m s id p h e) inj m.rs 0 bI _ z zo E5 wo (by omega) k3;refine ⟨jV g1 site S σs,rfl,⟨?_,r2,?_,fun i hi=>?_,fun b o hl v hv=>?_,fun b o id p hl jJ=>?_,fun b o q h=>?_,fun b o q hb h=>?_,R1.fr⟩⟩
     ·revert r1;generalize (gi site (32*0) m.rs (PK.outs m.ps) z).1=l;intro r1;have hlen:=mI r1
      match l,bI,r1,hlen with
      | [],[],r1,_=>exact ⟨[],rfl,rfl⟩
      | [v],[v'],r1,_=>
       obtain ⟨a,b,e,h1,-⟩:=r1;simp only [Is] at e;rw [e.1]; exact h1
      | v::v2::l,x1::x2::xs,r1,_=>exact ⟨_,rfl,r1⟩
     ·have:=r3;rw [show (gi site 0 m.rs (PK.outs m.ps) z).2.2=zo from r3];exact E3 R1.heap E4 (fun id hid hS=>n3 id (k6 id hS) id hid rfl) (fun id hid m' s p hd hs=>n3 id (k5 _ _ _ _ _ hs) id hid rfl) m.ps 0 zo (by omega) um o1
     ·rw [L7 (by omega)];exact E1.par i hi (by show i / 1024<20; omega)
     ·have hb:=AQ hv;have hm:¬ Eg g.lab b o:=fun ⟨id,p,e,_⟩=>by rw [hl] at e; simp at e
      have hc:=Fr.cell R1.fr hb hm;refine ⟨by rw [hc.1]; exact hv,Iw ?_⟩;cases iz:g1.lab b o with
      | none=>rfl
      | some q=>
       obtain ⟨id,p⟩:=q;rcases R1.cB b o id p hb iz with h | h
       ·rw [hl] at h; simp at h
       exact absurd h hm
     ·have h1:=R1.n9 b o id p hl jJ;refine Sx h1 (fun hS=>R1.nf id (k7 id (k6 id hS)) jJ) (fun m' s p' hd hs=>R1.nf id (k7 id (k5 _ _ _ _ _ hs)) jJ)
     ·cases hl:g1.lab b o with
      | none=>exact absurd hl (Sy h)
      | some q'=>exact R1.b9 b o q' hl
     obtain ⟨⟨id,p⟩,iz⟩:∃ q,g1.lab b o=some q:=by
      cases hl:g1.lab b o with
      | none=>exact absurd hl (Sy h)
      | some q'=>exact ⟨q',rfl⟩
     intro hn;rcases R1.cB b o id p hb iz with h | ⟨i',p',h,-⟩
     ·rw [hn] at h; simp at h
     rw [hn] at h; simp at h
    simp at e1
   simp at e1
  simp at e1
 cases ex with
 | normal=>exact main e1
 | ret=>exact main e1
 | exit j=>simp at e1
theorem Ix {P:Program} {c:ba} {n:Nat} {f:FuncId} {fn:Func} {an:iw} {m:au} (HR:A_ P c) (hc:fY P c) (hf:P.funcs[f]? = some fn) (hm:∀ x,m.m x=AA c n fn an m.ps m.rs x):Sound P f m:=by
 intro x y hy bF site E4 g w args E hG;rw [hm] at hy;unfold AA at hy;split at hy
 ·rename_i hb;split at hy
  ·simp at hy
  rename_i hd;refine SB HR hc hf hb (by simpa using hd) rfl rfl hy bF E4 (fun t v h=>?_) E.aX E.b9 hG;obtain ⟨j,h1,h2⟩:=Ma m.ps 0 x t v h;have ht:t=j:=by omega
  subst ht;obtain ⟨h3,h4⟩:=dV.1 h2;obtain ⟨v',h5,h6⟩:=lU E.bI t h3;rw [h4] at h6;exact ⟨v',h5,h6⟩
 simp at hy
def yq (c:ba) (n:Nat) (fn:Func) (an:iw) (ps:List PK) (rs:List RK) (v:ag) (env:List (Nat×ag)) (heap:List (Nat×Option dD)):Option (bZ (RK.bw rs++PK.outs ps)):=
 match fn.body with
 | some code=>match gS fn.ntmps code with
  | false=>none
  | true=>gR c n code an _ { env:=(0,v)::env,heap:=heap,nxt:=20 } fun e st=>match e with
   | .exit _=>none
   | _=>finish c fn ps rs st
 | none=>none
theorem SD {P:Program} {c:ba} {n:Nat} {f:FuncId} {fn:Func} {an:iw} {t:Ty} {ps:List PK} {rs:List RK} {F:iH (.val (.sl t)::ps)→Option (bZ (RK.bw rs++PK.outs (.val (.sl t)::ps)))} (HR:A_ P c) (hc:fY P c)
  (hf:P.funcs[f]? = some fn)
  (h1:∀ x y,F x=some y→x.1=([]:List t.T)→yq c n fn an (.val (.sl t)::ps) rs .nil (entry 1 ps x.2).1 (entry 1 ps x.2).2=some y)
  (h2:∀ x y,F x=some y→yq c n fn an (.val (.sl t)::ps) rs (.cZ t (some x.1)) (entry 1 ps x.2).1 (entry 1 ps x.2).2=some y):Sound P f ⟨.val (.sl t)::ps,rs,F⟩:=by
 intro x y hy bF site E4 g w args E hG;have hy:F x=some y:=hy;obtain ⟨v0,vs,rfl,Md,eQ⟩:=E.bI;have go:∀ v:ag,aV g w gE v v0→yq c n fn an (.val (.sl t)::ps) rs v (entry 1 ps x.2).1 (entry 1 ps x.2).2=some y→
   Calls P f (v0::vs).toArray w fun e w'=>∃ v g',e = .returned v∧ym g w site ⟨.val (.sl t)::ps,rs,F⟩ y v g' w':=by
  intro v hv hr;unfold yq at hr;split at hr
  ·rename_i hb;split at hr
   ·simp at hr
   rename_i hd;refine SB (m:=⟨.val (.sl t)::ps,rs,F⟩) (x:=x) HR hc hf hb (by simpa using hd) rfl rfl hr bF E4 (fun k u h=>?_) E.aX E.b9 hG;replace h:look ((0,v)::(entry 1 ps x.2).1) k=some u:=h;rw [dM] at h;split at h
   ·rename_i hk;subst hk;simp only [aF] at h;subst h;exact ⟨v0,rfl,hv⟩
   obtain ⟨j,e1,e2⟩:=Ma ps 1 x.2 k u h;obtain ⟨e3,e4⟩:=dV.1 e2;obtain ⟨v',e5,e6⟩:=lU eQ j e3;rw [e4] at e6;refine ⟨v',?_,e6⟩;rw [e1,Nat.add_comm,D_]; exact e5
  simp at hr
 have Md:gT t.size (Sh g.lab w t) x.1 v0:=Md;obtain ⟨a,len,cap,rfl,hl,sP,hn,hx⟩:=Md;cases a with
 | none=>
  have fu:=hn rfl;have hlen:len=0:=by omega
  subst fu;subst hlen;have yf:x.1=([]:List t.T):=vR hl.symm;exact go .nil rfl (h1 x y hy yf)
 | some a=>exact go (.cZ t (some x.1)) ⟨⟨_,_,_,rfl,hl,sP,hn,hx⟩,by simp⟩ (h2 x y hy)
end Go.Am
namespace Go.Am
open Go
def uq:Nat→List ag→List (Nat×Nat)
 | _,[]=>[]
 | n,v::r=>(match v with | .own id _ _ _=>[(n,id)] | _=>[])++uq (n+1) r
def ei:Nat→List PK→List ag→List (Nat×Nat)
 | i,p::ps,v::vs=>(match p with | .io t=>uq (i*1024) (o8 t v) | _=>[])++ei (i+1) ps vs
 | _,_,_=>[]
def swp (l:List (Nat×Nat)):List (Nat×Nat):=l.map fun p=>(p.2,p.1)
theorem SE:∀ (cs:List ag) (n:Nat),(uq n cs).map (·.2)=D5 cs
 | [],n=>rfl
 | v::cs,n=>by have ih:=SE cs (n+1);cases v<;>simp [uq,D5,ih]
theorem wq:∀ (cs:List ag) (n:Nat) (m id:Nat),(m,id)∈uq n cs↔∃ k ver p u,cs[k]? = some (.own id ver p u)∧m=n+k
 | [],n,m,id=>by simp [uq]
 | v::cs,n,m,id=>by
  have ih:=wq cs (n+1) m id;simp only [uq,eh,ih];constructor
  ·rintro (h | ⟨k,ver,p,u,h1,h2⟩)
   ·cases v<;>simp at h;obtain ⟨rfl,rfl⟩:=h;exact ⟨0,_,_,_,rfl,rfl⟩
   exact ⟨k+1,ver,p,u,by simpa using h1,by omega⟩
  rintro ⟨k,ver,p,u,h1,h2⟩;cases k with
  | zero=>
   simp only [yn,aF] at h1;subst h1;exact .inl (by simp; omega)
  | succ k=>exact .inr ⟨k,ver,p,u,by simpa using h1,by omega⟩
theorem SF:∀ (cs:List ag) (n:Nat),((uq n cs).map (·.1)).Nodup
 | [],n=>by simp [uq]
 | v::cs,n=>by
  simp only [uq,List.map_append];refine L4.2 ⟨by cases v<;>simp,SF cs (n+1),?_⟩;intro a ha b hb ur;subst ur;have h1:a=n:=by cases v<;>simp at ha; exact ha
  obtain ⟨⟨m,id⟩,hp,he⟩:=kb.1 hb;obtain ⟨k,-,-,-,-,h2⟩:=(wq cs (n+1) m id).1 hp;simp only at he;omega
theorem Iy {st:St} : ∀ (ps:List PK) (vs:List ag) (i:Nat),ps.all PK.jF=true→n_ st ps vs=(ei i ps vs).map (·.2)
 | [],vs,i,he=>by cases vs<;>rfl
 | p::ps,[],i,he=>by cases p<;>rfl
 | p::ps,v::vs,i,he=>by
  simp only [kz,aw] at he;have ih:=Iy (st:=st) ps vs (i+1) he.2;cases p with
  | jC t ms=>simp [PK.jF] at he
  | io t=>cases v<;>simp [n_,ei,ih,SE]
  | _=>cases v<;>simp [n_,ei,ih]
theorem CV {st:St} : ∀ (t:Ty) (cs:List ag) (x:t.T) (r:List ag),dN st t cs=some (x,r)→t.size≤cs.length∧r=cs.drop t.size
 | .int k,cs,x,r,e=>by
  cases cs with
  | nil=>simp [dN] at e
  | cons c cs=>
   cases c<;>simp only [dN] at e<;>try (exact absurd (show none=some _ from e) (by simp))
   split at e
   ·have e2:=congrArg qt (aW e);exact ⟨by simp [Ty.size],by simpa [Ty.size] using e2.symm⟩
   simp at e
 | .bool,cs,x,r,e=>by
  cases cs with
  | nil=>simp [dN] at e
  | cons c cs=>
   cases c<;>simp only [dN] at e<;>try (exact absurd (show none=some _ from e) (by simp))
   have e2:=congrArg qt (aW e);exact ⟨by simp [Ty.size],by simpa [Ty.size] using e2.symm⟩
 | .str,cs,x,r,e=>by
  cases cs with
  | nil=>simp [dN] at e
  | cons c cs=>
   cases c<;>simp only [dN] at e<;>try (exact absurd (show none=some _ from e) (by simp))
   have e2:=congrArg qt (aW e);exact ⟨by simp [Ty.size],by simpa [Ty.size] using e2.symm⟩
 | .err,cs,x,r,e=>by
  cases cs with
  | nil=>simp [dN] at e
  | cons c cs=>
   cases c<;>simp only [dN] at e<;>try (exact absurd (show none=some _ from e) (by simp))
   have e2:=congrArg qt (aW e);exact ⟨by simp [Ty.size],by simpa [Ty.size] using e2.symm⟩
 | .bQ t,cs,x,r,e=>by simp [dN] at e
 | .pair a b,cs,x,r,e=>by
  replace e:(match dN st a cs with
   | some (x,r)=>(match dN st b r with | some (y,r)=>some ((x,y),r) | none=>none)
   | none=>none)=some (x,r):=e
  split at e
  ·rename_i y r1 e1;split at e
   ·rename_i z r2 e2;obtain ⟨h1,rfl⟩:=CV a cs y r1 e1;obtain ⟨h2,rfl⟩:=CV b _ z r2 e2;have e3:=congrArg qt (aW e);simp only at e3;subst e3;simp only [qW] at h2;exact ⟨by simp only [Ty.size]; omega,by simp [Ty.size,List.drop_drop]⟩
   simp at e
  simp at e
 | .sl t,cs,x,r,e=>by
  cases cs with
  | nil=>exact absurd (show none=some _ from e) (by simp)
  | cons c cs=>
   cases c with
   | own id ver p u=>
    cases p with
    | cons a p=>exact absurd (show none=some _ from e) (by simp)
    | nil=>
     replace e:(match st.obj id with
      | some (.row true u _ xs)=>(match Ty.cast (.sl u) (.sl t) xs with | some ys=>some (ys,cs) | none=>none)
      | _=>none)=some (x,r):=e
     cases ho:st.obj id with
     | none=>rw [ho] at e; exact absurd e (by simp)
     | some ob=>
      rw [ho] at e;cases ob with
      | row own u' vr xs=>
       cases own with
       | false=>exact absurd e (by simp)
       | true=>
        replace e:(match Ty.cast (.sl u') (.sl t) xs with | some ys=>some (ys,cs) | none=>none)=some (x,r):=e;split at e
        ·have e2:=congrArg qt (aW e);exact ⟨by simp [Ty.size],by simpa [Ty.size] using e2.symm⟩
        simp at e
      | _=>exact absurd e (by simp)
   | _=>exact absurd (show none=some _ from e) (by simp)
theorem CW {st sr:St} {t:Ty} {x:t.T} {v:ag} (e:p6 st sr (.io t) v=some x):dN st t (o8 t v)=some (x,[])∧(o8 t v).length=t.size:=by
 replace e:(match dN st t (o8 t v) with | some (x,[])=>some x | _=>none)=some x:=e;split at e
 ·rename_i x' h;obtain rfl:=aW e;obtain ⟨h1,h2⟩:=CV t _ x' [] h;refine ⟨h,?_⟩;have:=congrArg List.length h2;simp at this; omega
 simp at e
theorem Iz {st sr:St} {p:PK} {ps:List PK} {v:ag} {vs:List ag} {x:iH (p::ps)} (e:mG st sr (p::ps) (v::vs)=some x):p6 st sr p v=some x.1∧mG st sr ps vs=some x.2:=by
 replace e:(match p6 st sr p v with
  | some x=>(match mG st sr ps vs with | some r=>some (x,r) | none=>none)
  | none=>none)=some x:=e
 split at e
 ·rename_i e1;split at e
  ·rename_i e2;obtain rfl:=aW e;exact ⟨e1,e2⟩
  simp at e
 simp at e
theorem Me {st sr:St} : ∀ (ps:List PK) (x:iH ps) (vs:List ag) (i:Nat),ps.all (fun p=>match p with | .io t=>fJ t.size 30 | _=>true)=true→mG st sr ps vs=some x→
  ∀ p∈ei i ps vs,i≤p.1 / 1024∧p.1 / 1024<i+ps.length
 | [],x,vs,i,hz,hx,p,h=>by simp [ei] at h
 | q::ps,x,[],i,hz,hx,p,h=>by simp [ei] at h
 | q::ps,x,v::vs,i,hz,hx,p,h=>by
  simp only [kz,aw] at hz;obtain ⟨yf,E6⟩:=Iz hx;simp only [ei,eh] at h;rcases h with h | h
  ·cases q with
   | io t=>
    obtain ⟨m,id⟩:=p;obtain ⟨k,ver,pp,u,h1,h2⟩:=(wq _ _ _ _).1 h;have hk:=(dV.1 h1).1;have hl:=(CW yf).2;have hs:=gh hz.1;simp only [aQ];omega
   | _=>simp at h
  have:=Me ps x.2 vs (i+1) hz.2 E6 p h;simp only [aQ]; omega
theorem Mf {st sr:St} : ∀ (ps:List PK) (x:iH ps) (vs:List ag) (i:Nat),ps.all (fun p=>match p with | .io t=>fJ t.size 30 | _=>true)=true→mG st sr ps vs=some x→((ei i ps vs).map (·.1)).Nodup
 | [],x,vs,i,hz,hx=>by simp [ei]
 | q::ps,x,[],i,hz,hx=>by simp [ei]
 | q::ps,x,v::vs,i,hz,hx=>by
  have Ll:=hz;simp only [kz,aw] at hz;obtain ⟨yf,E6⟩:=Iz hx;simp only [ei,List.map_append];refine L4.2 ⟨?_,Mf ps x.2 vs (i+1) hz.2 E6,?_⟩
  ·cases q with
   | io t=>exact SF _ _
   | _=>simp
  intro a ha b hb ur;subst ur;have h1:a / 1024=i:=by
   cases q with
   | io t=>
    obtain ⟨⟨m,id⟩,hp,he⟩:=kb.1 ha;obtain ⟨k,ver,pp,u,h1,h2⟩:=(wq _ _ _ _).1 hp;have hk:=(dV.1 h1).1;have hl:=(CW yf).2;have hs:=gh hz.1;simp only at he;omega
   | _=>simp at ha
  obtain ⟨p,hp,he⟩:=kb.1 hb;have:=Me ps x.2 vs (i+1) hz.2 E6 p hp;omega
theorem E7 {α:Type} : ∀ {l:List (Nat×α)},(l.map (·.1)).Nodup→∀ {k:Nat} {v:α},(k,v)∈l→look l k=some v
 | [],_,k,v,h=>by simp at h
 | (a,b)::l,hn,k,v,h=>by
  simp only [mL,pj] at hn;rw [dM];rcases fZ.1 h with e | e
  ·simp only [bE] at e;rw [if_pos e.1.symm,e.2]
  rw [if_neg]
  ·exact E7 hn.2 e
  intro he;subst he;exact hn.1 (kb.2 ⟨_,e,rfl⟩)
def jd (st:St) (g:Gh) (SH:Bool) (l:List (Nat×Nat)):Gh where
 hd n _ s:=match look l n with | some id=>Em g id (qn st id) s | none=>dX
 lab b o:=match g.lab b o with
  | none=>none
  | some (id,p)=>match look (swp l) id with
   | some n=>some (n,p)
   | none=>match SH with | true=>some (19*1024,[]) | false=>none
section
variable {g g1 g':Gh} {w:World} {U U':Nat→Prop} {st sr:St}
theorem IA {SH:Bool} {l:List (Nat×Nat)} {b o:Nat} (h:g.lab b o=none):(jd st g SH l).lab b o=none:=by simp [jd,h]
theorem aaW {SH:Bool} {l:List (Nat×Nat)} {b o id i:Nat} {p:Path} (h:g.lab b o=some (id,p)) (hl:look (swp l) id=some i):(jd st g SH l).lab b o=some (i,p):=by simp [jd,h,hl]
theorem E8 {SH:Bool} {l:List (Nat×Nat)} {b o id:Nat} {p:Path} (h:g.lab b o=some (id,p)) (hl:look (swp l) id=none) :
  (jd st g SH l).lab b o=match SH with | true=>some (19*1024,[]) | false=>none:=by simp [jd,h,hl]
theorem Mg {SH:Bool} {l:List (Nat×Nat)} {i id ver:Nat} {s:Path} (hl:look l i=some id):(jd st g SH l).hd i ver s=Em g id (qn st id) s:=by simp [jd,hl]
theorem SG {α:Type} {cs:List α} {n:Nat} (h:([]:List α)=cs.drop n) (h':n≤cs.length):cs.length=n:=by have:=congrArg List.length h;simp at this; omega
mutual
theorem A3 (hO:fq g w U sr) (hL:∀ b o,g.lab b o=none→g1.lab b o=none) (hD:∀ id,sr.obj id≠none→∀ b o p,g.lab b o=some (id,p)→g1.lab b o=none) :
  ∀ (p:PK) (x:p.T) (v:ag) (vx:Value),p6 st sr p v=some x→aV g w U v vx→aV g1 w gE (QQ p x) vx
 | .io t,x,v,vx,e,hv=>trivial
 | .jC t ms,x,v,vx,e,hv=>trivial
 | .val t,x,v,vx,e,hv=>by
  have e:(match iX sr 50 t (o8 t v) with | some (x,[])=>some x | _=>none)=some x:=by cases t<;>exact e
  split at e
  ·rename_i x' hp;obtain rfl:=aW e;obtain ⟨f,h1,h2⟩:=L_ t hv;obtain ⟨h3,h4,h5⟩:=(So hO hL hD 50).1 t _ x' [] f [] 0 0 h1 hp;exact EU (h2 (SG h4 h3)) (j8 _ _ _ _) (EW (fun _ _ h=>h) t _ _ _ _ _ _ h5)
  simp at e
 | .fQ t,x,v,vx,e,hv=>by
  cases v with
  | ga u x0 j=>
   cases j with
   | succ j=>exact absurd (show none=some x from e) (by simp)
   | zero=>
    have e:Ty.cast u t x0=some x:=e;obtain ⟨he,hh⟩:=cast_eq e;subst he;obtain rfl:=eq_of_heq hh;obtain ⟨b,o,rfl,h⟩:=hv;exact ⟨b,o,rfl,gb (fun b o hl v hv=>⟨hv,hL b o hl⟩) u _ b o h⟩
  | bn id j=>
   have e:(match sr.obj id with
    | some (.cells _ cs)=>(match iX sr 50 t ((cs.drop j).take t.size) with | some (x,[])=>some x | _=>none)
    | _=>none)=some x:=e
   split at e
   ·rename_i cs ho;split at e
    ·rename_i x' hp;obtain rfl:=aW e;obtain ⟨b,o,dA,cW,oc⟩:=xS hO ho;obtain ⟨-,-,b',o',hb,rfl⟩:=hv;rw [dA] at hb;simp only [aF,bE] at hb;obtain ⟨rfl,rfl⟩:=hb;have hV:gk g w U ((cs.drop j).take t.size) (fun k=>w.cell? (ad b (o+j+k))):=by intro k hk;simp only [List.length_take,qW] at hk;obtain ⟨v,h1,h2⟩:=oc (j+k) (by omega);refine ⟨v,(by show w.cell? (ad b (o+j+k))=some v; rw [bL]; exact h1),?_⟩;simp only [List.getElem_take,List.getElem_drop];exact h2
     obtain ⟨h3,h4,h5⟩:=(So hO hL hD 50).1 t _ x' [] _ [] 0 0 hV hp;have hlen:=SG h4 h3;simp only [List.length_take,qW] at hlen;refine ⟨b,o+j,rfl,Cs (g:=g) (σ:=ca) t [] 0 0 _ b (o+j) (fun k hk=>?_) h5⟩;rw [bL];exact hD id (by rw [ho]; simp) _ _ _ (cW (j+k) (by omega)).1
    simp at e
   simp at e
  | fb id ver p tt i j=>
   cases p with
   | cons a p=>exact absurd (show none=some x from e) (by simp)
   | nil=>
    cases j with
    | succ j=>exact absurd (show none=some x from e) (by simp)
    | zero=>
     have e:(match sr.obj id with
      | some (.row _ u _ xs)=>(match Ty.beq tt u with | true=>Ty.cast u t (el u xs i) | false=>none)
      | _=>none)=some x:=e
     split at e
     ·rename_i u _ xs ho;split at e
      ·rename_i hb;obtain rfl:=Ty.eq_of_beq hb;obtain ⟨he,hh⟩:=cast_eq e;subst he;obtain rfl:=eq_of_heq hh;obtain ⟨-,-,-,-,qb,hi,b,o,ha,rfl⟩:=hv;obtain rfl:=qb rfl;obtain ⟨-,-,-,r1,r2,r3,r4⟩:=hO id _ ho;obtain ⟨r5,r6⟩:=r4 b o ha;have gm:i<xs.length:=by omega
       refine ⟨b,o+i*tt.size,rfl,?_⟩;rw [vM gm];refine AJ hL (hD id (by rw [ho]; simp)) tt [] i 0 _ b _ (fun d hd=>?_) (r6 i gm);have hle:(i+1)*tt.size≤(g.hd id 0 []).cap*tt.size:=fa _ (by omega);rw [Nat.add_mul] at hle;obtain ⟨a1,-,-⟩:=r5 (i*tt.size+d) (by omega);exact ⟨_,by rw [bL]; exact a1⟩
      simp at e
     simp at e
  | _=>exact absurd (show none=some x from e) (by simp)
 | .jD f caps,x,v,vx,e,hv=>by
  cases v with
  | fn f' vs=>
   replace e:(match aM f f' with | true=>mG st sr caps vs | false=>none)=some x:=e;split at e
   ·rename_i hb;obtain rfl:=bm hb;obtain ⟨l,rfl,hl⟩:=hv;exact ⟨l,rfl,SI hO hL hD caps x vs l e hl⟩
   simp at e
  | _=>exact absurd (show none=some x from e) (by simp)
theorem SI (hO:fq g w U sr) (hL:∀ b o,g.lab b o=none→g1.lab b o=none) (hD:∀ id,sr.obj id≠none→∀ b o p,g.lab b o=some (id,p)→g1.lab b o=none) :
  ∀ (ps:List PK) (x:iH ps) (vs:List ag) (l:List Value),mG st sr ps vs=some x→cu g w U vs l→cu g1 w gE (Hq ps x) l
 | [],x,vs,l,e,hv=>by
  cases vs with
  | nil=>exact hv
  | cons v vs=>exact absurd (show none=some x from e) (by simp)
 | p::ps,x,vs,l,e,hv=>by
  cases vs with
  | nil=>exact absurd (show none=some x from e) (by simp)
  | cons v vs=>
   have e:(match p6 st sr p v with
    | some x=>(match mG st sr ps vs with | some r=>some (x,r) | none=>none)
    | none=>none)=some x:=e
   split at e
   ·rename_i x1 e1;split at e
    ·rename_i r1 e2;obtain rfl:=aW e;obtain ⟨a,b,rfl,ha,hb⟩:=hv;exact ⟨a,b,rfl,A3 hO hL hD p x1 v a e1 ha,SI hO hL hD ps r1 vs b e2 hb⟩
    simp at e
   simp at e
end
theorem Mh {SH:Bool} {l:List (Nat×Nat)} {base:Nat} (hb:∀ j,j<32→gE ((base+j) / 1024)) (hO:fq g w U st) (hL:∀ b o,g.lab b o=none→(jd st g SH l).lab b o=none) :
  ∀ (t:Ty) (j:Nat) (cs:List ag) (x:t.T) (r:List ag) (f:Nat→Option Value),j+t.size≤32→dN st t cs=some (x,r)→gk g w U cs f→
   (∀ k id ver p u,k<t.size→cs[k]? = some (.own id ver p u)→look l (base+j+k)=some id∧look (swp l) id=some (base+j+k))→
   gk (jd st g SH l) w gE (flat (vD base) t x j) f∧∀ id o,look (fL base 0 t x j) id=some (some o)→fo (jd st g SH l) w gE id o
 | .int k,j,cs,x,r,f,hj,e,hv,hl=>by
  cases cs with
  | nil=>simp [dN] at e
  | cons c cs=>
   obtain ⟨v,h1,h2⟩:=hv.head;cases c<;>simp only [dN] at e<;>try (exact absurd (show none=some _ from e) (by simp))
   split at e
   ·rename_i hk;obtain rfl:=o7 hk;have e1:=congrArg rk (aW e);simp only at e1;subst e1;refine ⟨fun k hk=>?_,fun id o h=>by simp [fL,look] at h⟩;have:k=0:=by simpa [flat] using hk
    subst this;exact ⟨v,h1,h2⟩
   simp at e
 | .bool,j,cs,x,r,f,hj,e,hv,hl=>by
  cases cs with
  | nil=>simp [dN] at e
  | cons c cs=>
   obtain ⟨v,h1,h2⟩:=hv.head;cases c<;>simp only [dN] at e<;>try (exact absurd (show none=some _ from e) (by simp))
   have e1:=congrArg rk (aW e);simp only at e1;subst e1;refine ⟨fun k hk=>?_,fun id o h=>by simp [fL,look] at h⟩;have:k=0:=by simpa [flat] using hk
   subst this;exact ⟨v,h1,h2⟩
 | .str,j,cs,x,r,f,hj,e,hv,hl=>by
  cases cs with
  | nil=>simp [dN] at e
  | cons c cs=>
   obtain ⟨v,h1,h2⟩:=hv.head;cases c<;>simp only [dN] at e<;>try (exact absurd (show none=some _ from e) (by simp))
   have e1:=congrArg rk (aW e);simp only at e1;subst e1;refine ⟨fun k hk=>?_,fun id o h=>by simp [fL,look] at h⟩;have:k=0:=by simpa [flat] using hk
   subst this;exact ⟨v,h1,h2⟩
 | .err,j,cs,x,r,f,hj,e,hv,hl=>by
  cases cs with
  | nil=>simp [dN] at e
  | cons c cs=>
   obtain ⟨v,h1,h2⟩:=hv.head;cases c<;>simp only [dN] at e<;>try (exact absurd (show none=some _ from e) (by simp))
   have e1:=congrArg rk (aW e);simp only at e1;subst e1;refine ⟨fun k hk=>?_,fun id o h=>by simp [fL,look] at h⟩;have:k=0:=by simpa [flat] using hk
   subst this;exact ⟨v,h1,h2⟩
 | .bQ t,j,cs,x,r,f,hj,e,hv,hl=>by simp [dN] at e
 | .pair a b,j,cs,x,r,f,hj,e,hv,hl=>by
  simp only [Ty.size] at hj;replace e:(match dN st a cs with
   | some (x,r)=>(match dN st b r with | some (y,r)=>some ((x,y),r) | none=>none)
   | none=>none)=some (x,r):=e
  split at e
  ·rename_i y r1 e1;split at e
   ·rename_i z r2 e2;have e3:=congrArg rk (aW e);simp only at e3;subst e3;obtain ⟨d1,rfl⟩:=CV a cs y r1 e1;obtain ⟨a1,a2⟩:=Mh hb hO hL a j cs y _ f (by omega) e1 hv (fun k id ver p u hk h=>hl k id ver p u (by simp only [Ty.size]; omega) h);obtain ⟨b1,b2⟩:=Mh hb hO hL b (j+a.size) _ z r2 _ (by omega) e2 (hv.drop a.size) (fun k id ver p u hk h=>by have:=hl (a.size+k) id ver p u (by simp only [Ty.size]; omega) (by rw [A2] at h; exact h);simpa [bL] using this);refine ⟨gk.app a1 (by rw [j8]; exact b1),fun id o h=>?_⟩;replace h:look (fL base 0 a y j++fL base 0 b z (j+a.size)) id=some (some o):=h;rw [iK] at h;cases hq:look (fL base 0 a y j) id with
    | some q=>
     rw [hq] at h;simp only [aF] at h;subst h;exact a2 id o hq
    | none=>
     rw [hq] at h;exact b2 id o h
   simp at e
  simp at e
 | .sl t,j,cs,x,r,f,hj,e,hv,hl=>by
  simp only [Ty.size] at hj;cases cs with
  | nil=>exact absurd (show none=some _ from e) (by simp)
  | cons c cs=>
   obtain ⟨v,h1,h2⟩:=hv.head;cases c with
   | own id ver p u=>
    cases p with
    | cons a p=>exact absurd (show none=some _ from e) (by simp)
    | nil=>
     replace e:(match st.obj id with
      | some (.row true u _ xs)=>(match Ty.cast (.sl u) (.sl t) xs with | some ys=>some (ys,cs) | none=>none)
      | _=>none)=some (x,r):=e
     cases ho:st.obj id with
     | none=>rw [ho] at e; exact absurd e (by simp)
     | some ob=>
      rw [ho] at e;cases ob with
      | row own u' vr xs=>
       cases own with
       | false=>exact absurd e (by simp)
       | true=>
        replace e:(match Ty.cast (.sl u') (.sl t) xs with | some ys=>some (ys,cs) | none=>none)=some (x,r):=e;split at e
        ·rename_i ys hc;have e1:ys=x:=congrArg rk (aW e);subst e1;obtain ⟨rfl,hh⟩:=nz hc;obtain rfl:=eq_of_heq hh;obtain ⟨l1,l2⟩:=hl 0 id ver [] u (by simp [Ty.size]) rfl;rw [dW] at l1 l2;obtain ⟨-,-,-,-,qb,rfl⟩:=h2;obtain rfl:=qb rfl;have SJ:∀ ver,(jd st g SH l).hd (base+j) ver []=g.hd id 0 []:=fun ver=>by rw [Mg l1]; rfl
         refine ⟨fun k hk=>?_,fun az o h=>?_⟩
         ·have:k=0:=by simpa [flat] using hk
          subst this;exact ⟨_,h1,hb j (by omega),by show (0:Nat)<20; omega,by show (0:Nat)<20; omega,trivial,fun _=>rfl,by rw [SJ]⟩
         replace h:look [(base+j,some (dD.row true u' 0 xs))] az=some (some o):=h;rw [dM] at h;split at h
         ·rename_i h';subst h';simp only [aF] at h;subst h;obtain ⟨-,-,-,hR⟩:=hO id _ ho;refine ⟨by show (0:Nat)<20; omega,by show (0:Nat)<20; omega,Ic (SJ 0) (fun q hq=>?_) (fun b o p A4=>aaW A4 l2) hL hR⟩;rw [Mg l1];unfold Em qn;rw [ho];cases q with
          | nil=>exact absurd rfl hq
          | cons=>rfl
         simp [look] at h
        simp at e
      | _=>exact absurd e (by simp)
   | _=>exact absurd (show none=some _ from e) (by simp)
theorem SK {SH:Bool} {l:List (Nat×Nat)} (hO:fq g w U st) (hOr:fq g w U sr) (hL:∀ b o,g.lab b o=none→(jd st g SH l).lab b o=none)
  (hD:∀ id,sr.obj id≠none→∀ b o p,g.lab b o=some (id,p)→(jd st g SH l).lab b o=none) :
  ∀ (ps:List PK) (i:Nat) (x:iH ps) (vs:List ag) (bI:List Value),ps.all PK.jF=true→ps.all (fun p=>match p with | .io t=>fJ t.size 30 | _=>true)=true→i+ps.length≤15→mG st sr ps vs=some x→cu g w U vs bI→
   (∀ p∈ei i ps vs,look l p.1=some p.2∧look (swp l) p.2=some p.1)→
   cu (jd st g SH l) w gE ((entry i ps x).1.map (·.2)) bI∧∀ id o,look (entry i ps x).2 id=some (some o)→fo (jd st g SH l) w gE id o
 | [],i,x,vs,bI,he,hz,hi,e,hv,hl=>by
  cases vs with
  | nil=>exact ⟨hv,fun id o h=>by simp [entry,look] at h⟩
  | cons v vs=>exact absurd (show none=some x from e) (by simp)
 | p::ps,i,x,vs,bI,he,hz,hi,e,hv,hl=>by
  simp only [kz,aw] at he hz;simp only [aQ] at hi;cases vs with
  | nil=>exact absurd (show none=some x from e) (by simp)
  | cons v vs=>
   have e:(match p6 st sr p v with
    | some x=>(match mG st sr ps vs with | some r=>some (x,r) | none=>none)
    | none=>none)=some x:=e
   split at e
   ·rename_i x1 e1;split at e
    ·rename_i r1 e2;obtain rfl:=aW e;obtain ⟨a,b,rfl,ha,hb⟩:=hv;obtain ⟨i1,i2⟩:=SK hO hOr hL hD ps (i+1) r1 vs b he.2 hz.2 (by omega) e2 hb (fun q hq=>hl q (by simp only [ei,eh]; exact .inr hq));have jF:aV (jd st g SH l) w gE (tU i p x1).1 a∧∀ id o,look (tU i p x1).2 id=some (some o)→fo (jd st g SH l) w gE id o:=by
      cases p with
      | val t=>exact ⟨A3 hOr hL hD (.val t) x1 v a e1 ha,fun id o h=>by simp [tU,look] at h⟩
      | fQ t=>exact ⟨A3 hOr hL hD (.fQ t) x1 v a e1 ha,fun id o h=>by simp [tU,look] at h⟩
      | jD f caps=>exact ⟨A3 hOr hL hD (.jD f caps) x1 v a e1 ha,fun id o h=>by simp [tU,look] at h⟩
      | jC t ms=>simp [PK.jF] at he
      | io t=>
       obtain ⟨d1,d2⟩:=CW e1;have bB:=gh hz.1;obtain ⟨f,f1,f2⟩:=L_ t ha;obtain ⟨k1,k2⟩:=Mh (SH:=SH) (l:=l) (base:=i*1024) (fun j hj=>by show (i*1024+j) / 1024<20; omega) hO hL t 0 _ x1 [] f (by omega) d1 f1 (fun k id ver p u hk h=>by have:=hl (i*1024+k,id) (by simp only [ei,eh];exact .inl ((wq _ _ _ _).2 ⟨k,ver,p,u,h,rfl⟩));simpa using this);exact ⟨EU (f2 d2) (j8 _ _ _ _) k1,k2⟩
     refine ⟨⟨a,b,rfl,jF.1,i1⟩,fun id o h=>?_⟩;replace h:look ((tU i p x1).2++(entry (i+1) ps r1).2) id=some (some o):=h;rw [iK] at h;cases hq:look (tU i p x1).2 id with
     | some y=>
      rw [hq] at h;simp only [aF] at h;subst h;exact jF.2 id o hq
     | none=>
      rw [hq] at h;exact i2 id o h
    simp at e
   simp at e
end
end Go.Am
namespace Go.Am
open Go
section
variable {g g1 g':Gh} {w:World} {U U':Nat→Prop} {st sr:St}
theorem IB {id az vr Cn:Nat} (dA:∀ q,q≠[]→g'.hd az Cn q=g.hd id vr q) (cW:∀ b o p,g.lab b o=some (id,p)→g'.lab b o=some (az,p)) :
  ∀ (t:Ty) (sk:Nat→Nat→Bool) (p:Path) (i j:Nat) (x:t.T) (b o:Nat),t.jE=true→dK g w true id vr t sk p i j x b o→dK g' w true az Cn t sk p i j x b o
 | .int _,_,_,_,_,_,_,_,_,h=>h
 | .bool,_,_,_,_,_,_,_,_,h=>h
 | .str,_,_,_,_,_,_,_,_,h=>h
 | .err,_,_,_,_,_,_,_,_,h=>h
 | .bQ t,_,_,_,_,_,_,_,hn,h=>by simp [Ty.jE] at hn
 | .pair s t,sk,p,i,j,x,b,o,hn,h=>by simp only [Ty.jE,aw] at hn;exact ⟨IB dA cW s sk p i j x.1 b o hn.1 h.1,IB dA cW t sk p i (j+s.size) x.2 b (o+s.size) hn.2 h.2⟩
 | .sl t,sk,p,i,j,xs,b,o,hn,h=>by
  rcases h with h | ⟨h1,h2⟩
  ·exact .inl h
  refine .inr ⟨?_,?_⟩
  ·rw [dA _ (by simp)]; exact h1
  rw [dA _ (by simp)];obtain ⟨r1,r2,r3,r4⟩:=h2;refine ⟨r1,r2,r3,fun b o hb=>?_⟩;obtain ⟨r5,r6⟩:=r4 b o hb;exact ⟨fun k hk=>⟨cW _ _ _ (r5 k hk).1,(r5 k hk).2⟩,fun k hk=>IB dA cW t _ _ k 0 _ b _ hn (r6 k hk)⟩
theorem Mi {id az vr Cn:Nat} {t:Ty} {xs:List t.T} (h0:g'.hd az 0 []=g.hd id 0 []) (dA:∀ q,q≠[]→g'.hd az Cn q=g.hd id vr q)
  (cW:∀ b o p,g.lab b o=some (id,p)→g'.lab b o=some (az,p)) (hn:t.jE=true) (h:eN g w true id 0 vr t cP [] xs):eN g' w true az 0 Cn t cP [] xs:=by
 unfold eN at h ⊢;rw [h0];obtain ⟨r1,r2,r3,r4⟩:=h;refine ⟨r1,r2,r3,fun b o hb=>?_⟩;obtain ⟨r5,r6⟩:=r4 b o hb;exact ⟨fun k hk=>⟨cW _ _ _ (r5 k hk).1,(r5 k hk).2⟩,fun k hk=>IB dA cW t _ _ k 0 _ b _ hn (r6 k hk)⟩
def yt (site:Nat):ag→Bool
 | .int _ _ | .bool _ | .str _ | .err _=>true
 | .own id ver [] _=>aM ver 0&&aM (id / 1024) site
 | _=>false
theorem SL {site:Nat} (h0:U' 0) (hs:U' site) (dA:∀ id,id / 1024=site→g'.hd id 0 []=g.hd id 0 []) {v:ag} {x:Value} (hv:yt site v=true) (h:aV g w U v x):aV g' w U' v x:=by
 cases v<;>try (simp [yt] at hv; done)
 ·exact h
 ·exact h
 ·exact h
 ·exact h
 rename_i id _ p _;cases p with
 | cons a p=>simp [yt] at hv
 | nil=>
  simp only [yt,aw,rj] at hv;obtain ⟨rfl,rfl⟩:=hv;obtain ⟨-,-,-,-,-,rfl⟩:=h;exact ⟨hs,h0,h0,trivial,fun _=>rfl,by rw [dA _ rfl]⟩
theorem Mj {base site:Nat} (hb:∀ j,j<32→(base+j) / 1024=site):∀ (t:Ty) (x:t.T) (j:Nat),t.jE=true→j+t.size≤32→∀ v∈flat (vD base) t x j,yt site v=true
 | .int _,_,_,_,_,v,h=>by simp [flat] at h; subst h; rfl
 | .bool,_,_,_,_,v,h=>by simp [flat] at h; subst h; rfl
 | .str,_,_,_,_,v,h=>by simp [flat] at h; subst h; rfl
 | .err,_,_,_,_,v,h=>by simp [flat] at h; subst h; rfl
 | .bQ _,_,_,hn,_,v,h=>by simp [Ty.jE] at hn
 | .sl u,xs,j,hn,hj,v,h=>by simp only [flat,List.mem_singleton] at h;subst h;simp only [Ty.size] at hj;simp [vD,yt,hb j (by omega)]
 | .pair s t,x,j,hn,hj,v,h=>by
  simp only [Ty.jE,aw] at hn;simp only [Ty.size] at hj;have:=s.size_pos;have:=t.size_pos;simp only [flat,eh] at h;rcases h with h | h
  ·exact Mj hb s x.1 j hn.1 (by omega) v h
  exact Mj hb t x.2 (j+s.size) hn.2 (by omega) v h
theorem SM {site:Nat} (h0:U' 0) (hs:U' site) (dA:∀ id,id / 1024=site→g'.hd id 0 []=g.hd id 0 []):∀ {vs:List ag} {l:List Value},(∀ v∈vs,yt site v=true)→cu g w U vs l→cu g' w U' vs l
 | [],_,_,h=>h
 | v::vs,_,hv,⟨x,r,e,a,b⟩=>⟨x,r,e,SL h0 hs dA (hv v (by simp)) a,SM h0 hs dA (fun v h=>hv v (by simp [h])) b⟩
theorem aaX {site:Nat} (h0:U' 0) (hs:U' site) (dA:∀ id,id / 1024=site→g'.hd id 0 []=g.hd id 0 []) {t:Ty} {cs:List ag} (hc:∀ v∈cs,yt site v=true) {x:Value}
  (h:aV g w U (shut t cs) x):aV g' w U' (shut t cs) x:=by
 cases t with
 | pair a b=>
  obtain ⟨l,rfl,hl⟩:=h;exact ⟨l,rfl,SM h0 hs dA hc hl⟩
 | _=>
  match cs,hc,h with
  | [],_,_=>trivial
  | [v],hc,h=>exact SL h0 hs dA (hc v (by simp)) h
  | _::_::_,_,_=>trivial
theorem Mk:∀ (t:Ty) (x:t.T) (j:Nat),∀ id,id∉ag.ids.ie (flat mC t x j)
 | .int _,_,_,id=>by simp [flat,ag.ids.ie,ag.ids]
 | .bool,_,_,id=>by simp [flat,ag.ids.ie,ag.ids]
 | .str,_,_,id=>by simp [flat,ag.ids.ie,ag.ids]
 | .err,_,_,id=>by simp [flat,ag.ids.ie,ag.ids]
 | .bQ _,_,_,id=>by simp [flat,ag.ids.ie,ag.ids]
 | .sl _,_,_,id=>by simp [flat,mC,ag.ids.ie,ag.ids]
 | .pair s t,x,j,id=>by
  intro h;have app:∀ (l m:List ag),ag.ids.ie (l++m)=ag.ids.ie l++ag.ids.ie m:=by
   intro l m;induction l with
   | nil=>simp [ag.ids.ie]
   | cons a l ih=>simp [ag.ids.ie,ih]
  rw [flat,app,eh] at h;rcases h with h | h
  ·exact Mk s x.1 j id h
  exact Mk t x.2 _ id h
theorem aaY {t:Ty} {cs:List ag} : ∀ id∈(shut t cs).ids,id∈ag.ids.ie cs:=by
 intro id h;cases t with
 | pair a b=>exact h
 | _=>
  match cs,h with
  | [],h=>exact absurd (show id∈[] from h) (by simp)
  | [v],h=>exact kO _ h
  | _::_::_,h=>exact absurd (show id∈[] from h) (by simp)
theorem aaZ (hU:∀ s,U s→U' s) (jc:∀ b o,g.lab b o=none→g'.lab b o=none) {v:ag} {x:Value} (hv:∀ id,id∉v.ids) (h:aV g w U v x):aV g' w U' v x:=
 Ii hU jc v (fun id hid=>absurd hid (hv id)) x x h h
theorem SN {site:Nat} (h0:U' 0) (hs:U' site) (hU:∀ s,U s→U' s) (dA:∀ id ver p,id / 1024=site→g'.hd id ver p=g.hd id ver p)
  (cW:∀ b o id p,g.lab b o=some (id,p)→id / 1024=site→g'.lab b o=some (id,p)) :
  ∀ (rs:List RK) (q:Nat) (os:List Ty) (z:bZ (RK.bw rs++os)) (bI:List Value),rs.all RK.jF=true→rs.all (fun r=>match r with | .val t=>t.jE | _=>true)=true→
   rs.all (fun r=>fJ r.ty.size 30)=true→q % 32=0→q+32*rs.length≤480→(rs.any vE=true→∀ b o,g.lab b o=none→g'.lab b o=none)→
   (cu g w U (gi site q rs os z).1 bI→cu g' w U' (gi site q rs os z).1 bI)∧
   ∀ id oo,look (gi site q rs os z).2.1 id=some oo→id / 1024=site∧∃ ob,oo=some ob∧(fo g w U id ob→fo g' w U' id ob)
 | [],q,os,z,bI,he,hn,hz,hq,hl,jc=>⟨fun h=>h,fun id oo h=>by simp [gi,look] at h⟩
 | r::rs,q,os,z,bI,he,hn,hz,hq,hl,jc=>by
  simp only [kz,aw] at he hn hz;simp only [aQ] at hl;have bB:=gh hz.1;have ih:=fun bI=>SN h0 hs hU dA cW rs (q+32) os z.2 bI he.2 hn.2 hz.2 (by omega) (by omega) (fun h=>jc (by simp [h]));have one:(∀ v,aV g w U (qY site q r z.1).1 v→aV g' w U' (qY site q r z.1).1 v)∧
    ∀ id oo,look (qY site q r z.1).2 id=some oo→id / 1024=site∧∃ ob,oo=some ob∧(fo g w U id ob→fo g' w U' id ob):=by
   cases r with
   | val t=>
    have bB:t.size≤30:=bB;refine ⟨fun v h=>aaX h0 hs (fun id hid=>dA id 0 [] hid) (Mj (fun j hj=>by omega) t z.1 0 hn.1 (by omega)) h,fun id oo h=>?_⟩;obtain ⟨u,xs,k,rfl,h2,h3,h4,rfl⟩:=Iv t z.1 0 id oo h;have hdiv:(site*1024+q+k) / 1024=site:=by omega
    refine ⟨hdiv,_,rfl,fun hO=>⟨h0,hs,Mi (dA _ _ _ hdiv) (fun q _=>dA _ _ _ hdiv) (fun b o p hb=>cW _ _ _ _ hb hdiv) (h2 hn.1) hO.2.2⟩⟩
   | sh t=>
    refine ⟨fun v h=>aaZ hU (jc (by simp [vE])) (fun id hid=>Mk t z.1 0 id (aaY id hid)) h,fun id oo h=>by simp [qY,look] at h⟩
   | ptr t ms=>simp [RK.jF] at he
  refine ⟨fun h=>?_,fun id oo h=>?_⟩
  ·obtain ⟨x,r',e,a,b⟩:=h;exact ⟨x,r',e,one.1 x a,(ih r').1 b⟩
  replace h:look ((qY site q r z.1).2++(gi site (q+32) rs os z.2).2.1) id=some oo:=h;rw [iK] at h;cases qm:look (qY site q r z.1).2 id with
  | some y=>
   rw [qm] at h;simp only [aF] at h;subst h;exact one.2 id _ qm
  | none=>
   rw [qm] at h;exact (ih []).2 id oo h
def wu (g:Gh) (w:World) (V:Nat→Nat) (base:Nat):(t:Ty)→Nat→{os:List Ty}→bZ (t.gP os)→(bZ os→Prop)→Prop
 | .pair a b,j,os,y,K=>wu g w V base a j (os:=b.gP os) y (fun y=>wu g w V base b (j+a.size) (os:=os) y K)
 | .sl u,j,_,y,K=>eN g w true (base+j) 0 (V (base+j)) u cP [] y.1∧K y.2
 | .int _,_,_,y,K=>K y
 | .bool,_,_,y,K=>K y
 | .str,_,_,y,K=>K y
 | .err,_,_,y,K=>K y
 | .bQ _,_,_,y,K=>K y
theorem IC {V V':Nat→Nat} {base:Nat} : ∀ (t:Ty) (j:Nat) {os:List Ty} (y:bZ (t.gP os)) {K K':bZ os→Prop},(∀ m,base+j≤m→V' m=V m)→(∀ y,K y→K' y)→wu g w V base t j y K→wu g w V' base t j y K'
 | .pair a b,j,os,y,K,K',h,hK,h'=>IC a j (os:=b.gP os) y h (fun y hy=>IC b (j+a.size) (os:=os) y (fun m hm=>h m (by omega)) hK hy) h'
 | .sl u,j,_,y,K,K',h,hK,⟨h1,h2⟩=>⟨by rw [h _ (cj _)]; exact h1,hK _ h2⟩
 | .int _,_,_,y,K,K',h,hK,h'=>hK y h'
 | .bool,_,_,y,K,K',h,hK,h'=>hK y h'
 | .str,_,_,y,K,K',h,hK,h'=>hK y h'
 | .err,_,_,y,K,K',h,hK,h'=>hK y h'
 | .bQ _,_,_,y,K,K',h,hK,h'=>hK y h'
theorem Ml {base:Nat} : ∀ (t:Ty) (j:Nat) {os:List Ty} (y:bZ (t.gP os)) {K:bZ os→Prop} {KV:(Nat→Nat)→bZ os→Prop},EX g w base t j y K→(∀ y,K y→∃ V,KV V y)→
  (∀ V V' y,(∀ m,base+j+t.size≤m→V' m=V m)→KV V y→KV V' y)→∃ V,wu g w V base t j y (KV V)
 | .pair a b,j,os,y,K,KV,h,hK,hc=>by have hs:=a.size_pos;have SO:=b.size_pos;refine Ml a j (os:=b.gP os) y (KV:=fun V y=>wu g w V base b (j+a.size) (os:=os) y (KV V)) h (fun y hy=>Ml b (j+a.size) (os:=os) y hy hK (fun V V' y hm hv=>hc V V' y (fun m yu=>hm m (by simp only [Ty.size] at yu; omega)) hv)) (fun V V' y hm hv=>?_);exact IC b (j+a.size) (os:=os) y (fun m yu=>hm m (by omega)) (fun y hy=>hc V V' y (fun m yu=>hm m (by simp only [Ty.size] at yu; omega)) hy) hv
 | .sl u,j,_,y,K,KV,⟨⟨v,h1⟩,h2⟩,hK,hc=>by obtain ⟨V,h3⟩:=hK _ h2;refine ⟨fun m=>if m=base+j then v else V m,by simpa using h1,hc V _ y.2 (fun m hm=>if_neg (by simp only [Ty.size] at hm; omega)) h3⟩
 | .int _,_,_,y,K,KV,h,hK,hc=>hK y h
 | .bool,_,_,y,K,KV,h,hK,hc=>hK y h
 | .str,_,_,y,K,KV,h,hK,hc=>hK y h
 | .err,_,_,y,K,KV,h,hK,hc=>hK y h
 | .bQ _,_,_,y,K,KV,h,hK,hc=>hK y h
def rp (g:Gh) (w:World) (V:Nat→Nat):Nat→(ps:List PK)→bZ (PK.outs ps)→Prop
 | _,[],_=>True
 | i,.io t::ps,y=>wu g w V (i*1024) t 0 y (fun y=>rp g w V (i+1) ps y)
 | _,.jC _ _::_,_=>False
 | i,.val _::ps,y=>rp g w V (i+1) ps y
 | i,.fQ _::ps,y=>rp g w V (i+1) ps y
 | i,.jD _ _::ps,y=>rp g w V (i+1) ps y
theorem aa_ {i m:Nat} (h:(i+1)*1024≤m):i*1024≤m:=Nat.le_trans (fa _ (Nat.le_succ i)) h
theorem aa0 {i m k:Nat} (hk:k≤1024) (h:(i+1)*1024≤m):i*1024+k≤m:=by have:=Nat.succ_mul i 1024;omega
theorem aa1 {V V':Nat→Nat} : ∀ (ps:List PK) (i:Nat) (y:bZ (PK.outs ps)),(∀ m,i*1024≤m→V' m=V m)→rp g w V i ps y→rp g w V' i ps y:=by
 intro ps;induction ps with
 | nil=>intro i y h h'; trivial
 | cons p ps ih=>
  intro i y h h';have h2:∀ m,(i+1)*1024≤m→V' m=V m:=fun m hm=>h m (aa_ hm);cases p with
  | io t=>exact IC t 0 (os:=PK.outs ps) y (fun m hm=>h m (by rw [dW] at hm; exact hm)) (fun y hy=>ih (i+1) y h2 hy) h'
  | jC t ms=>exact h'
  | val t=>exact ih (i+1) y h2 h'
  | fQ t=>exact ih (i+1) y h2 h'
  | jD f caps=>exact ih (i+1) y h2 h'
theorem aa2:∀ (ps:List PK) (i:Nat) (y:bZ (PK.outs ps)),ps.all (fun p=>match p with | .io t=>fJ t.size 30 | _=>true)=true→yl g w i ps y→∃ V,rp g w V i ps y:=by
 intro ps;induction ps with
 | nil=>intro i y hz h; exact ⟨fun _=>0,trivial⟩
 | cons p ps ih=>
  intro i y hz h;simp only [kz,aw] at hz;cases p with
  | io t=>
   have hs:=gh hz.1;exact Ml t 0 (os:=PK.outs ps) y (KV:=fun V y=>rp g w V (i+1) ps y) h (fun y hy=>ih (i+1) y hz.2 hy)
    (fun V V' y hm hv=>aa1 ps (i+1) y (fun m yu=>hm m (by rw [dW]; exact aa0 (by omega) yu)) hv)
  | jC t ms=>exact h.elim
  | val t=>exact ih (i+1) y hz.2 h
  | fQ t=>exact ih (i+1) y hz.2 h
  | jD f caps=>exact ih (i+1) y hz.2 h
theorem E9:∀ t:Ty,t.beq t=true
 | .int k=>by cases k<;>rfl
 | .bool | .str | .err=>rfl
 | .pair a b=>by simp [Ty.beq,E9 a,E9 b]
 | .sl t=>by simp [Ty.beq,E9 t]
 | .bQ t=>by simp [Ty.beq,E9 t]
theorem ID {p:Ty→Bool} : ∀ (t:Ty) (os:List Ty),(t.gP os).all p=true→os.all p=true
 | .pair a b,os,h=>ID b os (ID a _ h)
 | .sl u,os,h=>by replace h:(Ty.sl u::os).all p=true:=h;simp only [kz,aw] at h;exact h.2
 | .int _,os,h=>h
 | .bool,os,h=>h
 | .str,os,h=>h
 | .err,os,h=>h
 | .bQ _,os,h=>h
theorem IE {n:Nat} {cs:List ag} {os:List Ty} {y:bZ os} {o:List (Nat×Option dD)} {eg:List ag} {y':bZ os} {K:bZ os→Prop} {P:Nat→Option dD→Prop} {st:St} (hn:n=1)
  (qj:∀ id ver p u,cs[0]?≠some (.own id ver p u)) (ho:some ([],cs.tail,y)=some (o,eg,y')) (hV:K y) :
  eg=cs.drop n∧K y'∧(∀ id oo,look o id=some oo→P id oo)∧(∀ k id ver p u,k<n→cs[k]? = some (.own id ver p u)→(look o id).isSome=true∧st.obj id≠none):=by
 have ho:=aW ho;have f1:([]:List (Nat×Option dD))=o:=congrArg (fun p=>p.1) ho;have f2:cs.tail=eg:=congrArg (fun p=>p.2.1) ho;have f3:y=y':=congrArg (fun p=>p.2.2) ho;subst f1; subst f2; subst f3;subst hn;refine ⟨by simp,hV,fun id oo h=>by simp [look] at h,fun k id ver p u hk h=>?_⟩;have:k=0:=by omega
 subst this;exact absurd h (qj id ver p u)
theorem Mm {site:Nat} {l:List (Nat×Nat)} {V:Nat→Nat} (h0:U' 0) (hs:U' site) (CX:∀ s,U s→U' s)
  (pn:∀ n id,look l n=some id→g'.hd id 0 []=g.hd n 0 []) (CY:∀ n id q,look l n=some id→g'.hd id site q=g.hd n (V n) q)
  (cW:∀ n id b o p,look l n=some id→g.lab b o=some (n,p)→g'.lab b o=some (id,p)) {base:Nat} :
  ∀ (t:Ty) (j:Nat) (cs:List ag) (x:t.T) (r:List ag) {os:List Ty} (y:bZ (t.gP os)) (o:List (Nat×Option dD)) (eg:List ag) (y':bZ os) (K:bZ os→Prop),
   (t.gP os).all Ty.jE=true→dN st t cs=some (x,r)→Aq st site t cs y=some (o,eg,y')→
   (∀ k id ver p u,k<t.size→cs[k]? = some (.own id ver p u)→look l (base+j+k)=some id)→wu g w V base t j y K→
   eg=cs.drop t.size∧K y'∧
   (∀ id oo,look o id=some oo→st.obj id≠none∧(∃ k ver p u,k<t.size∧cs[k]? = some (.own id ver p u))∧∃ ob,oo=some ob∧∀ w1,fq g1 w1 U st→U' (id / 1024)∧fo g' w U' id ob)∧
   (∀ k id ver p u,k<t.size→cs[k]? = some (.own id ver p u)→(look o id).isSome=true∧st.obj id≠none)
 | .pair a b,j,cs,x,r,os,y,o,eg,y',K,hn,hd,ho,hl,hV=>by
  replace hd:(match dN st a cs with
   | some (x,r)=>(match dN st b r with | some (y,r)=>some ((x,y),r) | none=>none)
   | none=>none)=some (x,r):=hd
  replace ho:(match Aq st site a cs (os:=b.gP os) y with
   | some (o,cs,y)=>(match Aq st site b cs (os:=os) y with | some (p,cs,y)=>some (o++p,cs,y) | none=>none)
   | none=>none)=some (o,eg,y'):=ho
  split at hd
  ·rename_i xa r1 d1;split at hd
   ·rename_i xb _ d2;split at ho
    ·rename_i o1 c1 y1 e1;split at ho
     ·rename_i o2 c2 y2 e2;have ho:=aW ho;have f1:o1++o2=o:=congrArg (fun p=>p.1) ho;have f2:c2=eg:=congrArg (fun p=>p.2.1) ho;have f3:y2=y':=congrArg (fun p=>p.2.2) ho;subst f1; subst f2; subst f3;obtain ⟨-,rfl⟩:=CV a cs xa r1 d1;obtain ⟨a1,a2,a3,a4⟩:=Mm h0 hs CX pn CY cW a j cs xa _ y o1 c1 y1 (fun y=>wu g w V base b (j+a.size) (os:=os) y K) hn d1 e1 (fun k id ver p u hk h=>hl k id ver p u (by simp only [Ty.size]; omega) h) hV;subst a1;obtain ⟨b1,b2,b3,b4⟩:=Mm h0 hs CX pn CY cW b (j+a.size) _ xb _ y1 o2 c2 y2 K (ID a _ hn) d2 e2 (fun k id ver p u hk h=>by have:=hl (a.size+k) id ver p u (by simp only [Ty.size]; omega) (by rw [A2] at h; exact h);simpa [bL] using this) a2;refine ⟨by rw [b1,List.drop_drop]; rfl,b2,fun id oo h=>?_,fun k id ver p u hk h=>?_⟩
      ·rw [iK] at h;cases hq:look o1 id with
       | some q=>
        rw [hq] at h;simp only [aF] at h;subst h;obtain ⟨c1,⟨k,ver,p,u,hk,hc⟩,c3⟩:=a3 id _ hq;exact ⟨c1,⟨k,ver,p,u,by simp only [Ty.size]; omega,hc⟩,c3⟩
       | none=>
        rw [hq] at h;obtain ⟨c1,⟨k,ver,p,u,hk,hc⟩,c3⟩:=b3 id _ h;exact ⟨c1,⟨a.size+k,ver,p,u,by simp only [Ty.size]; omega,by rw [A2] at hc; exact hc⟩,c3⟩
      simp only [Ty.size] at hk;rw [iK];by_cases Mn:k<a.size
      ·obtain ⟨c1,c2⟩:=a4 k id ver p u Mn h;refine ⟨?_,c2⟩;cases hq:look o1 id with
       | some q=>rfl
       | none=>rw [hq] at c1; simp at c1
      obtain ⟨c1,c2⟩:=b4 (k-a.size) id ver p u (by omega) (by rw [A2,show a.size+(k-a.size)=k by omega]; exact h);refine ⟨?_,c2⟩;cases hq:look o1 id with
      | some q=>rfl
      | none=>exact c1
     simp at ho
    simp at ho
   simp at hd
  simp at hd
 | .sl t,j,cs,x,r,os,y,o,eg,y',K,hn,hd,ho,hl,⟨hV1,Mo⟩=>by
  replace hn:(Ty.sl t::os).all Ty.jE=true:=hn;simp only [kz,aw] at hn;cases cs with
  | nil=>exact absurd (show none=some _ from hd) (by simp)
  | cons c cs=>
   cases c with
   | own id ver p u=>
    cases p with
    | cons a p=>exact absurd (show none=some _ from hd) (by simp)
    | nil=>
     replace hd:(match st.obj id with
      | some (.row true u _ xs)=>(match Ty.cast (.sl u) (.sl t) xs with | some ys=>some (ys,cs) | none=>none)
      | _=>none)=some (x,r):=hd
     replace ho:(match st.obj id with
      | some (.row own u _ _)=>(match Ty.cast (.sl t) (.sl u) y.1 with | some xs=>some ([(id,some (.row own u site xs))],cs,y.2) | none=>none)
      | _=>none)=some (o,eg,y'):=ho
     cases bD:st.obj id with
     | none=>rw [bD] at hd; exact absurd hd (by simp)
     | some ob=>
      rw [bD] at hd ho;cases ob with
      | row own u' vr xs=>
       cases own with
       | false=>exact absurd hd (by simp)
       | true=>
        replace hd:(match Ty.cast (.sl u') (.sl t) xs with | some ys=>some (ys,cs) | none=>none)=some (x,r):=hd;replace ho:(match Ty.cast (.sl t) (.sl u') y.1 with | some xs=>some ([(id,some (dD.row true u' site xs))],cs,y.2) | none=>none)=some (o,eg,y'):=ho;split at hd
        ·rename_i ys hc;obtain ⟨rfl,-⟩:=nz hc;have aa3:Ty.cast (.sl u') (.sl u') y.1=some y.1:=by unfold Ty.cast;rw [dif_pos (E9 _)]
         rw [aa3] at ho;have ho:=aW ho;have f1:[(id,some (dD.row true u' site y.1))]=o:=congrArg (fun p=>p.1) ho;have f2:cs=eg:=congrArg (fun p=>p.2.1) ho;have f3:y.2=y':=congrArg (fun p=>p.2.2) ho;subst f1; subst f2; subst f3;have iz:look l (base+j)=some id:=by have:=hl 0 id ver [] u (by simp [Ty.size]) rfl;simpa using this
         refine ⟨rfl,Mo,fun az oo h=>?_,fun k az nZ p' u' hk h=>?_⟩
         ·rw [dM] at h;split at h
          ·rename_i he;subst he;simp only [aF] at h;refine ⟨by rw [bD]; simp,⟨0,_,_,_,by simp [Ty.size],rfl⟩,_,h.symm,fun w1 hO1=>⟨CX _ (hO1 id _ bD).1,h0,hs,?_⟩⟩;exact Mi (pn _ id iz) (fun q' _=>CY _ id q' iz) (fun b o p hb=>cW _ id b o p iz hb) hn.1 hV1
          simp [look] at h
         simp only [Ty.size] at hk;have:k=0:=by omega
         subst this;simp only [yn,aF,ag.own.injEq] at h;obtain ⟨rfl,-⟩:=h;exact ⟨by rw [dM,if_pos rfl]; rfl,by rw [bD]; simp⟩
        simp at hd
      | _=>exact absurd hd (by simp)
   | _=>exact absurd (show none=some _ from hd) (by simp)
 | .int k,j,cs,x,r,os,y,o,eg,y',K,hn,hd,ho,hl,hV=>by
  have ho:some ([],cs.tail,y)=some (o,eg,y'):=ho;exact IE (by simp [Ty.size]) (by
   intro id ver p u h;cases cs with
   | nil=>simp at h
   | cons c cs=>simp at h; subst h; simp [dN] at hd) ho hV
 | .bool,j,cs,x,r,os,y,o,eg,y',K,hn,hd,ho,hl,hV=>by
  have ho:some ([],cs.tail,y)=some (o,eg,y'):=ho;exact IE (by simp [Ty.size]) (by
   intro id ver p u h;cases cs with
   | nil=>simp at h
   | cons c cs=>simp at h; subst h; simp [dN] at hd) ho hV
 | .str,j,cs,x,r,os,y,o,eg,y',K,hn,hd,ho,hl,hV=>by
  have ho:some ([],cs.tail,y)=some (o,eg,y'):=ho;exact IE (by simp [Ty.size]) (by
   intro id ver p u h;cases cs with
   | nil=>simp at h
   | cons c cs=>simp at h; subst h; simp [dN] at hd) ho hV
 | .err,j,cs,x,r,os,y,o,eg,y',K,hn,hd,ho,hl,hV=>by
  have ho:some ([],cs.tail,y)=some (o,eg,y'):=ho;exact IE (by simp [Ty.size]) (by
   intro id ver p u h;cases cs with
   | nil=>simp at h
   | cons c cs=>simp at h; subst h; simp [dN] at hd) ho hV
 | .bQ t,j,cs,x,r,os,y,o,eg,y',K,hn,hd,ho,hl,hV=>by simp [dN] at hd
theorem SP {site:Nat} {l:List (Nat×Nat)} {V:Nat→Nat} (h0:U' 0) (hs:U' site) (CX:∀ s,U s→U' s)
  (pn:∀ n id,look l n=some id→g'.hd id 0 []=g.hd n 0 []) (CY:∀ n id q,look l n=some id→g'.hd id site q=g.hd n (V n) q)
  (cW:∀ n id b o p,look l n=some id→g.lab b o=some (n,p)→g'.lab b o=some (id,p)) :
  ∀ (ps:List PK) (i q:Nat) (x:iH ps) (vs:List ag) (y:bZ (PK.outs ps)) (o:List (Nat×Option dD)),ps.all PK.jF=true→(PK.outs ps).all Ty.jE=true→mG st sr ps vs=some x→
   sA st site q ps vs y=some o→(∀ p∈ei i ps vs,look l p.1=some p.2)→rp g w V i ps y→
   (∀ id oo,look o id=some oo→st.obj id≠none∧(∃ i',(i',id)∈ei i ps vs)∧∃ ob,oo=some ob∧∀ w1,fq g1 w1 U st→U' (id / 1024)∧fo g' w U' id ob)∧
   (∀ p∈ei i ps vs,(look o p.2).isSome=true∧st.obj p.2≠none)
 | [],i,q,x,vs,y,o,he,hn,e,ho,hl,hV=>by
  cases vs with
  | nil=>
   obtain rfl:=aW (show some []=some o from ho);exact ⟨fun id oo h=>by simp [look] at h,fun p h=>by simp [ei] at h⟩
  | cons v vs=>exact absurd (show none=some x from e) (by simp)
 | p::ps,i,q,x,[],y,o,he,hn,e,ho,hl,hV=>absurd (show none=some x from e) (by simp)
 | p::ps,i,q,x,v::vs,y,o,he,hn,e,ho,hl,hV=>by
  simp only [kz,aw] at he;obtain ⟨e1,e2⟩:=Iz e;have xO:∀ p∈ei (i+1) ps vs,look l p.1=some p.2:=fun p' hp=>hl p' (by simp only [ei,eh]; exact .inr hp);have rest:=fun (y':bZ (PK.outs ps)) (o':List (Nat×Option dD)) (fC:(PK.outs ps).all Ty.jE=true) (iy:sA st site (q+32) ps vs y'=some o') (Mq:rp g w V (i+1) ps y')=>
   SP h0 hs CX pn CY cW ps (i+1) _ x.2 vs y' o' he.2 fC e2 iy xO Mq
  have same:ei i (p::ps) (v::vs)=ei (i+1) ps vs→∀ (y':bZ (PK.outs ps)),(PK.outs ps).all Ty.jE=true→sA st site (q+32) ps vs y'=some o→rp g w V (i+1) ps y'→
    (∀ id oo,look o id=some oo→st.obj id≠none∧(∃ i',(i',id)∈ei i (p::ps) (v::vs))∧∃ ob,oo=some ob∧∀ w1,fq g1 w1 U st→U' (id / 1024)∧fo g' w U' id ob)∧
    (∀ p'∈ei i (p::ps) (v::vs),(look o p'.2).isSome=true∧st.obj p'.2≠none):=by
   intro h1 y' fC iy Mq;rw [h1];exact rest y' o fC iy Mq
  cases p with
  | jC t ms=>simp [PK.jF] at he
  | val t=>exact same (by simp [ei]) y hn ho hV
  | fQ t=>exact same (by simp [ei]) y hn ho hV
  | jD f caps=>exact same (by simp [ei]) y hn ho hV
  | io t=>
   obtain ⟨d1,d2⟩:=CW e1;replace hn:(t.gP (PK.outs ps)).all Ty.jE=true:=hn;replace ho:(match Aq st site t (o8 t v) y with
    | some (o,_,y')=>(match sA st site (q+32) ps vs y' with | some r=>some (o++r) | none=>none)
    | none=>none)=some o:=ho
   split at ho
   ·rename_i o1 c1 y1 ig;split at ho
    ·rename_i o2 sQ;obtain rfl:=aW ho;obtain ⟨-,Mo,a3,a4⟩:=Mm (g1:=g1) h0 hs CX pn CY cW t 0 _ x.1 [] (os:=PK.outs ps) y o1 c1 y1 (fun y=>rp g w V (i+1) ps y) hn d1 ig (fun k id ver p u hk h=>by have:=hl (i*1024+k,id) (by simp only [ei,eh];exact .inl ((wq _ _ _ _).2 ⟨k,ver,p,u,h,rfl⟩));simpa using this) hV;obtain ⟨k1,k2⟩:=rest y1 o2 (ID t _ hn) sQ Mo;refine ⟨fun id oo h=>?_,fun p' kU=>?_⟩
     ·rw [iK] at h;cases hq:look o1 id with
      | some qq=>
       rw [hq] at h;simp only [aF] at h;subst h;obtain ⟨c1,⟨k,ver,p,u,hk,hc⟩,c3⟩:=a3 id _ hq;refine ⟨c1,⟨i*1024+k,?_⟩,c3⟩;simp only [ei,eh];exact .inl ((wq _ _ _ _).2 ⟨k,ver,p,u,hc,rfl⟩)
      | none=>
       rw [hq] at h;obtain ⟨a1,⟨i',a2⟩,a3⟩:=k1 id oo h;exact ⟨a1,⟨i',by simp only [ei,eh]; exact .inr a2⟩,a3⟩
     simp only [ei,eh] at kU;rw [iK];rcases kU with kU | kU
     ·obtain ⟨m,id⟩:=p';obtain ⟨k,ver,p,u,h1,h2⟩:=(wq _ _ _ _).1 kU;have hk:=(dV.1 h1).1;obtain ⟨c1,c2⟩:=a4 k id ver p u (by omega) h1;refine ⟨?_,c2⟩;cases hq:look o1 id with
      | some q=>rfl
      | none=>rw [hq] at c1; simp at c1
     obtain ⟨a1,a2⟩:=k2 p' kU;refine ⟨?_,a2⟩;cases hq:look o1 p'.2 with
     | some q=>rfl
     | none=>exact a1
    simp at ho
   simp at ho
end
end Go.Am
namespace Go.Am
open Go
def dh (P:Program) (f:FuncId):Prop:=∃ fn,P.funcs[f]? = some fn∧(fn.name== "runtime.NumGoroutine")=false∧fn.body.isNone=false
structure IF (P:Program) (f:FuncId):Prop where
 a:∀ (w:World) (b o:Nat) (op:Int),w.cell? (ad b o)=some (.int .i64 op)→kQ op=true→Calls P f #[.pointer (some (ad b o))] w fun e w'=>
  e = .returned (.slice (some (ad w.heap.size 0)) 2 2)∧∃ t,kt w w' #[.pointer (some (ad b (o+1))),.pointer (some (ad b (o+2)))] t
 b:∀ (w:World) (b o:Nat) (op:Int),w.cell? (ad b o)=some (.int .i64 op)→jT op=true→Calls P f #[.pointer (some (ad b o))] w fun e w'=>
  e = .returned (.slice (some (ad w.heap.size 0)) 3 3)∧∃ t,kt w w' #[.pointer (some (ad b (o+1))),.pointer (some (ad b (o+2))),.pointer (some (ad b (o+3)))] t
 c:∀ (w:World) (b o:Nat) (op:Int),w.cell? (ad b o)=some (.int .i64 op)→np op=true→Calls P f #[.pointer (some (ad b o))] w fun e w'=>
  e = .returned (.slice (some (ad w.heap.size 0)) 1 1)∧∃ t,kt w w' #[.pointer (some (ad b (o+2)))] t
 n:∀ (w:World) (b o:Nat) (op:Int),w.cell? (ad b o)=some (.int .i64 op)→kQ op=false→jT op=false→np op=false→Calls P f #[.pointer (some (ad b o))] w fun e w'=>
  e = .returned (.slice none 0 0)∧w'=w
def IG (P:Program) (c:ba):Prop:=∀ f,c.mF.any (aM (f+3000000))=true→IF P f∧dh P f
def Fa (P:Program) (c:ba):Prop:=(∀ f m,(f,m)∈c.calls→Sound P (Ar f) m∧dh P (Ar f))∧IG P c
theorem Mr {P:Program} {c:ba} (h:c.mF.all (fun x=>cL x 3000000)=true):IG P c:=by
 intro f hf;obtain ⟨x,hx,he⟩:=wb.1 hf;have h1:=gp.1 h x hx;have h2:=bm he;have h3:x<3000000:=by simpa [dJ] using h1
 omega
theorem SQ {P:Program} {c:ba} {f:FuncId} (h:c.mF.all (fun x=>cL x 3000000||aM x (f+3000000))=true) (hp:IF P f) (hg:dh P f):IG P c:=by
 intro f' hf;obtain ⟨x,hx,he⟩:=wb.1 hf;have h1:=gp.1 h x hx;have h2:=bm he;simp only [pw] at h1;rcases h1 with h1 | h1
 ·have h3:x<3000000:=by simpa [dJ] using h1
  omega
 have h3:=bm h1;have:f'=f:=by omega
 subst this;exact ⟨hp,hg⟩
theorem Ms {st:St} {f:Nat} {args:List ag} : ∀ (l:List (Nat×au)) (m:au) (x:iH m.ps),Cb st f args l=some ⟨m,x⟩→(f,m)∈l∧mG st (xL st m.rs (n_ st m.ps args)) m.ps args=some x
 | [],m,x,e=>by simp [Cb] at e
 | (g,m')::l,m,x,e=>by
  simp only [Cb] at e;split at e
  ·obtain ⟨h1,h2⟩:=Ms l m x e;exact ⟨jO _ h1,h2⟩
  rename_i hb;obtain rfl:=bm hb;split at e
  ·rename_i hx;simp only [aF] at e;obtain ⟨rfl,e⟩:=Sigma.mk.inj e;obtain rfl:=eq_of_heq e;exact ⟨by simp,hx⟩
  obtain ⟨h1,h2⟩:=Ms l m x e;exact ⟨jO _ h1,h2⟩
theorem SR {st:St} {rs:List RK} {io:List Nat} {id:Nat} {ob:dD} (h:(xL st rs io).obj id=some ob):rs.any vE=false∧id∉io∧st.obj id=some ob:=by
 unfold xL at h;split at h
 ·simp [St.obj,look] at h
 rename_i hr;unfold St.obj at h;simp only [iK,lX] at h;by_cases hm:id∈io
 ·simp [hm] at h
 simp only [hm,if_false] at h;exact ⟨hr,hm,h⟩
theorem II {g:Gh} {w:World} {U:Nat→Prop} : ∀ {as bs:List ag} {l m:List Value},cu g w U as l→cu g w U bs m→cu g w U (as++bs) (l++m)
 | [],bs,l,m,h,h'=>by obtain rfl:=h; exact h'
 | a::as,bs,l,m,⟨x,r,e,h1,h2⟩,h'=>⟨x,r++m,by rw [e]; rfl,h1,II h2 h'⟩
section
variable {P:Program} {c:ba} {g:Gh} {w:World} {U:Nat→Prop} {sr:St} {a:Act} {site:Nat} {o:Oper} {ρ:Type} {r:ρ} {k:cG→Option ρ}
theorem SS {l:List (Nat×Nat)} (h1:(l.map (·.1)).Nodup) (h2:(l.map (·.2)).Nodup):(∀ p∈l,look l p.1=some p.2∧look (swp l) p.2=some p.1)∧(∀ i id,look l i=some id→look (swp l) id=some i)∧(∀ i id,look (swp l) id=some i→look l i=some id):=by
 have hn:((swp l).map (·.1)).Nodup:=by simpa [swp,Function.comp_def] using h2
 have pk:∀ i id,(i,id)∈l→(id,i)∈swp l:=fun i id h=>kb.2 ⟨_,h,rfl⟩;refine ⟨fun p hp=>⟨E7 h1 hp,E7 hn (pk _ _ hp)⟩,fun i id h=>E7 hn (pk _ _ (ky h)),fun i id h=>?_⟩;obtain ⟨p,hp,e⟩:=kb.1 (ky h);simp only [bE] at e;obtain ⟨rfl,rfl⟩:=e;exact E7 h1 hp
def iL (g g1:Gh) (site:Nat) (l:List (Nat×Nat)) (V:Nat→Nat):Gh where
 hd n ver s:=if n / 1024=site then g1.hd n ver s else if ver=site then (match look (swp l) n with | some i=>g1.hd i (V i) s | none=>dX) else g.hd n ver s
 lab b o:=match g1.lab b o with
  | none=>(match g.lab b o with | some (id,p)=>(match look (swp l) id with | some _=>none | none=>some (id,p)) | none=>none)
  | some (id,p)=>if id / 1024=site then some (id,p) else (match look l id with
    | some cq=>some (cq,p)
    | none=>(match g.lab b o with | some q=>some q | none=>some (site*1024+1023,[])))
theorem Mt {st:St} : ∀ (t:Ty) (cs:List ag) (x:t.T) (r:List ag),dN st t cs=some (x,r)→∀ k id ver p u,k<t.size→cs[k]? = some (.own id ver p u)→∃ ob,st.obj id=some ob
 | .pair a b,cs,x,r,e,k,id,ver,p,u,hk,h=>by
  replace e:(match dN st a cs with
   | some (x,r)=>(match dN st b r with | some (y,r)=>some ((x,y),r) | none=>none)
   | none=>none)=some (x,r):=e
  split at e
  ·rename_i y r1 e1;split at e
   ·rename_i z r2 e2;obtain ⟨-,rfl⟩:=CV a cs y r1 e1;by_cases Mn:k<a.size
    ·exact Mt a cs y _ e1 k id ver p u Mn h
    simp only [Ty.size] at hk;exact Mt b _ z r2 e2 (k-a.size) id ver p u (by omega) (by rw [A2,show a.size+(k-a.size)=k by omega]; exact h)
   simp at e
  simp at e
 | .sl t,cs,x,r,e,k,id,ver,p,u,hk,h=>by
  simp only [Ty.size] at hk;have:k=0:=by omega
  subst this;cases cs with
  | nil=>simp at h
  | cons c cs=>
   simp only [yn,aF] at h;subst h;cases p with
   | cons a p=>exact absurd (show none=some _ from e) (by simp)
   | nil=>
    replace e:(match st.obj id with
     | some (.row true u _ xs)=>(match Ty.cast (.sl u) (.sl t) xs with | some ys=>some (ys,cs) | none=>none)
     | _=>none)=some (x,r):=e
    cases ho:st.obj id with
    | none=>rw [ho] at e; exact absurd e (by simp)
    | some ob=>exact ⟨ob,rfl⟩
 | .int k',cs,x,r,e,k,id,ver,p,u,hk,h=>by
  simp only [Ty.size] at hk;have:k=0:=by omega
  subst this;cases cs with
  | nil=>simp at h
  | cons c cs=>simp only [yn,aF] at h; subst h; simp [dN] at e
 | .bool,cs,x,r,e,k,id,ver,p,u,hk,h=>by
  simp only [Ty.size] at hk;have:k=0:=by omega
  subst this;cases cs with
  | nil=>simp at h
  | cons c cs=>simp only [yn,aF] at h; subst h; simp [dN] at e
 | .str,cs,x,r,e,k,id,ver,p,u,hk,h=>by
  simp only [Ty.size] at hk;have:k=0:=by omega
  subst this;cases cs with
  | nil=>simp at h
  | cons c cs=>simp only [yn,aF] at h; subst h; simp [dN] at e
 | .err,cs,x,r,e,k,id,ver,p,u,hk,h=>by
  simp only [Ty.size] at hk;have:k=0:=by omega
  subst this;cases cs with
  | nil=>simp at h
  | cons c cs=>simp only [yn,aF] at h; subst h; simp [dN] at e
 | .bQ t,cs,x,r,e,k,id,ver,p,u,hk,h=>by simp [dN] at e
theorem Fb {st sr:St} : ∀ (ps:List PK) (i:Nat) (x:iH ps) (vs:List ag),ps.all PK.jF=true→mG st sr ps vs=some x→∀ p∈ei i ps vs,∃ ob,st.obj p.2=some ob
 | [],i,x,vs,he,e,p,hp=>by cases vs<;>simp [ei] at hp
 | q::ps,i,x,[],he,e,p,hp=>by simp [ei] at hp
 | q::ps,i,x,v::vs,he,e,p,hp=>by
  simp only [kz,aw] at he;obtain ⟨e1,e2⟩:=Iz e;simp only [ei,eh] at hp;rcases hp with hp | hp
  ·cases q with
   | io t=>
    obtain ⟨m,id⟩:=p;obtain ⟨k,ver,pp,u,h1,h2⟩:=(wq _ _ _ _).1 hp;exact Mt t _ x.1 [] (CW e1).1 k id ver pp u (by have:=(dV.1 h1).1;rw [(CW e1).2] at this; exact this) h1
   | _=>simp at hp
  exact Fb ps (i+1) x.2 vs he.2 e2 p hp
theorem aa4 (S:dp P c g w U sr a) (hs:¬ U site) {m:au} {x:iH m.ps} {vs:List ag} {y:bZ (RK.bw m.rs++PK.outs m.ps)} {os:List (Nat×Option dD)} (bF:xM m.ps m.rs=true)
  (eK:(n_ sr m.ps vs).Nodup) (hx:mG sr (xL sr m.rs (n_ sr m.ps vs)) m.ps vs=some x) (ho:sA sr site 0 m.ps vs (gi site 0 m.rs (PK.outs m.ps) y).2.2=some os)
  {v:Value} {g1:Gh} {w':World} (E:ym (jd sr g (m.rs.any vE) (ei 0 m.ps vs)) w site m y v g1 w') :
  ∃ g',dL g w U site ⟨match (gi site 0 m.rs (PK.outs m.ps) y).1 with | [v]=>v | vs=>.gN vs,(gi site 0 m.rs (PK.outs m.ps) y).2.1++os⟩ v w' g' (U' U site):=by
 unfold xM at bF;simp only [aw] at bF;obtain ⟨⟨⟨⟨⟨⟨⟨⟨pA,E5⟩,yp⟩,wm⟩,wo⟩,SC⟩,SU⟩,SV⟩,um⟩:=bF;have yp:=gh yp;have wm:=gh wm;have wv:20≤site:=by
  rcases jP site 20 with h | h
  ·exact absurd (S.nr site h) hs
  exact h
 obtain ⟨V,hV⟩:=aa2 m.ps 0 _ um E.outs
 let SH:=m.rs.any vE
 let l:=ei 0 m.ps vs
 rw [Iy m.ps vs 0 pA] at eK;obtain ⟨Mu,SW,IJ⟩:=SS (Mf m.ps x vs 0 um hx) eK;have Mv:∀ i id,look l i=some id→i / 1024<15:=fun i id h=>by have:=Me m.ps x vs 0 um hx _ (ky h);simp only at this; omega
 have iz:∀ p∈ei 0 m.ps vs,look l p.1=some p.2:=fun p hp=>(Mu p hp).1;have CZ:∀ b o,g.lab b o=none→(jd sr g SH l).lab b o=none:=fun b o h=>IA h;have Fc:∀ b o,tW (jd sr g SH l) b o→∃ id p i,g.lab b o=some (id,p)∧look (swp l) id=some i:=by
  rintro b o ⟨id,p,h1,h2⟩;cases hg:g.lab b o with
  | none=>rw [CZ b o hg] at h1; simp at h1
  | some q=>
   obtain ⟨az,p'⟩:=q;cases hw:look (swp l) az with
   | some i=>exact ⟨az,p',i,rfl,hw⟩
   | none=>
    rw [E8 hg hw] at h1;cases uw:SH with
    | true=>rw [uw] at h1; simp at h1; obtain ⟨rfl,-⟩:=h1; exact absurd rfl h2
    | false=>rw [uw] at h1; simp at h1
 let g':=iL g g1 site l V
 have aa5:∀ b o id p,g.lab b o=some (id,p)→look (swp l) id=none→b<w.heap.size→g'.lab b o=some (id,p):=by
  intro b o id p hg hw hb;cases uw:SH with
  | true=>
   have cC:(jd sr g SH l).lab b o=some (19*1024,[]):=by rw [E8 hg hw,uw]
   have iJ:=E.n9 b o (19*1024) [] cC rfl;have aa6:look l (19*1024)=none:=by
    cases h:look l (19*1024) with
    | none=>rfl
    | some id=>
     have:=Mv (19*1024) id h;rw [show 19*1024 / 1024=19 from rfl] at this; omega
   show (iL g g1 site l V).lab b o=_;have mO:¬ 19*1024 / 1024=site:=fun e=>by rw [show 19*1024 / 1024=19 from rfl] at e; omega
   simp only [iL,iJ,hg,mO,if_false,aa6]
  | false=>
   have cC:(jd sr g SH l).lab b o=none:=by rw [E8 hg hw,uw]
   have iJ:g1.lab b o=none:=by
    cases h:g1.lab b o with
    | none=>rfl
    | some q=>exact absurd cC (E.cB b o q hb h)
   show (iL g g1 site l V).lab b o=_;simp only [iL,iJ,hg,hw]
 have aa7:∀ b o id p,g1.lab b o=some (id,p)→id / 1024=site→g'.lab b o=some (id,p):=by intro b o id p h1 h2;show (iL g g1 site l V).lab b o=_;simp only [iL,h1,h2,if_true]
 have aa8:∀ i id b o p,look l i=some id→g1.lab b o=some (i,p)→g'.lab b o=some (id,p):=by intro i id b o p h1 h2;have:=Mv i id h1;show (iL g g1 site l V).lab b o=_;simp only [iL,h2];rw [if_neg (by omega),h1]
 have hU:∀ s,U' gE site s→U' U site s:=by
  rintro s (h | h)
  ·exact .inl (S.nr s h)
  exact .inr h
 have hdS:∀ id ver p,id / 1024=site→g'.hd id ver p=g1.hd id ver p:=by intro id ver p h;show (iL g g1 site l V).hd id ver p=_;simp [iL,h]
 have SX:∀ id ver p,U (id / 1024)→U ver→g'.hd id ver p=g.hd id ver p:=by intro id ver p h1 h2;show (iL g g1 site l V).hd id ver p=_;simp only [iL];rw [if_neg (fun e:id / 1024=site=>hs (e▸h1)),if_neg (fun e:ver=site=>hs (e▸h2))]
 have aa9:m.rs.any vE=true→∀ b o,g1.lab b o=none→g'.lab b o=none:=by
  intro uw b o h1;cases hg:g.lab b o with
  | none=>
   show (iL g g1 site l V).lab b o=_;simp only [iL,h1,hg]
  | some q=>
   obtain ⟨id,p⟩:=q;cases hw:look (swp l) id with
   | some i=>
    show (iL g g1 site l V).lab b o=_;simp only [iL,h1,hg,hw]
   | none=>
    have cC:(jd sr g SH l).lab b o=some (19*1024,[]):=by rw [E8 hg hw,show SH=true from uw]
    rw [E.n9 b o (19*1024) [] cC rfl] at h1;simp at h1
 obtain ⟨SY,aba⟩:=SP (g:=g1) (g1:=g) (g':=iL g g1 site l V) (U:=U) (U':=U' U site) (w:=w') (st:=sr) (site:=site) (l:=l) (V:=V) (.inl S.u0) (.inr rfl) (fun s h=>.inl h)
  (fun i id h=>by
   have hu:U (id / 1024):=by
    obtain ⟨p,hp,e⟩:∃ p∈l,p=(i,id):=⟨_,ky h,rfl⟩
    subst e;obtain ⟨az,kx⟩:=Fb m.ps 0 x vs pA hx _ hp;exact (S.aX id _ kx).1
   rw [show (iL g g1 site l V).hd id 0 []=_ from SX id 0 [] hu S.u0,E.par i (by have:=Mv i id h; omega),Mg h];rfl)
  (fun i id q h=>by
   have hu:U (id / 1024):=by obtain ⟨az,kx⟩:=Fb m.ps 0 x vs pA hx _ (ky h);exact (S.aX id _ kx).1
   have aA:¬ id / 1024=site:=fun e=>hs (e▸hu);have h2:look (swp l) id=some i:=SW i id h;simp only [iL,aA,if_false,if_true,h2])
  (fun i id b o p h1 h2=>aa8 i id b o p h1 h2)
  m.ps 0 0 x vs _ os pA SV hx ho iz hV
 have vW:=fun bI=>SN (g:=g1) (g':=g') (w:=w') (U:=U' gE site) (U':=U' U site) (site:=site) (.inl S.u0) (.inr rfl) hU hdS (fun b o id p h1 h2=>aa7 b o id p h1 h2)
  m.rs 0 (PK.outs m.ps) y bI E5 SU wo rfl (by omega) aa9
 have hT:∀ id,(look ((gi site 0 m.rs (PK.outs m.ps) y).2.1++os) id).isSome=true→id / 1024=site∨∃ i,look l i=some id:=by
  intro id h;rw [iK] at h;cases hq:look (gi site 0 m.rs (PK.outs m.ps) y).2.1 id with
  | some oo=>exact .inl ((vW []).2 id oo hq).1
  | none=>
   rw [hq] at h;cases ka:look os id with
   | none=>rw [ka] at h; simp at h
   | some oo=>
    obtain ⟨-,⟨i,hi⟩,-⟩:=SY id oo ka;exact .inr ⟨i,iz _ hi⟩
 have EI:∀ i id,look l i=some id→(look ((gi site 0 m.rs (PK.outs m.ps) y).2.1++os) id).isSome=true:=by
  intro i id h;rw [iK];cases hq:look (gi site 0 m.rs (PK.outs m.ps) y).2.1 id with
  | some oo=>rfl
  | none=>exact (aba _ (ky h)).1
 refine ⟨g',⟨⟨fun s h=>.inl h,SX,fun b o hl v hv=>?_,fun b o id p hl tY=>?_⟩,?_,fun id ob h=>?_,fun s h=>h,fun b o q h=>?_,fun b o q hb h=>?_,?_,fun id h=>?_⟩⟩
 ·obtain ⟨h1,h2⟩:=E.shr b o (CZ b o hl) v hv;refine ⟨h1,?_⟩;show (iL g g1 site l V).lab b o=_;simp only [iL,h2,hl]
 ·have hw:look (swp l) id=none:=by
   cases h:look (swp l) id with
   | none=>rfl
   | some i=>exact absurd (EI i id (IJ i id h)) tY
  have hb:=S.b9 b o _ hl;refine ⟨aa5 b o id p hl hw hb,Fr.cell E.fr hb (fun hm=>?_)⟩;obtain ⟨az,p',i,h1,h2⟩:=Fc b o hm;rw [hl] at h1;simp only [aF,bE] at h1;obtain ⟨rfl,rfl⟩:=h1;rw [hw] at h2; simp at h2
 ·have hv:=E.val;revert hv;have wx:=fun bI=>(vW bI).1;revert wx;generalize (gi site 0 m.rs (PK.outs m.ps) y).1=rl;intro wx hv
  match rl,wx,hv with
  | [],wx,hv=>
   obtain ⟨bI,e,h⟩:=hv;exact ⟨bI,e,wx bI h⟩
  | [a1],wx,hv=>
   obtain ⟨x',r',e,h1,-⟩:=wx [v] ⟨v,[],rfl,hv,rfl⟩;simp only [Is] at e;rw [e.1]; exact h1
  | a1::a2::rl,wx,hv=>
   obtain ⟨bI,e,h⟩:=hv;exact ⟨bI,e,wx bI h⟩
 ·replace h:look ((gi site 0 m.rs (PK.outs m.ps) y).2.1++os) id=some (some ob):=h;rw [iK] at h;cases hq:look (gi site 0 m.rs (PK.outs m.ps) y).2.1 id with
  | some oo=>
   rw [hq] at h;simp only [aF] at h;subst h;obtain ⟨h1,uh,h2,h3⟩:=(vW []).2 id _ hq;simp only [aF] at h2;subst h2;exact ⟨by rw [h1]; exact .inr rfl,h3 (E.aX id ob hq).2⟩
  | none=>
   rw [hq] at h;obtain ⟨-,-,uh,h2,h3⟩:=SY id _ h;simp only [aF] at h2;subst h2;exact h3 w S.aX
 ·cases h1:g1.lab b o with
  | some q'=>exact E.b9 b o q' h1
  | none=>
   cases hg:g.lab b o with
   | some q'=>exact nk (S.b9 b o q' hg) E.fr.size
   | none=>
    have:g'.lab b o=none:=by show (iL g g1 site l V).lab b o=_;simp only [iL,h1,hg]
    rw [this] at h; simp at h
 ·intro hg;have cC:=CZ b o hg;have h1:g1.lab b o=none:=by
   cases h1:g1.lab b o with
   | none=>rfl
   | some q'=>exact absurd cC (E.cB b o q' hb h1)
  have:g'.lab b o=none:=by show (iL g g1 site l V).lab b o=_;simp only [iL,h1,hg]
  rw [this] at h; simp at h
 ·refine E.fr.mono (fun b o hb hm=>?_);obtain ⟨id,p,i,h1,h2⟩:=Fc b o hm;obtain ⟨az,kx⟩:=Fb m.ps 0 x vs pA hx _ (ky (IJ i id h2));exact ⟨id,p,h1,S.nf id (by rw [kx]; simp)⟩
 rcases hT id h with h | ⟨i,h⟩
 ·omega
 obtain ⟨az,kx⟩:=Fb m.ps 0 x vs pA hx _ (ky h);exact S.nf id (by rw [kx]; simp)
theorem abb {f:Operand} {args:Array Operand} {ts:Array TypeId} (aH:o.op = .call ⟨.value f,args,ts⟩) {je:Nat} {sT:List Value} (vY:a.eval f = .func (.func je) #[] sT.toArray) (hg:dh P je) :
  (execOp a.eval o).run P w = .ok (.enter je (args.toList.map a.eval++sT).toArray) w:=by
 obtain ⟨fn,wy,Fe,yv⟩:=hg;unfold execOp;rw [aH];simp only [resolve,vY,Deferred.ofValue,invoke,callFunc];have Ff:¬ fn.name = "runtime.NumGoroutine" :=by simpa using Fe
 have Fg:¬ fn.body=none:=by intro hh; rw [hh] at yv; simp at yv
 simp [wy,Ff,Fg]
theorem abc {je:Nat} (hP:IF P je∧dh P je) (S:dp P c g w U sr a) (hs:¬ U site) {f:Operand} {args:Array Operand} {ts:Array TypeId} (aH:o.op = .call ⟨.value f,args,ts⟩) {caps:List ag} (hf:sr.ev f = .fn je caps)
  (e:Cc sr site (args.toList.map sr.ev++caps) k=some r):∃ bq,k bq=some r∧ny P g w U site o a bq:=by
 have yw:=S.ev f;rw [hf] at yw;obtain ⟨sT,vY,fu⟩:=yw;have pt:cu g w U (args.toList.map sr.ev++caps) (args.toList.map a.eval++sT):=by
  refine II ?_ fu;have:∀ l:List Operand,cu g w U (l.map sr.ev) (l.map a.eval):=by
   intro l;induction l with
   | nil=>rfl
   | cons x l ih=>exact ⟨_,_,rfl,S.ev x,ih⟩
  exact this _
 generalize hA:args.toList.map sr.ev++caps=A at e pt;have hex:=abb (w:=w) aH vY hP.2;generalize args.toList.map a.eval++sT=V at pt hex;unfold Cc at e;split at e
 ·rename_i id;split at e
  ·rename_i op _ bD;obtain ⟨h0,b,o',dA,kq⟩:=(S.aX id _ bD).2;obtain ⟨x,rr,rfl,hx,hrr⟩:=pt;obtain rfl:rr=[]:=hrr;obtain ⟨hu,hu0,b1,o1,Mw,rfl⟩:=hx;rw [dA] at Mw;simp only [aF,bE] at Mw;obtain ⟨rfl,rfl⟩:=Mw;have hc:w.cell? (ad b o')=some (.int .i64 op):=by obtain ⟨_,_,v,hv,hr⟩:=kq 0 (by simp);obtain rfl:v = .int .i64 op:=hr;simpa using hv
   have p:∀ j,aV g w U (.bn id j) (.pointer (some (ad b (o'+j)))):=fun j=>⟨hu,hu0,b,o',by rw [dA],rfl⟩
   split at e
   ·rename_i hk;refine ⟨_,e,fun next Q hn=>?_⟩;unfold CT;rw [hex,CS];refine A1 (hP.1.a w b o' op hc hk) (fun en w' h=>?_);obtain ⟨rfl,t,B⟩:=h;obtain ⟨g',U',hp⟩:=Cw S hs B (cs:=[.bn id 1,.bn id 2]) ⟨_,_,rfl,p 1,_,_,rfl,p 2,rfl⟩ (x:=.fB (site*1024) 0 2 1) (v:=.slice (some (ad w.heap.size 0)) 2 2)
     (fun g' hg=>⟨.inr (j9 site),.inl S.u0,_,2,rfl,cj _,by rw [hg]; rfl,w.heap.size,0,by rw [hg],fun _=>rfl⟩)
    exact hn _ _ _ _ hp
   rename_i qh;split at e
   ·rename_i hk;refine ⟨_,e,fun next Q hn=>?_⟩;unfold CT;rw [hex,CS];refine A1 (hP.1.b w b o' op hc hk) (fun en w' h=>?_);obtain ⟨rfl,t,B⟩:=h;obtain ⟨g',U',hp⟩:=Cw S hs B (cs:=[.bn id 1,.bn id 2,.bn id 3]) ⟨_,_,rfl,p 1,_,_,rfl,p 2,_,_,rfl,p 3,rfl⟩ (x:=.fB (site*1024) 0 3 1) (v:=.slice (some (ad w.heap.size 0)) 3 3)
     (fun g' hg=>⟨.inr (j9 site),.inl S.u0,_,3,rfl,cj _,by rw [hg]; rfl,w.heap.size,0,by rw [hg],fun _=>rfl⟩)
    exact hn _ _ _ _ hp
   rename_i rh;split at e
   ·rename_i hk;refine ⟨_,e,fun next Q hn=>?_⟩;unfold CT;rw [hex,CS];refine A1 (hP.1.c w b o' op hc hk) (fun en w' h=>?_);obtain ⟨rfl,t,B⟩:=h;obtain ⟨g',U',hp⟩:=Cw S hs B (cs:=[.bn id 2]) ⟨_,_,rfl,p 2,rfl⟩ (x:=.fB (site*1024) 0 1 1) (v:=.slice (some (ad w.heap.size 0)) 1 1)
     (fun g' hg=>⟨.inr (j9 site),.inl S.u0,_,1,rfl,cj _,by rw [hg]; rfl,w.heap.size,0,by rw [hg],fun _=>rfl⟩)
    exact hn _ _ _ _ hp
   rename_i hk3;refine ⟨_,e,fun next Q hn=>?_⟩;unfold CT;rw [hex,CS];refine A1 (hP.1.n w b o' op hc qh rh hk3) (fun en w' h=>?_);obtain ⟨rfl,rfl⟩:=h;exact hn _ _ _ _ (dL.same S.b9 rfl)
  simp at e
 simp at e
theorem abd (hC:Fa P c) (S:dp P c g w U sr a) (hs:¬ U site) {f:Operand} {args:Array Operand} {ts:Array TypeId} (aH:o.op = .call ⟨.value f,args,ts⟩) {je:Nat} {caps:List ag} (hf:sr.ev f = .fn je caps)
  (e:Cd c sr site je (args.toList.map sr.ev++caps) k=some r):∃ bq,k bq=some r∧ny P g w U site o a bq:=by
 have yw:=S.ev f;rw [hf] at yw;obtain ⟨sT,vY,fu⟩:=yw;unfold Cd at e;split at e
 ·split at e
  ·rename_i hq;exact abc (hC.2 je hq) S hs aH hf e
  simp at e
 rename_i m x Lj;obtain ⟨pk,hx⟩:=Ms _ _ _ Lj;split at e
 ·simp at e
 rename_i hq;simp only [aw] at hq;obtain ⟨⟨eK,bF⟩,ax⟩:=hq;have eK:=xR.1 eK;obtain ⟨y,hy,e⟩:=Iu.1 e;simp only at e;split at e
 ·rename_i hos;refine ⟨_,e,fun next Q hn=>?_⟩;have SZ:=hC.1 _ m pk;rw [Yw ax] at SZ;obtain ⟨hS,fn,wy,Fe,yv⟩:=SZ;have wv:20≤site:=by
   rcases jP site 20 with h | h
   ·exact absurd (S.nr site h) hs
   exact h
  have A5:=bF;unfold xM at A5;simp only [aw] at A5;obtain ⟨⟨⟨⟨⟨⟨⟨⟨pA,E5⟩,yp⟩,wm⟩,wo⟩,SC⟩,SU⟩,SV⟩,um⟩:=A5;have wm:=gh wm;have pt:cu g w U (args.toList.map sr.ev++caps) (args.toList.map a.eval++sT):=by
   refine II ?_ fu;have:∀ l:List Operand,cu g w U (l.map sr.ev) (l.map a.eval):=by
    intro l;induction l with
    | nil=>rfl
    | cons x l ih=>exact ⟨_,_,rfl,S.ev x,ih⟩
   exact this _
  let vs:=args.toList.map sr.ev++caps
  have S_:=eK;rw [Iy m.ps vs 0 pA] at S_;obtain ⟨Mu,SW,IJ⟩:=SS (Mf m.ps x vs 0 um hx) S_;have hD:∀ id,(xL sr m.rs (n_ sr m.ps vs)).obj id≠none→∀ b o p,g.lab b o=some (id,p)→(jd sr g (m.rs.any vE) (ei 0 m.ps vs)).lab b o=none:=by
   intro id hid b o p hl;cases bD:(xL sr m.rs (n_ sr m.ps vs)).obj id with
   | none=>exact absurd bD hid
   | some ob=>
    obtain ⟨h1,h2,h3⟩:=SR bD;rw [E8 hl,h1];cases hw:look (swp (ei 0 m.ps vs)) id with
    | none=>rfl
    | some i=>
     refine absurd ?_ h2;rw [Iy m.ps vs 0 pA];exact kb.2 ⟨_,ky (IJ i id hw),rfl⟩
  have hOr:fq g w U (xL sr m.rs (n_ sr m.ps vs)):=by intro id ob bD;exact S.aX id ob (SR bD).2.2
  obtain ⟨en1,en2⟩:=SK (SH:=m.rs.any vE) (l:=ei 0 m.ps vs) S.aX hOr (fun b o h=>IA h) hD m.ps 0 x vs _ pA um (by omega) hx pt Mu;have hC2:=hS x y hy bF site wv _ w _ ⟨en1,en2,fun b o q h=>?_⟩ (S.gl.mono (Fr.refl _ _) (fun b o _ h=>IA h))
  ·have hex:(execOp a.eval o).run P w = .ok (.enter je (args.toList.map a.eval++sT).toArray) w:=by
    unfold execOp;rw [aH];simp only [resolve,vY,Deferred.ofValue,invoke,callFunc];have Ff:¬ fn.name = "runtime.NumGoroutine" :=by simpa using Fe
    have Fg:¬ fn.body=none:=by intro hh; rw [hh] at yv; simp at yv
    simp [wy,Ff,Fg]
   unfold CT;rw [hex,CS];refine A1 hC2 (fun en w' h=>?_);obtain ⟨v,g1,rfl,E⟩:=h;obtain ⟨g',hp⟩:=aa4 S hs bF eK hx hos E;exact hn _ _ _ _ hp
  cases hg:g.lab b o with
  | none=>rw [IA hg] at h; simp at h
  | some q'=>exact S.b9 b o q' hg
 simp at e
end
end Go.Am
namespace Go.Am
open Go
def Fh (l:List Value):Act:={ tmps:=l.toArray,defers:=[] }
theorem IK (l:List Value) (t:Nat):(Fh l).eval (.tmp t)=l.getD t undef:=by simp [Fh,Act.eval,lY]
theorem Fj:∀ (l:List ag) (n t:Nat),look (number n l) t=if n≤t then l[t-n]? else none
 | [],n,t=>by simp [number,look]
 | v::l,n,t=>by
  simp only [number];rw [dM,Fj l];by_cases h:n=t
  ·subst h; simp
  rw [if_neg h];by_cases h2:n≤t
  ·rw [if_pos (by omega),if_pos h2];have:t-n=(t-(n+1))+1:=by omega
   rw [this,D_]
  rw [if_neg (by omega),if_neg h2]
structure IL (g:Gh) (w:World) (lb:LA) (y:lb.LT) (bI:List Value) (gf:Gh) (Uf:Nat→Prop) (stf:St) (w':World):Prop where
 aX:fq gf w' Uf stf
 env:∀ t v,look stf.env t=some v→aV gf w' Uf v ((Fh bI).eval (.tmp t))
 len:bI.length=lb.cy.length
 rd:lb.KF stf=some y
 par:∀ n,n / 1024<15→gf.hd n 0 []=g.hd n 0 []
 shr:∀ b o,g.lab b o=none→∀ v,w.cell? (ad b o)=some v→w'.cell? (ad b o)=some v∧gf.lab b o=none
 n9:∀ b o id p,g.lab b o=some (id,p)→id / 1024=19→gf.lab b o=some (id,p)
 b9:∀ b o q,gf.lab b o=some q→b<w'.heap.size
 cB:∀ b o q,b<w.heap.size→gf.lab b o=some q→g.lab b o≠none
 fr:Fr (tW g) w w'
 nf:∀ id,stf.obj id≠none→id / 1024≠19
def pB (P:Program) (f:FuncId) (M:dn):Prop:=
 ∀ (x:M.la.vC Mp) (y:M.lb.LT),M.m x=some y→∀ (g:Gh) (w:World) (args:List Value),args.length=M.la.cy.length→
  (∀ t v,look (M.la.lv x).env t=some v→∃ xv,args[t]? = some xv∧aV g w gE v xv)→
  (∀ id o,(M.la.lv x).obj id=some o→id / 1024<15∧fo g w gE id o)→
  (∀ b o q,g.lab b o=some q→b<w.heap.size)→Gl P g.lab w→
  Calls P f args.toArray w fun e w'=>∃ bI gf Uf stf,e = .returned (sO bI)∧IL g w M.lb y bI gf Uf stf w'
theorem Fk {P:Program} {c:ba} {n:Nat} {f:FuncId} {fn:Func} {an:iw} {M:dn} (HR:A_ P c) (hc:fY P c) (hf:P.funcs[f]? = some fn)
  (hm:∀ x,M.m x=dn.run c n fn an M.la M.lb x):pB P f M:=by
 intro x y hy g w args _ rm CU Mc hG;rw [hm] at hy;unfold dn.run at hy;split at hy
 ·rename_i code hb;split at hy
  ·simp at hy
  rename_i hd;have hd:gS fn.ntmps code=true:=by simpa using hd
  refine calls_of_wp hf hb ?_
  let a0:Act:={ tmps:=args.toArray++uj (fn.ntmps-args.toArray.size) undef,defers:=[] }
  have hN:fn.ntmps≤a0.tmps.size:=by simp [a0]; omega
  have R0:Rel w g.lab a0.tmps.size g gE (M.la.lv x) a0 w:=by
   refine ⟨fun t v h=>?_,fun id o h=>?_,fun s h=>h,Mc,fun b o id p hb hl=>?_,fun b o id p hf jJ=>hf,.refl _ _,rfl,rfl,by show (0:Nat)<20; omega,fun s hs=>hs,fun id h=>?_⟩
   ·obtain ⟨v',h5,h6⟩:=rm t v h;have:a0.eval (.tmp t)=v':=by have ax:t<args.length:=(dV.1 h5).1;have h7:args[t]=v':=(dV.1 h5).2;simp only [Act.eval,a0];simp [lY,Et,ax,h7]
    rw [this]; exact h6
   ·obtain ⟨h1,h2⟩:=CU id o h;exact ⟨by show id / 1024<20; omega,h2⟩
   ·by_cases jJ:id / 1024=19
    ·exact .inl ⟨jJ,hl⟩
    exact .inr ⟨id,p,hl,jJ⟩
   cases ho:(M.la.lv x).obj id with
   | none=>exact absurd ho h
   | some o=>
    have:=(CU id o ho).1;omega
  have ES:gS a0.tmps.size code=true:=wk hN code hd;refine oz HR hG code an _ y (M.la.lv x) _ (bodyPost P fn fun e w'=>∃ bI gf Uf stf,e = .returned (sO bI)∧IL g w M.lb y bI gf Uf stf w') a0 w g gE ES R0 hy (fun ex st' a' w' g1 U1 R1 E1 e1=>?_);have main:(match vK st' (fun t=>((c.ti t).agg,(c.ti t).size)) fn.results.toList with
    | some vs=>(match aM vs.length M.lb.cy.length with
     | true=>M.lb.KF { env:=number 0 vs,heap:=st'.heap,nxt:=st'.nxt }
     | false=>none)
    | none=>none)=some y→a'.defers=[]∧∃ v,(results fn a'.tmps).run P w' = .ok v w'∧∃ bI gf Uf stf,Ending.returned v = .returned (sO bI)∧IL g w M.lb y bI gf Uf stf w':=by
   intro e1;split at e1
   ·rename_i vs eQ;split at e1
    ·rename_i hlen;have hlen:=bm hlen;obtain ⟨bI,mJ,yj⟩:=Iq hc R1.heap R1.env _ _ eQ;have hvl:=mI yj;refine ⟨R1.defers,sO bI,SA mJ,bI,g1,U1,{ env:=number 0 vs,heap:=st'.heap,nxt:=st'.nxt },rfl,fun id o h=>R1.heap id o h,fun t v h=>?_,by omega,e1,fun i hi=>?_,fun b o hl v hv=>?_,fun b o id p hl jJ=>R1.n9 b o id p hl jJ,R1.b9,fun b o q hb h=>?_,R1.fr,fun id h=>R1.nf id h⟩
     ·replace h:look (number 0 vs) t=some v:=h;rw [Fj,if_pos (uk _),It] at h;obtain ⟨h3,h4⟩:=dV.1 h;obtain ⟨x',h5,h6⟩:=lU yj t h3;rw [IK];have:bI.getD t undef=x':=by rw [jN,h5]; rfl
      rw [this,← h4]; exact h6
     ·exact E1.par i (by omega) (by show i / 1024<20; omega)
     ·have hb:=AQ hv;have hm:¬ Eg g.lab b o:=fun ⟨id,p,e,_⟩=>by rw [hl] at e; simp at e
      have hc:=Fr.cell R1.fr hb hm;refine ⟨by rw [hc.1]; exact hv,?_⟩;cases iz:g1.lab b o with
      | none=>rfl
      | some q=>
       obtain ⟨id,p⟩:=q;rcases R1.cB b o id p hb iz with h | h
       ·rw [hl] at h; simp at h
       exact absurd h hm
     obtain ⟨id,p⟩:=q;intro hn;rcases R1.cB b o id p hb h with h | ⟨i',p',h,-⟩
     ·rw [hn] at h; simp at h
     rw [hn] at h; simp at h
    simp at e1
   simp at e1
  cases ex with
  | normal=>exact main e1
  | ret=>exact main e1
  | exit j=>simp at e1
 simp at hy
def lA (g:Gh) (SH:Bool) (hs:List Nat):Gh where
 hd:=g.hd
 lab b o:=match g.lab b o with
  | none=>none
  | some (id,p)=>match SH||hs.any (aM id) with | true=>some (id,p) | false=>none
section
variable {P:Program} {c:ba} {g g1 g' gf:Gh} {w w':World} {U:Nat→Prop} {sr st stf:St} {a:Act} {site:Nat} {o:Oper} {ρ:Type} {r:ρ} {k:cG→Option ρ} {SH:Bool} {hs:List Nat}
theorem Fl {b o:Nat} (h:g.lab b o=none):(lA g SH hs).lab b o=none:=by simp [lA,h]
theorem abe {b o id:Nat} {p:Path} (hi:id∈hs) (h:g.lab b o=some (id,p)):(lA g SH hs).lab b o=some (id,p):=by have:hs.any (aM id)=true:=any_beq.2 hi;simp [lA,h,this]
theorem abf {b o id:Nat} {p:Path} (hS:SH=false) (hi:id∉hs) (h:g.lab b o=some (id,p)):(lA g SH hs).lab b o=none:=by
 have:hs.any (aM id)=false:=by rw [← oA]; exact fun h=>hi (any_beq.1 h)
 simp only [lA,h,hS,this,Bool.or_self]
theorem Mx {b o:Nat} {q:Nat×Path} (h:(lA g SH hs).lab b o=some q):g.lab b o=some q:=by
 simp only [lA] at h;split at h
 ·simp at h
 rename_i e;split at h
 ·rw [e]; exact h
 simp at h
theorem abg {b o:Nat} (hS:SH=true):(lA g SH hs).lab b o=g.lab b o:=by subst hS;simp only [lA,Bool.true_or];cases g.lab b o<;>rfl
theorem abh {v:ag} {x:Value} (h:aV g w U v x):aV (lA g SH hs) w U v x:=
 eJ.tV (T:=fun _=>True) (g:=g) (w:=w) (U:=U) (g':=lA g SH hs) (w':=w) (U':=U) ⟨fun _ h=>h,fun _ _ _ _ _=>rfl,fun b o hl v hv=>⟨hv,Fl hl⟩,fun _ _ _ _ _ hn=>absurd trivial hn⟩ v x h
theorem abi {id:Nat} {ob:dD} (hi:id∈hs) (hu:U (id / 1024)) (h:fo g w U id ob):fo (lA g SH hs) w U id ob:=
 Hx (T:=fun i=>i∉hs) (g:=g) (w:=w) (U:=U) (g':=lA g SH hs) (w':=w) (U':=U) ⟨fun _ h=>h,fun _ _ _ _ _=>rfl,fun b o hl v hv=>⟨hv,Fl hl⟩,fun b o id p hl hn=>⟨abe (Classical.not_not.1 hn) hl,rfl,rfl⟩⟩ (fun h=>h hi) hu ob h
mutual
theorem abj (hO:fq g w U sr) (hL:∀ b o,g.lab b o=none→g1.lab b o=none) (hD:∀ id,sr.obj id≠none→∀ b o p,g.lab b o=some (id,p)→g1.lab b o=none)
  (hV:∀ v x,aV g w U v x→aV g1 w U v x):∀ (s:cx) (v:ag) (x:Value),aV g w U v x→aV g1 w U (QI sr s v) x
 | .sh t,v,x,h=>by
  show aV g1 w U (match p6 sr sr (.val (.sl t)) v with | some x=>.sh t x | none=>v) x;split
  ·rename_i y hy;exact A3 hO hL hD (.val (.sl t)) y v x hy h
  exact hV _ _ h
 | .cZ t,v,x,h=>by
  show aV g1 w U (match p6 sr sr (.val (.bQ t)) v with | some x=>.cZ t x | none=>v) x;split
  ·rename_i y hy;exact A3 hO hL hD (.val (.bQ t)) y v x hy h
  exact hV _ _ h
 | .ga t 0,v,x,h=>by
  show aV g1 w U (match p6 sr sr (.fQ t) v with | some x=>.ga t x 0 | none=>v) x;split
  ·rename_i y hy;exact A3 hO hL hD (.fQ t) y v x hy h
  exact hV _ _ h
 | .ga t (j+1),v,x,h=>hV _ _ h
 | .agg l,v,x,h=>by
  cases v with
  | agg vs=>
   obtain ⟨l',rfl,h'⟩:=h;exact ⟨l',rfl,IM hO hL hD hV l vs l' h'⟩
  | _=>exact hV _ _ h
 | .fn f l,v,x,h=>by
  cases v with
  | fn f' vs=>
   obtain ⟨l',rfl,h'⟩:=h;exact ⟨l',rfl,IM hO hL hD hV l vs l' h'⟩
  | _=>exact hV _ _ h
 | .int _,v,x,h=>hV _ _ h
 | .bool,v,x,h=>hV _ _ h
 | .str,v,x,h=>hV _ _ h
 | .err,v,x,h=>hV _ _ h
 | .own _ _,v,x,h=>hV _ _ h
 | .fK _ _,v,x,h=>hV _ _ h
 | .bn _ _,v,x,h=>hV _ _ h
 | .fb _ _ _,v,x,h=>hV _ _ h
 | .xI _ _ _ _,v,x,h=>hV _ _ h
 | .lP _,v,x,h=>hV _ _ h
theorem IM (hO:fq g w U sr) (hL:∀ b o,g.lab b o=none→g1.lab b o=none) (hD:∀ id,sr.obj id≠none→∀ b o p,g.lab b o=some (id,p)→g1.lab b o=none)
  (hV:∀ v x,aV g w U v x→aV g1 w U v x):∀ (l:List cx) (vs:List ag) (xs:List Value),cu g w U vs xs→cu g1 w U (As sr l vs) xs
 | [],vs,xs,h=>by
  have all:∀ (vs:List ag) (xs:List Value),cu g w U vs xs→cu g1 w U vs xs:=by
   intro vs;induction vs with
   | nil=>intro xs h; exact h
   | cons v vs ih=>rintro xs ⟨y,ys,rfl,h1,h2⟩; exact ⟨y,ys,rfl,hV _ _ h1,ih _ h2⟩
  exact all vs xs h
 | s::l,[],xs,h=>h
 | s::l,v::vs,xs,h=>by obtain ⟨y,ys,rfl,h1,h2⟩:=h;exact ⟨y,ys,rfl,abj hO hL hD hV s v y h1,IM hO hL hD hV l vs ys h2⟩
end
open Classical in
def qu (st:St) (M:Mp) (gL:Gh) (SH:Bool):Gh where
 hd id ver p:=if h:∃ q:Nat×Nat×Nat,look M q.1=some q.2∧id=ck 20 q.1 then
   (if p=[] then ef gL h.choose.2.1 h.choose.2.2 else if h.choose.2.2=0 then gL.hd h.choose.2.1 (qn st h.choose.2.1) p else dX)
  else dX
 lab b o:=match gL.lab b o with
  | none=>none
  | some (id,p)=>if h:∃ k d,look M k=some (id,d)∧id≠cO then some (ck 20 h.choose,p) else (match SH with | true=>some (19*1024,[]) | false=>none)
variable {M M' mp:Mp} {gL:Gh}
theorem My (hM:∀ k a d,look M k=some (a,d)→k<15) {k a d:Nat} (hk:look M k=some (a,d)) (ver:Nat) (p:Path) :
  (qu st M gL SH).hd (ck 20 k) ver p=if p=[] then ef gL a d else if d=0 then gL.hd a (qn st a) p else dX:=by
 have hex:∃ q:Nat×Nat×Nat,look M q.1=some q.2∧ck 20 k=ck 20 q.1:=⟨(k,a,d),hk,rfl⟩
 simp only [qu,dif_pos hex];have hs:=hex.choose_spec;have e:hex.choose=(k,a,d):=by generalize hex.choose=q at hs;obtain ⟨k',a',d'⟩:=q;have e:=Sb (cj 20) (fun _=>by have:=hM _ _ _ hk; omega) (fun _=>by have:=hM _ _ _ hs.1; omega) hs.2;subst e;have h1:=hs.1;simp only [hk,aF] at h1;rw [h1]
 rw [e]
theorem Fm {b o:Nat} (h:gL.lab b o=none):(qu st M gL SH).lab b o=none:=by simp [qu,h]
theorem abk (hI:lz M) {k a d b o:Nat} {p:Path} (hk:look M k=some (a,d)) (aA:a≠cO) (hl:gL.lab b o=some (a,p)):(qu st M gL SH).lab b o=some (ck 20 k,p):=by
 have hex:∃ k d,look M k=some (a,d)∧a≠cO:=⟨k,d,hk,aA⟩
 simp only [qu,hl,dif_pos hex];obtain ⟨d',h1,h2⟩:=hex.choose_spec;rw [hI _ _ _ _ _ h1 hk aA]
theorem Mz {b o id:Nat} {p:Path} (hl:gL.lab b o=some (id,p)) (qj:¬ ∃ k d,look M k=some (id,d)∧id≠cO) :
  (qu st M gL SH).lab b o=match SH with | true=>some (19*1024,[]) | false=>none:=by
 simp only [qu,hl,dif_neg qj]
theorem S0 {b o:Nat} {q:Nat×Path} (h:(qu st M gL SH).lab b o=some q):∃ q',gL.lab b o=some q':=by
 cases hl:gL.lab b o with
 | none=>rw [Fm hl] at h; simp at h
 | some q'=>exact ⟨q',rfl⟩
open Classical in
def dS (g gf:Gh) (stf:St) (mp M':Mp) (site:Nat) (hide:Bool):Gh where
 hd n ver s:=if h:(n / 1024=site∨ver=site)∧∃ q:Nat×Nat×Nat,look M' q.1=some q.2∧n=dt mp site q.1 then
   (if s=[] then ef gf h.2.choose.2.1 h.2.choose.2.2 else if h.2.choose.2.2=0 then gf.hd h.2.choose.2.1 (qn stf h.2.choose.2.1) s else dX)
  else g.hd n ver s
 lab b o:=match gf.lab b o with
  | some (a',p)=>if h:∃ k d,look M' k=some (a',d)∧a'≠cO then some (dt mp site h.choose,p) else (match g.lab b o with | some q=>some q | none=>some (site*1024+1023,[]))
  | none=>match hide with
   | true=>none
   | false=>match g.lab b o with
    | some (id,p)=>if (∃ k d,look mp k=some (id,d)∧id≠cO) then none else some (id,p)
    | none=>none
theorem S3 {hide:Bool} (hJ:∀ k1 k2 a1 a2,look M' k1=some a1→look M' k2=some a2→dt mp site k1=dt mp site k2→k1=k2) {k a d ver:Nat} (hk:look M' k=some (a,d)) (hv:dt mp site k / 1024=site∨ver=site) (p:Path) :
  (dS g gf stf mp M' site hide).hd (dt mp site k) ver p=if p=[] then ef gf a d else if d=0 then gf.hd a (qn stf a) p else dX:=by
 have hex:(dt mp site k / 1024=site∨ver=site)∧∃ q:Nat×Nat×Nat,look M' q.1=some q.2∧dt mp site k=dt mp site q.1:=⟨hv,(k,a,d),hk,rfl⟩
 simp only [dS,dif_pos hex];have hs:=hex.2.choose_spec;have e:hex.2.choose=(k,a,d):=by generalize hex.2.choose=q at hs;obtain ⟨k',a',d'⟩:=q;have e:=hJ _ _ _ _ hk hs.1 hs.2;subst e;have h1:=hs.1;simp only [hk,aF] at h1;rw [h1]
 rw [e]
theorem S4 {hide:Bool} {n ver:Nat} (h1:n / 1024≠site) (h2:ver≠site) (p:Path):(dS g gf stf mp M' site hide).hd n ver p=g.hd n ver p:=by
 simp only [dS];rw [dif_neg];rintro ⟨h | h,-⟩
 ·exact h1 h
 exact h2 h
theorem abl {hide:Bool} (hI:lz M') {k a d b o:Nat} {p:Path} (hk:look M' k=some (a,d)) (aA:a≠cO) (hl:gf.lab b o=some (a,p)):(dS g gf stf mp M' site hide).lab b o=some (dt mp site k,p):=by
 have hex:∃ k d,look M' k=some (a,d)∧a≠cO:=⟨k,d,hk,aA⟩
 simp only [dS,hl,dif_pos hex];obtain ⟨d',h1,h2⟩:=hex.choose_spec;rw [hI _ _ _ _ _ h1 hk aA]
theorem MA {b o:Nat} (hl:gf.lab b o=none):(dS g gf stf mp M' site true).lab b o=none:=by simp [dS,hl]
theorem IN {b o:Nat} (hl:gf.lab b o=none) (hg:g.lab b o=none):(dS g gf stf mp M' site false).lab b o=none:=by simp [dS,hl,hg]
theorem abm {b o id:Nat} {p:Path} (hl:gf.lab b o=none) (hg:g.lab b o=some (id,p)) (hn:¬ ∃ k d,look mp k=some (id,d)∧id≠cO):(dS g gf stf mp M' site false).lab b o=some (id,p):=by simp only [dS,hl,hg,if_neg hn]
theorem abn {b o id:Nat} {p:Path} (hl:gf.lab b o=none) (hg:g.lab b o=some (id,p)) (hn:∃ k d,look mp k=some (id,d)∧id≠cO):(dS g gf stf mp M' site false).lab b o=none:=by simp only [dS,hl,hg,if_pos hn]
theorem abo {hide:Bool} {b o a':Nat} {p:Path} {q:Nat×Path} (hl:gf.lab b o=some (a',p)) (hn:¬ ∃ k d,look M' k=some (a',d)∧a'≠cO) (hg:g.lab b o=some q):(dS g gf stf mp M' site hide).lab b o=some q:=by simp only [dS,hl,dif_neg hn,hg]
mutual
theorem MB {L':bW} {nm:Nat→Nat} {vr:Nat} : ∀ (s:cx) {q:Type} (y:s.LT q) (x:Value),s.jR=false→aV g w U (reflect nm vr s y).1 x→aV ⟨g.hd,L'⟩ w U (reflect nm vr s y).1 x
 | .int _,_,_,_,_,h=>h
 | .bool,_,_,_,_,h=>h
 | .str,_,_,_,_,h=>h
 | .err,_,_,_,_,h=>h
 | .sh _,_,_,_,hs,_=>by simp [cx.jR] at hs
 | .cZ _,_,_,_,hs,_=>by simp [cx.jR] at hs
 | .ga _ _,_,_,_,hs,_=>by simp [cx.jR] at hs
 | .own _ _,_,_,_,_,h=>h
 | .fK _ _,_,_,_,_,h=>h
 | .bn _ _,_,_,_,_,h=>h
 | .fb _ _ _,_,_,_,_,h=>h
 | .xI _ _ _ _,_,_,_,_,h=>h
 | .agg l,_,y,x,hs,h=>by obtain ⟨l',e,h'⟩:=h;exact ⟨l',e,IP l y l' (by simpa [cx.jR] using hs) h'⟩
 | .fn f l,_,y,x,hs,h=>by obtain ⟨l',e,h'⟩:=h;exact ⟨l',e,IP l y l' (by simpa [cx.jR] using hs) h'⟩
 | .lP v,_,_,x,hs,h=>by
  have:B1 v v=true:=by simpa [cx.jR] using hs
  exact R8 this h
theorem IP {L':bW} {nm:Nat→Nat} {vr:Nat} : ∀ (l:List cx) {q:Type} (y:cx.xJ l q) (xs:List Value),cx.sw l=false→cu g w U (nX nm vr l y).1 xs→cu ⟨g.hd,L'⟩ w U (nX nm vr l y).1 xs
 | [],_,_,_,_,h=>h
 | s::l,_,y,xs,hs,h=>by obtain ⟨x,r,e,h1,h2⟩:=h;simp only [cx.sw,oB] at hs;exact ⟨x,r,e,MB s y x hs.1 h1,IP l _ r hs.2 h2⟩
end
theorem abp {L':bW} {nm:Nat→Nat} {vr id:Nat} (cW:∀ b o p,g.lab b o=some (id,p)→L' b o=some (id,p)):∀ (s:lu) {q:Type} (y:s.LT q),s.jR=false→
  fo g w U id (nY nm vr s y).1→fo ⟨g.hd,L'⟩ w U id (nY nm vr s y).1
 | .row own t,_,y,hs,h=>by simp only [lu.jR,oB,Bool.not_eq_false'] at hs;obtain ⟨rfl,hn⟩:=hs;obtain ⟨h1,h2,h3⟩:=h;exact ⟨h1,h2,Mi (g:=g) (g':=⟨g.hd,L'⟩) rfl (fun _ _=>rfl) cW hn h3⟩
 | .cells ro l,_,y,hs,h=>by
  obtain ⟨h0,b,o,hh,hc⟩:=h;have eQ:cu g w U (nX nm vr l y).1 ((List.range (nX nm vr l y).1.length).map fun k=>(w.cell? (ad b (o+k))).getD undef):=by refine vN (by simp) (fun k hk cr=>?_);obtain ⟨-,-,v,h5,h6⟩:=hc k hk;simp [h5]; exact h6
  have Ie:=IP (L':=L') l y _ hs eQ;refine ⟨h0,b,o,hh,fun k hk=>?_⟩;obtain ⟨h1,h2,v,h3,h4⟩:=hc k hk;refine ⟨cW _ _ _ h1,h2,v,h3,?_⟩;obtain ⟨x,hx,hr⟩:=lU Ie k hk;have rh:k<(nX nm vr l y).1.length:=hk;simp [rh,h3] at hx;subst hx;exact hr
theorem abq {L':bW} {nm:Nat→Nat} {vr:Nat} {ev:Nat→Value} : ∀ (l:List (Nat×cx)) {q:Type} (y:tM l q),cx.sw (l.map (·.2))=false→
  (∀ t v,look (cT nm vr l y).1 t=some v→aV g w U v (ev t))→∀ t v,look (cT nm vr l y).1 t=some v→aV ⟨g.hd,L'⟩ w U v (ev t)
 | [],_,y,_,_,t,v,h=>by simp [cT,look] at h
 | (i,s)::l,_,y,hs,hh,t,v,h=>by
  simp only [mL,cx.sw,oB] at hs;replace h:look ((i,(reflect nm vr s y).1)::(cT nm vr l (reflect nm vr s y).2).1) t=some v:=h;have S5:=hh t v h;rw [dM] at h;split at h
  ·rename_i hi;simp only [aF] at h;subst h;exact MB s y _ hs.1 S5
  rename_i hi;have go:∀ (l:List (Nat×cx)) {q:Type} (y:tM l q),cx.sw (l.map (·.2))=false→look (cT nm vr l y).1 t=some v→aV g w U v (ev t)→aV ⟨g.hd,L'⟩ w U v (ev t):=by
   intro l;induction l with
   | nil=>intro q y _ h; simp [cT,look] at h
   | cons p l ih=>
    obtain ⟨i,s⟩:=p;intro q y hs h hv;simp only [mL,cx.sw,oB] at hs;replace h:look ((i,(reflect nm vr s y).1)::(cT nm vr l (reflect nm vr s y).2).1) t=some v:=h;rw [dM] at h;split at h
    ·simp only [aF] at h;subst h;exact MB s y _ hs.1 hv
    exact ih _ hs.2 h hv
  exact go l _ hs.2 h S5
theorem S6 {L':bW} {nm:Nat→Nat} {vr:Nat} {id:Nat} {ob:dD} (cW:∀ b o p,g.lab b o=some (id,p)→L' b o=some (id,p)):∀ (l:List (Nat×lu)) {q:Type} (y:vA l q),l.any (fun p=>p.2.jR)=false→
  look (fc nm vr l y).1 id=some (some ob)→fo g w U id ob→fo ⟨g.hd,L'⟩ w U id ob
 | [],_,y,_,h,_=>by simp [fc,look] at h
 | (i,s)::l,_,y,hs,h,hr=>by
  simp only [List.any_cons,oB] at hs;replace h:look ((nm i,some (nY nm vr s y).1)::(fc nm vr l (nY nm vr s y).2).1) id=some (some ob):=h;rw [dM] at h;split at h
  ·simp only [aF] at h;subst h;exact abp cW s y hs.1 hr
  exact S6 cW l _ hs.2 h hr
theorem S7 {nm:Nat→Nat} {vr:Nat} : ∀ (l:List (Nat×lu)) {q:Type} (y:vA l q) (p:Nat×lu),p∈l→(look (fc nm vr l y).1 (nm p.1)).isSome=true
 | [],_,y,p,h=>by simp at h
 | (i,s)::l,_,y,p,h=>by
  show (look ((nm i,some (nY nm vr s y).1)::(fc nm vr l (nY nm vr s y).2).1) (nm p.1)).isSome=true;rw [dM];split
  ·rfl
  rename_i hi;rcases fZ.1 h with rfl | h
  ·exact absurd rfl hi
  exact S7 l _ p h
theorem MC {nm:Nat→Nat} {vr:Nat} : ∀ (l:List (Nat×cx)) (n:Nat) {q:Type} (y:tM l q),countB n l=true→(cT nm vr l y).1=number n ((cT nm vr l y).1.map (·.2))∧(cT nm vr l y).1.length=l.length
 | [],n,_,y,_=>⟨rfl,rfl⟩
 | (i,s)::l,n,_,y,h=>by simp only [countB,aw,rj] at h;obtain ⟨rfl,h⟩:=h;obtain ⟨h1,h2⟩:=MC (nm:=nm) (vr:=vr) l (i+1) (reflect nm vr s y).2 h;refine ⟨?_,by show ((cT nm vr l (reflect nm vr s y).2).1.length+1)=_; rw [h2]; rfl⟩;show (i,(reflect nm vr s y).1)::(cT nm vr l (reflect nm vr s y).2).1=(i,(reflect nm vr s y).1)::number (i+1) ((cT nm vr l (reflect nm vr s y).2).1.map (·.2));rw [← h1]
theorem MD {M:dn} {mp0:Mp} : ∀ (mp:Mp) (id:Nat),id∈p7 M mp0 mp↔∃ p∈mp,p.2.1=id∧id≠cO∧(∀ q∈M.lb.aX,q.1≠p.1)∧∃ d,look mp0 p.1=some (id,d)
 | [],id=>by simp [p7]
 | p::mp,id=>by
  have ih:=MD (M:=M) (mp0:=mp0) mp id;have key:(aM p.2.1 cO||M.lb.aX.any (fun q=>aM q.1 p.1)||!(match look mp0 p.1 with | some ad=>aM ad.1 p.2.1 | none=>false))=false↔(p.2.1≠cO∧(∀ q∈M.lb.aX,q.1≠p.1)∧∃ d,look mp0 p.1=some (p.2.1,d)):=by
   rw [oB,oB,Bool.not_eq_false',List.any_eq_false];constructor
   ·rintro ⟨⟨h1,h2⟩,h3⟩;refine ⟨fun e=>by rw [e] at h1; simp at h1,fun q hq e=>h2 q hq (by rw [e]; simp),?_⟩;split at h3
    ·rename_i ad he;obtain ⟨x,d⟩:=ad;have:=bm h3;simp only at this;subst this;exact ⟨d,he⟩
    simp at h3
   rintro ⟨h1,h2,d,h3⟩;refine ⟨⟨?_,fun q hq e=>h2 q hq (bm e)⟩,by rw [h3]; simp⟩;rw [← oA];exact fun e=>h1 (bm e)
  simp only [p7];cases hb:(aM p.2.1 cO||M.lb.aX.any (fun q=>aM q.1 p.1)||!(match look mp0 p.1 with | some ad=>aM ad.1 p.2.1 | none=>false)) with
  | true=>
   simp only;rw [ih];constructor
   ·rintro ⟨q,h1,h2⟩; exact ⟨q,jO _ h1,h2⟩
   rintro ⟨q,h1,h2,h3,h4,h5⟩;rcases fZ.1 h1 with rfl | h1
   ·exfalso;have:=key.2 ⟨by rw [h2]; exact h3,h4,by rw [h2]; exact h5⟩;rw [hb] at this; simp at this
   exact ⟨q,h1,h2,h3,h4,h5⟩
  | false=>
   simp only [fZ,ih];constructor
   ·rintro (rfl | ⟨q,h1,h2⟩)
    ·obtain ⟨a1,a2,a3⟩:=key.1 hb;exact ⟨p,.inl rfl,rfl,a1,a2,a3⟩
    exact ⟨q,.inr h1,h2⟩
   rintro ⟨q,h1,h2,h3⟩;rcases h1 with rfl | h1
   ·exact .inl h2.symm
   exact .inr ⟨q,h1,h2,h3⟩
end
end Go.Am
namespace Go.Am
open Go
def IQ (P:Program) (c:ba):Prop:=∀ f M,(f,M)∈c.tO→pB P f M∧dh P f
section
variable {P:Program} {c:ba} {g gf:Gh} {w w':World} {U:Nat→Prop} {sr stf:St} {a:Act} {site:Nat} {o:Oper} {ρ:Type} {r:ρ} {k:cG→Option ρ}
structure Handed (g:Gh) (U:Nat→Prop) (M:dn) (hs:List Nat) (mp:Mp):Prop where
 inj:lz mp
 lt:∀ k a d,look mp k=some (a,d)→k<15
 mem:∀ k a d,look mp k=some (a,d)→a=cO∨(a∈hs∧U (a / 1024)∧a / 1024≠19)
 all:∀ p∈M.la.aX,∃ a d,look mp p.1=some (a,d)
theorem ME {mp:Mp} {k a d:Nat} (h:k<1000) (hk:look mp k=some (a,d)):dt mp site k=a:=by
 have:cL k 1000=true:=by simpa using h
 simp [dt,this,hk]
theorem S8 {mp:Mp} {k:Nat} (h:¬ k<1000):dt mp site k=site*1024+(k-1000):=by
 have:cL k 1000=false:=by rw [← oA]; intro hh; exact h (by simpa using hh)
 simp [dt,this]
theorem abr (S:dp P c g w U sr a) (hs:¬ U site) {M:dn} {hl:List Nat} {eF:St} {mp:Mp} (H:Handed g U M hl mp) {vs:List ag} (bF:Hg M vs mp=true) {y:M.lb.LT} {bI:List Value} {Uf:Nat→Prop}
  (X:IL (qu eF mp (lA g M.lb.jR hl) M.lb.jR) w M.lb y bI gf Uf stf w') :
  ∃ g',dL g w U site ⟨match (cT (dt mp site) site M.lb.cy y).1.map (·.2) with | [v]=>v | vs=>.gN vs,
   (fc (dt mp site) site M.lb.aX (cT (dt mp site) site M.lb.cy y).2).1++gone (p7 M mp mp)⟩ (sO bI) w' g' (U' U site):=by
 unfold Hg at bF;simp only [aw] at bF;obtain ⟨⟨⟨⟨-,-⟩,yp⟩,wm⟩,wo⟩:=bF;have wo:=gp.1 wo;have wv:20≤site:=by
  rcases jP site 20 with h | h
  ·exact absurd (S.nr site h) hs
  exact h
 have S9:∀ p∈M.lb.aX,p.1<1000→∃ aid,look mp p.1=some (aid,0)∧aid≠cO:=by
  intro p hp ax;have:=wo p hp;rw [show cL p.1 1000=true by simpa using ax] at this;simp only at this;split at this
  ·rename_i ad hk;obtain ⟨aid,d⟩:=ad;simp only [aw,A0,rj] at this;obtain ⟨t1,rfl⟩:=this;exact ⟨aid,hk,fun e=>by subst e; simp at t1⟩
  simp at this
 have Ta:∀ p∈M.lb.aX,¬ p.1<1000→p.1<2000:=by intro p hp ax;have:=wo p hp;rw [show cL p.1 1000=false by rw [← oA]; intro hh; exact ax (by simpa using hh)] at this;simpa [dJ] using this
 obtain ⟨M1,r1,r2,r3,r4⟩:=Ig (nm:=dt mp site) (vr:=site) X.aX X.env M.lb.cy [] _ y X.rd;obtain ⟨M',k1,k2,k3,k4,k5⟩:=EP (nm:=dt mp site) (vr:=site) X.aX M.lb.aX M1 _ _ r3;have i0:lz []:=fun _ _ _ _ _ h=>by simp [look] at h
 have hI:lz M':=k2 (r2 i0);have fit:∀ k a d,look M' k=some (a,d)→(∃ q∈M.lb.aX,q.1=k)∧(k<1000→k<15∧a=k*1024∧d=0):=by
  unfold LA.QF at k3;split at k3
  ·rename_i hf;intro k a d hk;have:=gp.1 hf _ (ky hk);simp only [aw] at this;obtain ⟨t1,t2⟩:=this;obtain ⟨q,h1,h2⟩:=wb.1 t1;refine ⟨⟨q,h1,bm h2⟩,fun ax=>?_⟩;rw [show cL k 1000=true by simpa using ax] at t2;simp only [aw,rj,dJ] at t2;exact ⟨t2.1.1,t2.1.2,t2.2⟩
  simp at k3
 have C_:∀ k a d,look M' k=some (a,d)→k<1000→∃ aid,look mp k=some (aid,0)∧aid≠cO∧dt mp site k=aid∧U (aid / 1024)∧aid∈hl∧aid / 1024≠19:=by intro k a d hk ax;obtain ⟨⟨q,hq,rfl⟩,-⟩:=fit k a d hk;obtain ⟨aid,h1,h2⟩:=S9 q hq ax;obtain ⟨h3,h4,h5⟩:=(H.mem _ _ _ h1).resolve_left h2;exact ⟨aid,h1,h2,ME ax h1,h4,h3,h5⟩
 have nw:∀ k a d,look M' k=some (a,d)→¬ k<1000→dt mp site k=site*1024+(k-1000)∧dt mp site k / 1024=site∧k<2000:=by intro k a d hk ax;obtain ⟨⟨q,hq,rfl⟩,-⟩:=fit k a d hk;have:=Ta q hq ax;have e:=S8 (site:=site) (mp:=mp) ax;exact ⟨e,by rw [e]; omega,this⟩
 have hJ:∀ k1 k2 a1 a2,look M' k1=some a1→look M' k2=some a2→dt mp site k1=dt mp site k2→k1=k2:=by
  intro k1 k2 a1 a2 h1 h2 e;obtain ⟨a1,d1⟩:=a1;obtain ⟨a2,d2⟩:=a2;by_cases l1:k1<1000<;>by_cases l2:k2<1000
  ·obtain ⟨x1,y1,z1,e1,-⟩:=C_ k1 _ _ h1 l1;obtain ⟨x2,y2,z2,e2,-⟩:=C_ k2 _ _ h2 l2;rw [e1,e2] at e;subst e;exact H.inj _ _ _ _ _ y1 y2 z1
  ·obtain ⟨x1,y1,z1,e1,u1,-⟩:=C_ k1 _ _ h1 l1;obtain ⟨e2,e3,-⟩:=nw k2 _ _ h2 l2;exfalso;rw [← e,e1] at e3;exact hs (e3▸u1)
  ·obtain ⟨x2,y2,z2,e2,u2,-⟩:=C_ k2 _ _ h2 l2;obtain ⟨e1,e3,-⟩:=nw k1 _ _ h1 l1;exfalso;rw [e,e2] at e3;exact hs (e3▸u2)
  obtain ⟨e1,-,b1⟩:=nw k1 _ _ h1 l1;obtain ⟨e2,-,b2⟩:=nw k2 _ _ h2 l2;rw [e1,e2] at e;omega
 have Tb:∀ k a d,look mp k=some (a,d)→k<15:=H.lt
 let SH:=M.lb.jR
 let gL:=lA g SH hl
 let gI:=qu eF mp gL SH
 have CZ:∀ b o,g.lab b o=none→gI.lab b o=none:=fun b o h=>Fm (Fl h);have Fc:∀ b o,tW gI b o→∃ id p,g.lab b o=some (id,p)∧∃ k d,look mp k=some (id,d)∧id≠cO:=by
  rintro b o ⟨id,p,h1,h2⟩;obtain ⟨⟨az,p'⟩,hq⟩:=S0 h1;refine ⟨az,p',Mx hq,?_⟩;by_cases hex:∃ k d,look mp k=some (az,d)∧az≠cO
  ·exact hex
  exfalso;have h1:(qu eF mp gL SH).lab b o=some (id,p):=h1;rw [Mz hq hex] at h1;cases uw:SH with
  | true=>rw [uw] at h1; simp at h1; obtain ⟨rfl,-⟩:=h1; exact h2 rfl
  | false=>rw [uw] at h1; simp at h1
 have other:∀ b o id p,g.lab b o=some (id,p)→(¬ ∃ k d,look mp k=some (id,d)∧id≠cO)→gI.lab b o=none∨gI.lab b o=some (19*1024,[]):=by
  intro b o id p hg hn;cases hq:gL.lab b o with
  | none=>exact .inl (Fm hq)
  | some q'=>
   have:=Mx hq;rw [hg] at this;obtain rfl:=aW this;have e:gI.lab b o=_:=Mz hq hn;rw [e];cases SH<;>simp
 let gO:=dS g gf stf mp M' site false
 let gH:=dS g gf stf mp M' site true
 have hU:∀ k a d,look M' k=some (a,d)→U' U site (dt mp site k / 1024):=by
  intro k a d hk;by_cases ax:k<1000
  ·obtain ⟨x1,y1,z1,e1,u1,-⟩:=C_ k _ _ hk ax;rw [e1]; exact .inl u1
  exact .inr (nw k _ _ hk ax).2.1
 have pq:site≠0:=by omega
 have C:Cons stf (dt mp site) site M' gf gH (U' U site):=by
  refine ⟨fun k a d hk=>⟨hU k a d hk,?_⟩,.inl S.u0,.inr rfl,fun b o h=>MA h,fun k a d b o p hk aA A4=>abl hI hk aA A4,fun k a d q hk hq=>?_⟩
  ·by_cases ax:k<1000
   ·obtain ⟨x1,y1,z1,e1,u1,m1,-⟩:=C_ k _ _ hk ax;obtain ⟨-,ff⟩:=fit k a d hk;obtain ⟨f1,rfl,rfl⟩:=ff ax;have aA:k*1024≠cO:=by unfold cO; omega
    rw [e1];have:gH.hd x1 0 []=g.hd x1 0 []:=S4 (n:=x1) (ver:=0) (show x1 / 1024≠site from fun e=>hs (e▸u1)) (fun e=>pq e.symm) [];rw [this];have hp:=X.par (k*1024) (by omega);have hh:=My (st:=eF) (gL:=gL) (SH:=SH) Tb y1 0 [];rw [if_pos rfl,LQ (by omega)] at hh;simp only [ef,aA,if_false,if_true];rw [hp,hh];simp [ef,z1,gL,lA]
   have:=S3 (g:=g) (gf:=gf) (stf:=stf) (hide:=true) hJ hk (ver:=0) (.inl (nw k _ _ hk ax).2.1) [];rw [if_pos rfl] at this;exact this
  have:=S3 (g:=g) (gf:=gf) (stf:=stf) (hide:=true) hJ hk (ver:=site) (.inr rfl) q;rw [if_neg hq] at this;exact this
 have e1:=r4 gH _ (C.mono k1);have e2:=k5 gH _ C;have Hu:∀ b o p id,gH.lab b o=some (id,p)→gO.lab b o=some (id,p):=by
  intro b o p id h;cases hf:gf.lab b o with
  | none=>
   have:gH.lab b o=none:=MA hf;rw [this] at h; simp at h
  | some q=>
   have:gO.lab b o=gH.lab b o:=by simp only [gO,gH,dS,hf]
   rw [this]; exact h
 have same:SH=true→gO=gH:=by
  intro hS;have:gO.lab=gH.lab:=by
   funext b o;cases hf:gf.lab b o with
   | some q=>simp only [gO,gH,dS,hf]
   | none=>
    have h2:gH.lab b o=none:=MA hf;rw [h2];cases hg:g.lab b o with
    | none=>exact IN hf hg
    | some q=>
     obtain ⟨id,p⟩:=q;by_cases hex:∃ k d,look mp k=some (id,d)∧id≠cO
     ·exact abn hf hg hex
     exfalso;have hgL:gL.lab b o=some (id,p):=by show (lA g SH hl).lab b o=_;rw [abg hS]; exact hg
     have cC:gI.lab b o=some (19*1024,[]):=by have e:gI.lab b o=_:=Mz hgL hex;rw [e,hS]
     have:=X.n9 b o (19*1024) [] cC rfl;rw [hf] at this; simp at this
  show Gh.mk gO.hd gO.lab=Gh.mk gH.hd gH.lab;rw [this];rfl
 have v1:∀ t v,look (cT (dt mp site) site M.lb.cy y).1 t=some v→aV gO w' (U' U site) v ((Fh bI).eval (.tmp t)):=by
  cases hS:SH with
  | true=>rw [same hS]; exact e1
  | false=>
   have A6:M.lb.jR=false:=hS;unfold LA.jR at A6;rw [oB] at A6;exact abq (g:=gH) (L':=gO.lab) M.lb.cy y A6.1 e1
 have o1:∀ id ob,look (fc (dt mp site) site M.lb.aX (cT (dt mp site) site M.lb.cy y).2).1 id=some (some ob)→U' U site (id / 1024)∧fo gO w' (U' U site) id ob:=by
  cases hS:SH with
  | true=>rw [same hS]; exact e2
  | false=>
   have A6:M.lb.jR=false:=hS;unfold LA.jR at A6;rw [oB] at A6;intro id ob h;obtain ⟨x1,x2⟩:=e2 id ob h;exact ⟨x1,S6 (g:=gH) (L':=gO.lab) (fun b o p hb=>Hu b o p id hb) M.lb.aX _ A6.2 h x2⟩
 have hT:∀ id,(look ((fc (dt mp site) site M.lb.aX (cT (dt mp site) site M.lb.cy y).2).1++gone (p7 M mp mp)) id).isSome=true→id / 1024=site∨∃ k d,look mp k=some (id,d)∧id≠cO:=by
  intro id h;rw [iK] at h;cases hq:look (fc (dt mp site) site M.lb.aX (cT (dt mp site) site M.lb.cy y).2).1 id with
  | some oo=>
   obtain ⟨p,hp,rfl,-⟩:=CO _ _ _ _ hq;by_cases ax:p.1<1000
   ·obtain ⟨aid,h1,h2⟩:=S9 p hp ax;rw [ME ax h1];exact .inr ⟨_,_,h1,h2⟩
   rw [S8 ax];have:=Ta p hp ax;exact .inl (by omega)
  | none=>
   rw [hq,lX] at h;by_cases hm:id∈p7 M mp mp
   ·obtain ⟨p,h1,h2,h3,-,d,hd⟩:=(MD mp id).1 hm;exact .inr ⟨_,_,hd,h3⟩
   rw [if_neg hm] at h; simp at h
 have EI:∀ k id d,look mp k=some (id,d)→id≠cO→(look ((fc (dt mp site) site M.lb.aX (cT (dt mp site) site M.lb.cy y).2).1++gone (p7 M mp mp)) id).isSome=true:=by
  intro k id d hk aA;rw [iK];cases hq:look (fc (dt mp site) site M.lb.aX (cT (dt mp site) site M.lb.cy y).2).1 id with
  | some oo=>rfl
  | none=>
   simp only;have hm:id∈p7 M mp mp:=by refine (MD mp id).2 ⟨_,ky hk,rfl,aA,fun q ka e=>?_,d,hk⟩;have ax:=Tb k id d hk;simp only at e;have:=S7 (nm:=dt mp site) (vr:=site) M.lb.aX (cT (dt mp site) site M.lb.cy y).2 q ka;rw [e,ME (by omega) hk,hq] at this;simp at this
   rw [lX,if_pos hm]; rfl
 have iv:∀ b o id p,g.lab b o=some (id,p)→(¬ ∃ k d,look mp k=some (id,d)∧id≠cO)→b<w.heap.size→gO.lab b o=some (id,p):=by
  intro b o id p hg hn hb;rcases other b o id p hg hn with h | h
  ·have hf:gf.lab b o=none:=by
    cases hf:gf.lab b o with
    | none=>rfl
    | some q=>exact absurd h (X.cB b o q hb hf)
   exact abm hf hg hn
  have hf:=X.n9 b o (19*1024) [] h rfl;refine abo hf ?_ hg;rintro ⟨k,d,hk,aA⟩;obtain ⟨⟨q,hq,hqk⟩,ff⟩:=fit k _ _ hk;obtain ⟨aa,dd,h1,h2⟩:=k4 q hq;rw [hqk,hk] at h1;simp only [aF,bE] at h1;rcases h2 with h2 | h2
  ·rw [← h1.1] at h2; exact aA h2
  rw [← h1.1] at h2;exact X.nf _ h2 rfl
 refine ⟨gO,⟨⟨fun s h=>.inl h,fun id ver p h1 h2=>S4 (n:=id) (ver:=ver) (show id / 1024≠site from fun e=>hs (e▸h1)) (show ver≠site from fun e=>hs (e▸h2)) p,fun b o kT v hv=>?_,fun b o id p kT tY=>?_⟩,?_,fun id ob h=>?_,fun s h=>h,fun b o q h=>?_,fun b o q hb h=>?_,?_,fun id h=>?_⟩⟩
 ·obtain ⟨h1,h2⟩:=X.shr b o (CZ b o kT) v hv;exact ⟨h1,IN h2 kT⟩
 ·have hn:¬ ∃ k d,look mp k=some (id,d)∧id≠cO:=by rintro ⟨k,d,hk,aA⟩;exact tY (EI k id d hk aA)
  have hb:=S.b9 b o _ kT;refine ⟨iv b o id p kT hn hb,Fr.cell X.fr hb (fun hm=>?_)⟩;obtain ⟨az,p',h1,hex⟩:=Fc b o hm;rw [kT] at h1;simp only [aF,bE] at h1;obtain ⟨rfl,rfl⟩:=h1;exact hn hex
 ·obtain ⟨s1,s2⟩:=MC (nm:=dt mp site) (vr:=site) M.lb.cy 0 y yp;have hv:cu gO w' (U' U site) ((cT (dt mp site) site M.lb.cy y).1.map (·.2)) bI:=by refine vN (by simp [s2,X.len]) (fun k hk cr=>?_);have h1:=v1 k ((cT (dt mp site) site M.lb.cy y).1.map (·.2))[k] (by have h0:look (cT (dt mp site) site M.lb.cy y).1 k=look (number 0 ((cT (dt mp site) site M.lb.cy y).1.map (·.2))) k:=congrArg (fun e=>look e k) s1;rw [h0,Fj,if_pos (uk _),It];exact dU hk);rw [IK] at h1;simpa [cr] using h1
  revert hv;generalize (cT (dt mp site) site M.lb.cy y).1.map (·.2)=rl;intro hv
  match rl,bI,hv,mI hv with
  | [],[],hv,_=>exact ⟨[],rfl,hv⟩
  | [a1],[x1],hv,_=>
   obtain ⟨x',r',e,h1,-⟩:=hv;simp only [Is] at e;rw [e.1]; exact h1
  | a1::a2::rl,x1::x2::xs,hv,_=>exact ⟨_,rfl,hv⟩
 ·replace h:look ((fc (dt mp site) site M.lb.aX (cT (dt mp site) site M.lb.cy y).2).1++gone (p7 M mp mp)) id=some (some ob):=h;rw [iK] at h;cases hq:look (fc (dt mp site) site M.lb.aX (cT (dt mp site) site M.lb.cy y).2).1 id with
  | some oo=>
   rw [hq] at h;simp only [aF] at h;subst h;exact o1 id ob hq
  | none=>
   rw [hq] at h;replace h:look (gone (p7 M mp mp)) id=some (some ob):=h;rw [lX] at h;split at h<;>simp at h
 ·cases hf:gf.lab b o with
  | some q'=>exact X.b9 b o q' hf
  | none=>
   cases hg:g.lab b o with
   | some q'=>exact nk (S.b9 b o q' hg) X.fr.size
   | none=>
    have:gO.lab b o=none:=IN hf hg;rw [this] at h; simp at h
 ·intro hg;have cC:=CZ b o hg;have hf:gf.lab b o=none:=by
   cases hf:gf.lab b o with
   | none=>rfl
   | some q'=>exact absurd cC (X.cB b o q' hb hf)
  have:gO.lab b o=none:=IN hf hg;rw [this] at h; simp at h
 ·refine X.fr.mono (fun b o hb hm=>?_);obtain ⟨id,p,h1,k,d,hk,aA⟩:=Fc b o hm;exact ⟨id,p,h1,((H.mem k id d hk).resolve_left aA).2.2⟩
 rcases hT id h with h | ⟨k,d,hk,aA⟩
 ·omega
 exact ((H.mem k id d hk).resolve_left aA).2.2
theorem Tc {st:St} {SH:Bool} {hl:List Nat} {id:Nat} {ob:dD} (h:(Ce st SH hl).obj id=some ob):SH=false∧id∉hl∧st.obj id=some ob:=by
 cases SH with
 | true=>exact absurd (show (none:Option dD)=some ob from h) (by simp)
 | false=>
  replace h:({ st with heap:=gone hl++st.heap } : St).obj id=some ob:=h;unfold St.obj at h;simp only [iK,lX] at h;by_cases hm:id∈hl
  ·simp [hm] at h
  simp only [hm,if_false] at h;exact ⟨rfl,hm,h⟩
theorem abt (S:dp P c g w U sr a) (hs:¬ U site) {f:Operand} {args:Array Operand} {ts:Array TypeId} (aH:o.op = .call ⟨.value f,args,ts⟩) {je:Nat} {caps:List ag} (hf:sr.ev f = .fn je caps) {M:dn}
  (hM:pB P je M) (hG:dh P je) {x:M.la.vC Mp} (hx:KI sr M (args.toList.map sr.ev++caps)=some x) (e:D7 sr site M x k=some r):∃ bq,k bq=some r∧ny P g w U site o a bq:=by
 have yw:=S.ev f;rw [hf] at yw;obtain ⟨sT,vY,fu⟩:=yw;obtain ⟨fn,wy,Fe,yv⟩:=hG;unfold KI at hx;split at hx
 ·rename_i x' MF;split at hx
  ·rename_i bF;obtain rfl:=aW hx;obtain ⟨y,hy,e⟩:=Iu.1 e;refine ⟨_,e,fun next Q hn=>?_⟩
   let vs:=args.toList.map sr.ev++caps
   let l:=args.toList.map a.eval++sT
   have pt:cu g w U vs l:=by
    refine II ?_ fu;have:∀ l:List Operand,cu g w U (l.map sr.ev) (l.map a.eval):=by
     intro l;induction l with
     | nil=>rfl
     | cons x l ih=>exact ⟨_,_,rfl,S.ev x,ih⟩
    exact this _
   let SH:=M.lb.jR
   let hl:=handed sr M.la vs
   let gL:=lA g SH hl
   let eF:=QJ sr M vs
   have abu:cu gL w U (As (Ce sr SH hl) (M.la.cy.map (·.2)) vs) l:=by
    refine IM (g:=g) (g1:=gL) (sr:=Ce sr SH hl) (fun id ob h=>?_) (fun b o h=>Fl h) (fun id hid b o p h=>?_) (fun v x h=>abh h) _ vs l pt
    ·exact S.aX id ob (Tc h).2.2
    cases ho:(Ce sr SH hl).obj id with
    | none=>exact absurd ho hid
    | some ob=>
     obtain ⟨h1,h2,-⟩:=Tc ho;exact abf h1 h2 h
   have rn:∀ id ob,eF.obj id=some ob→id∈hl∧sr.obj id=some ob:=by
    intro id ob h;have h0:eF.obj id=if id∈hl then sr.obj id else none:=AZ (st:=sr) hl id
    rw [h0] at h;split at h
    ·rename_i hm; exact ⟨hm,h⟩
    simp at h
   have hO:fq gL w U eF:=by intro id ob h;obtain ⟨h1,h2⟩:=rn id ob h;obtain ⟨u,hr⟩:=S.aX id ob h2;exact ⟨u,abi h1 u hr⟩
   have hE:∀ t v,look eF.env t=some v→aV gL w U v ((Fh l).eval (.tmp t)):=by intro t v h;have h:look (number 0 (As (Ce sr SH hl) (M.la.cy.map (·.2)) vs)) t=some v:=h;rw [Fj,if_pos (uk _),It] at h;obtain ⟨h3,h4⟩:=dV.1 h;obtain ⟨x',h5,h6⟩:=lU abu t h3;rw [IK,jN,h5,← h4];exact h6
   obtain ⟨M1,r1,r2,r3,r4⟩:=Ig (nm:=ck 20) (vr:=0) hO hE M.la.cy [] _ x' MF;obtain ⟨M2,k1,k2,k3,k4,k5⟩:=EP (nm:=ck 20) (vr:=0) hO M.la.aX M1 _ _ r3;have i0:lz []:=fun _ _ _ _ _ h=>by simp [look] at h
   have hI:lz M2:=k2 (r2 i0);have fit:(∀ k a d,look M2 k=some (a,d)→(∃ q∈M.la.aX,q.1=k)∧k<15)∧M.la.tail x'=M2:=by
    unfold LA.QG at k3;split at k3
    ·rename_i hf;refine ⟨fun k a d hk=>?_,(aW k3).symm⟩;have:=gp.1 hf _ (ky hk);simp only [aw,dJ] at this;obtain ⟨q,h1,h2⟩:=wb.1 this.1;exact ⟨⟨q,h1,bm h2⟩,this.2⟩
    simp at k3
   obtain ⟨fit,Td⟩:=fit;have ax:∀ k a d,look M2 k=some (a,d)→k<15:=fun k a d h=>(fit k a d h).2;have H:Handed g U M hl M2:=by
    refine ⟨hI,ax,fun k a d hk=>?_,fun p hp=>?_⟩
    ·obtain ⟨⟨q,hq,rfl⟩,-⟩:=fit k a d hk;obtain ⟨a',d',h1,h2⟩:=k4 q hq;rw [hk] at h1;simp only [aF,bE] at h1;obtain ⟨rfl,rfl⟩:=h1;rcases h2 with h2 | h2
     ·exact .inl h2
     cases ho:eF.obj a with
     | none=>exact absurd ho h2
     | some ob=>
      obtain ⟨h3,h4⟩:=rn a ob ho;exact .inr ⟨h3,(S.aX a ob h4).1,S.nf a (by rw [h4]; simp)⟩
    obtain ⟨a',d',h1,-⟩:=k4 p hp;exact ⟨a',d',h1⟩
   let gI:=qu eF M2 gL SH
   have C:Cons eF (ck 20) 0 M2 gL gI gE:=by
    refine ⟨fun k a d hk=>⟨?_,?_⟩,by show (0:Nat)<20; omega,by show (0:Nat)<20; omega,fun b o h=>Fm h,fun k a d b o p hk aA A4=>abk hI hk aA A4,fun k a d q hk hq=>?_⟩
    ·have:=ax k a d hk;show ck 20 k / 1024<20;rw [AY,if_pos (by omega)]; omega
    ·have:=My (st:=eF) (gL:=gL) (SH:=SH) ax hk 0 [];rw [if_pos rfl] at this; exact this
    have:=My (st:=eF) (gL:=gL) (SH:=SH) ax hk 0 q;rw [if_neg hq] at this; exact this
   have c1:=r4 gI _ (C.mono k1);have c2:=k5 gI _ C;have A5:=bF;unfold Hg at A5;simp only [aw,rj] at A5;obtain ⟨⟨⟨⟨q1,q2⟩,-⟩,-⟩,-⟩:=A5;obtain ⟨s1,s2⟩:=MC (nm:=ck 20) (vr:=0) M.la.cy 0 x' q1;have hlen:l.length=M.la.cy.length:=by have:=mI pt;rw [q2]; exact this
   have ug:=hM x' y hy gI w l hlen (fun t v h=>?_) (fun id ob h=>?_) (fun b o q h=>?_) (S.gl.mono (Fr.refl _ _) (fun b o _ h=>Fm (Fl h)))
   ·have hex:(execOp a.eval o).run P w = .ok (.enter je (args.toList.map a.eval++sT).toArray) w:=by
     unfold execOp;rw [aH];simp only [resolve,vY,Deferred.ofValue,invoke,callFunc];have Ff:¬ fn.name = "runtime.NumGoroutine" :=by simpa using Fe
     have Fg:¬ fn.body=none:=by intro hh; rw [hh] at yv; simp at yv
     simp [wy,Ff,Fg]
    unfold CT;rw [hex,CS];refine A1 ug (fun en w' h=>?_);obtain ⟨bI,gf,Uf,stf,rfl,X⟩:=h;obtain ⟨g',hp⟩:=abr S hs H (vs:=vs) (by rw [← Td]; exact bF) X;rw [← Td] at hp;exact hn _ _ _ _ hp
   ·have h:look (cT (ck 20) 0 M.la.cy x').1 t=some v:=h;have hv:=c1 t v h;rw [IK] at hv;have ht:t<l.length:=by rw [s1,Fj,if_pos (uk _),It] at h;have:=(dV.1 h).1;rw [List.length_map,s2] at this;omega
    exact ⟨l[t],dU ht,by simpa [ht] using hv⟩
   ·have h:(match look (fc (ck 20) 0 M.la.aX (cT (ck 20) 0 M.la.cy x').2).1 id with | some (some o)=>some o | _=>none)=some ob:=h;split at h
    ·rename_i h';obtain rfl:=aW h;obtain ⟨p,hp,rfl,-⟩:=CO _ _ _ _ h';obtain ⟨a',d',h1,-⟩:=k4 p hp;have:=ax _ _ _ h1;exact ⟨by rw [AY,if_pos (by omega)]; exact this,(c2 _ _ h').2⟩
    simp at h
   obtain ⟨q',hq⟩:=S0 h;exact S.b9 b o q' (Mx hq)
  simp at hx
 simp at hx
theorem MG (hC:Fa P c) (hL:IQ P c) (S:dp P c g w U sr a) (hs:¬ U site) {f:Operand} {args:Array Operand} {ts:Array TypeId} (aH:o.op = .call ⟨.value f,args,ts⟩) {je:Nat} {caps:List ag} (hf:sr.ev f = .fn je caps) :
  ∀ (l:List (Nat×dn)),(∀ p∈l,p∈c.tO)→tP c sr site je (args.toList.map sr.ev++caps) k l=some r→∃ bq,k bq=some r∧ny P g w U site o a bq
 | [],_,e=>abd hC S hs aH hf e
 | (abv,M)::l,eS,e=>by
  simp only [tP] at e;split at e
  ·exact MG hC hL S hs aH hf l (fun p hp=>eS p (jO _ hp)) e
  rename_i hb;obtain rfl:=bm hb;split at e
  ·rename_i hx;obtain ⟨h1,h2⟩:=hL abv M (eS _ List.mem_cons_self);exact abt S hs aH hf h1 h2 hx e
  exact MG hC hL S hs aH hf l (fun p hp=>eS p (jO _ hp)) e
theorem sU (hC:Fa P c) (hL:IQ P c):yg P c:=by
 intro ρ r k g w U sr a site o S hs e;by_cases ug:∃ f args ts je caps,o.op = .call ⟨.value f,args,ts⟩∧sr.ev f = .fn je caps
 ·obtain ⟨f,args,ts,je,caps,aH,hf⟩:=ug;rw [aH] at e;have e:(match sr.ev f with | .fn f caps=>tP c sr site f (args.toList.map sr.ev++caps) k c.tO | _=>none)=some r:=e;rw [hf] at e;exact MG hC hL S hs aH hf c.tO (fun _ h=>h) e
 cases hc:H9 o.op with
 | false=>exact aah S hs hc e
 | true=>
  exfalso;unfold H9 at hc;split at hc
  ·rename_i f args ts aH;rw [aH] at e;have e:(match sr.ev f with | .fn f caps=>tP c sr site f (args.toList.map sr.ev++caps) k c.tO | _=>none)=some r:=e;split at e
   ·rename_i je caps hf;exact ug ⟨f,args,ts,je,caps,aH,hf⟩
   simp at e
  simp at hc
end
end Go.Am
namespace Go.Am
open Go
section
variable {ρ:Type} (k:cG→Option ρ)
theorem ux {α ρ:Type} (p:Prop) [Decidable p] (x:Option α) (f:α→Option ρ):(ab p x).bind f=ab p (x.bind f):=by unfold ab; split<;>rfl
theorem abw {α ρ:Type} (b:Bool) (x y:Option α) (f:α→Option ρ):(br b x y).bind f=br b (x.bind f) (y.bind f):=by cases b<;>rfl
theorem Te {kd:TK} {yc:Bool} {op:BinOp} {x y:ag} (k:ag→Option ρ):vz kd yc op x y k=(vz kd yc op x y some).bind k:=by
 unfold vz
 repeat' (first | rfl | (split; done) | split)
theorem IT {n:Nat} {st:St} {x:ag} {i:Int} (k:ag→Option ρ):p5 n st x i k=(p5 n st x i some).bind k:=by
 unfold p5
 repeat' (first | rfl | split)
theorem abx (site id own t vr xs tt i j az nZ i' j' u off len):B4 site id own t vr xs tt i j az nZ i' j' u off len k=(B4 site id own t vr xs tt i j az nZ i' j' u off len some).bind k:=by
 unfold B4;split
 ·rfl
 rw [ux];congr 1;split<;>rfl
theorem aby (st site size id own t vr xs p tt i j vs):An st site size id own t vr xs p tt i j vs k=(An st site size id own t vr xs p tt i j vs some).bind k:=by
 unfold An
 repeat' (first | rfl | split)
theorem abz (st site size id t xs bi bj tt i j vs):B5 st site size id t xs bi bj tt i j vs k=(B5 st site size id t xs bi bj tt i j vs some).bind k:=by
 unfold B5;split
 ·rfl
 rw [ux];congr 1
 repeat' (first | rfl | split)
theorem abA (st site size a v):B6 st site size a v k=(B6 st site size a v some).bind k:=by
 unfold B6
 repeat' (first | rfl | exact abx k _ _ _ _ _ _ _ _ _ _ _ _ _ _ _ _ | exact aby k _ _ _ _ _ _ _ _ _ _ _ _ _ | exact abz k _ _ _ _ _ _ _ _ _ _ _ _ | split)
theorem abB (fg st site t s x):Ao fg st site t s x k=(Ao fg st site t s x some).bind k:=by
 unfold Ao
 repeat' (first | rfl | (rw [ux]; rfl) | split)
theorem abC (fg st site id own t xs x):Ap fg st site id own t xs x k=(Ap fg st site id own t xs x some).bind k:=by
 unfold Ap
 repeat' (first | rfl | (rw [ux]; rfl) | split)
theorem abD (fg st site id t xs i j x):B7 fg st site id t xs i j x k=(B7 fg st site id t xs i j x some).bind k:=by
 unfold B7
 repeat' (first | rfl | (rw [ux,aC]; done) | split)
theorem abE (fg st site jS gQ s x):B8 fg st site jS gQ s x k=(B8 fg st site jS gQ s x some).bind k:=by
 unfold B8
 repeat' (first | rfl | exact abB k _ _ _ _ _ _ | exact abC k _ _ _ _ _ _ _ _ | exact abD k _ _ _ _ _ _ _ _ _ | split)
theorem abF (fg st jS s x):B9 fg st jS s x k=(B9 fg st jS s x some).bind k:=by
 unfold B9
 repeat' (first | rfl | (rw [ux,aC]; done) | split)
theorem abG (fg st site jS s x):Ca fg st site jS s x k=(Ca fg st site jS s x some).bind k:=by
 unfold Ca;split
 ·split
  ·rw [ux,aC]
  rfl
 rfl
theorem abH (fg site jS s x):D4 fg site jS s x k=(D4 fg site jS s x some).bind k:=by unfold D4;split<;>first | rfl | (rw [ux]; rfl)
theorem abI (st id own t vr xs off len x):At st id own t vr xs off len x k=(At st id own t vr xs off len x some).bind k:=by
 unfold At
 repeat' (first | rfl | split)
theorem abJ (gQ st d x):Cf gQ st d x k=(Cf gQ st d x some).bind k:=by
 unfold Cf
 repeat' (first | rfl | exact abI k _ _ _ _ _ _ _ _ _ | split)
theorem abK (st site args):Cc st site args k=(Cc st site args some).bind k:=by
 unfold Cc
 repeat' (first | rfl | split)
theorem Tf (c st site f args):Cd c st site f args k=(Cd c st site f args some).bind k:=by
 unfold Cd;split
 ·split
  ·exact abK k _ _ _
  rfl
 split
 ·rfl
 rename_i m x _ _ _;cases h:m.m x with
 | none=>rfl
 | some y=>
  simp only [aC]
  repeat' (first | rfl | split)
theorem abL (st site M x):D7 st site M x k=(D7 st site M x some).bind k:=by unfold D7;cases M.m x<;>rfl
theorem MH (c st site f args):∀ l,tP c st site f args k l=(tP c st site f args some l).bind k
 | []=>Tf k c st site f args
 | (g,M)::r=>by
  simp only [tP];split
  ·exact MH c st site f args r
  split
  ·exact abL k _ _ _ _
  exact MH c st site f args r
theorem MI (gQ st x lo hi):tQ gQ st x lo hi k=(tQ gQ st x lo hi some).bind k:=by
 unfold tQ;split
 ·rfl
 split
 ·split
  ·rw [ux];congr 1
   repeat' (first | rfl | split)
  rfl
 rfl
theorem abM (ow gQ st site x lo hi):Au ow gQ st site x lo hi k=(Au ow gQ st site x lo hi some).bind k:=by
 unfold Au;refine (MI _ _ _ _ _ _).trans ?_
 conv=>rhs; rw [MI]
 rw [Option.bind_assoc];congr 1;funext e
 repeat' (first | rfl | split)
theorem Tg {n:Nat} {st:St} {x:ag} {i:Int} {ρ:Type} (k:cG→Option ρ):∀ {m:Nat},xK n st x i (fun z=>k ⟨z,[]⟩) m=(xK n st x i (fun z=>some (⟨z,[]⟩:cG)) m).bind k
 | 0=>rfl
 | m+1=>by
  unfold xK;by_cases h:i=Int.ofNat m
  ·simp only [h,decide_true,br];rw [IT,IT (ρ:=cG)];cases p5 n st x (Int.ofNat m) some<;>rfl
  simp only [h,decide_false,br];exact Tg k
theorem abN (c st site o):eE c st site o k=(eE c st site o some).bind k:=by
 unfold eE;have hv:∀ x:Option ag,(match x with | some y=>k ⟨y,[]⟩ | none=>none)=(match x with | some y=>some (⟨y,[]⟩:cG) | none=>none).bind k:=by intro x; cases x<;>rfl
 have hb:∀ {kd yc op x y},vz kd yc op x y (fun z=>k ⟨z,[]⟩)=(vz kd yc op x y (fun z=>some (⟨z,[]⟩:cG))).bind k:=by intro kd yc op x y;rw [Te,Te (ρ:=cG)];cases vz kd yc op x y some<;>rfl
 have hi:∀ {n x i},p5 n st x i (fun z=>k ⟨z,[]⟩)=(p5 n st x i (fun z=>some (⟨z,[]⟩:cG))).bind k:=by intro n x i;rw [IT,IT (ρ:=cG)];cases p5 n st x i some<;>rfl
 split
 all_goals (try simp only)
 all_goals repeat' (first | rfl | (rw [ux,aC]; done) | (rw [abw,aC,aC]; done) | exact hb | exact hi | exact Tg k | exact abA k _ _ _ _ _ | exact abE k _ _ _ _ _ _ _ | exact abH k _ _ _ _ _ | exact abF k _ _ _ _ _ | exact abG k _ _ _ _ _ _ | exact abM k _ _ _ _ _ _ _ | exact Tf k _ _ _ _ _ | exact MH k _ _ _ _ _ _ | exact abJ k _ _ _ _ | exact MI k _ _ _ _ _ | split)
end
end Go.Am
namespace Go.Am
open Go
section
variable {c:ba} {all:List Oper} {st0:St} {ρ:Type} {r:ρ}
structure Fact (c:ba) (all:List Oper) (st0:St) (i:Nat) (es:List cH) (o:Oper) (e:cH):Prop where
 dst:e.dst=o.dst
 mask:e.mask=pa (es.reverse.map (·.mask)) i o.after.toList
 Th:D9 i o.after.toList=true
 abO:∀ t∈Ci all o,t∈e.o9
 act:∃ runs:Bool,(match o.guard with | none=>runs=true | some (gd,want)=>∃ d,tR all gd=some d∧((∃ b,(lS st0 e.mask i.pred es).ev (.tmp d) = .bool b∧runs=(b==want))∨((lS st0 e.mask i.pred es).ev (.tmp d) = .gN []∧runs=false)))∧
  (match runs with
   | true=>(∀ t∈lx o.op.operands.toList,t∈e.o9)∧eE c (restrict (lS st0 e.mask i.pred es) (lx o.op.operands.toList) e.reads) (st0.nxt+i) o.op some=some e.bq
   | false=>e.bq=⟨.gN [],[]⟩)
inductive oD (c:ba) (all:List Oper) (st0:St):Nat→List cH→Prop
 | nil:oD c all st0 0 []
 | cons {i:Nat} {es:List cH} {o:Oper} {e:cH} (h:oD c all st0 i es) (ho:all[i]? = some o) (hf:Fact c all st0 i es o e):oD c all st0 (i+1) (e::es)
theorem oD.len {i:Nat} {es:List cH} (h:oD c all st0 i es):es.length=i:=by
 induction h with
 | nil=>rfl
 | cons h ho hf ih=>simp [ih]
theorem IU {mask d:Nat} {b:Bool} : ∀ (es:List cH) (i:Nat),Hk mask d i es=true→(lS st0 mask i es).ev (.tmp d) = .bool b→setBool d b es=es
 | [],i,h1,h2=>rfl
 | e::es,i,h1,h2=>by
  simp only [Hk,aw] at h1;obtain ⟨h1,h3⟩:=h1;simp only [lS] at h2;cases hd:e.dst with
  | none=>
   simp only [setBool,hd];congr 1;refine IU es i.pred h3 ?_;split at h2
   ·simpa [St.ev,St.put,hd] using h2
   exact h2
  | some x=>
   simp only [setBool,hd];by_cases hx:x=d
   ·subst hx;simp only [Nat.beq_refl];simp only [hd,Nat.beq_refl,Bool.not_true,wj] at h1;rw [h1] at h2;simp only [St.ev,St.put,hd] at h2;rw [dM,if_pos rfl] at h2;simp only at h2;obtain ⟨m,ds,⟨v,os⟩,rs,us⟩:=e;simp only at h2;have gC:ds=some x:=hd;subst gC;rw [← h2]
   have hb:aM x d=false:=by rw [← oA]; intro h; exact hx (bm h)
   rw [hb];simp only;congr 1;refine IU es i.pred h3 ?_;split at h2
   ·simp only [St.ev,St.put,hd] at h2;rw [dM,if_neg hx] at h2;exact h2
   exact h2
theorem IV:∀ (ops:List Oper) (i:Nat) (es:List cH) (k:List cH→Option ρ),oD c all st0 i es→all.drop i=ops→vG c all st0 ops i es k=some r→∃ iM,oD c all st0 all.length iM∧k iM=some r
 | [],i,es,k,D,ha,e=>by
  refine ⟨es,?_,e⟩;have hi:all.length≤i:=by simpa using List.drop_eq_nil_iff.1 ha
  have:i≤all.length:=by
   cases D with
   | nil=>omega
   | cons h ho hf=>have:=(dV.1 ho).1; omega
  have:i=all.length:=by omega
  rw [← this]; exact D
 | o::ops,i,es,k,D,ha,e=>by
  have ho:all[i]? = some o:=by have:=congrArg (fun l=>l[0]?) ha;simpa using this
  have Ti:all.drop (i+1)=ops:=by have:=congrArg (List.drop 1) ha;simpa using this
  simp only [vG] at e;split at e
  ·simp at e
  rename_i C0;have run:∀ (df:match o.guard with | none=>True | some (gd,want)=>∃ d b,tR all gd=some d∧(lS st0 (pa (es.reverse.map (·.mask)) i o.after.toList) i.pred es).ev (.tmp d) = .bool b∧true=(b==want)),
    eE c (restrict (lS st0 (pa (es.reverse.map (·.mask)) i o.after.toList) i.pred es) (lx o.op.operands.toList) (KJ (lS st0 (pa (es.reverse.map (·.mask)) i o.after.toList) i.pred es) o.op)) (st0.nxt+i) o.op
     (fun e=>vG c all st0 ops (i+1) (⟨pa (es.reverse.map (·.mask)) i o.after.toList,o.dst,e,KJ (lS st0 (pa (es.reverse.map (·.mask)) i o.after.toList) i.pred es) o.op,Ci all o++lx o.op.operands.toList⟩::es) k)=some r→
    ∃ iM,oD c all st0 all.length iM∧k iM=some r:=by
   intro df e;rw [abN] at e;obtain ⟨bq,h1,h2⟩:=Iu.1 e;refine IV ops (i+1) _ k (.cons D ho ⟨rfl,rfl,C0,fun t ht=>kO _ ht,true,?_,fun t ht=>List.mem_append_right _ ht,h1⟩) Ti h2;cases hg:o.guard with
   | none=>rfl
   | some gw=>
    rw [hg] at df;obtain ⟨d,b,h1,h2,h3⟩:=df;exact ⟨d,h1,.inl ⟨b,h2,h3⟩⟩
  have skip:∀ (df:match o.guard with | none=>False | some (gd,want)=>∃ d,tR all gd=some d∧((∃ b,(lS st0 (pa (es.reverse.map (·.mask)) i o.after.toList) i.pred es).ev (.tmp d) = .bool b∧false=(b==want))∨(lS st0 (pa (es.reverse.map (·.mask)) i o.after.toList) i.pred es).ev (.tmp d) = .gN [])),
    vG c all st0 ops (i+1) (⟨pa (es.reverse.map (·.mask)) i o.after.toList,o.dst,⟨.gN [],[]⟩,[],Ci all o⟩::es) k=some r→
    ∃ iM,oD c all st0 all.length iM∧k iM=some r:=by
   intro df e;refine IV ops (i+1) _ k (.cons D ho ⟨rfl,rfl,C0,fun t ht=>ht,false,?_,rfl⟩) Ti e;cases hg:o.guard with
   | none=>rw [hg] at df; exact df.elim
   | some gw=>
    rw [hg] at df;obtain ⟨d,h1,h2⟩:=df;exact ⟨d,h1,h2.imp id (fun h=>⟨h,rfl⟩)⟩
  cases hg:o.guard with
  | none=>
   rw [hg] at e;exact run (by rw [hg]; trivial) e
  | some gw=>
   obtain ⟨gd,want⟩:=gw;rw [hg] at e;simp only at e;split at e
   ·simp at e
   rename_i d hd;split at e
   ·rename_i b MK hb;cases b with
    | true=>
     simp only [br] at e;rw [IU es i.pred MK hb] at e;cases want with
     | true=>exact run (by rw [hg]; exact ⟨d,true,hd,hb,rfl⟩) e
     | false=>exact skip (by rw [hg]; exact ⟨d,hd,.inl ⟨true,hb,rfl⟩⟩) e
    | false=>
     simp only [br] at e;rw [IU es i.pred MK hb] at e;cases want with
     | true=>exact skip (by rw [hg]; exact ⟨d,hd,.inl ⟨false,hb,rfl⟩⟩) e
     | false=>exact run (by rw [hg]; exact ⟨d,false,hd,hb,rfl⟩) e
   ·rename_i MK hb;exact skip (by rw [hg]; exact ⟨d,hd,.inr hb⟩) e
   simp at e
def cb (st0:St) (S:Nat→Bool):List cH→St
 | []=>st0
 | e::r=>match S r.length with | true=>(cb st0 S r).put e.dst e.bq | false=>cb st0 S r
theorem ML {mask:Nat} : ∀ (es:List cH) (i:Nat),es.length=i→lS st0 mask i.pred es=cb st0 (dY mask) es
 | [],i,h=>rfl
 | e::es,i,h=>by simp only [aQ] at h;subst h;simp only [lS,cb,L5];rw [ML es es.length rfl];rfl
theorem MM {S:Nat→Bool} : ∀ (es:List cH),(∀ i,i<es.length→S i=true)→lT st0 es=cb st0 S es
 | [],_=>rfl
 | e::es,h=>by simp only [lT,cb,h es.length (by simp)];rw [MM es (fun i hi=>h i (by simp only [aQ]; omega))]
def eU (es:List cH) (j:Nat):Option cH:=es.reverse[j]?
theorem pC (e:cH) (es:List cH) (j:Nat):eU (e::es) j=if j<es.length then eU es j else if j=es.length then some e else none:=by
 unfold eU;simp only [List.reverse_cons,List.getElem?_append,Sv];split
 ·rfl
 split
 ·rename_i h; subst h; simp
 rw [List.getElem?_eq_none]; simp; omega
theorem C1 {st:St} {d:Option Nat} {e:cG} {id:Nat} : (st.put d e).obj id=match look e.aX id with | some x=>x | none=>st.obj id:=by
 unfold St.obj St.put;simp only [iK];cases look e.aX id with
 | none=>rfl
 | some x=>cases x<;>rfl
theorem yx {st:St} {d:Option Nat} {e:cG} {t:Nat} : look (st.put d e).env t=if d=some t then some e.val else look st.env t:=by
 cases d with
 | none=>simp [St.put]
 | some x=>
  simp only [St.put];rw [dM];by_cases h:x=t
  ·subst h; simp
  rw [if_neg h,if_neg (by simpa using h)]
theorem Fo {S1 S2:Nat→Bool} {t:Nat} : ∀ (es:List cH),(∀ j e,eU es j=some e→S1 j=S2 j∨e.dst≠some t)→look (cb st0 S1 es).env t=look (cb st0 S2 es).env t
 | [],_=>rfl
 | e::es,h=>by
  have ih:=Fo (S1:=S1) (S2:=S2) (t:=t) es (fun j f hf=>h j f (by
   rw [pC];have:j<es.length:=by have:=(dV.1 hf).1; simpa using this
   rw [if_pos this]; exact hf))
  have he:=h es.length e (by rw [pC]; simp);simp only [cb];rcases he with he | he
  ·rw [he];cases S2 es.length with
   | true=>simp only [yx,ih]
   | false=>exact ih
  cases S1 es.length<;>cases S2 es.length<;>simp only [yx,if_neg he,ih]
theorem Fp {S1 S2:Nat→Bool} {id:Nat} : ∀ (es:List cH),(∀ j e,eU es j=some e→S1 j=S2 j∨id∉pb e)→(cb st0 S1 es).obj id=(cb st0 S2 es).obj id
 | [],_=>rfl
 | e::es,h=>by
  have ih:=Fp (S1:=S1) (S2:=S2) (id:=id) es (fun j f hf=>h j f (by
   rw [pC];have:j<es.length:=by have:=(dV.1 hf).1; simpa using this
   rw [if_pos this]; exact hf))
  have he:=h es.length e (by rw [pC]; simp);simp only [cb];rcases he with he | he
  ·rw [he];cases S2 es.length with
   | true=>simp only [C1,ih]
   | false=>exact ih
  have hn:look e.bq.aX id=none:=ER he;cases S1 es.length<;>cases S2 es.length<;>simp only [C1,hn,ih]
theorem MN {S:Nat→Bool} : ∀ (fs es:List cH),(∀ j,es.length≤j→S j=false)→cb st0 S (fs++es)=cb st0 S es
 | [],es,_=>rfl
 | f::fs,es,h=>by simp only [oe,cb];rw [h _ (by simp)];exact MN fs es h
theorem Tj {e:cH} : ∀ (es:List cH),p8.go e es.length.pred es=true→∀ j f,eU es j=some f→dY e.mask j=true∨D8 e f=true
 | [],_,j,f,hf=>by simp [eU] at hf
 | g::es,h,j,f,hf=>by
  simp only [aQ,L5,p8.go,aw,pw] at h;rw [pC] at hf;split at hf
  ·exact Tj es h.2 j f hf
  split at hf
  ·rename_i hj;simp only [aF] at hf;subst hf; subst hj;exact h.1
  simp at hf
theorem Fq:∀ (es:List cH),p8 es.length.pred es=true→∀ j1 j2 f1 f2,j1<j2→eU es j1=some f1→eU es j2=some f2→dY f2.mask j1=true∨D8 f2 f1=true
 | [],_,j1,j2,f1,f2,hj,h1,h2=>by simp [eU] at h1
 | e::es,h,j1,j2,f1,f2,hj,h1,h2=>by
  simp only [aQ,L5,p8,aw] at h;rw [pC] at h1 h2;split at h2
  ·rename_i ax;rw [if_pos (by omega)] at h1;exact Fq es h.2 j1 j2 f1 f2 hj h1 h2
  split at h2
  ·rename_i he;simp only [aF] at h2;subst h2;rw [if_pos (by omega)] at h1;exact Tj es h.1 j1 f1 h1
  simp at h2
structure Fs (a b:cH):Prop where
 t1:∀ i∈pb a,i∉b.reads
 t2:∀ i∈pb b,i∉a.reads
 t3:∀ i∈pb a,i∉pb b
 d1:∀ t,a.dst=some t→b.dst≠some t
 u1:∀ t,a.dst=some t→t∉b.o9
 u2:∀ t,b.dst=some t→t∉a.o9
theorem MO {a b:List Nat} (h:Hi a b=true):∀ i∈a,i∉b:=by intro i hi hb;have:=gp.1 h i hi;rw [any_beq.2 hb] at this;simp at this
theorem IW {a b:cH} (h:D8 a b=true):Fs a b:=by
 unfold D8 at h;simp only [aw] at h;obtain ⟨⟨⟨⟨⟨h1,h2⟩,h3⟩,h4⟩,h5⟩,h6⟩:=h;refine ⟨MO h1,MO h2,MO h3,fun t ht hb=>?_,fun t ht hb=>?_,fun t ht hb=>?_⟩
 ·rw [ht,hb] at h4; simp [QM] at h4
 ·rw [ht] at h5; simp only [Hj] at h5; rw [any_beq.2 hb] at h5; simp at h5
 rw [ht] at h6; simp only [Hj] at h6; rw [any_beq.2 hb] at h6; simp at h6
theorem MP {Aw:List Nat} {i m:Nat} : ∀ (l:List Edge),dY (pa Aw i l) m=true→∃ e∈l,sN .any e=true∧e.on<i∧(m=e.on∨dY (Aw.getD e.on 0) m=true)
 | [],h=>by simp [pa] at h
 | e::l,h=>by
  simp only [pa,Nat.testBit_or,pw] at h;rcases h with h | h
  ·split at h
   ·rename_i hb;simp only [aw,dJ] at hb;rw [show Nat.lor (2 ^ e.on) (Aw.getD e.on 0)=2 ^ e.on||| Aw.getD e.on 0 from rfl,Nat.testBit_or,pw] at h;refine ⟨e,by simp,hb.1,hb.2,?_⟩;rcases h with h | h
    ·left
     rw [Nat.testBit_two_pow] at h;exact (of_decide_eq_true h).symm
    exact .inr h
   simp at h
  obtain ⟨e',h1,h2⟩:=MP l h;exact ⟨e',by simp [h1],h2⟩
theorem MQ {i:Nat} : ∀ {l:List Edge},D9 i l=true→∀ e∈l,sN .any e=true→e.on<i
 | [],_,e,he,_=>by simp at he
 | a::l,h,e,he,hb=>by
  simp only [D9,aw] at h;rcases fZ.1 he with rfl | he
  ·have:=h.1;rw [hb] at this;simpa using this
  exact MQ h.2 e he hb
theorem oD.at {n:Nat} {es:List cH} (D:oD c all st0 n es):∀ i e,eU es i=some e→∃ fs pre o,es=fs++e::pre∧pre.length=i∧all[i]? = some o∧Fact c all st0 i pre o e:=by
 induction D with
 | nil=>intro i e h; simp [eU] at h
 | @cons m iM o e' hD ho hf ih=>
  intro i e h;have hlen:=hD.len;rw [pC] at h;split at h
  ·obtain ⟨fs,pre,o',h1,h2,h3,h4⟩:=ih i e h;exact ⟨e'::fs,pre,o',by rw [h1]; rfl,h2,h3,h4⟩
  split at h
  ·rename_i hi;simp only [aF] at h;subst h; subst hi;rw [hlen];exact ⟨[],iM,o,rfl,hlen,ho,hf⟩
  simp at h
theorem Tl {fs pre:List cH} {e:cH} {j:Nat} (h:j<pre.length):eU (fs++e::pre) j=eU pre j:=by unfold eU;simp only [List.reverse_append,List.reverse_cons,lZ];rw [List.getElem?_append_left (by simpa using h)]
end
end Go.Am
namespace Go.Am
open Go
section
variable {P:Program} {c:ba} {w0:World} {F:bW} {N:Nat} {g g':Gh} {w w':World} {U U':Nat→Prop} {st:St} {a:Act}
theorem Rel.MR (R:Rel w0 F N g U st a w) {site:Nat} {e:cG} {v:Value} {dst:Option Nat} (hd:∀ x,dst=some x→x<N) (Q:dL g w U site e v w' g' U') {st':St}
  (rm:∀ t,look st'.env t=if dst=some t then some e.val else look st.env t) (rn:∀ id,st'.obj id=match look e.aX id with | some x=>x | none=>st.obj id) (hu:∀ s,U' s→s<st'.nxt) :
  Rel w0 F N g' U' st' (a.put dst v) w':=by
 have gC:∀ x,dst=some x→x<a.tmps.size:=by rw [R.size]; exact hd
 refine ⟨fun t x h=>?_,fun id ob h=>?_,hu,Q.b9,fun b o id p hb h=>?_,fun b o id p hf jJ=>?_,?_,?_,?_,Q.iZ.sub _ R.u0,fun s hs=>Q.iZ.sub _ (R.nr s hs),fun id h=>?_⟩
 ·rw [wc gC];rw [rm] at h;by_cases l_:dst=some t
  ·rw [if_pos l_] at h ⊢;simp only [aF] at h;subst h; exact Q.val
  rw [if_neg l_] at h ⊢;exact Q.iZ.tV _ _ (R.env t x h)
 ·rw [rn] at h;cases hl:look e.aX id with
  | some uh=>
   rw [hl] at h;simp only at h;subst h;exact Q.aX id _ hl
  | none=>
   rw [hl] at h;obtain ⟨h1,h2⟩:=R.heap id ob h;exact ⟨Q.iZ.sub _ h1,Hx Q.iZ (by rw [hl]; simp) h1 ob h2⟩
 ·have cD:b<w.heap.size:=nk hb R.fr.size;have aA:=Q.cB b o _ cD h;cases hl:g.lab b o with
  | none=>exact absurd hl aA
  | some q=>
   obtain ⟨az,p'⟩:=q;cases ht:(look e.aX az).isSome with
   | true=>
    rcases R.cB b o az p' hb hl with h2 | h2
    ·exact absurd h2.1 (Q.nf az ht)
    exact .inr h2
   | false=>
    have:=(Q.iZ.own b o az p' hl (by rw [ht]; simp)).1;rw [this] at h;simp only [aF,bE] at h;obtain ⟨rfl,rfl⟩:=h;exact R.cB b o az p' hb hl
 ·have hl:=R.n9 b o id p hf jJ;refine (Q.iZ.own b o id p hl (fun ht=>Q.nf id ht jJ)).1
 ·refine R.fr.trans' Q.fr (fun b o hb h=>?_);obtain ⟨id,p,hl,hn⟩:=h;rcases R.cB b o id p hb hl with h2 | h2
  ·exact absurd h2.1 hn
  exact h2
 ·cases dst<;>exact R.defers
 ·cases dst<;>simp [Act.put,R.size]
 rw [rn] at h;cases hl:look e.aX id with
 | some uh=>exact Q.nf id (by rw [hl]; rfl)
 | none=>rw [hl] at h; exact R.nf id h
theorem Rel.same (R:Rel w0 F N g U st a w) {st':St} (rm:∀ t,look st'.env t=look st.env t) (rn:∀ id,st'.obj id=st.obj id) (hu:∀ s,U s→s<st'.nxt):Rel w0 F N g U st' a w:=
 ⟨fun t v h=>R.env t v (by rw [← rm]; exact h),fun id o h=>R.heap id o (by rw [← rn]; exact h),hu,R.b9,R.cB,R.n9,R.fr,R.defers,R.size,R.u0,R.nr,fun id h=>R.nf id (by rw [← rn]; exact h)⟩
structure Inv (w0:World) (F:bW) (N:Nat) (g0:Gh) (U0:Nat→Prop) (st0:St) (es:List cH) (D:Nat→Bool) (g:Gh) (U:Nat→Prop) (a:Act) (w:World):Prop where
 rel:Rel w0 F N g U ⟨(cb st0 D es).env,(cb st0 D es).heap,st0.nxt+es.length,[],[]⟩ a w
 used:∀ s,U s→s<st0.nxt∨∃ i,i<es.length∧D i=true∧s=st0.nxt+i
 wg:∀ i e,eU es i=some e→D i=true→∀ m,dY e.mask m=true→m<i∧D m=true
 sub:∀ s,U0 s→U s
 hd:∀ id ver p,U0 (id / 1024)→U0 ver→g.hd id ver p=g0.hd id ver p
theorem Tm {α:Type} {l:List (Nat×α)} {q:Nat×α} {id:Nat} (hq:q∈l) (he:q.1=id) (h:look l id=none):False:=by
 induction l with
 | nil=>simp at hq
 | cons p l ih=>
  obtain ⟨k,v⟩:=p;rw [dM] at h;split at h
  ·simp at h
  rename_i aA;rcases fZ.1 hq with e | e
  ·subst e; exact aA he
  exact ih e h
theorem Rel.drawn (R:Rel w0 F N g U st a w):Rel w0 F N g U st a { w with drawn:=w.drawn+1 }:=by
 have IX:Fr (tW g) w { w with drawn:=w.drawn+1 }:=⟨rfl,rfl,rfl,cj _,fun _ c _ _ h=>⟨c,h,rfl,fun _ _=>rfl⟩,fun _ _ _=>rfl,fun _ _ h _=>h⟩
 have Q:dL g w U st.nxt ⟨.undef,[]⟩ undef { w with drawn:=w.drawn+1 } g U:=
  ⟨⟨fun s h=>h,fun _ _ _ _ _=>rfl,fun b o hl v hv=>⟨hv,hl⟩,fun b o id p hl _=>⟨hl,rfl,rfl⟩⟩,trivial,fun id o h=>by simp [look] at h,fun s h=>.inl h,R.b9,fun b o q _ h=>by rw [h]; simp,IX,fun id h=>by simp [look] at h⟩
 exact R.MR (dst:=none) (fun x h=>by simp at h) Q (fun t=>rfl) (fun id=>rfl) R.used
theorem MS {st0:St} {S:Nat→Bool} {t:Nat} (es:List cH):∀ (fs:List cH),(∀ j f,es.length≤j→eU (fs++es) j=some f→S j=false∨f.dst≠some t)→look (cb st0 S (fs++es)).env t=look (cb st0 S es).env t
 | [],_=>rfl
 | f::fs,h=>by
  have ih:=MS (st0:=st0) es fs (fun j g hj hg=>h j g hj (by
   rw [oe,pC];have:j<(fs++es).length:=by have:=(dV.1 hg).1; simp at this ⊢; omega
   rw [if_pos this]; exact hg))
  have hf:=h (fs++es).length f (by simp) (by rw [oe,pC]; simp);simp only [oe,cb];rcases hf with hf | hf
  ·rw [hf]; exact ih
  cases S (fs++es).length<;>simp only [yx,if_neg hf,ih]
theorem MU {st0:St} {S:Nat→Bool} {id:Nat} (es:List cH):∀ (fs:List cH),(∀ j f,es.length≤j→eU (fs++es) j=some f→S j=false∨id∉pb f)→(cb st0 S (fs++es)).obj id=(cb st0 S es).obj id
 | [],_=>rfl
 | f::fs,h=>by
  have ih:=MU (st0:=st0) es fs (fun j g hj hg=>h j g hj (by
   rw [oe,pC];have:j<(fs++es).length:=by have:=(dV.1 hg).1; simp at this ⊢; omega
   rw [if_pos this]; exact hg))
  have hf:=h (fs++es).length f (by simp) (by rw [oe,pC]; simp);simp only [oe,cb];rcases hf with hf | hf
  ·rw [hf]; exact ih
  have hn:look f.bq.aX id=none:=ER hf;cases S (fs++es).length<;>simp only [C1,hn,ih]
theorem abP (H:yg P c) (hc:fY P c) (hG:Gl P F w0) {ops:Array Oper} (hN:∀ o∈ops.toList,∀ x,o.dst=some x→x<N) {es:List cH} (D0:oD c ops.toList st ops.toList.length es) (hp:p8 es.length.pred es=true)
  {g0:Gh} {U0:Nat→Prop} {D:Nat→Bool} {i:Nat} {o:Oper} (ho:ops.toList[i]? = some o) (hi:D i=false) (hr:∀ e∈o.after.toList,sN .any e=true→D e.on=true)
  (I:Inv w0 F N g0 U0 st es D g U a w) {K:Act→World→Prop} {Q:Exit→Act→World→Prop}
  (hK:∀ a' w' g' U',Inv w0 F N g0 U0 st es (fun j=>D j||j==i) g' U' a' w'→K a' w') :
  if nC o (yielded ops a.tmps) then o.wp P a w K Q∨(o.asks P a w∧LetsOut Q) else K (a.put o.dst undef) w:=by
 have hlen:=D0.len;have Ft:i<es.length:=by rw [hlen]; exact (dV.1 ho).1
 obtain ⟨e,he⟩:∃ e,eU es i=some e:=⟨_,dU (by simpa using Ft)⟩
 obtain ⟨fs,pre,o',mP,re,iy,hf⟩:=D0.at i e he;rw [ho] at iy;obtain rfl:=aW iy;have wz:∀ m,dY e.mask m=true→m<i∧D m=true:=by
  intro m hm;rw [hf.mask] at hm;obtain ⟨ed,h1,h2,h3,h4⟩:=MP _ hm;have hD:=hr ed h1 h2;rcases h4 with rfl | h4
  ·exact ⟨h3,hD⟩
  have ax:ed.on<pre.length:=by omega
  obtain ⟨f,A7⟩:∃ f,eU pre ed.on=some f:=⟨_,dU (by simpa using ax)⟩
  have yd:(pre.reverse.map (·.mask)).getD ed.on 0=f.mask:=by rw [jN,List.getElem?_map];unfold eU at A7;rw [A7]; rfl
  rw [yd] at h4;have:=I.wg ed.on f (by rw [mP,Tl ax]; exact A7) hD m h4;exact ⟨by omega,this.2⟩
 have wA:∀ j f,eU es j=some f→D j=true→dY e.mask j=false→Fs e f∨Fs f e:=by
  intro j f hj fM hm;have aA:j≠i:=fun h=>by subst h; rw [hi] at fM; simp at fM
  rcases Nat.lt_or_gt_of_ne aA with h | h
  ·rcases Fq es hp j i f e h hj he with h1 | h1
   ·rw [hm] at h1; simp at h1
   exact .inl (IW h1)
  rcases Fq es hp i j e f h he hj with h1 | h1
  ·have:=(I.wg j f hj fM i h1).2;rw [hi] at this; simp at this
  exact .inr (IW h1)
 have A8:∀ j,pre.length≤j→dY e.mask j=false:=by
  intro j hj;cases h:dY e.mask j with
  | false=>rfl
  | true=>have:=(wz j h).1; omega
 have IY:lS st e.mask i.pred pre=cb st (dY e.mask) es:=by rw [ML pre i re,mP];exact (MN (fs++[e]) pre A8).symm.trans (by rw [lZ]; rfl)
 have C2:∀ t,(t∈e.o9)→look (cb st (dY e.mask) es).env t=look (cb st D es).env t:=by
  intro t ht;refine Fo es (fun j f hj=>?_);cases hm:dY e.mask j with
  | true=>exact .inl (wz j hm).2.symm
  | false=>
   cases fM:D j with
   | false=>exact .inl rfl
   | true=>
    refine .inr (fun hd=>?_);rcases wA j f hj fM hm with hq | hq
    ·exact hq.u2 t hd ht
    exact hq.u1 t hd ht
 have Fu:∀ id,id∈e.reads→(cb st (dY e.mask) es).obj id=(cb st D es).obj id:=by
  intro id hid;refine Fp es (fun j f hj=>?_);cases hm:dY e.mask j with
  | true=>exact .inl (wz j hm).2.symm
  | false=>
   cases fM:D j with
   | false=>exact .inl rfl
   | true=>
    refine .inr (fun hd=>?_);rcases wA j f hj fM hm with hq | hq
    ·exact hq.t2 id hd hid
    exact hq.t1 id hd hid
 have later:∀ j f,i<j→eU es j=some f→∀ {t:Nat},((e.dst≠some t→False)→(fun j=>D j||j==i) j=false∨f.dst≠some t):=by
  intro j f hj ke t ht;cases fM:D j with
  | false=>exact .inl (by first | (show (D j||j==i)=false; rw [fM]; simp; omega) | (show (false||j==i)=false; simp; omega) | (simp [fM]; omega))
  | true=>
   have hm:dY e.mask j=false:=A8 j (by omega);have Fv:e.dst=some t:=Classical.not_not.1 ht;rcases wA j f ke fM hm with hq | hq
   ·exact .inr (hq.d1 t Fv)
   exact .inr (fun h=>hq.d1 t h Fv)
 have Fw:¬ U (st.nxt+i):=by
  intro h;rcases I.used _ h with h | ⟨j,h1,h2,h3⟩
  ·omega
  have:j=i:=by omega
  subst this; rw [hi] at h2; simp at h2
 have after:∀ v w' g' U',dL g w U (st.nxt+i) e.bq v w' g' U'→K (a.put o.dst v) w':=by
  intro v w' g' U' nD;refine hK _ _ g' U' ⟨?_,fun s h=>?_,fun j f hj fM m hm=>?_,fun s h=>nD.iZ.sub s (I.sub s h),fun id ver p h1 h2=>?_⟩
  ·refine I.rel.MR (hN o (by rw [Array.mem_toList_iff]; exact Array.mem_of_getElem? (by rw [← qe]; exact ho))) nD (fun t=>?_) (fun id=>?_) (fun s h=>?_)
   ·by_cases l_:o.dst=some t
    ·rw [if_pos l_];show look (cb st (fun j=>D j||j==i) es).env t=_;have gV:look (cb st (fun j=>D j||j==i) es).env t=look (cb st (fun j=>D j||j==i) (e::pre)).env t:=by rw [mP];refine MS (e::pre) fs (fun j f hj ke=>?_);rw [← mP] at ke;simp only [aQ] at hj;exact later j f (by omega) ke (fun hd=>hd (by rw [hf.dst]; exact l_))
     rw [gV];simp only [cb,re,beq_self_eq_true,Bool.or_true,yx];rw [if_pos (by rw [hf.dst]; exact l_)]
    rw [if_neg l_];refine Fo es (fun j f hj=>?_);by_cases gq:j=i
    ·subst gq;rw [he] at hj;obtain rfl:=aW hj;exact .inr (by rw [hf.dst]; exact l_)
    exact .inl (by simp [gq])
   ·show (cb st (fun j=>D j||j==i) es).obj id=_;cases iN:look e.bq.aX id with
    | none=>
     refine Fp es (fun j f hj=>?_);by_cases gq:j=i
     ·subst gq;rw [he] at hj;obtain rfl:=aW hj;refine .inr (fun hm=>?_);obtain ⟨q,hq,wa⟩:=kb.1 hm;exact Tm hq wa iN
     exact .inl (by simp [gq])
    | some x=>
     have gV:(cb st (fun j=>D j||j==i) es).obj id=(cb st (fun j=>D j||j==i) (e::pre)).obj id:=by
      rw [mP];refine MU (e::pre) fs (fun j f hj ke=>?_);rw [← mP] at ke;simp only [aQ] at hj;cases fM:D j with
      | false=>exact .inl (by first | (show (D j||j==i)=false; rw [fM]; simp; omega) | (show (false||j==i)=false; simp; omega) | (simp [fM]; omega))
      | true=>
       have hm:dY e.mask j=false:=A8 j (by omega);have hid:id∈pb e:=kb.2 ⟨_,ky iN,rfl⟩;rcases wA j f ke fM hm with hq | hq
       ·exact .inr (fun h=>hq.t3 id hid h)
       exact .inr (fun h=>hq.t3 id h hid)
     rw [gV];simp only [cb,re,beq_self_eq_true,Bool.or_true,C1,iN]
   rcases nD.used s h with h | h
   ·have:=I.rel.used s h; exact this
   show s<st.nxt+es.length; omega
  ·rcases nD.used s h with h | h
   ·rcases I.used s h with h | ⟨j,h1,h2,h3⟩
    ·exact .inl h
    exact .inr ⟨j,h1,by simp [h2],h3⟩
   exact .inr ⟨i,Ft,by simp,h⟩
  ·by_cases gq:j=i
   ·subst gq;rw [he] at hj;obtain rfl:=aW hj;obtain ⟨h1,h2⟩:=wz m hm;exact ⟨h1,by simp [h2]⟩
   have MV:D j=true:=by simpa [gq] using fM
   obtain ⟨h1,h2⟩:=I.wg j f hj MV m hm;exact ⟨h1,by simp [h2]⟩
  rw [nD.iZ.hd _ _ _ (I.sub _ h1) (I.sub _ h2),I.hd id ver p h1 h2]
 obtain ⟨runs,hg,C3⟩:=hf.act;have abQ:nC o (yielded ops a.tmps)=runs:=by
  cases sV:o.guard with
  | none=>
   rw [sV] at hg;simp only at hg;rw [hg];simp [nC,sV]
  | some gw=>
   obtain ⟨gd,want⟩:=gw;rw [sV] at hg;obtain ⟨d,h1,hg⟩:=hg;rw [IY] at hg;have hd:d∈e.o9:=hf.abO d (by simp [Ci,sV,h1]);rcases hg with ⟨b,h2,h3⟩ | ⟨h2,h3⟩
   ·have hv:a.eval (.tmp d) = .bool b:=by
     have h4:look (cb st (dY e.mask) es).env d=some (.bool b):=by
      simp only [St.ev] at h2;split at h2
      ·rename_i v hv; rw [hv,h2]
      simp at h2
     rw [C2 d hd] at h4;exact I.rel.env d _ h4
    have hy:yielded ops a.tmps gd=some b:=R5 h1 hv;rw [h3];simp [nC,sV,hy]
   have hv:a.eval (.tmp d)=undef:=by
    have h4:look (cb st (dY e.mask) es).env d=some (.gN []):=by
     simp only [St.ev] at h2;split at h2
     ·rename_i v hv; rw [hv,h2]
     simp at h2
    rw [C2 d hd] at h4;obtain ⟨l,h5,h6⟩:=I.rel.env d _ h4;obtain rfl:=h6;exact h5
   have hy:yielded ops a.tmps gd=none:=R6 h1 hv;rw [h3];simp [nC,sV,hy]
 rw [abQ];cases runs with
 | false=>
  have C3:e.bq=⟨.gN [],[]⟩:=C3;simp only [Bool.false_eq_true,if_false];refine after undef w g (U' U (st.nxt+i)) ?_;rw [C3];exact ⟨⟨fun s h=>.inl h,fun _ _ _ _ _=>rfl,fun b o hl v hv=>⟨hv,hl⟩,fun b o id p hl _=>⟨hl,rfl,rfl⟩⟩,⟨[],rfl,rfl⟩,fun id o h=>by simp [look] at h,fun s h=>h,I.rel.b9,fun b o q _ h=>by rw [h]; simp,.refl _ _,fun id h=>by simp [look] at h⟩
 | true=>
  obtain ⟨hu,nE⟩:=C3;rw [IY] at nE;simp only [if_true];have S:dp P c g w U (restrict (cb st (dY e.mask) es) (lx o.op.operands.toList) e.reads) a:=by
   refine ⟨hc,fun t v h=>?_,fun id ob h=>?_,I.rel.b9,I.rel.u0,I.rel.nr,fun id h=>?_,I.rel.gl hG⟩
   ·rw [show (restrict (cb st (dY e.mask) es) (lx o.op.operands.toList) e.reads).env=iY (cb st (dY e.mask) es) (lx o.op.operands.toList) from rfl,CP] at h;split at h
    ·rename_i ht;rw [C2 t (hu t ht)] at h;exact I.rel.env t v h
    simp at h
   ·have h':(if id∈e.reads then (cb st (dY e.mask) es).obj id else none)=some ob:=by rw [← AZ]; exact h
    split at h'
    ·rename_i hid;rw [Fu id hid] at h';exact I.rel.heap id ob h'
    simp at h'
   have h':(if id∈e.reads then (cb st (dY e.mask) es).obj id else none)≠none:=by rw [← AZ]; exact h
   split at h'
   ·rename_i hid;rw [Fu id hid] at h';exact I.rel.nf id h'
   exact absurd rfl h'
  obtain ⟨bq,h1,h2⟩:=H S Fw nE;obtain rfl:=aW h1;exact .inl (h2 _ _ (fun v w' g' U' hp=>after v w' g' U' hp))
def kA (D:Nat→Bool):Nat→Nat
 | 0=>0
 | n+1=>kA D n+(if D n=true then 0 else 1)
theorem MW {D:Nat→Bool} {i:Nat} (hi:D i=false):∀ n,(i<n→kA (fun j=>D j||j==i) n+1=kA D n)∧(n≤i→kA (fun j=>D j||j==i) n=kA D n)
 | 0=>⟨fun h=>by omega,fun _=>rfl⟩
 | n+1=>by
  obtain ⟨h1,h2⟩:=MW hi n;refine ⟨fun h=>?_,fun h=>?_⟩
  ·by_cases hn:n=i
   ·subst hn;have:=h2 (cj _);simp only [kA,this,hi];simp
   have:=h1 (by omega);have hb:(n==i)=false:=by simpa using hn
   simp only [kA,hb,wj];omega
  have hb:(n==i)=false:=by simp; omega
  have:=h2 (by omega);simp only [kA,this,hb,wj]
theorem C4 {D:Nat→Bool} : ∀ n,kA D n=0→∀ i,i<n→D i=true
 | 0,_,i,h=>by omega
 | n+1,h0,i,h=>by
  simp only [kA] at h0;by_cases hn:i=n
  ·subst hn;cases hD:D i with
   | true=>rfl
   | false=>rw [hD] at h0; simp at h0
  exact C4 n (by omega) i (by omega)
theorem MX {D:Nat→Bool} : ∀ n,kA D n≠0→∃ i,i<n∧D i=false∧∀ j,j<i→D j=true
 | 0,h=>absurd rfl h
 | n+1,h=>by
  by_cases hn:kA D n=0
  ·refine ⟨n,by omega,?_,C4 n hn⟩;simp only [kA,hn] at h;cases hD:D n with
   | false=>rfl
   | true=>rw [hD] at h; simp at h
  obtain ⟨i,h1,h2,h3⟩:=MX n hn;exact ⟨i,by omega,h2,h3⟩
theorem abR (H:yg P c) (hc:fY P c) (hG:Gl P F w0) {ops:Array Oper} (hN:∀ o∈ops.toList,∀ x,o.dst=some x→x<N) {es:List cH} (D0:oD c ops.toList st ops.toList.length es) (hp:p8 es.length.pred es=true)
  {g0:Gh} {U0:Nat→Prop} {Q:Exit→Act→World→Prop}
  (hQ:∀ a' w' g' U' (D:Nat→Bool),(∀ i,i<es.length→D i=true)→Inv w0 F N g0 U0 st es D g' U' a' w'→Q .normal a' w') :
  ∀ (fuel:Nat) (listed:Array Bool) (a:Act) (w:World) (g:Gh) (U:Nat→Prop),listed.size=ops.size→kA (fun i=>listed.getD i true) ops.size≤fuel→
   Inv w0 F N g0 U0 st es (fun i=>listed.getD i true) g U a w→wpAny P .any ops Q fuel listed a w:=by
 have hlen:=D0.len;have mP:es.length=ops.size:=by rw [hlen]; simp
 intro fuel;have ready:∀ (listed:Array Bool) (i:Nat),i∈qp .any ops listed→i<ops.size∧listed.getD i true=false∧∀ o,ops[i]? = some o→∀ e∈o.after.toList,sN .any e=true→listed.getD e.on false=true:=by intro listed i h;unfold qp at h;obtain ⟨h1,h2⟩:=List.mem_filter.1 h;simp only [aw,A0] at h2;refine ⟨by simpa using h1,h2.1,fun o ho e he hb=>?_⟩;have h3:=h2.2;rw [ho] at h3;simp only [Option.map_some,Option.getD_some] at h3;have:=(EY.1 h3) e (by simpa using he);simpa [hb] using this
 have least:∀ (listed:Array Bool),listed.size=ops.size→qp .any ops listed=[]→∀ i,i<ops.size→listed.getD i true=true:=by
  intro listed hs hr;refine C4 ops.size ?_;by_cases h0:kA (fun i=>listed.getD i true) ops.size=0
  ·exact h0
  exfalso;obtain ⟨i,h1,h2,h3⟩:=MX _ h0;have cC:i∈qp .any ops listed:=by
   unfold qp;refine List.mem_filter.2 ⟨by simpa using h1,?_⟩;obtain ⟨o,ho⟩:∃ o,ops[i]? = some o:=⟨_,qd h1⟩
   have iy:ops.toList[i]? = some o:=by rw [qe]; exact ho
   obtain ⟨e,he⟩:∃ e,eU es i=some e:=⟨_,dU (by simpa [mP] using h1)⟩
   obtain ⟨fs,pre,o',-,-,sQ,hf⟩:=D0.at i e he;rw [iy] at sQ;obtain rfl:=aW sQ;simp only [h2,Bool.not_false,Bool.true_and,ho,Option.map_some,Option.getD_some];refine EY.2 (fun ed C0=>?_);cases hb:sN .any ed with
   | false=>rfl
   | true=>
    have ax:=MQ hf.Th ed (by simpa using C0) hb;have:=h3 ed.on ax;simp only [Bool.not_true,Bool.false_or];have MY:ed.on<listed.size:=by omega
    simpa [lY,qd MY] using this
  rw [hr] at cC;simp at cC
 induction fuel with
 | zero=>
  intro listed a w g U hs Fx I;have cI:=C4 ops.size (Nat.le_zero.1 Fx);refine ⟨?_,hQ a w g U _ (fun i hi=>cI i (by omega)) I⟩;cases hr:qp .any ops listed with
  | nil=>rfl
  | cons i l=>
   obtain ⟨h1,h2,-⟩:=ready listed i (by rw [hr]; simp);rw [cI i h1] at h2;simp at h2
 | succ fuel ih=>
  intro listed a w g U hs Fx I;refine ⟨fun hr=>hQ a w g U _ (fun i hi=>least listed hs hr i (by omega)) I,fun i hi=>?_⟩;obtain ⟨h1,h2,h3⟩:=ready listed i hi;obtain ⟨o,ho⟩:∃ o,ops[i]? = some o:=⟨_,qd h1⟩
  unfold wpOp;rw [ho];simp only;have lV:∀ j,(listed.setIfInBounds i true).getD j true=(listed.getD j true||j==i):=by
   intro j;simp only [lY,Array.getElem?_setIfInBounds];by_cases gq:i=j
   ·subst gq;rw [if_pos rfl];simp [hs,h1]
   rw [if_neg gq];have:(j==i)=false:=by simp; exact fun e=>gq e.symm
   rw [this,wj]
  have iy:ops.toList[i]? = some o:=by rw [qe]; exact ho
  refine abP H hc hG hN D0 hp iy h2 (fun e he hb=>?_) I (fun a' w' g' U' I'=>ih _ a' w' g' U' (by simp [hs]) ?_ ?_)
  ·have hf:=h3 o ho e he hb;simp only [lY] at hf ⊢;cases hx:listed[e.on]? with
   | none=>rfl
   | some b=>rw [hx] at hf; exact hf
  ·have:=(MW (D:=fun j=>listed.getD j true) h2 ops.size).1 h1;have e:(fun j=>(listed.setIfInBounds i true).getD j true)=(fun j=>listed.getD j true||j==i):=funext lV;rw [e]; omega
  have e:(fun j=>(listed.setIfInBounds i true).getD j true)=(fun j=>listed.getD j true||j==i):=funext lV;rw [e]; exact I'
theorem MZ {g0:Gh} {U0:Nat→Prop} (eS:∀ s,U0 s→U s) (dA:∀ id ver p,U0 (id / 1024)→U0 ver→g.hd id ver p=g0.hd id ver p) (h0:U0 0):∀ (es:List cH),Ext g0 U0 st g U (lT st es)
 | []=>⟨eS,cj _,⟨[],rfl,fun _ _=>.inr rfl⟩,⟨[],rfl,fun _ _=>.inr ⟨rfl,fun ver p h1 h2=>dA _ _ _ h1 h2⟩⟩,fun i _ h=>dA _ _ _ h h0⟩
 | e::es=>by
  obtain ⟨x1,x2,⟨l,x3,x4⟩,⟨m,x5,x6⟩,x7⟩:=MZ eS dA h0 es;refine ⟨eS,Nat.le_succ_of_le x2,⟨(match e.dst with | some x=>[x] | none=>[])++l,?_,fun t ht=>?_⟩,⟨pb e++m,?_,fun id hid=>?_⟩,x7⟩
  ·show (match e.dst with | some d=>d::(lT st es).et | none=>(lT st es).et)=_;rw [x3];cases e.dst<;>rfl
  ·simp only [eh,not_or] at ht;show look ((lT st es).put e.dst e.bq).env t=none∨look ((lT st es).put e.dst e.bq).env t=_;rw [yx,if_neg]
   ·exact x4 t ht.2
   intro hd;rw [hd] at ht;simp at ht
  ·show pb e++(lT st es).ht=_;rw [x5,lZ]
  simp only [eh,not_or] at hid;show ((lT st es).put e.dst e.bq).obj id=none∨(((lT st es).put e.dst e.bq).obj id=_∧_);rw [C1,ER hid.1];exact x6 id hid.2
theorem M_:∀ es:List cH,(lT st es).nxt=st.nxt+es.length
 | []=>rfl
 | e::es=>by show (lT st es).nxt+1=_;rw [M_ es];simp only [aQ]; omega
theorem Tn (hm:P.follows .mixedOrders=true) (H:yg P c) (hc:fY P c) {ρ:Type} {r:ρ} {w0:World} {F:bW} {N:Nat} (id:Nat) (ops:Array Oper) (st:St) (a:Act) (w:World) (g:Gh) (U:Nat→Prop)
  (k:St→Option ρ) (Q:Exit→Act→World→Prop) (hN:∀ o∈ops.toList,∀ x,o.dst=some x→x<N) (hG:Gl P F w0) (R:Rel w0 F N g U st a w) (e:Ax c ops st k=some r)
  (hQ:∀ st' a' w' g' U',Rel w0 F N g' U' st' a' w'→Ext g U st g' U' st'→k st'=some r→Q .normal a' w'):(Code.region id ops true).wp P Q a w:=by
 have e:vG c ops.toList st ops.toList 0 [] (fun es=>match p8 (ops.toList.length-1) es with | true=>k (lT st es) | false=>none)=some r:=e;obtain ⟨es,D0,e⟩:=IV ops.toList 0 [] _ .nil rfl e;have hlen:=D0.len;split at e
 ·rename_i hp;have hp:p8 es.length.pred es=true:=by rw [hlen]; exact hp
  have Rd:Rel w0 F N g U st a { w with drawn:=w.drawn+1 }:=R.drawn;refine wp_region_any hm (abR (w0:=w0) (F:=F) (N:=N) H hc hG hN D0 hp (g0:=g) (U0:=U) (fun a' w' g' U' D hD I=>?_) ops.size _ a _ g U (by simp) ?_ ⟨?_,fun s h=>.inl (R.used s h),fun i f hf hi=>?_,fun s h=>h,fun _ _ _ _ _=>rfl⟩)
  ·have cI:=MM (st0:=st) es hD;refine hQ (lT st es) a' w' g' U' (I.rel.same (fun t=>by rw [cI]) (fun id=>by rw [cI]; rfl) (fun s hs=>?_)) (MZ I.sub I.hd R.u0 es) e;rw [M_];exact I.rel.used s hs
  ·have:∀ (D:Nat→Bool) n,kA D n≤n:=by
    intro D n;induction n with
    | zero=>exact cj _
    | succ n ih=>simp only [kA]; split<;>omega
   exact this _ _
  ·have M3:∀ iM:List cH,iM.length≤ops.size→cb st (fun i=>(uj ops.size false).getD i true) iM=st:=by
    intro iM;induction iM with
    | nil=>intro _; rfl
    | cons f iM ih=>
     intro hl;simp only [aQ] at hl;have ax:iM.length<ops.size:=by omega
     have hb:(uj ops.size false).getD iM.length true=false:=by simp [lY,ax]
     simp only [cb,hb];exact ih (by omega)
   have dz:=M3 es (by rw [hlen]; simp);refine Rd.same (fun t=>by rw [dz]) (fun id=>by rw [dz]; rfl) (fun s hs=>?_);have:=R.used s hs;show s<st.nxt+es.length;omega
  exfalso;have ax:i<ops.size:=by have:=(dV.1 hf).1;simp only [Sv,hlen] at this;simpa using this
  have hb:(uj ops.size false).getD i true=false:=by simp [lY,ax]
  rw [hb] at hi; simp at hi
 simp at e
theorem uz (hm:P.follows .mixedOrders=true) (H:yg P c) (hc:fY P c) (h0:vJ c=none:=by rfl):A_ P c:=by
 intro ρ r w0 F N id ops draw st a w g U k Q hN hG R e hQ;cases draw with
 | false=>exact wp_region_list (Io H hc hG hN ops.toList st a w g U k (fun o h=>h) R e hQ)
 | true=>
  have e:(match vJ c with | none=>Ax c ops st k | some T=>match Eb ops.toList with | none=>Ax c ops st k | some mf=>match Ed T ops.toList mf with | true=>Ef c mf ops.toList st k | false=>none)=some r:=e;rw [h0] at e;exact Tn hm H hc id ops st a w g U k Q hN hG R e hQ
end
end Go.Am
namespace Go.Am
open Go
def M4:ag→Value→Bool
 | .int k n,.int l m=>nn k l&&(n==m)
 | .bool b,.bool c=>b==c
 | .str [],.string s=>s.data.toList.isEmpty
 | .err true,.nilIface=>true
 | .nil,.slice none 0 0=>true
 | .so,.pointer none=>true
 | .tL,.nilFunc=>true
 | .undef,_=>true
 | _,_=>false
def C5:List ag→List Value→Bool
 | [],vs=>vs.isEmpty
 | a::as,vs=>match vs with
  | []=>false
  | v::vs=>M4 a v&&C5 as vs
theorem abS {g:Gh} {w:World} {U:Nat→Prop} {a:ag} {v:Value} (h:M4 a v=true):aV g w U a v:=by
 unfold M4 at h;split at h
 ·simp only [aw,beq_iff_eq] at h;obtain ⟨h1,rfl⟩:=h;obtain rfl:=o7 h1;rfl
 ·simp only [beq_iff_eq] at h; subst h; rfl
 ·rename_i d;show Value.string d = .string ⟨([]:List UInt8).toArray⟩;obtain ⟨⟨l⟩⟩:=d;cases l with
  | nil=>rfl
  | cons a l=>simp at h
 ·rfl
 ·rfl
 ·rfl
 ·rfl
 ·trivial
 simp at h
theorem To {g:Gh} {w:World} {U:Nat→Prop} : ∀ {as:List ag} {vs:List Value},C5 as vs=true→cu g w U as vs
 | [],vs,h=>by
  cases vs with
  | nil=>rfl
  | cons v vs=>simp [C5] at h
 | a::as,vs,h=>by
  cases vs with
  | nil=>simp [C5] at h
  | cons v vs=>
   simp only [C5,aw] at h;exact ⟨v,vs,rfl,abS h.1,To h.2⟩
def C6:List Field→List (Nat×Nat)→Bool
 | [],l=>l.isEmpty
 | f::fs,l=>match l with
  | []=>false
  | p::l=>aM f.offset p.1&&aM f.type p.2&&C6 fs l
theorem Tp:∀ {fs:List Field} {l:List (Nat×Nat)},C6 fs l=true→fs.map (fun f=>(f.offset,f.type))=l
 | [],l,h=>by cases l with | nil=>rfl | cons=>simp [C6] at h
 | f::fs,l,h=>by
  cases l with
  | nil=>simp [C6] at h
  | cons p l=>
   simp only [C6,aw] at h;obtain ⟨⟨h1,h2⟩,h3⟩:=h;rw [mL,Tp h3,bm h1,bm h2]
def Tq (k:TK) (elem:Nat) (fields:List (Nat×Nat)) (d:TypeDesc):Bool:=match k,d with
 | .int k,.int l=>nn k l
 | .str,.string=>true
 | .bool,.bool=>true
 | .iface,.interface _=>true
 | .slice,.slice e=>aM e elem
 | .struct,.struct fs=>C6 fs.toList fields
 | .other,_=>true
 | _,_=>false
def C7:List ag→List ag→Bool
 | [],l=>l.isEmpty
 | a::as,l=>match l with
  | []=>false
  | b::bs=>(match a,b with
   | .int k n,.int l m=>nn k l&&(n==m)
   | .bool b,.bool c=>b==c
   | .str [],.str []=>true
   | .err a,.err b=>a==b
   | .nil,.nil=>true
   | _,_=>false)&&C7 as bs
theorem Tr:∀ {as bs:List ag},C7 as bs=true→as=bs
 | [],l,h=>by cases l with | nil=>rfl | cons=>simp [C7] at h
 | a::as,l,h=>by
  cases l with
  | nil=>simp [C7] at h
  | cons b bs=>
   simp only [C7,aw] at h;rw [Tr h.2];have h:=h.1;congr 1;split at h
   ·simp only [aw,beq_iff_eq] at h;rw [o7 h.1,h.2]
   ·simp only [beq_iff_eq] at h; rw [h]
   ·rfl
   ·simp only [beq_iff_eq] at h; rw [h]
   ·rfl
   simp at h
def IZ (P:Program):Nat→List Field→Bool
 | _,[]=>true
 | n,f::fs=>aM f.offset n&&!(f.name== "_")&&(match P.underlying f.type with | some (.int _)=>true | _=>false)&&IZ P (n+1) fs
theorem Ts {P:Program} : ∀ (fs:List Field) (m:Nat),IZ P m fs=true→∀ (n:Nat) (f:Field),fs[n]? = some f→f.offset=m+n∧f.name≠ "_" ∧∃ kk,P.underlying f.type=some (.int kk)
 | [],m,h,n,f,hf=>by simp at hf
 | g::fs,m,h,n,f,hf=>by
  simp only [IZ,aw] at h;obtain ⟨⟨⟨h1,h2⟩,h3⟩,h4⟩:=h;cases n with
  | zero=>
   simp only [yn,aF] at hf;subst hf;refine ⟨bm h1,by simpa using h2,?_⟩;split at h3
   ·rename_i k hk; exact ⟨k,hk⟩
   simp at h3
  | succ n=>
   obtain ⟨a1,a2⟩:=Ts fs (m+1) h4 n f (by simpa using hf);exact ⟨by omega,a2⟩
def Fy (P:Program) (t:Nat) (i:mD):Bool:=
 (match P.info? t with
  | some ti=>aM ti.size i.size&&aM ti.bytes i.bytes&&(match ti.zero with | some z=>aM z.cells.size i.size&&C5 i.zero z.cells.toList | none=>false)
  | none=>false)&&
 (match i.ty with | some T=>C7 i.zero (AE T)&&aM i.size T.size | none=>true)&&
 (match P.underlying t with
  | some d=>Tq i.kind i.elem i.fields d&&(i.agg==(match d with | .struct _=>true | .array _ _=>true | _=>false))
  | none=>false)&&
 (match i.eq with
  | false=>true
  | true=>!(P.stoodInHeld t)&&!(P.eqGuardType P.depth t)&&(match P.underlying t with | some (.struct fs)=>aM fs.size i.fields.length&&IZ P 0 fs.toList | _=>false))
theorem abT {P:Program} {t:Nat} {i:mD} (h:Fy P t i=true):nu P t i:=by
 unfold Fy at h;simp only [aw] at h;obtain ⟨⟨⟨h1,h2⟩,h3⟩,h4⟩:=h;refine ⟨?_,fun T hT=>?_,?_,fun he=>?_⟩
 ·split at h1
  ·rename_i ti oi;simp only [aw] at h1;obtain ⟨⟨a1,a2⟩,a3⟩:=h1;split at a3
   ·rename_i z hz;simp only [aw] at a3;exact ⟨ti,oi,bm a1,bm a2,z,hz,bm a3.1,fun g w U=>To a3.2⟩
   simp at a3
  simp at h1
 ·rw [hT] at h2;simp only [aw] at h2;exact ⟨Tr h2.1,bm h2.2⟩
 ·split at h3
  ·rename_i d hd;simp only [aw,beq_iff_eq] at h3;refine ⟨d,hd,?_,h3.2⟩;have h3:=h3.1;revert h3;cases i.kind<;>cases d<;>intro h3<;>simp only [Tq] at h3<;>first
    | exact absurd h3 Bool.false_ne_true
    | trivial
    | (rw [o7 h3])
    | (rw [bm h3])
    | exact ⟨_,rfl⟩
    | exact ⟨_,rfl,Tp h3⟩
  simp at h3
 rw [he] at h4;simp only [aw,A0] at h4;obtain ⟨⟨a1,a2⟩,a3⟩:=h4;split at a3
 ·rename_i fs xQ;simp only [aw] at a3;refine ⟨a1,a2,fs,xQ,bm a3.1,fun n f hf=>?_⟩;obtain ⟨b1,b2⟩:=Ts fs.toList 0 a3.2 n f hf;exact ⟨by omega,b2⟩
 simp at a3
theorem eo {P:Program} {c:ba} (h:(c.bw.all fun p=>Fy P p.1 p.2)=true):fY P c:=by intro t i hl;exact abT (gp.1 h _ (ky hl))
end Go.Am
namespace Go.Am
open Go Go.WideShapes Go.RowKit
def A9 (P:Program) (f:TypeId→Ty→Bool):List Field→Nat→Ty→Bool
 | [],_,_=>false
 | [x],off,T=>aM x.offset off&&f x.type T&&aM (P.cellsOf x.type) T.size
 | x::y::l,off,T=>match T with
  | .pair a b=>aM x.offset off&&f x.type a&&aM (P.cellsOf x.type) a.size&&A9 P f (y::l) (off+a.size) b
  | _=>false
def oE (P:Program):Nat→TypeId→Ty→Bool
 | 0,_,_=>false
 | n+1,t,.int k=>match P.underlying t with | some (.int l)=>nn k l | _=>false
 | n+1,t,.bool=>match P.underlying t with | some .bool=>true | _=>false
 | n+1,t,.str=>match P.underlying t with | some .string=>true | _=>false
 | n+1,t,.sl u=>match P.underlying t with | some (.slice e)=>oE P n e u&&aM (P.cellsOf e) u.size | _=>false
 | n+1,t,.pair a b=>match P.underlying t with | some (.struct fs)=>A9 P (oE P n) fs.toList 0 (.pair a b)&&aM (P.cellsOf t) (Ty.pair a b).size | _=>false
 | _+1,_,_=>false
def uA:(t:Ty)→t.T→Prop
 | .int k,n=>(Lit.int k n).wf=true
 | .bool,_=>True
 | .str,s=>(s:List UInt8).length≤maxLen
 | .err,_=>True
 | .pair a b,x=>uA a x.1∧uA b x.2
 | .sl t,xs=>let ys:List t.T:=xs; ys.length≤maxLen∧∀ x∈ys,uA t x
 | .bQ _,_=>True
section
variable {H:Type} {enc:TypeId×Value→H} {P:Program} {w:World} {held:Bool} {g:Gh}
abbrev L0:bW:=fun _ _=>none
theorem abU (a:Addr) (i k:Nat):a.add (i+k)=(a.add i).add k:=by
 unfold Addr.add;by_cases hi:i=0
 ·subst hi; simp
 by_cases hk:k=0
 ·subst hk; simp [hi]
 simp [hi,hk,bL]
theorem abV {α:Type} (n:Nat) (p:Nat→α→Prop) (h:∀ i,i<n→∃ x,p i x):∃ xs:List α,xs.length=n∧∀ i (hi:i<xs.length),p i xs[i]:=by
 induction n with
 | zero=>exact ⟨[],rfl,fun i hi=>by simp at hi⟩
 | succ n ih=>
  obtain ⟨xs,h1,h2⟩:=ih (fun i hi=>h i (by omega));obtain ⟨x,hx⟩:=h n (by omega);refine ⟨xs++[x],by simp [h1],fun i hi=>?_⟩;by_cases ax:i<xs.length
  ·rw [List.getElem_append_left ax]; exact h2 i ax
  have:i=n:=by simp at hi; omega
  subst this;rw [List.getElem_append_right (by omega)];simpa [h1] using hx
theorem Tt {f:TypeId→Ty→Bool} {n:Nat} {cs:List Value} (hf:∀ t T eg x,f t T=true→DataW.trod enc P w 0 (fun _=>true) held n t eg=some x→
   ∃ d:T.T,eg.length=T.size∧(∀ q i j,cQ g L0 w false ca T q i j d (fun k=>eg[k]?))∧uA T d) :
  ∀ (fs:List Field) (off:Nat) (T:Ty) (xs:List (DataW H×List MemPlace)),A9 P f fs off T=true→off+T.size≤cs.length→
   (∀ (i:Nat) (fd:Field),fs[i]? = some fd→∃ x,DataW.trod enc P w 0 (fun _=>true) held n fd.type ((cs.drop fd.offset).take (P.cellsOf fd.type))=some x)→
   ∃ d:T.T,(∀ q i j,cQ g L0 w false ca T q i j d (fun k=>cs[off+k]?))∧uA T d
 | [],off,T,xs,h,hl,hx=>by simp [A9] at h
 | [fd],off,T,xs,h,hl,hx=>by simp only [A9,aw] at h;obtain ⟨⟨h1,h2⟩,h3⟩:=h;obtain ⟨x,hx⟩:=hx 0 fd rfl;obtain ⟨d,a1,a2,a3⟩:=hf _ _ _ _ h2 hx;refine ⟨d,fun q i j=>i_ T q i j d _ _ (fun k hk=>?_) (a2 q i j),a3⟩;rw [List.getElem?_take,bm h3,if_pos hk,A2,bm h1]
 | fd::fe::fs,off,T,xs,h,hl,hx=>by
  cases T with
  | pair a b=>
   simp only [A9,aw] at h;obtain ⟨⟨⟨h1,h2⟩,h3⟩,h4⟩:=h;simp only [Ty.size] at hl;obtain ⟨x,uf⟩:=hx 0 fd rfl;obtain ⟨d,a1,a2,a3⟩:=hf _ _ _ _ h2 uf;obtain ⟨d2,b1,b2⟩:=Tt hf (fe::fs) (off+a.size) b [] h4 (by omega) (fun i fd' hi=>hx (i+1) fd' (by simpa using hi));refine ⟨(d,d2),fun q i j=>⟨i_ a q i j d _ _ (fun k hk=>?_) (a2 q i j),i_ b q i _ d2 _ _ (fun k hk=>?_) (b1 q i (j+a.size))⟩,a3,b2⟩
   ·rw [List.getElem?_take,bm h3,if_pos hk,A2,bm h1]
   rw [bL]
  | _=>simp [A9] at h
theorem M5:∀ (m:Nat) (t:TypeId) (T:Ty),oE P m t T=true→∀ (n:Nat) (cs:List Value) (x:DataW H×List MemPlace),DataW.trod enc P w 0 (fun _=>true) held n t cs=some x→
  ∃ d:T.T,cs.length=T.size∧(∀ q i j,cQ g L0 w false ca T q i j d (fun k=>cs[k]?))∧uA T d
 | 0,t,T,h=>by simp [oE] at h
 | m+1,t,.int k,h=>by
  simp only [oE] at h;split at h
  ·rename_i l hu;obtain rfl:=o7 h;intro n cs x hx;obtain ⟨v,rfl,rfl,hw⟩:=DataW.trod_int hu hx;exact ⟨v,rfl,fun _ _ _=>rfl,hw⟩
  simp at h
 | m+1,t,.bool,h=>by
  simp only [oE] at h;split at h
  ·rename_i hu;intro n cs x hx;obtain ⟨v,rfl,rfl⟩:=DataW.trod_bool hu hx;exact ⟨v,rfl,fun _ _ _=>rfl,trivial⟩
  simp at h
 | m+1,t,.str,h=>by
  simp only [oE] at h;split at h
  ·rename_i hu;intro n cs x hx;obtain ⟨v,rfl,rfl,hw⟩:=DataW.trod_string hu hx;refine ⟨v.data.toList,rfl,fun _ _ _=>?_,by simpa [uA] using hw⟩;obtain ⟨⟨l⟩⟩:=v;rfl
  simp at h
 | m+1,t,.sl u,h=>by
  simp only [oE] at h;split at h
  ·rename_i e hu;simp only [aw] at h;obtain ⟨h1,h2⟩:=h;have h2:=bm h2;intro n cs x hx;rcases DataW.trod_slice hu hx with ⟨rfl,-⟩ | ⟨a,len,cap,elems,rest,n',rfl,rfl,rfl,hb,hl,hm,hlen,EL,-⟩
   ·exact ⟨([]:List u.T),rfl,fun _ _ _=>⟨_,rfl,none,0,0,rfl,rfl,cj _,fun _=>rfl,fun h=>absurd rfl h⟩,uk _,fun x hx=>absurd hx (by simp)⟩
   have each:∀ i,i<len→∃ d:u.T,(∀ k,k<u.size→∃ v,w.cell? (a.add (i*u.size+k))=some v)∧(∀ q i' j,cQ g L0 w false ca u q i' j d (fun k=>w.cell? (a.add (i*u.size+k))))∧uA u d:=by
    intro i hi;have hx:=EL i hi;have ax:i<elems.length:=by omega
    rw [dU ax,h2] at hx;obtain ⟨eg,hc,ht⟩:=Iu.1 hx;obtain ⟨-,c1,c2⟩:=World.cells?_some hc;obtain ⟨d,d1,d2,d3⟩:=M5 m e u h1 n' eg _ ht;have nB:∀ k,k<u.size→w.cell? (a.add (i*u.size+k))=eg[k]?:=fun k hk=>by rw [← c2 k hk];congr 1;exact abU a _ _
    refine ⟨d,fun k hk=>?_,fun q i' j=>i_ u q i' j d _ _ (fun k hk=>nB k hk) (d2 q i' j),d3⟩;rw [nB k hk];exact ⟨_,dU (by omega)⟩
   obtain ⟨ds,e1,e2⟩:=abV len _ each;refine ⟨ds,rfl,fun _ _ _=>⟨_,rfl,some a,len,cap,rfl,e1.symm,hl,by simp,fun aA=>?_⟩,by show ds.length≤maxLen; omega,fun x hx=>?_⟩
   ·have fw:0<ds.length:=List.length_pos_iff.2 aA;have I_:a.spot=none:=by
     obtain ⟨v,hv⟩:=(e2 0 fw).1 0 u.size_pos;unfold World.cell? at hv;split at hv
     ·split at hv
      ·simp at hv
      rename_i hs; simpa [Addr.add] using hs
     simp at hv
    have ha:∀ k,a.add k=ad a.block (a.off+k):=fun k=>by obtain ⟨b,o,s⟩:=a;simp only at I_;subst I_;exact Addr.add_lit _ _ _
    have H4:a=ad a.block a.off:=by obtain ⟨b,o,s⟩:=a;simp only at I_;subst I_;rfl
    refine ⟨a.block,a.off,by rw [← H4],fun i hi=>?_⟩;refine Cs (g:=g) (L:=L0) (σ:=ca) u [] 0 0 _ a.block (a.off+i*u.size) (fun _ _=>rfl) ?_;refine i_ u [] 0 0 _ _ _ (fun k hk=>?_) ((e2 i hi).2.1 [] 0 0);rw [ha,bL]
   obtain ⟨i,hi,rfl⟩:=List.getElem_of_mem hx;exact (e2 i hi).2.2
  simp at h
 | m+1,t,.pair a b,h=>by
  simp only [oE] at h;split at h
  ·rename_i fs hu;simp only [aw] at h;obtain ⟨h1,h2⟩:=h;intro n cs x hx;obtain ⟨xs,n',rfl,rfl,hl,hlen,EL⟩:=DataW.trod_struct hu hx;have xO:cs.length=(Ty.pair a b).size:=by rw [hl,bm h2]
   obtain ⟨d,d1,d2⟩:=Tt (g:=g) (cs:=cs) (fun t T eg x hb hx=>M5 m t T hb n' eg x hx) fs.toList 0 (.pair a b) [] h1 (by omega) (fun i fd hi=>by
    have gm:fs[i]? = some fd:=by simpa using hi
    have:=EL i fd gm;have ax:i<xs.length:=by have:=(Array.getElem?_eq_some_iff.1 gm).1;omega
    exact ⟨xs[i],by rw [this,dU ax]⟩)
   exact ⟨d,xO,fun q i j=>i_ (.pair a b) q i j d _ _ (fun k hk=>by rw [Nat.zero_add]) (d1 q i j),d2⟩
  simp at h
 | m+1,t,.err,h=>by simp [oE] at h
 | m+1,t,.bQ u,h=>by simp [oE] at h
theorem abW {m : Nat} {t : TypeId} {T : Ty} (hT : oE P m t T = true) {v : Value} {d : DataW H} {ps : List MemPlace} {W0 : World} {base : Nat} (bF : Value.okWide P W0 .any base t v) (h : DataW.Trod enc P w 0 (fun _ => true) held t v d ps) (U : Nat → Prop) :
    ∃ x : T.T, aV ⟨fun _ _ _ => dX, L0⟩ w U (shut T (flat mC T x 0)) v ∧ uA T x := by
  obtain ⟨n, h⟩ := h
  obtain ⟨x, h1, h2, h3⟩ := M5 (g := ⟨fun _ _ _ => dX, L0⟩) m t T hT n _ _ h
  refine ⟨x, EU (f := fun k => v.cells.toList[k]?) ?_ (j8 _ _ _ _) (EW (fun _ _ h => h) T [] 0 0 0 x _ (h2 [] 0 0)), h3⟩
  cases T with
  | pair a b =>
    have bB : 2 ≤ (Ty.pair a b).size := by
      have := a.size_pos; have := b.size_pos; simp [Ty.size]; omega
    cases v with
    | agg cs =>
      exact ⟨cs.toList, by simp, h1, rfl⟩
    | _ => simp only [Value.cells, List.size_toArray, Array.toList, List.length_singleton] at h1; omega
  | _ =>
    have Tu : ∀ cs, v ≠ .agg cs := by
      cases m with
      | zero => simp [oE] at hT
      | succ m =>
        simp only [oE] at hT
        first
          | exact absurd hT Bool.false_ne_true
          | (split at hT
             · rename_i hu
               first
                 | (obtain ⟨_, rfl⟩ := okWide_int hu bF; intro cs h; simp at h; done)
                 | (obtain ⟨_, rfl⟩ := okWide_bool hu bF; intro cs h; simp at h; done)
                 | (obtain ⟨_, rfl⟩ := okWide_string hu bF; intro cs h; simp at h; done)
                 | (obtain ⟨_, _, _, rfl⟩ := okWide_slice hu bF; intro cs h; simp at h; done)
             · simp at hT)
    cases v with
    | agg cs => exact absurd rfl (Tu cs)
    | _ => rfl
def sW (P:Program):List (Nat×au)→Prop
 | []=>True
 | (k,m)::l=>(Sound P (Ar k) m∧dh P (Ar k))∧sW P l
theorem Fa.of {c:ba} (h:sW P c.calls) (hp:IG P c:=by exact Go.Am.Mr rfl):Fa P c:=by
 refine ⟨?_,hp⟩;intro f m hm;revert h hm;generalize c.calls=l;intro h hm;induction l with
 | nil=>simp at hm
 | cons p l ih=>
  rcases fZ.1 hm with e | e
  ·rw [← e] at h; exact h.1
  exact ih h.2 e
def wB (P:Program):List (Nat×dn)→Prop
 | []=>True
 | p::l=>(pB P p.1 p.2∧dh P p.1)∧wB P l
theorem IQ.of {c:ba} (h:wB P c.tO):IQ P c:=by
 intro f m hm;revert h hm;generalize c.tO=l;intro h hm;induction l with
 | nil=>simp at hm
 | cons p l ih=>
  rcases fZ.1 hm with e | e
  ·rw [← e] at h; exact h.1
  exact ih h.2 e
def M6:(ps:List PK)→iH ps→Prop
 | [],_=>True
 | .val t::ps,x=>uA t x.1∧M6 ps x.2
 | _::_,_=>False
def yy (P:Program):List TypeId→List PK→Bool
 | [],[]=>true
 | t::ts,.val T::ps=>oE P 20 t T&&yy P ts ps
 | _,_=>false
theorem Tv:∀ (ts:List TypeId) (ps:List PK) (vs:List Value) (ds:List (DataW H)) (p:List MemPlace) (i:Nat),yy P ts ps=true→EZ enc P w 0 (fun _=>true) held ts vs ds p→
  (∀ (j:Nat) t v,ts[j]? = some t→vs[j]? = some v→∃ W0 base,Value.okWide P W0 .any base t v)→
  ∃ x:iH ps,cu ⟨fun _ _ _=>dX,L0⟩ w gE ((entry i ps x).1.map (·.2)) vs∧M6 ps x∧(entry i ps x).2=[]
 | [],ps,vs,ds,p,i,hb,h,bF=>by
  cases ps with
  | cons q ps=>simp [yy] at hb
  | nil=>
   cases vs with
   | nil=>exact ⟨(),rfl,trivial,rfl⟩
   | cons v vs=>exact absurd h (by cases ds<;>simp [EZ])
 | t::ts,ps,vs,ds,p,i,hb,h,bF=>by
  cases ps with
  | nil=>simp [yy] at hb
  | cons q ps=>
   cases q with
   | val T=>
    simp only [yy,aw] at hb;cases vs with
    | nil=>exact absurd h (by cases ds<;>simp [EZ])
    | cons v vs=>
     cases ds with
     | nil=>exact absurd h (by simp [EZ])
     | cons d ds=>
      obtain ⟨p1,q1,h1,h2,-⟩:=h;obtain ⟨W0,base,abX⟩:=bF 0 t v rfl rfl;obtain ⟨x,x1,x2⟩:=abW hb.1 abX h1 gE;obtain ⟨y,y1,y2,y3⟩:=Tv ts ps vs ds q1 (i+1) hb.2 h2 (fun j t v a b=>bF (j+1) t v (by simpa using a) (by simpa using b));exact ⟨(x,y),⟨v,vs,rfl,x1,y1⟩,⟨x2,y2⟩,y3⟩
   | _=>simp [yy] at hb
theorem abY {f:FuncId} {ps:List PK} {F:Nat→iH ps→Option (bZ (RK.bw [RK.val .bool]++PK.outs ps))} (hS:∀ n,Sound P f ⟨ps,[.val .bool],F n⟩) (bF:xM ps [.val .bool]=true)
  (abZ:∀ x,M6 ps x→∃ n y,F n x=some y∧(gi 20 0 [RK.val .bool] (PK.outs ps) y).1=[.bool true])
  {ts:List TypeId} {vs:List Value} {ds:List (DataW H)} {p:List MemPlace} (hT:yy P ts ps=true) (h:EZ enc P w 0 (fun _=>true) held ts vs ds p)
  (hw:∀ (j:Nat) t v,ts[j]? = some t→vs[j]? = some v→∃ W0 base,Value.okWide P W0 .any base t v) (hG:Gl P L0 w) :
  Calls P f vs.toArray w fun e w'=>e = .returned (.bool true)∧Below w.heap.size w w':=by
 obtain ⟨x,x1,x2,x3⟩:=Tv ts ps vs ds p 0 hT h hw;obtain ⟨n,y,y1,y2⟩:=abZ x x2;refine A1 (hS n x y y1 bF 20 (cj _) ⟨fun _ _ _=>dX,L0⟩ w vs ⟨x1,fun id o h=>?_,fun b o q h=>by simp [L0] at h⟩ hG) (fun e w' h=>?_)
 ·have h:look (entry 0 ps x).2 id=some (some o):=h;rw [x3] at h;simp [look] at h
 obtain ⟨v,g',rfl,E⟩:=h;have hv:=E.val;rw [y2] at hv;obtain rfl:v = .bool true:=hv;exact ⟨rfl,E.fr.os,E.fr.tape,E.fr.output,E.fr.size,fun k hk=>E.fr.block k hk (fun o ⟨id,p,h,_⟩=>by simp [L0] at h)⟩
end
end Go.Am
namespace Go.Am
open Go
theorem af {ρ:Type} {p:Prop} [Decidable p] {x:Option ρ} (h:p):ab p x=x:=by simp [ab,h]
theorem aB {ρ:Type} {x y:Option ρ} : br true x y=x:=rfl
theorem ar {ρ:Type} {x y:Option ρ} : br false x y=y:=rfl
theorem rq {ρ:Type} {b:Bool} {x y:Option ρ} : br b x y=if b=true then x else y:=by cases b<;>rfl
theorem Tw {α ρ:Type} {F:(α→Option ρ)→α→Option ρ} (I:α→Prop) (μ:α→Nat) (Q:α→Option ρ→Prop)
  (step:∀ ih x,I x→(∀ y,I y→μ y<μ x→Q y (ih y))→Q x (F ih x)):∀ n x,I x→μ x<n→Q x (iter n F x)
 | 0,x,_,h=>absurd h (Nat.not_lt_zero _)
 | n+1,x,hx,h=>step (iter n F) x hx (fun y hy hm=>Tw I μ Q step n y hy (by omega))
theorem M7 {σ ρ:Type} {F:(Int×σ→Option ρ)→Int×σ→Option ρ} (len:Nat) (P:Nat→σ→Option ρ→Prop)
  (hE:∀ ih s,P len s (F ih ((len:Int),s))) (hS:∀ ih (i:Nat) s,i<len→(∀ s',P (i+1) s' (ih (((i+1:Nat):Int),s')))→P i s (F ih ((i:Int),s))) :
  ∀ n (i:Nat) s,i≤len→len<n+i→P i s (iter n F ((i:Int),s))
 | 0,i,s,hi,h=>by omega
 | n+1,i,s,hi,h=>by
  show P i s (F (iter n F) ((i:Int),s));rcases Nat.lt_or_eq_of_le hi with ax | he
  ·exact hS _ i s ax (fun s'=>M7 len P hE hS n (i+1) s' (by omega) (by omega))
  subst he; exact hE _ s
theorem bP {n:Int} (h1 : -9223372036854775808≤n) (h2:n<9223372036854775808):ah n=n:=by unfold ah; omega
theorem a_ {i:Nat} (h:i<4611686018427387904):ah ((i:Int)+1)=((i+1:Nat):Int):=by rw [bP]<;>omega
theorem aJ {α:Type} {xs:List α} {i:Nat} (h:i<xs.length) (z:α):xs.getD i z=xs[i]:=by simp [h]
theorem ab_ {α:Type} (a:List α) (ok:α→Bool) {F:(Int×Unit→Option (Bool×Unit))→Int×Unit→Option (Bool×Unit)}
  (hF:∀ ih (i:Nat) (hi:i<a.length),F ih ((i:Int),())=if ok a[i]=true then ih (((i+1:Nat):Int),()) else some (false,()))
  (hE:∀ ih,F ih ((a.length:Int),())=some (true,())) {n:Nat} (hn:a.length<n):iter n F (0,())=some (a.all ok,()):=by
 have:=M7 (F:=F) a.length (fun i _ o=>o=some ((a.drop i).all ok,())) (fun ih s=>by rw [hE]; simp) (fun ih i s hi h=>by
  rw [hF ih i hi];have hd:a.drop i=a[i]::a.drop (i+1):=Ss hi;rw [hd,kz];split
  ·rename_i hk; rw [h ()]; simp [hk]
  rename_i hk; simp [hk]) n 0 () (uk _) (by omega)
 simpa using this
theorem M8 {α:Type} (a:List α) (p:α→Bool) {F:(Int×Unit→Option (Int×Unit))→Int×Unit→Option (Int×Unit)}
  (hF:∀ ih (i:Nat) (hi:i<a.length),F ih ((i:Int),())=if p a[i]=true then some ((i:Int),()) else ih (((i+1:Nat):Int),()))
  (hE:∀ ih,F ih ((a.length:Int),())=some (-1,())) {n:Nat} (hn:a.length<n):∃ r:Int,iter n F (0,())=some (r,())∧decide (0≤r)=a.any p:=by
 have:=M7 (F:=F) a.length (fun i _ o=>∃ r:Int,o=some (r,())∧decide (0≤r)=(a.drop i).any p) (fun ih s=>by rw [hE]; exact ⟨-1,rfl,by simp⟩) (fun ih i s hi h=>by
  rw [hF ih i hi];have hd:a.drop i=a[i]::a.drop (i+1):=Ss hi;rw [hd,List.any_cons];split
  ·rename_i hk; exact ⟨i,rfl,by simp [hk]⟩
  rename_i hk;obtain ⟨r,h1,h2⟩:=h ();exact ⟨r,h1,by rw [h2]; simp [hk]⟩) n 0 () (uk _) (by omega)
 simpa using this
theorem M9 {α σ ρ:Type} {F:(α→Option ρ)→α→Option ρ} (st:Nat→σ→α) (len:Nat) (P:Nat→σ→Option ρ→Prop)
  (hE:∀ ih s,P len s (F ih (st len s))) (hS:∀ ih (i:Nat) s,i<len→(∀ s',P (i+1) s' (ih (st (i+1) s')))→P i s (F ih (st i s))) :
  ∀ n (i:Nat) s,i≤len→len<n+i→P i s (iter n F (st i s))
 | 0,i,s,hi,h=>by omega
 | n+1,i,s,hi,h=>by
  show P i s (F (iter n F) (st i s));rcases Nat.lt_or_eq_of_le hi with ax | he
  ·exact hS _ i s ax (fun s'=>M9 st len P hE hS n (i+1) s' (by omega) (by omega))
  subst he; exact hE _ s
theorem ab0 {ok:Nat→Bool} {i len:Nat} (bF:ok i=true):(∀ j,i+1≤j→j<len→ok j=true)↔(∀ j,i≤j→j<len→ok j=true):=by
 constructor
 ·intro hh j a b;rcases Nat.eq_or_lt_of_le a with e | e
  ·subst e; exact bF
  exact hh j e b
 intro hh j a b; exact hh j (by omega) b
theorem Tx {ρ:Type} (len:Nat) (ok:Nat→Bool) (bad jW:Option ρ) {F:(Int×Unit→Option ρ)→Int×Unit→Option ρ}
  (hF:∀ ih (i:Nat) (hi:i<len),F ih ((i:Int),())=if ok i=true then ih (((i+1:Nat):Int),()) else bad)
  (hE:∀ ih,F ih ((len:Int),())=jW) {n:Nat} (hn:len<n) :
  ((∀ i,i<len→ok i=true)→iter n F (0,())=jW)∧(¬ (∀ i,i<len→ok i=true)→iter n F (0,())=bad):=by
 have:=M9 (F:=F) (fun i (s:Unit)=>((i:Int),())) len
  (fun i s o=>((∀ j,i≤j→j<len→ok j=true)→o=jW)∧(¬ (∀ j,i≤j→j<len→ok j=true)→o=bad))
  (fun ih s=>by rw [hE ih]; exact ⟨fun _=>rfl,fun hn=>absurd (fun j h1 h2=>by omega) hn⟩)
  (fun ih i s hi h=>by
   rw [hF ih i hi];by_cases bF:ok i=true
   ·rw [if_pos bF];have h2:=h ();rw [ab0 bF] at h2;exact h2
   rw [if_neg bF];exact ⟨fun hh=>absurd (hh i (cj _) hi) bF,fun _=>rfl⟩)
  n 0 () (uk _) (by omega)
 simpa using this
theorem aY {α ρ:Type} (y:α) (f:α→Option ρ):cut (some (.inr y)) f=f y:=rfl
theorem Tz {α ρ:Type} (r:ρ) (f:α→Option ρ):cut (some (.inl r)) f=some r:=rfl
def W {α:Type} (m:Option α) (Q:α→Prop):Prop:=∃ x,m=some x∧Q x
section
variable {α β ρ:Type} {Q:α→Prop}
theorem ak {x:α} : W (some x) Q↔Q x:=⟨fun ⟨y,e,h⟩=>by cases e; exact h,fun h=>⟨x,rfl,h⟩⟩
theorem c8 {m:Option β} {f:β→Option α} : W (m.bind f) Q↔W m (fun x=>W (f x) Q):=by
 cases m with
 | none=>simp [W]
 | some x=>simp [W]
theorem cw {b:Bool} {x y:Option α} : W (br b x y) Q↔((b=true→W x Q)∧(b=false→W y Q)):=by cases b<;>simp [br]
theorem cM {p:Prop} [Decidable p] {x y:Option α} : W (br (decide p) x y) Q↔((p→W x Q)∧(¬ p→W y Q)):=by rw [cw]; simp
theorem uB {b:Bool} {x y:Option α} : W (br (!b) x y) Q↔((b=false→W x Q)∧(b=true→W y Q)):=by cases b<;>simp [br]
theorem fx {m:Option (Sum α β)} {f:β→Option α} : W (cut m f) Q↔W m (fun s=>match s with | .inl r=>Q r | .inr y=>W (f y) Q):=by
 cases m with
 | none=>simp [W,cut]
 | some s=>cases s<;>simp [W,cut]
theorem bz {m:Option α} {P:α→Prop} (h:W m P) (h':∀ x,P x→Q x):W m Q:=let ⟨x,e,p⟩:=h; ⟨x,e,h' x p⟩
theorem dZ {m:Option α} {v:α} : W m (fun x=>x=v)↔m=some v:=⟨fun ⟨x,e,h⟩=>by rw [e,h],fun h=>⟨v,h,rfl⟩⟩
theorem TA {γ:Type} {F:(γ→Option α)→γ→Option α} (I:γ→Prop) (μ:γ→Nat)
  (step:∀ ih x,I x→(∀ y,I y→μ y<μ x→W (ih y) Q)→W (F ih x) Q) {n:Nat} {x:γ} (hx:I x) (hn:μ x<n):W (iter n F x) Q:=
 Tw I μ (fun _ o=>W o Q) step n x hx hn
theorem fT {γ σ:Type} {F:(γ→Option α)→γ→Option α} (st:Nat→σ→γ) (len:Nat) (I:Nat→σ→Prop) {n:Nat} {x:γ} {s0:σ} (hx:x=st 0 s0) (h0:I 0 s0) (hn:len<n)
  (hE:∀ ih s,I len s→W (F ih (st len s)) Q) (hS:∀ ih (i:Nat) s,i<len→I i s→(∀ s',I (i+1) s'→W (ih (st (i+1) s')) Q)→W (F ih (st i s)) Q):W (iter n F x) Q:=by
 subst hx;exact M9 (F:=F) st len (fun i s o=>I i s→W o Q) (fun ih s h=>hE ih s h) (fun ih i s hi hh h=>hS ih i s hi h (fun s' h'=>hh s' h')) n 0 s0 (uk _) (by omega) h0
theorem wC {m:Option (Bool×Unit)} {P:Prop} [Decidable P] (h:W m (fun r=>(r.1=true↔P))):m=some (decide P,()):=by
 obtain ⟨⟨b,⟨⟩⟩,e,h⟩:=h;rw [e];congr 2;by_cases hp:P
 ·simp [hp] at h ⊢; exact h
 simp [hp] at h ⊢; exact h
end
theorem Fz {α:Type} [BEq α] [LawfulBEq α]:∀ {l m:List α},l.Nodup→(∀ x∈l,x∈m)→l.length≤m.length
 | [],m,_,_=>uk _
 | a::l,m,h,hs=>by obtain ⟨h1,h2⟩:=pj.1 h;have ha:a∈m:=hs a (by simp);have:=Fz (m:=m.erase a) h2 (fun x hx=>by rw [Sw (by intro e; subst e; exact h1 hx)];exact hs x (by simp [hx]));rw [Su ha] at this;have:0<m.length:=List.length_pos_of_mem ha;simp only [aQ]; omega
theorem TB {α:Type} [BEq α] [LawfulBEq α]:∀ {l m:List α},l.Nodup→(∀ x∈l,x∈m)→m.length≤l.length→l.Perm m
 | [],m,_,_,h=>by have:m=[]:=vR (by simpa using h);subst this; exact .refl _
 | a::l,m,h,hs,hl=>by obtain ⟨h1,h2⟩:=pj.1 h;have ha:a∈m:=hs a (by simp);have:=TB (m:=m.erase a) h2 (fun x hx=>by rw [Sw (by intro e; subst e; exact h1 hx)];exact hs x (by simp [hx])) (by rw [Su ha]; simp at hl; omega);exact (this.cons a).trans (List.perm_cons_erase ha).symm
theorem Na {α:Type} [BEq α] [LawfulBEq α]:∀ {l:List α},l.Nodup→∀ {a:α},a∈l→l.count a=1
 | [],_,a,h=>by simp at h
 | b::l,h,a,ha=>by
  obtain ⟨h1,h2⟩:=pj.1 h;by_cases ur:b=a
  ·subst ur;rw [List.count_cons_self,L3.2 h1]
  rw [List.count_cons_of_ne ur];rcases fZ.1 ha with e | e
  ·exact absurd e.symm ur
  exact Na h2 e
theorem TC {α:Type} [BEq α] [LawfulBEq α] {l m:List α} (hm:m.Nodup) (hs:∀ x∈l,x∈m):(∀ q∈m,l.count q=1)↔(l.Nodup∧m.length≤l.length):=by
 constructor
 ·intro h;have hp:l.Perm m:=List.perm_iff_count.2 (fun a=>by
   by_cases ha:a∈m
   ·rw [h a ha,Na hm ha]
   rw [L3.2 ha,L3.2 (fun hl=>ha (hs a hl))])
  exact ⟨hp.nodup_iff.2 hm,by rw [hp.length_eq]; exact cj _⟩
 rintro ⟨h1,h2⟩ q hq;exact Na h1 ((TB h1 hs h2).mem_iff.2 hq)
end Go.Am
namespace Go.Am
open Go
section
variable {α β ρ:Type} {Q:α→Prop}
theorem qv {m:Option (Sum α β)} {f:β→Option α} (y:β) (h:m=some (.inr y)) (h':W (f y) Q):W (cut m f) Q:=by subst h; exact h'
theorem TD {m:Option (Sum α β)} {f:β→Option α} (r:α) (h:m=some (.inl r)) (h':Q r):W (cut m f) Q:=by subst h; exact ⟨r,rfl,h'⟩
theorem av {p:Prop} [Decidable p] (h:¬ p) {x y:Option α} : br (decide p) x y=y:=by simp [h,br]
theorem aG {p:Prop} [Decidable p] (h:p) {x y:Option α} : br (decide p) x y=x:=by simp [h,br]
theorem yz {b:Bool} {x y:Option α} : br (!b) x y=if b=true then y else x:=by cases b<;>rfl
theorem oF {F:(Int×Unit→Option α)→Int×Unit→Option α} (len:Nat) (ok:Nat→Bool) {bad jW:Option α}
  (hF:∀ ih (i:Nat) (hi:i<len),F ih ((i:Int),())=if ok i=true then ih (((i+1:Nat):Int),()) else bad) (hE:∀ ih,F ih ((len:Int),())=jW) {n:Nat} (hn:len<n)
  (hg:(∀ i,i<len→ok i=true)→W jW Q) (hb:∀ i,i<len→ok i=false→W bad Q):W (iter n F (0,())) Q:=by
 obtain ⟨h1,h2⟩:=Tx len ok bad jW hF hE hn;by_cases h:∀ i,i<len→ok i=true
 ·rw [h1 h]; exact hg h
 rw [h2 h];simp only [Classical.not_forall,oA] at h;obtain ⟨i,hi,h⟩:=h;exact hb i hi h
def mQ (f:β→Bool) (ls:List β):Int:=if ls.countP f=0 then -1 else if ls.countP f=1 then (ls.findIdx f:Int) else -2
theorem ab1 {f:β→Bool} {ls:List β} {i:Nat} (hi:i<ls.length):(ls.take (i+1)).countP f=(ls.take i).countP f+(if f ls[i]=true then 1 else 0):=by rw [List.take_succ_eq_append_getElem hi,List.countP_append,List.countP_singleton]
theorem ab2 {f:β→Bool} {ls:List β} {i:Nat} (hi:i<ls.length) (h0:(ls.take i).countP f=0) (hf:f ls[i]=true):ls.findIdx f=i:=by refine (List.findIdx_eq hi).2 ⟨hf,fun j hj=>?_⟩;rw [List.countP_eq_zero] at h0;have:=h0 (ls[j]'(by omega)) (by rw [List.mem_take_iff_getElem];exact ⟨j,by omega,rfl⟩);simpa using this
theorem TE (ls:List β) (f:β→Bool) {F:(Int×(Int×Unit)→Option (Int×Unit))→Int×(Int×Unit)→Option (Int×Unit)}
  (hF:∀ ih (i:Nat) (hi:i<ls.length) (at':Int),F ih (at',(i:Int),())=if f ls[i]=true then (if 0≤at' then some (-2,()) else ih ((i:Int),((i+1:Nat):Int),())) else ih (at',((i+1:Nat):Int),()))
  (hE:∀ ih at',F ih (at',(ls.length:Int),())=some (at',())) {n:Nat} (hn:ls.length<n):iter n F (-1,0,())=some (mQ f ls,()):=by
 refine dZ.1 (fT (fun i (s:Int)=>(s,(i:Int),())) ls.length (fun i s=>((ls.take i).countP f=0∧s = -1)∨((ls.take i).countP f=1∧s=(ls.findIdx f:Int))) rfl (.inl ⟨by simp,rfl⟩) hn
  (fun ih s hI=>?_) (fun ih i s hi hI hS=>?_))
 ·simp only [List.take_length] at hI;rw [hE,ak];unfold mQ;rcases hI with ⟨h1,h2⟩ | ⟨h1,h2⟩
  ·rw [if_pos h1,h2]
  rw [if_neg (by omega),if_pos h1,h2]
 rw [hF ih i hi s];have hc:=ab1 (f:=f) hi;by_cases hf:f ls[i]=true
 ·rw [if_pos hf] at hc ⊢;rcases hI with ⟨h1,h2⟩ | ⟨h1,h2⟩
  ·rw [if_neg (by omega)];exact hS _ (.inr ⟨by omega,by rw [ab2 hi h1 hf]⟩)
  rw [if_pos (by omega),ak];have:(ls.take (i+1)).countP f≤ls.countP f:=List.Sublist.countP_le (List.take_sublist _ _);unfold mQ;rw [if_neg (by omega),if_neg (by omega)]
 rw [if_neg hf] at hc ⊢;exact hS _ (by rw [hc]; exact hI)
end
end Go.Am
