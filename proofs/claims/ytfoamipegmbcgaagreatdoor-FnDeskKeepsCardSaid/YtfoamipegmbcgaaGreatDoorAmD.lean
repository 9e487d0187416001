/- The abstract machine is right: functions, calls, regions in any order, arguments, laws; plain laws of loops. No condition. -/
import Derived.Test.YtfoamipegmbcgaaGreatDoorAmC
import Derived.Orders
import Derived.ProofKit
import Derived.ChangeOld
import Derived.Below
import Derived.RowKit
import Derived.WideShapes
set_option linter.unusedVariables false
set_option linter.unusedSimpArgs false
namespace Go.Am
open Go
section
variable {P:Program} {c:aP} {g g':Gh} {L:bt} {w:World} {U U':Nat→Prop} {st:St} {a:Act}
theorem Dt {base site:Nat} : ∀ (t:Ty) (x:t.T) (j:Nat) (id:Nat) (oo:Option cK),look (dZ base site t x j) id=some oo→
  ∃ u xs k,oo=some (.row true u site xs)∧(t.gC=true→u.gC=true)∧j≤k∧k<j+t.size∧id=base+k
 | .int _,_,_,_,_,h=>by simp [dZ,look] at h
 | .bool,_,_,_,_,h=>by simp [dZ,look] at h
 | .str,_,_,_,_,h=>by simp [dZ,look] at h
 | .err,_,_,_,_,h=>by simp [dZ,look] at h
 | .bh _,_,_,_,_,h=>by simp [dZ,look] at h
 | .sl u,xs,j,id,oo,h=>by
  replace h:look [(base+j,some (cK.row true u site xs))] id=some oo:=h
  rw [cT] at h
  split at h
  ·rename_i he
   simp only [Option.some.injEq] at h
   exact ⟨u,xs,j,h.symm,fun h=>h,Nat.le_refl _,by simp [Ty.size],he.symm⟩
  ·simp [look] at h
 | .pair s t,x,j,id,oo,h=>by
  replace h:look (dZ base site s x.1 j++dZ base site t x.2 (j+s.size)) id=some oo:=h
  rw [fV] at h
  cases hq:look (dZ base site s x.1 j) id with
  | some y=>
   rw [hq] at h
   simp only [Option.some.injEq] at h
   subst h
   obtain ⟨u,xs,k,h1,h2,h3,h4,h5⟩:=Dt s x.1 j id _ hq
   exact ⟨u,xs,k,h1,fun hn=>h2 (by simp only [Ty.gC,Bool.and_eq_true] at hn; exact hn.1),h3,by simp only [Ty.size]; omega,h5⟩
  | none=>
   rw [hq] at h
   obtain ⟨u,xs,k,h1,h2,h3,h4,h5⟩:=Dt t x.2 _ id _ h
   exact ⟨u,xs,k,h1,fun hn=>h2 (by simp only [Ty.gC,Bool.and_eq_true] at hn; exact hn.2),by omega,by simp only [Ty.size]; omega,h5⟩
def lr (st:St) (uo:List Nat) (base:Nat):(t:Ty)→Nat→{os:List Ty}→bz (t.fc os)→(bz os→Prop)→Prop
 | .pair a b,j,os,y,K=>lr st uo base a j (os:=b.fc os) y (fun y=>lr st uo base b (j+a.size) (os:=os) y K)
 | .sl u,j,_,y,K=>(∃ vr,st.obj (base+j)=some (.row true u vr y.1))∧base+j∈uo∧K y.2
 | .int _,_,_,y,K=>K y
 | .bool,_,_,y,K=>K y
 | .str,_,_,y,K=>K y
 | .err,_,_,y,K=>K y
 | .bh _,_,_,y,K=>K y
theorem lr.mono {uo AV:List Nat} (h:∀ i∈uo,i∈AV) {base:Nat} : ∀ (t:Ty) (j:Nat) {os:List Ty} (y:bz (t.fc os)) {K K':bz os→Prop},(∀ y,K y→K' y)→lr st uo base t j y K→lr st AV base t j y K'
 | .pair a b,j,os,y,K,K',hK,h'=>lr.mono h a j (os:=b.fc os) y (fun y hy=>lr.mono h b (j+a.size) (os:=os) y hK hy) h'
 | .sl u,j,_,y,K,K',hK,⟨h1,h2,h3⟩=>⟨h1,h _ h2,hK _ h3⟩
 | .int _,_,_,y,K,K',hK,h'=>hK y h'
 | .bool,_,_,y,K,K',hK,h'=>hK y h'
 | .str,_,_,y,K,K',hK,h'=>hK y h'
 | .err,_,_,y,K,K',hK,h'=>hK y h'
 | .bh _,_,_,y,K,K',hK,h'=>hK y h'
theorem F3 {base:Nat} : ∀ (t:Ty) (j:Nat) {os:List Ty} (z:bz os) (w:List Nat) (y:bz (t.fc os)) (u:List Nat) (K:bz os→Prop),wh st base t j z w=some (y,u)→K z→
  lr st u base t j y K∧(∀ i∈w,i∈u)∧∀ i∈u,i∈w∨st.obj i≠none
 | .pair a b,j,os,z,w,y,u,K,e,hK=>by
  replace e:(match wh st base b (j+a.size) (os:=os) z w with
   | some (z,w)=>wh st base a j (os:=b.fc os) z w
   | none=>none)=some (y,u):=e
  split at e
  ·rename_i z1 w1 e1
   obtain ⟨h1,h2,h3⟩:=F3 b (j+a.size) z w z1 w1 K e1 hK
   obtain ⟨k1,k2,k3⟩:=F3 a j z1 w1 y u (fun y=>lr st w1 base b (j+a.size) (os:=os) y K) e h1
   refine ⟨lr.mono (fun _ h=>h) a j (os:=b.fc os) y (fun y hy=>lr.mono k2 b (j+a.size) (os:=os) y (fun _ h=>h) hy) k1,fun i hi=>k2 i (h2 i hi),fun i hi=>?_⟩
   rcases k3 i hi with h | h
   ·exact h3 i h
   ·exact .inr h
  ·simp at e
 | .sl t,j,os,z,w,y,u,K,e,hK=>by
  replace e:(match st.obj (base+j) with
   | some (.row true u _ xs)=>(match Ty.cast (.sl u) (.sl t) xs with | some ys=>some ((ys,z),(base+j)::w) | none=>none)
   | _=>none)=some (y,u):=e
  cases aY:st.obj (base+j) with
  | none=>rw [aY] at e; exact absurd e (by simp)
  | some ob=>
   rw [aY] at e
   cases ob with
   | row own u' vr xs=>
    cases own with
    | false=>exact absurd e (by simp)
    | true=>
     replace e:(match Ty.cast (.sl u') (.sl t) xs with | some ys=>some ((ys,z),(base+j)::w) | none=>none)=some (y,u):=e
     split at e
     ·rename_i ys hc
      have e1:(ys,z)=y:=congrArg Prod.fst (Option.some.inj e)
      have e2:(base+j)::w=u:=congrArg Prod.snd (Option.some.inj e)
      subst e1
      subst e2
      obtain ⟨rfl,hh⟩:=kC hc
      obtain rfl:=eq_of_heq hh
      refine ⟨⟨⟨vr,aY⟩,by simp,hK⟩,fun i hi=>by simp [hi],fun i hi=>?_⟩
      rcases List.mem_cons.1 hi with rfl | hi
      ·exact .inr (by rw [aY]; simp)
      ·exact .inl hi
     ·simp at e
   | _=>exact absurd e (by simp)
 | .int _,j,os,z,w,y,u,K,e,hK=>by
  have e:some (z,w)=some (y,u):=e
  have e1:z=y:=congrArg Prod.fst (Option.some.inj e)
  have e2:w=u:=congrArg Prod.snd (Option.some.inj e)
  subst e1; subst e2
  exact ⟨hK,fun i h=>h,fun i h=>.inl h⟩
 | .bool,j,os,z,w,y,u,K,e,hK=>by
  have e:some (z,w)=some (y,u):=e
  have e1:z=y:=congrArg Prod.fst (Option.some.inj e)
  have e2:w=u:=congrArg Prod.snd (Option.some.inj e)
  subst e1; subst e2
  exact ⟨hK,fun i h=>h,fun i h=>.inl h⟩
 | .str,j,os,z,w,y,u,K,e,hK=>by
  have e:some (z,w)=some (y,u):=e
  have e1:z=y:=congrArg Prod.fst (Option.some.inj e)
  have e2:w=u:=congrArg Prod.snd (Option.some.inj e)
  subst e1; subst e2
  exact ⟨hK,fun i h=>h,fun i h=>.inl h⟩
 | .err,j,os,z,w,y,u,K,e,hK=>by
  have e:some (z,w)=some (y,u):=e
  have e1:z=y:=congrArg Prod.fst (Option.some.inj e)
  have e2:w=u:=congrArg Prod.snd (Option.some.inj e)
  subst e1; subst e2
  exact ⟨hK,fun i h=>h,fun i h=>.inl h⟩
 | .bh _,j,os,z,w,y,u,K,e,hK=>by
  have e:some (z,w)=some (y,u):=e
  have e1:z=y:=congrArg Prod.fst (Option.some.inj e)
  have e2:w=u:=congrArg Prod.snd (Option.some.inj e)
  subst e1; subst e2
  exact ⟨hK,fun i h=>h,fun i h=>.inl h⟩
def me (st:St) (uo:List Nat):Nat→(ps:List PK)→bz (PK.outs ps)→Prop
 | _,[],_=>True
 | i,.io t::ps,y=>lr st uo (i*1024) t 0 y (fun y=>me st uo (i+1) ps y)
 | _,.gA _ _::_,_=>False
 | i,.val _::ps,y=>me st uo (i+1) ps y
 | i,.ee _::ps,y=>me st uo (i+1) ps y
 | i,.gB _ _::ps,y=>me st uo (i+1) ps y
theorem me.mono {uo AV:List Nat} (h:∀ i∈uo,i∈AV):∀ (ps:List PK) (i:Nat) (y:bz (PK.outs ps)),me st uo i ps y→me st AV i ps y
 | [],_,_,_=>trivial
 | .io t::ps,i,y,h'=>lr.mono h t 0 (os:=PK.outs ps) y (fun y hy=>me.mono (ps:=ps) h (i+1) y hy) h'
 | .gA _ _::_,_,_,h=>h
 | .val _::ps,i,y,h'=>me.mono (ps:=ps) h (i+1) y h'
 | .ee _::ps,i,y,h'=>me.mono (ps:=ps) h (i+1) y h'
 | .gB _ _::ps,i,y,h'=>me.mono (ps:=ps) h (i+1) y h'
theorem AW:∀ (ps:List PK) (i:Nat) (zo:bz (PK.outs ps)) (uo:List Nat),ps.all PK.gD=true→tO st i ps=some (zo,uo)→me st uo i ps zo∧∀ id∈uo,st.obj id≠none
 | [],i,zo,uo,he,e=>by
  replace e:some ((),[])=some (zo,uo):=e
  have e2:([]:List Nat)=uo:=congrArg Prod.snd (Option.some.inj e)
  subst e2
  exact ⟨trivial,by simp⟩
 | .io t::ps,i,zo,uo,he,e=>by
  simp only [List.all_cons,Bool.and_eq_true] at he
  replace e:(match tO st (i+1) ps with
   | some (z,w)=>wh st (i*1024) t 0 z w
   | none=>none)=some (zo,uo):=e
  split at e
  ·rename_i z w hf
   obtain ⟨h1,h2⟩:=AW ps (i+1) z w he.2 hf
   obtain ⟨k1,k2,k3⟩:=F3 t 0 z w zo uo (fun y=>me st w (i+1) ps y) e h1
   refine ⟨lr.mono (fun _ h=>h) t 0 (os:=PK.outs ps) zo (fun y hy=>hy.mono k2) k1,fun id hid=>?_⟩
   rcases k3 id hid with h | h
   ·exact h2 id h
   ·exact h
  ·simp at e
 | .gA _ _::_,i,zo,uo,he,e=>by simp [PK.gD] at he
 | .val _::ps,i,zo,uo,he,e=>AW ps (i+1) zo uo (by simp only [List.all_cons,Bool.and_eq_true] at he; exact he.2) e
 | .ee _::ps,i,zo,uo,he,e=>AW ps (i+1) zo uo (by simp only [List.all_cons,Bool.and_eq_true] at he; exact he.2) e
 | .gB _ _::ps,i,zo,uo,he,e=>AW ps (i+1) zo uo (by simp only [List.all_cons,Bool.and_eq_true] at he; exact he.2) e
open Classical in
noncomputable def hY (g:Gh) (site:Nat) (S:List Nat) (σs:Nat→Src):Gh where
 hd n ver s:=if n / 1024=site then (match σs ((n % 1024) / 32) ((0,n % 32)::s) with | some (_,_,h)=>h | none=>c8) else g.hd n ver s
 lab b o:=match g.lab b o with
  | none=>none
  | some (id,p)=>if id∈S then none else
   if h:∃ q:Nat×Nat×Path,∃ hd,σs q.1 ((0,q.2.1)::q.2.2)=some (id,p,hd) then some (site*1024+32*h.choose.1+h.choose.2.1,h.choose.2.2) else some (id,p)
section
variable {site:Nat} {S:List Nat} {σs:Nat→Src}
theorem Sp {k j ver:Nat} {s:Path} (hk:k<16) (hj:j<32):(hY g site S σs).hd (site*1024+32*k+j) ver s=match σs k ((0,j)::s) with | some (_,_,h)=>h | none=>c8:=by
 have h1:(site*1024+32*k+j) / 1024=site:=by omega
 have h2:(site*1024+32*k+j) % 1024 / 32=k:=by omega
 have h3:(site*1024+32*k+j) % 32=j:=by omega
 simp only [hY,h1,h2,h3,if_true]
theorem F4 {n ver:Nat} {s:Path} (h:n / 1024≠site):(hY g site S σs).hd n ver s=g.hd n ver s:=by simp [hY,h]
theorem Du {b o:Nat} (h:g.lab b o=none):(hY g site S σs).lab b o=none:=by simp [hY,h]
theorem Sq {b o id:Nat} {p:Path} (h:g.lab b o=some (id,p)) (hS:id∈S):(hY g site S σs).lab b o=none:=by simp [hY,h,hS]
theorem KJ {b o id:Nat} {p:Path} (h:g.lab b o=some (id,p)) (hS:id∉S) (dS:∀ m s p hd,σs m s≠some (id,p,hd)):(hY g site S σs).lab b o=some (id,p):=by
 simp only [hY,h,hS,if_false]
 rw [dif_neg]
 rintro ⟨q,hd,e⟩
 exact dS _ _ _ _ e
theorem Sr {b o id k j:Nat} {p s:Path} {hh:Hd} (h:g.lab b o=some (id,p)) (hS:id∉S) (e:σs k ((0,j)::s)=some (id,p,hh))
  (inj:∀ m s m' s' id p h h',σs m s=some (id,p,h)→σs m' s'=some (id,p,h')→m=m'∧s=s'):(hY g site S σs).lab b o=some (site*1024+32*k+j,s):=by
 have hex:∃ q:Nat×Nat×Path,∃ hd,σs q.1 ((0,q.2.1)::q.2.2)=some (id,p,hd):=⟨(k,j,s),hh,e⟩
 simp only [hY,h,hS,if_false,dif_pos hex]
 have hc:hex.choose=(k,j,s):=by
  obtain ⟨hd,hs⟩:=hex.choose_spec
  generalize hex.choose=q at hs
  obtain ⟨k',j',s'⟩:=q
  obtain ⟨h1,h2⟩:=inj _ _ _ _ _ _ _ _ hs e
  simp only [List.cons.injEq,Prod.mk.injEq] at h2
  rw [show k'=k from h1,h2.1.2,h2.2]
 rw [hc]
theorem KL {b o:Nat} {q:Nat×Path} (h:(hY g site S σs).lab b o=some q):g.lab b o≠none:=by
 intro hn
 rw [Du hn] at h
 simp at h
theorem KM {U':Nat→Prop} (h0:U' 0) (hs:U' site) (hL:∀ b o,L b o=none→(hY g site S σs).lab b o=none)
  (hS:∀ m s id p h,σs m s=some (id,p,h)→id∉S) (inj:∀ m s m' s' id p h h',σs m s=some (id,p,h)→σs m' s'=some (id,p,h')→m=m'∧s=s') :
  ∀ (rs:List RK) (k:Nat) (bd:List Value) (os:List Ty) (z:bz (RK.aV rs++os)) (zo:bz os),rs.all RK.gD=true→rs.all (fun r=>Nat.ble r.ty.size 30)=true→k+rs.length≤15→
   AS g L w σs k rs bd os z zo→
   bK (hY g site S σs) w U' (eJ site (32*k) rs os z).1 bd∧
   (∀ id o,look (eJ site (32*k) rs os z).2.1 id=some (some o)→id / 1024=site∧dQ (hY g site S σs) w U' id o)∧(eJ site (32*k) rs os z).2.2=zo
 | [],k,bd,os,z,zo,he,hz,hk,h=>by
  obtain ⟨rfl,rfl⟩:=h
  exact ⟨rfl,fun id o h=>by simp [eJ,look] at h,rfl⟩
 | r::rs,k,bd,os,z,zo,he,hz,hk,h=>by
  simp only [List.all_cons,Bool.and_eq_true] at he hz
  simp only [List.length_cons] at hk
  obtain ⟨v,pg,rfl,⟨f,hf,hw⟩,hr⟩:=h
  obtain ⟨i1,i2,i3⟩:=KM h0 hs hL hS inj rs (k+1) pg os z.2 zo he.2 hz.2 (by omega) hr
  rw [show 32*(k+1)=32*k+32 by omega] at i1 i2 i3
  have aX:=Nat.le_of_ble_eq_true hz.1
  have one:ay (hY g site S σs) w U' (nM site (32*k) r z.1).1 v∧∀ id o,look (nM site (32*k) r z.1).2 id=some (some o)→id / 1024=site∧dQ (hY g site S σs) w U' id o:=by
   cases r with
   | val t=>
    obtain ⟨a1,a2⟩:=F2 (g:=g) (g':=hY g site S σs) (L:=L) (w:=w) (U':=U') (base:=site*1024+32*k) (site:=site) (σ:=σs k) hL h0 hs
     (fun j ver s hj=>Sp (by omega) hj) (fun j hj=>by rw [show (site*1024+32*k+j) / 1024=site by omega]; exact hs)
     (fun j s id p h b o hj e hl=>Sr hl (hS _ _ _ _ _ e) e inj) t 0 z.1 f (by have:t.size≤30:=aX; omega) hw
    refine ⟨AR hf (gZ _ _ _ _) a1,fun id o hl=>?_⟩
    obtain ⟨⟨j,j1,j2,rfl⟩,h2⟩:=a2 id o hl
    have:t.size≤30:=aX
    exact ⟨by omega,h2⟩
   | sh t=>exact ⟨AR hf (gZ _ _ _ _) (AT hL t _ _ _ _ _ _ hw),fun id o h=>by simp [nM,look] at h⟩
   | ptr t ms=>simp [RK.gD] at he
  refine ⟨⟨v,pg,rfl,one.1,i1⟩,fun id o hl=>?_,i3⟩
  replace hl:look ((nM site (32*k) r z.1).2++(eJ site (32*k+32) rs os z.2).2.1) id=some (some o):=hl
  rw [fV] at hl
  cases hq:look (nM site (32*k) r z.1).2 id with
  | some y=>
   rw [hq] at hl
   simp only [Option.some.injEq] at hl
   subst hl
   exact one.2 id o hq
  | none=>
   rw [hq] at hl
   exact i2 id o hl
theorem F5 (hO:dR g w U st) {uo:List Nat} {base i:Nat} (F6:base=i*1024) (hi:i<15) (ki:site≥20) (hS:∀ id∈uo,id∉S) (dS:∀ id∈uo,∀ m s p hd,σs m s≠some (id,p,hd)) :
  ∀ (t:Ty) (j:Nat) {os:List Ty} (y:bz (t.fc os)) {K K':bz os→Prop},j+t.size≤32→(∀ y,K y→K' y)→lr st uo base t j y K→AU (hY g site S σs) w base t j y K'
 | .pair a b,j,os,y,K,K',hj,hK,h=>by
  simp only [Ty.size] at hj
  exact F5 hO F6 hi ki hS dS a j (os:=b.fc os) y (by omega) (fun y hy=>F5 hO F6 hi ki hS dS b (j+a.size) (os:=os) y (by omega) hK hy) h
 | .sl u,j,os,y,K,K',hj,hK,⟨⟨vr,h1⟩,h2,h3⟩=>by
  simp only [Ty.size] at hj
  refine ⟨⟨vr,?_⟩,hK _ h3⟩
  obtain ⟨-,-,-,hR⟩:=hO _ _ h1
  have av:(base+j) / 1024≠site:=by subst F6; omega
  exact Dd (F4 av) (fun q _=>F4 av) (fun b o p hl=>KJ hl (hS _ h2) (dS _ h2)) (fun b o hl=>Du hl) hR
 | .int _,_,_,y,K,K',hj,hK,h=>hK y h
 | .bool,_,_,y,K,K',hj,hK,h=>hK y h
 | .str,_,_,y,K,K',hj,hK,h=>hK y h
 | .err,_,_,y,K,K',hj,hK,h=>hK y h
 | .bh _,_,_,y,K,K',hj,hK,h=>hK y h
theorem AX (hO:dR g w U st) {uo:List Nat} (ki:site≥20) (hS:∀ id∈uo,id∉S) (dS:∀ id∈uo,∀ m s p hd,σs m s≠some (id,p,hd)):∀ (ps:List PK) (i:Nat) (y:bz (PK.outs ps)),i+ps.length≤15→
  ps.all (fun p=>match p with | .io t=>Nat.ble t.size 30 | _=>true)=true→me st uo i ps y→ug (hY g site S σs) w i ps y
 | [],_,_,_,_,_=>trivial
 | .io t::ps,i,y,hi,hz,h=>by
  simp only [List.length_cons] at hi
  simp only [List.all_cons,Bool.and_eq_true] at hz
  have aX:=Nat.le_of_ble_eq_true hz.1
  exact F5 hO rfl (by omega) ki hS dS t 0 (os:=PK.outs ps) y (by omega) (fun y hy=>AX (ps:=ps) hO ki hS dS (i+1) y (by omega) hz.2 hy) h
 | .gA _ _::_,_,_,_,_,h=>h
 | .val _::ps,i,y,hi,hz,h'=>AX (ps:=ps) hO ki hS dS (i+1) y (by simp only [List.length_cons] at hi; omega) (by simp only [List.all_cons,Bool.and_eq_true] at hz; exact hz.2) h'
 | .ee _::ps,i,y,hi,hz,h'=>AX (ps:=ps) hO ki hS dS (i+1) y (by simp only [List.length_cons] at hi; omega) (by simp only [List.all_cons,Bool.and_eq_true] at hz; exact hz.2) h'
 | .gB _ _::ps,i,y,hi,hz,h'=>AX (ps:=ps) hO ki hS dS (i+1) y (by simp only [List.length_cons] at hi; omega) (by simp only [List.all_cons,Bool.and_eq_true] at hz; exact hz.2) h'
theorem F7:∀ (ps:List PK) (i:Nat) (x:fT ps) (t:Nat) (v:af),look (entry i ps x).1 t=some v→∃ j,t=i+j∧((entry i ps x).1.map (·.2))[j]? = some v
 | [],i,x,t,v,h=>by simp [entry,look] at h
 | p::ps,i,x,t,v,h=>by
  replace h:look ((i,(qd i p x.1).1)::(entry (i+1) ps x.2).1) t=some v:=h
  rw [cT] at h
  split at h
  ·rename_i he
   exact ⟨0,by omega,by simpa [entry] using h⟩
  ·obtain ⟨j,h1,h2⟩:=F7 ps (i+1) x.2 t v h
   exact ⟨j+1,by omega,by simpa [entry] using h2⟩
theorem F8:∀ (ps:List PK) (i:Nat) (x:fT ps) (id:Nat) (o:Option cK),ps.all PK.gD=true→ps.all (fun p=>match p with | .io t=>Nat.ble t.size 30 | _=>true)=true→
  look (entry i ps x).2 id=some o→i≤id / 1024∧id / 1024<i+ps.length∧o.isSome=true
 | [],i,x,id,o,he,hz,h=>by simp [entry,look] at h
 | p::ps,i,x,id,o,he,hz,h=>by
  simp only [List.all_cons,Bool.and_eq_true] at he hz
  have rest:look (entry (i+1) ps x.2).2 id=some o→i≤id / 1024∧id / 1024<i+(p::ps).length∧o.isSome=true:=by
   intro h
   obtain ⟨h1,h2,h3⟩:=F8 ps (i+1) x.2 id o he.2 hz.2 h
   exact ⟨by omega,by simp only [List.length_cons]; omega,h3⟩
  cases p with
  | val t=>exact rest h
  | ee t=>exact rest h
  | gB f caps=>exact rest h
  | gA t ms=>simp [PK.gD] at he
  | io t=>
   have aX:=Nat.le_of_ble_eq_true hz.1
   replace h:look (dZ (i*1024) 0 t x.1 0++(entry (i+1) ps x.2).2) id=some o:=h
   rw [fV] at h
   cases hq:look (dZ (i*1024) 0 t x.1 0) id with
   | some y=>
    rw [hq] at h
    simp only [Option.some.injEq] at h
    subst h
    obtain ⟨u,xs,k,rfl,-,h3,h4,rfl⟩:=Dt t x.1 0 id _ hq
    exact ⟨by omega,by simp only [List.length_cons]; omega,rfl⟩
   | none=>
    rw [hq] at h
    exact rest h
end
end
def ph:List Value→Value
 | [v]=>v
 | vs=>.tuple vs.toArray
theorem KN {P:Program} {fn:Func} {tmps:Array Value} {w:World} {bd:List Value} (h:(fn.results.toList.mapM (yJ tmps)).run P w = .ok bd w) :
  (results fn tmps).run P w = .ok (ph bd) w:=by
 have e:results fn tmps=(do let vs ← fn.results.mapM (yJ tmps); pure (if h:vs.size=1 then vs[0] else .tuple vs)):=by
  unfold results
  congr 1
 rw [e]
 clear e
 revert h
 generalize fn.results=rs
 obtain ⟨l⟩:=rs
 intro h
 rw [List.mapM_toArray]
 simp only [Sem.run_bind,Sem.run_map]
 rw [show (List.mapM (yJ tmps) l).run P w=_ from h]
 match bd with
 | []=>simp [ph]
 | [v]=>simp [ph]
 | v::v'::vs=>simp [ph]
theorem sf {N N':Nat} (h:N≤N'):∀ (code:Code),fi N code=true→fi N' code=true
 | .region _ ops _,hd=>by
  refine List.all_eq_true.2 (fun o ho=>?_)
  have:=List.all_eq_true.1 hd o ho
  cases e:o.dst with
  | none=>rfl
  | some d=>
   rw [e] at this
   simp only [Nat.blt_eq] at this ⊢
   omega
 | .seq a b,hd=>by
  replace hd:(fi N a&&fi N b)=true:=hd
  show (fi N' a&&fi N' b)=true
  rw [Bool.and_eq_true] at hd ⊢
  exact ⟨sf h a hd.1,sf h b hd.2⟩
 | .cond _ a b,hd=>by
  replace hd:(fi N a&&fi N b)=true:=hd
  show (fi N' a&&fi N' b)=true
  rw [Bool.and_eq_true] at hd ⊢
  exact ⟨sf h a hd.1,sf h b hd.2⟩
 | .block _ b,hd=>sf h b hd
 | .loop b,hd=>sf h b hd
 | .scope b,hd=>sf h b hd
 | .skip,_=>rfl
 | .exit _,_=>rfl
 | .ret,_=>rfl
 | .label _,_=>rfl
 | .goto _,_=>rfl
 | .rangeFunc _ _ _ _,_=>rfl
 | .refuse _,_=>rfl
theorem Fr.cell {F:Nat→Nat→Prop} {w w':World} (h:Fr F w w') {b o:Nat} (hb:b<w.heap.size) (hn:¬ F b o):w'.cell? (ad b o)=w.cell? (ad b o)∧w'.frozen? (ad b o)=w.frozen? (ad b o):=by
 obtain ⟨x,hx⟩:∃ x,w.heap[b]? = some x:=⟨_,Array.getElem?_eq_getElem hb⟩
 by_cases hc:∃ c e f,x = .cells c e f
 ·obtain ⟨c,e,f,rfl⟩:=hc
  obtain ⟨c',h1,h2,h3⟩:=h.cells b c e f hx
  have:=h3 o hn
  simp only [World.cell?,World.frozen?,h1,hx]
  refine ⟨this,?_⟩
  first | rfl | trivial | simp [h2]
 ·have:=h.kind b x hx (fun c e f he=>hc ⟨c,e,f,he⟩)
  simp only [World.cell?,World.frozen?,this,hx]
  first | exact ⟨rfl,rfl⟩ | trivial | simp
theorem KO {P:Program} {c:aP} {n:Nat} {f:FuncId} {fn:Func} {an:fJ} {m:ar} (HR:wN P c) (hc:eu P c) (hf:P.funcs[f]? = some fn) {code:Code} (hb:fn.body=some code)
  (hd:fi fn.ntmps code=true) {x:fT m.ps} {st0:St} (hn:st0.nxt=20) (Ss:st0.heap=(entry 0 m.ps x).2) {y:bz (RK.aV m.rs++PK.outs m.ps)}
  (hy:fh c n code an _ st0 (fun e st=>match e with | .exit _=>none | _=>finish c fn m.ps m.rs st)=some y) (bb:tN m.ps m.rs=true) {site:Nat} (AY:20≤site)
  {g:Gh} {w:World} {args:List Value} (nV:∀ t v,look st0.env t=some v→∃ x,args[t]? = some x∧ay g w eZ v x)
  (yL:∀ id o,look (entry 0 m.ps x).2 id=some (some o)→dQ g w eZ id o) (F9:∀ b o q,g.lab b o=some q→b<w.heap.size) (hG:Gl P g.lab w) :
  Calls P f args.toArray w fun e w'=>∃ v g',e = .returned v∧uh g w site m y v g' w':=by
 unfold tN at bb
 simp only [Bool.and_eq_true] at bb
 obtain ⟨⟨⟨⟨⟨⟨⟨⟨mg,AZ⟩,ui⟩,sg⟩,si⟩,KP⟩,-⟩,-⟩,qw⟩:=bb
 have ui:=Nat.le_of_ble_eq_true ui
 have sg:=Nat.le_of_ble_eq_true sg
 refine calls_of_wp hf hb ?_
 let a0:Act:={ tmps:=args.toArray++Array.replicate (fn.ntmps-args.toArray.size) undef,defers:=[] }
 have nW:∀ id o,st0.obj id=some o→look (entry 0 m.ps x).2 id=some (some o):=by
  intro id o h
  unfold St.obj at h
  rw [Ss] at h
  split at h
  ·rename_i o' h'
   simp only [Option.some.injEq] at h
   rw [← h]; exact h'
  ·simp at h
 have hN:fn.ntmps≤a0.tmps.size:=by simp [a0]; omega
 have R0:Rel w g.lab a0.tmps.size g eZ st0 a0 w:=by
  refine ⟨fun t v h=>?_,fun id o h=>?_,fun s h=>by rw [hn]; exact h,F9,fun b o id p hb hl=>?_,fun b o id p hf gK=>hf,.refl _ _,rfl,rfl,by show (0:Nat)<20; omega,fun s hs=>hs,fun id h=>?_⟩
  ·obtain ⟨v',h5,h6⟩:=nV t v h
   have:a0.eval (.tmp t)=v':=by
    have ao:t<args.length:=(List.getElem?_eq_some_iff.1 h5).1
    have h7:args[t]=v':=(List.getElem?_eq_some_iff.1 h5).2
    simp only [Act.eval,a0]
    simp [Array.getD_eq_getD_getElem?,Array.getElem?_append,ao,h7]
   rw [this]; exact h6
  ·obtain ⟨h1,h2,-⟩:=F8 m.ps 0 x id _ mg qw (nW id o h)
   exact ⟨by show id / 1024<20; omega,yL _ o (nW _ o h)⟩
  ·by_cases gK:id / 1024=19
   ·exact .inl ⟨gK,hl⟩
   ·exact .inr ⟨id,p,hl,gK⟩
  ·cases ho:st0.obj id with
   | none=>exact absurd ho h
   | some o=>
    obtain ⟨h1,h2,-⟩:=F8 m.ps 0 x id _ mg qw (nW id o ho)
    omega
 have AP:fi a0.tmps.size code=true:=sf hN code hd
 refine lq HR hG code an _ y st0 _ (bodyPost P fn fun e w'=>∃ v g',e = .returned v∧uh g w site m y v g' w') a0 w g eZ AP R0 hy (fun ex st' a' w' g1 U1 R1 E1 e1=>?_)
 have main:finish c fn m.ps m.rs st'=some y→a'.defers=[]∧∃ v,(results fn a'.tmps).run P w' = .ok v w'∧∃ v' g',Ending.returned v = .returned v'∧uh g w site m y v' g' w':=by
  intro e1
  unfold finish at e1
  split at e1
  ·rename_i vs dD
   split at e1
   ·rename_i z u hz
    split at e1
    ·rename_i dw
     obtain rfl:=Option.some.inj e1
     have dw:=tS.1 dw
     obtain ⟨bd,kb,uf⟩:=Dq hc R1.heap R1.env _ _ dD
     refine ⟨R1.defers,ph bd,KN kb,ph bd,?_⟩
     let S:=qv st' m.rs vs
     let L:bt:=fun b o=>match g1.lab b o with | none=>none | some (id,p)=>if id∈S then none else some (id,p)
     obtain ⟨zo,uo,uR,σs,k1,rfl,k3,k4,k5,k6,k7,k8⟩:=KI (L:=L) R1.heap (fun b o h=>by simp [L,h]) m.rs 0 vs bd _ _ z u AZ uf hz (fun id hid b o p hl=>by
      have:id∈S:=hid
      simp [L,hl,this])
     obtain ⟨n1,n2,n3⟩:=List.nodup_append.1 dw
     obtain ⟨inj,Su⟩:=k8 n1
     obtain ⟨o1,o2⟩:=AW m.ps 0 zo uo mg k1
     have aad:∀ s,(U' eZ site) s→s<20∨s=site:=fun s h=>h
     have Sv:∀ b o,L b o=none→(hY g1 site S σs).lab b o=none:=by
      intro b o h
      cases hl:g1.lab b o with
      | none=>exact Du hl
      | some q=>
       obtain ⟨id,p⟩:=q
       have:id∈S:=by
        simp only [L,hl] at h
        by_cases hm:id∈S
        ·exact hm
        ·simp [hm] at h
       exact Sq hl this
     obtain ⟨r1,r2,r3⟩:=KM (g:=g1) (L:=L) (w:=w') (site:=site) (S:=S) (σs:=σs) (U':=U' eZ site) (.inl (by show (0:Nat)<20; omega)) (.inr rfl) Sv (fun m s id p h e=>Su m s id p h e) inj m.rs 0 bd _ z zo AZ si (by omega) k3
     refine ⟨hY g1 site S σs,rfl,⟨?_,r2,?_,fun i hi=>?_,fun b o hl v hv=>?_,fun b o id p hl gK=>?_,fun b o q h=>?_,fun b o q hb h=>?_,R1.fr⟩⟩
     ·revert r1
      generalize (eJ site (32*0) m.rs (PK.outs m.ps) z).1=l
      intro r1
      have hlen:=ka r1
      match l,bd,r1,hlen with
      | [],[],r1,_=>exact ⟨[],rfl,rfl⟩
      | [v],[v'],r1,_=>
       obtain ⟨a,b,e,h1,-⟩:=r1
       simp only [List.cons.injEq] at e
       rw [e.1]; exact h1
      | v::v2::l,x1::x2::xs,r1,_=>exact ⟨_,rfl,r1⟩
     ·have:=r3
      rw [show (eJ site 0 m.rs (PK.outs m.ps) z).2.2=zo from r3]
      exact AX R1.heap AY (fun id hid hS=>n3 id (k6 id hS) id hid rfl) (fun id hid m' s p hd hs=>n3 id (k5 _ _ _ _ _ hs) id hid rfl) m.ps 0 zo (by omega) qw o1
     ·rw [F4 (by omega)]
      exact E1.par i hi (by show i / 1024<20; omega)
     ·have hb:=wD hv
      have hm:¬ Af g.lab b o:=fun ⟨id,p,e,_⟩=>by rw [hl] at e; simp at e
      have hc:=Fr.cell R1.fr hb hm
      refine ⟨by rw [hc.1]; exact hv,Du ?_⟩
      cases jM:g1.lab b o with
      | none=>rfl
      | some q=>
       obtain ⟨id,p⟩:=q
       rcases R1.bP b o id p hb jM with h | h
       ·rw [hl] at h; simp at h
       ·exact absurd h hm
     ·have h1:=R1.kX b o id p hl gK
      refine KJ h1 (fun hS=>R1.nf id (k7 id (k6 id hS)) gK) (fun m' s p' hd hs=>R1.nf id (k7 id (k5 _ _ _ _ _ hs)) gK)
     ·cases hl:g1.lab b o with
      | none=>exact absurd hl (KL h)
      | some q'=>exact R1.bB b o q' hl
     ·obtain ⟨⟨id,p⟩,jM⟩:∃ q,g1.lab b o=some q:=by
       cases hl:g1.lab b o with
       | none=>exact absurd hl (KL h)
       | some q'=>exact ⟨q',rfl⟩
      intro hn
      rcases R1.bP b o id p hb jM with h | ⟨i',p',h,-⟩
      ·rw [hn] at h; simp at h
      ·rw [hn] at h; simp at h
    ·simp at e1
   ·simp at e1
  ·simp at e1
 cases ex with
 | normal=>exact main e1
 | ret=>exact main e1
 | exit j=>simp at e1
theorem Dv {P:Program} {c:aP} {n:Nat} {f:FuncId} {fn:Func} {an:fJ} {m:ar} (HR:wN P c) (hc:eu P c) (hf:P.funcs[f]? = some fn) (hm:∀ x,m.m x=wi c n fn an m.ps m.rs x):Sound P f m:=by
 intro x y hy bb site AY g w args E hG
 rw [hm] at hy
 unfold wi at hy
 split at hy
 ·rename_i code hb
  split at hy
  ·simp at hy
  ·rename_i hd
   refine KO HR hc hf hb (by simpa using hd) rfl rfl hy bb AY (fun t v h=>?_) E.aE E.bB hG
   obtain ⟨j,h1,h2⟩:=F7 m.ps 0 x t v h
   have ht:t=j:=by omega
   subst ht
   obtain ⟨h3,h4⟩:=List.getElem?_eq_some_iff.1 h2
   obtain ⟨v',h5,h6⟩:=jF E.bd t h3
   rw [h4] at h6
   exact ⟨v',h5,h6⟩
 ·simp at hy
def uj (c:aP) (n:Nat) (fn:Func) (an:fJ) (ps:List PK) (rs:List RK) (v:af) (env:List (Nat×af)) (heap:List (Nat×Option cK)):Option (bz (RK.aV rs++PK.outs ps)):=
 match fn.body with
 | some code=>match fi fn.ntmps code with
  | false=>none
  | true=>fh c n code an _ { env:=(0,v)::env,heap:=heap,nxt:=20 } fun e st=>match e with
   | .exit _=>none
   | _=>finish c fn ps rs st
 | none=>none
theorem KQ {P:Program} {c:aP} {n:Nat} {f:FuncId} {fn:Func} {an:fJ} {t:Ty} {ps:List PK} {rs:List RK} {F:fT (.val (.sl t)::ps)→Option (bz (RK.aV rs++PK.outs (.val (.sl t)::ps)))} (HR:wN P c) (hc:eu P c)
  (hf:P.funcs[f]? = some fn)
  (h1:∀ x y,F x=some y→x.1=([]:List t.T)→uj c n fn an (.val (.sl t)::ps) rs .nil (entry 1 ps x.2).1 (entry 1 ps x.2).2=some y)
  (h2:∀ x y,F x=some y→uj c n fn an (.val (.sl t)::ps) rs (.cu t (some x.1)) (entry 1 ps x.2).1 (entry 1 ps x.2).2=some y):Sound P f ⟨.val (.sl t)::ps,rs,F⟩:=by
 intro x y hy bb site AY g w args E hG
 have hy:F x=some y:=hy
 obtain ⟨v0,vs,rfl,Ga,dD⟩:=E.bd
 have go:∀ v:af,ay g w eZ v v0→uj c n fn an (.val (.sl t)::ps) rs v (entry 1 ps x.2).1 (entry 1 ps x.2).2=some y→
   Calls P f (v0::vs).toArray w fun e w'=>∃ v g',e = .returned v∧uh g w site ⟨.val (.sl t)::ps,rs,F⟩ y v g' w':=by
  intro v hv hr
  unfold uj at hr
  split at hr
  ·rename_i code hb
   split at hr
   ·simp at hr
   ·rename_i hd
    refine KO (m:=⟨.val (.sl t)::ps,rs,F⟩) (x:=x) HR hc hf hb (by simpa using hd) rfl rfl hr bb AY (fun k u h=>?_) E.aE E.bB hG
    replace h:look ((0,v)::(entry 1 ps x.2).1) k=some u:=h
    rw [cT] at h
    split at h
    ·rename_i hk
     subst hk
     simp only [Option.some.injEq] at h
     subst h
     exact ⟨v0,rfl,hv⟩
    ·obtain ⟨j,e1,e2⟩:=F7 ps 1 x.2 k u h
     obtain ⟨e3,e4⟩:=List.getElem?_eq_some_iff.1 e2
     obtain ⟨v',e5,e6⟩:=jF dD j e3
     rw [e4] at e6
     refine ⟨v',?_,e6⟩
     rw [e1,Nat.add_comm,List.getElem?_cons_succ]; exact e5
  ·simp at hr
 have Ga:fj t.size (Sh g.lab w t) x.1 v0:=Ga
 obtain ⟨a,len,cap,rfl,hl,wO,hn,hx⟩:=Ga
 cases a with
 | none=>
  have eK:=hn rfl
  have hlen:len=0:=by omega
  subst eK
  subst hlen
  have ub:x.1=([]:List t.T):=List.eq_nil_of_length_eq_zero hl.symm
  exact go .nil rfl (h1 x y hy ub)
 | some a=>exact go (.cu t (some x.1)) ⟨⟨_,_,_,rfl,hl,wO,hn,hx⟩,by simp⟩ (h2 x y hy)
end Go.Am
namespace Go.Am
open Go
def qx:Nat→List af→List (Nat×Nat)
 | _,[]=>[]
 | n,v::r=>(match v with | .own id _ _ _=>[(n,id)] | _=>[])++qx (n+1) r
def de:Nat→List PK→List af→List (Nat×Nat)
 | i,p::ps,v::vs=>(match p with | .io t=>qx (i*1024) (lR t v) | _=>[])++de (i+1) ps vs
 | _,_,_=>[]
def swp (l:List (Nat×Nat)):List (Nat×Nat):=l.map fun p=>(p.2,p.1)
theorem KR:∀ (cs:List af) (n:Nat),(qx n cs).map (·.2)=zX cs
 | [],n=>rfl
 | v::cs,n=>by
  have ih:=KR cs (n+1)
  cases v<;>simp [qx,zX,ih]
theorem sj:∀ (cs:List af) (n:Nat) (m id:Nat),(m,id)∈qx n cs↔∃ k ver p u,cs[k]? = some (.own id ver p u)∧m=n+k
 | [],n,m,id=>by simp [qx]
 | v::cs,n,m,id=>by
  have ih:=sj cs (n+1) m id
  simp only [qx,List.mem_append,ih]
  constructor
  ·rintro (h | ⟨k,ver,p,u,h1,h2⟩)
   ·cases v<;>simp at h
    obtain ⟨rfl,rfl⟩:=h
    exact ⟨0,_,_,_,rfl,rfl⟩
   ·exact ⟨k+1,ver,p,u,by simpa using h1,by omega⟩
  ·rintro ⟨k,ver,p,u,h1,h2⟩
   cases k with
   | zero=>
    simp only [List.getElem?_cons_zero,Option.some.injEq] at h1
    subst h1
    exact .inl (by simp; omega)
   | succ k=>exact .inr ⟨k,ver,p,u,by simpa using h1,by omega⟩
theorem KS:∀ (cs:List af) (n:Nat),((qx n cs).map (·.1)).Nodup
 | [],n=>by simp [qx]
 | v::cs,n=>by
  simp only [qx,List.map_append]
  refine List.nodup_append.2 ⟨by cases v<;>simp,KS cs (n+1),?_⟩
  intro a ha b hb qy
  subst qy
  have h1:a=n:=by cases v<;>simp at ha; exact ha
  obtain ⟨⟨m,id⟩,hp,he⟩:=List.mem_map.1 hb
  obtain ⟨k,-,-,-,-,h2⟩:=(sj cs (n+1) m id).1 hp
  simp only at he
  omega
theorem Dw {st:St} : ∀ (ps:List PK) (vs:List af) (i:Nat),ps.all PK.gD=true→kW st ps vs=(de i ps vs).map (·.2)
 | [],vs,i,he=>by cases vs<;>rfl
 | p::ps,[],i,he=>by cases p<;>rfl
 | p::ps,v::vs,i,he=>by
  simp only [List.all_cons,Bool.and_eq_true] at he
  have ih:=Dw (st:=st) ps vs (i+1) he.2
  cases p with
  | gA t ms=>simp [PK.gD] at he
  | io t=>cases v<;>simp [kW,de,ih,KR]
  | _=>cases v<;>simp [kW,de,ih]
theorem yM {st:St} : ∀ (t:Ty) (cs:List af) (x:t.T) (r:List af),cW st t cs=some (x,r)→t.size≤cs.length∧r=cs.drop t.size
 | .int k,cs,x,r,e=>by
  cases cs with
  | nil=>simp [cW] at e
  | cons c cs=>
   cases c<;>simp only [cW] at e<;>try (exact absurd (show none=some _ from e) (by simp))
   split at e
   ·have e2:=congrArg Prod.snd (Option.some.inj e)
    exact ⟨by simp [Ty.size],by simpa [Ty.size] using e2.symm⟩
   ·simp at e
 | .bool,cs,x,r,e=>by
  cases cs with
  | nil=>simp [cW] at e
  | cons c cs=>
   cases c<;>simp only [cW] at e<;>try (exact absurd (show none=some _ from e) (by simp))
   have e2:=congrArg Prod.snd (Option.some.inj e)
   exact ⟨by simp [Ty.size],by simpa [Ty.size] using e2.symm⟩
 | .str,cs,x,r,e=>by
  cases cs with
  | nil=>simp [cW] at e
  | cons c cs=>
   cases c<;>simp only [cW] at e<;>try (exact absurd (show none=some _ from e) (by simp))
   have e2:=congrArg Prod.snd (Option.some.inj e)
   exact ⟨by simp [Ty.size],by simpa [Ty.size] using e2.symm⟩
 | .err,cs,x,r,e=>by
  cases cs with
  | nil=>simp [cW] at e
  | cons c cs=>
   cases c<;>simp only [cW] at e<;>try (exact absurd (show none=some _ from e) (by simp))
   have e2:=congrArg Prod.snd (Option.some.inj e)
   exact ⟨by simp [Ty.size],by simpa [Ty.size] using e2.symm⟩
 | .bh t,cs,x,r,e=>by simp [cW] at e
 | .pair a b,cs,x,r,e=>by
  replace e:(match cW st a cs with
   | some (x,r)=>(match cW st b r with | some (y,r)=>some ((x,y),r) | none=>none)
   | none=>none)=some (x,r):=e
  split at e
  ·rename_i y r1 e1
   split at e
   ·rename_i z r2 e2
    obtain ⟨h1,rfl⟩:=yM a cs y r1 e1
    obtain ⟨h2,rfl⟩:=yM b _ z r2 e2
    have e3:=congrArg Prod.snd (Option.some.inj e)
    simp only at e3
    subst e3
    simp only [List.length_drop] at h2
    exact ⟨by simp only [Ty.size]; omega,by simp [Ty.size,List.drop_drop]⟩
   ·simp at e
  ·simp at e
 | .sl t,cs,x,r,e=>by
  cases cs with
  | nil=>exact absurd (show none=some _ from e) (by simp)
  | cons c cs=>
   cases c with
   | own id ver p u=>
    cases p with
    | cons a p=>exact absurd (show none=some _ from e) (by simp)
    | nil=>
     replace e:(match st.obj id with
      | some (.row true u _ xs)=>(match Ty.cast (.sl u) (.sl t) xs with | some ys=>some (ys,cs) | none=>none)
      | _=>none)=some (x,r):=e
     cases ho:st.obj id with
     | none=>rw [ho] at e; exact absurd e (by simp)
     | some ob=>
      rw [ho] at e
      cases ob with
      | row own u' vr xs=>
       cases own with
       | false=>exact absurd e (by simp)
       | true=>
        replace e:(match Ty.cast (.sl u') (.sl t) xs with | some ys=>some (ys,cs) | none=>none)=some (x,r):=e
        split at e
        ·have e2:=congrArg Prod.snd (Option.some.inj e)
         exact ⟨by simp [Ty.size],by simpa [Ty.size] using e2.symm⟩
        ·simp at e
      | _=>exact absurd e (by simp)
   | _=>exact absurd (show none=some _ from e) (by simp)
theorem yN {st sr:St} {t:Ty} {x:t.T} {v:af} (e:mQ st sr (.io t) v=some x):cW st t (lR t v)=some (x,[])∧(lR t v).length=t.size:=by
 replace e:(match cW st t (lR t v) with | some (x,[])=>some x | _=>none)=some x:=e
 split at e
 ·rename_i x' h
  obtain rfl:=Option.some.inj e
  obtain ⟨h1,h2⟩:=yM t _ x' [] h
  refine ⟨h,?_⟩
  have:=congrArg List.length h2
  simp at this; omega
 ·simp at e
theorem Dx {st sr:St} {p:PK} {ps:List PK} {v:af} {vs:List af} {x:fT (p::ps)} (e:j8 st sr (p::ps) (v::vs)=some x):mQ st sr p v=some x.1∧j8 st sr ps vs=some x.2:=by
 replace e:(match mQ st sr p v with
  | some x=>(match j8 st sr ps vs with | some r=>some (x,r) | none=>none)
  | none=>none)=some x:=e
 split at e
 ·rename_i x1 e1
  split at e
  ·rename_i r1 e2
   obtain rfl:=Option.some.inj e
   exact ⟨e1,e2⟩
  ·simp at e
 ·simp at e
theorem Gb {st sr:St} : ∀ (ps:List PK) (x:fT ps) (vs:List af) (i:Nat),ps.all (fun p=>match p with | .io t=>Nat.ble t.size 30 | _=>true)=true→j8 st sr ps vs=some x→
  ∀ p∈de i ps vs,i≤p.1 / 1024∧p.1 / 1024<i+ps.length
 | [],x,vs,i,hz,hx,p,h=>by simp [de] at h
 | q::ps,x,[],i,hz,hx,p,h=>by simp [de] at h
 | q::ps,x,v::vs,i,hz,hx,p,h=>by
  simp only [List.all_cons,Bool.and_eq_true] at hz
  obtain ⟨ub,A_⟩:=Dx hx
  simp only [de,List.mem_append] at h
  rcases h with h | h
  ·cases q with
   | io t=>
    obtain ⟨m,id⟩:=p
    obtain ⟨k,ver,pp,u,h1,h2⟩:=(sj _ _ _ _).1 h
    have hk:=(List.getElem?_eq_some_iff.1 h1).1
    have hl:=(yN ub).2
    have hs:=Nat.le_of_ble_eq_true hz.1
    simp only [List.length_cons]
    omega
   | _=>simp at h
  ·have:=Gb ps x.2 vs (i+1) hz.2 A_ p h
   simp only [List.length_cons]; omega
theorem Gc {st sr:St} : ∀ (ps:List PK) (x:fT ps) (vs:List af) (i:Nat),ps.all (fun p=>match p with | .io t=>Nat.ble t.size 30 | _=>true)=true→j8 st sr ps vs=some x→((de i ps vs).map (·.1)).Nodup
 | [],x,vs,i,hz,hx=>by simp [de]
 | q::ps,x,[],i,hz,hx=>by simp [de]
 | q::ps,x,v::vs,i,hz,hx=>by
  have Fq:=hz
  simp only [List.all_cons,Bool.and_eq_true] at hz
  obtain ⟨ub,A_⟩:=Dx hx
  simp only [de,List.map_append]
  refine List.nodup_append.2 ⟨?_,Gc ps x.2 vs (i+1) hz.2 A_,?_⟩
  ·cases q with
   | io t=>exact KS _ _
   | _=>simp
  ·intro a ha b hb qy
   subst qy
   have h1:a / 1024=i:=by
    cases q with
    | io t=>
     obtain ⟨⟨m,id⟩,hp,he⟩:=List.mem_map.1 ha
     obtain ⟨k,ver,pp,u,h1,h2⟩:=(sj _ _ _ _).1 hp
     have hk:=(List.getElem?_eq_some_iff.1 h1).1
     have hl:=(yN ub).2
     have hs:=Nat.le_of_ble_eq_true hz.1
     simp only at he
     omega
    | _=>simp at ha
   obtain ⟨p,hp,he⟩:=List.mem_map.1 hb
   have:=Gb ps x.2 vs (i+1) hz.2 A_ p hp
   omega
theorem A0 {α:Type} : ∀ {l:List (Nat×α)},(l.map (·.1)).Nodup→∀ {k:Nat} {v:α},(k,v)∈l→look l k=some v
 | [],_,k,v,h=>by simp at h
 | (a,b)::l,hn,k,v,h=>by
  simp only [List.map_cons,List.nodup_cons] at hn
  rw [cT]
  rcases List.mem_cons.1 h with e | e
  ·simp only [Prod.mk.injEq] at e
   rw [if_pos e.1.symm,e.2]
  ·rw [if_neg]
   ·exact A0 hn.2 e
   ·intro he
    subst he
    exact hn.1 (List.mem_map.2 ⟨_,e,rfl⟩)
def gn (st:St) (g:Gh) (SH:Bool) (l:List (Nat×Nat)):Gh where
 hd n _ s:=match look l n with | some id=>Ao g id (nd st id) s | none=>c8
 lab b o:=match g.lab b o with
  | none=>none
  | some (id,p)=>match look (swp l) id with
   | some n=>some (n,p)
   | none=>match SH with | true=>some (19*1024,[]) | false=>none
section
variable {g g1 g':Gh} {w:World} {U U':Nat→Prop} {st sr:St}
theorem Dy {SH:Bool} {l:List (Nat×Nat)} {b o:Nat} (h:g.lab b o=none):(gn st g SH l).lab b o=none:=by simp [gn,h]
theorem Sw {SH:Bool} {l:List (Nat×Nat)} {b o id i:Nat} {p:Path} (h:g.lab b o=some (id,p)) (hl:look (swp l) id=some i):(gn st g SH l).lab b o=some (i,p):=by simp [gn,h,hl]
theorem A1 {SH:Bool} {l:List (Nat×Nat)} {b o id:Nat} {p:Path} (h:g.lab b o=some (id,p)) (hl:look (swp l) id=none) :
  (gn st g SH l).lab b o=match SH with | true=>some (19*1024,[]) | false=>none:=by simp [gn,h,hl]
theorem Ge {SH:Bool} {l:List (Nat×Nat)} {i id ver:Nat} {s:Path} (hl:look l i=some id):(gn st g SH l).hd i ver s=Ao g id (nd st id) s:=by
 simp [gn,hl]
theorem KT {α:Type} {cs:List α} {n:Nat} (h:([]:List α)=cs.drop n) (h':n≤cs.length):cs.length=n:=by
 have:=congrArg List.length h
 simp at this; omega
mutual
theorem wP (hO:dR g w U sr) (hL:∀ b o,g.lab b o=none→g1.lab b o=none) (hD:∀ id,sr.obj id≠none→∀ b o p,g.lab b o=some (id,p)→g1.lab b o=none) :
  ∀ (p:PK) (x:p.T) (v:af) (vx:Value),mQ st sr p v=some x→ay g w U v vx→ay g1 w eZ (Jf p x) vx
 | .io t,x,v,vx,e,hv=>trivial
 | .gA t ms,x,v,vx,e,hv=>trivial
 | .val t,x,v,vx,e,hv=>by
  have e:(match gb sr 50 t (lR t v) with | some (x,[])=>some x | _=>none)=some x:=by cases t<;>exact e
  split at e
  ·rename_i x' hp
   obtain rfl:=Option.some.inj e
   obtain ⟨f,h1,h2⟩:=F0 t hv
   obtain ⟨h3,h4,h5⟩:=(KF hO hL hD 50).1 t _ x' [] f [] 0 0 h1 hp
   exact AR (h2 (KT h4 h3)) (gZ _ _ _ _) (AT (fun _ _ h=>h) t _ _ _ _ _ _ h5)
  ·simp at e
 | .ee t,x,v,vx,e,hv=>by
  cases v with
  | eE u x0 j=>
   cases j with
   | succ j=>exact absurd (show none=some x from e) (by simp)
   | zero=>
    have e:Ty.cast u t x0=some x:=e
    obtain ⟨he,hh⟩:=cast_eq e
    subst he
    obtain rfl:=eq_of_heq hh
    obtain ⟨b,o,rfl,h⟩:=hv
    exact ⟨b,o,rfl,eF (fun b o hl v hv=>⟨hv,hL b o hl⟩) u _ b o h⟩
  | aJ id j=>
   have e:(match sr.obj id with
    | some (.cells _ cs)=>(match gb sr 50 t ((cs.drop j).take t.size) with | some (x,[])=>some x | _=>none)
    | _=>none)=some x:=e
   split at e
   ·rename_i ro cs ho
    split at e
    ·rename_i x' hp
     obtain rfl:=Option.some.inj e
     obtain ⟨b,o,cJ,cn,k_⟩:=tT hO ho
     obtain ⟨-,-,b',o',hb,rfl⟩:=hv
     rw [cJ] at hb
     simp only [Option.some.injEq,Prod.mk.injEq] at hb
     obtain ⟨rfl,rfl⟩:=hb
     have hV:eL g w U ((cs.drop j).take t.size) (fun k=>w.cell? (ad b (o+j+k))):=by
      intro k hk
      simp only [List.length_take,List.length_drop] at hk
      obtain ⟨v,h1,h2⟩:=k_ (j+k) (by omega)
      refine ⟨v,(by show w.cell? (ad b (o+j+k))=some v; rw [Nat.add_assoc]; exact h1),?_⟩
      simp only [List.getElem_take,List.getElem_drop]
      exact h2
     obtain ⟨h3,h4,h5⟩:=(KF hO hL hD 50).1 t _ x' [] _ [] 0 0 hV hp
     have hlen:=KT h4 h3
     simp only [List.length_take,List.length_drop] at hlen
     refine ⟨b,o+j,rfl,ym (g:=g) (σ:=bC) t [] 0 0 _ b (o+j) (fun k hk=>?_) h5⟩
     rw [Nat.add_assoc]
     exact hD id (by rw [ho]; simp) _ _ _ (cn (j+k) (by omega)).1
    ·simp at e
   ·simp at e
  | dI id ver p tt i j=>
   cases p with
   | cons a p=>exact absurd (show none=some x from e) (by simp)
   | nil=>
    cases j with
    | succ j=>exact absurd (show none=some x from e) (by simp)
    | zero=>
     have e:(match sr.obj id with
      | some (.row _ u _ xs)=>(match Ty.beq tt u with | true=>Ty.cast u t (el u xs i) | false=>none)
      | _=>none)=some x:=e
     split at e
     ·rename_i own u vr xs ho
      split at e
      ·rename_i hb
       obtain rfl:=Ty.eq_of_beq hb
       obtain ⟨he,hh⟩:=cast_eq e
       subst he
       obtain rfl:=eq_of_heq hh
       obtain ⟨-,-,-,-,mV,hi,b,o,ha,rfl⟩:=hv
       obtain rfl:=mV rfl
       obtain ⟨-,-,-,r1,r2,r3,r4⟩:=hO id _ ho
       obtain ⟨r5,r6⟩:=r4 b o ha
       have mW:i<xs.length:=by omega
       refine ⟨b,o+i*tt.size,rfl,?_⟩
       rw [rL mW]
       refine wx hL (hD id (by rw [ho]; simp)) tt [] i 0 _ b _ (fun d hd=>?_) (r6 i mW)
       have hle:(i+1)*tt.size≤(g.hd id 0 []).cap*tt.size:=Nat.mul_le_mul_right _ (by omega)
       rw [Nat.add_mul] at hle
       obtain ⟨a1,-,-⟩:=r5 (i*tt.size+d) (by omega)
       exact ⟨_,by rw [Nat.add_assoc]; exact a1⟩
      ·simp at e
     ·simp at e
  | _=>exact absurd (show none=some x from e) (by simp)
 | .gB f caps,x,v,vx,e,hv=>by
  cases v with
  | fn f' vs=>
   replace e:(match Nat.beq f f' with | true=>j8 st sr caps vs | false=>none)=some x:=e
   split at e
   ·rename_i hb
    obtain rfl:=Nat.eq_of_beq_eq_true hb
    obtain ⟨l,rfl,hl⟩:=hv
    exact ⟨l,rfl,KU hO hL hD caps x vs l e hl⟩
   ·simp at e
  | _=>exact absurd (show none=some x from e) (by simp)
theorem KU (hO:dR g w U sr) (hL:∀ b o,g.lab b o=none→g1.lab b o=none) (hD:∀ id,sr.obj id≠none→∀ b o p,g.lab b o=some (id,p)→g1.lab b o=none) :
  ∀ (ps:List PK) (x:fT ps) (vs:List af) (l:List Value),j8 st sr ps vs=some x→bK g w U vs l→bK g1 w eZ (Cx ps x) l
 | [],x,vs,l,e,hv=>by
  cases vs with
  | nil=>exact hv
  | cons v vs=>exact absurd (show none=some x from e) (by simp)
 | p::ps,x,vs,l,e,hv=>by
  cases vs with
  | nil=>exact absurd (show none=some x from e) (by simp)
  | cons v vs=>
   have e:(match mQ st sr p v with
    | some x=>(match j8 st sr ps vs with | some r=>some (x,r) | none=>none)
    | none=>none)=some x:=e
   split at e
   ·rename_i x1 e1
    split at e
    ·rename_i r1 e2
     obtain rfl:=Option.some.inj e
     obtain ⟨a,b,rfl,ha,hb⟩:=hv
     exact ⟨a,b,rfl,wP hO hL hD p x1 v a e1 ha,KU hO hL hD ps r1 vs b e2 hb⟩
    ·simp at e
   ·simp at e
end
theorem Gf {SH:Bool} {l:List (Nat×Nat)} {base:Nat} (hb:∀ j,j<32→eZ ((base+j) / 1024)) (hO:dR g w U st) (hL:∀ b o,g.lab b o=none→(gn st g SH l).lab b o=none) :
  ∀ (t:Ty) (j:Nat) (cs:List af) (x:t.T) (r:List af) (f:Nat→Option Value),j+t.size≤32→cW st t cs=some (x,r)→eL g w U cs f→
   (∀ k id ver p u,k<t.size→cs[k]? = some (.own id ver p u)→look l (base+j+k)=some id∧look (swp l) id=some (base+j+k))→
   eL (gn st g SH l) w eZ (flat (rC base) t x j) f∧∀ id o,look (dZ base 0 t x j) id=some (some o)→dQ (gn st g SH l) w eZ id o
 | .int k,j,cs,x,r,f,hj,e,hv,hl=>by
  cases cs with
  | nil=>simp [cW] at e
  | cons c cs=>
   obtain ⟨v,h1,h2⟩:=hv.head
   cases c<;>simp only [cW] at e<;>try (exact absurd (show none=some _ from e) (by simp))
   split at e
   ·rename_i hk
    obtain rfl:=lP hk
    have e1:=congrArg Prod.fst (Option.some.inj e)
    simp only at e1
    subst e1
    refine ⟨fun k hk=>?_,fun id o h=>by simp [dZ,look] at h⟩
    have:k=0:=by simpa [flat] using hk
    subst this
    exact ⟨v,h1,h2⟩
   ·simp at e
 | .bool,j,cs,x,r,f,hj,e,hv,hl=>by
  cases cs with
  | nil=>simp [cW] at e
  | cons c cs=>
   obtain ⟨v,h1,h2⟩:=hv.head
   cases c<;>simp only [cW] at e<;>try (exact absurd (show none=some _ from e) (by simp))
   have e1:=congrArg Prod.fst (Option.some.inj e)
   simp only at e1
   subst e1
   refine ⟨fun k hk=>?_,fun id o h=>by simp [dZ,look] at h⟩
   have:k=0:=by simpa [flat] using hk
   subst this
   exact ⟨v,h1,h2⟩
 | .str,j,cs,x,r,f,hj,e,hv,hl=>by
  cases cs with
  | nil=>simp [cW] at e
  | cons c cs=>
   obtain ⟨v,h1,h2⟩:=hv.head
   cases c<;>simp only [cW] at e<;>try (exact absurd (show none=some _ from e) (by simp))
   have e1:=congrArg Prod.fst (Option.some.inj e)
   simp only at e1
   subst e1
   refine ⟨fun k hk=>?_,fun id o h=>by simp [dZ,look] at h⟩
   have:k=0:=by simpa [flat] using hk
   subst this
   exact ⟨v,h1,h2⟩
 | .err,j,cs,x,r,f,hj,e,hv,hl=>by
  cases cs with
  | nil=>simp [cW] at e
  | cons c cs=>
   obtain ⟨v,h1,h2⟩:=hv.head
   cases c<;>simp only [cW] at e<;>try (exact absurd (show none=some _ from e) (by simp))
   have e1:=congrArg Prod.fst (Option.some.inj e)
   simp only at e1
   subst e1
   refine ⟨fun k hk=>?_,fun id o h=>by simp [dZ,look] at h⟩
   have:k=0:=by simpa [flat] using hk
   subst this
   exact ⟨v,h1,h2⟩
 | .bh t,j,cs,x,r,f,hj,e,hv,hl=>by simp [cW] at e
 | .pair a b,j,cs,x,r,f,hj,e,hv,hl=>by
  simp only [Ty.size] at hj
  replace e:(match cW st a cs with
   | some (x,r)=>(match cW st b r with | some (y,r)=>some ((x,y),r) | none=>none)
   | none=>none)=some (x,r):=e
  split at e
  ·rename_i y r1 e1
   split at e
   ·rename_i z r2 e2
    have e3:=congrArg Prod.fst (Option.some.inj e)
    simp only at e3
    subst e3
    obtain ⟨d1,rfl⟩:=yM a cs y r1 e1
    obtain ⟨a1,a2⟩:=Gf hb hO hL a j cs y _ f (by omega) e1 hv (fun k id ver p u hk h=>hl k id ver p u (by simp only [Ty.size]; omega) h)
    obtain ⟨b1,b2⟩:=Gf hb hO hL b (j+a.size) _ z r2 _ (by omega) e2 (hv.drop a.size) (fun k id ver p u hk h=>by
     have:=hl (a.size+k) id ver p u (by simp only [Ty.size]; omega) (by rw [List.getElem?_drop] at h; exact h)
     simpa [Nat.add_assoc] using this)
    refine ⟨eL.app a1 (by rw [gZ]; exact b1),fun id o h=>?_⟩
    replace h:look (dZ base 0 a y j++dZ base 0 b z (j+a.size)) id=some (some o):=h
    rw [fV] at h
    cases hq:look (dZ base 0 a y j) id with
    | some q=>
     rw [hq] at h
     simp only [Option.some.injEq] at h
     subst h
     exact a2 id o hq
    | none=>
     rw [hq] at h
     exact b2 id o h
   ·simp at e
  ·simp at e
 | .sl t,j,cs,x,r,f,hj,e,hv,hl=>by
  simp only [Ty.size] at hj
  cases cs with
  | nil=>exact absurd (show none=some _ from e) (by simp)
  | cons c cs=>
   obtain ⟨v,h1,h2⟩:=hv.head
   cases c with
   | own id ver p u=>
    cases p with
    | cons a p=>exact absurd (show none=some _ from e) (by simp)
    | nil=>
     replace e:(match st.obj id with
      | some (.row true u _ xs)=>(match Ty.cast (.sl u) (.sl t) xs with | some ys=>some (ys,cs) | none=>none)
      | _=>none)=some (x,r):=e
     cases ho:st.obj id with
     | none=>rw [ho] at e; exact absurd e (by simp)
     | some ob=>
      rw [ho] at e
      cases ob with
      | row own u' vr xs=>
       cases own with
       | false=>exact absurd e (by simp)
       | true=>
        replace e:(match Ty.cast (.sl u') (.sl t) xs with | some ys=>some (ys,cs) | none=>none)=some (x,r):=e
        split at e
        ·rename_i ys hc
         have e1:ys=x:=congrArg Prod.fst (Option.some.inj e)
         subst e1
         obtain ⟨rfl,hh⟩:=kC hc
         obtain rfl:=eq_of_heq hh
         obtain ⟨l1,l2⟩:=hl 0 id ver [] u (by simp [Ty.size]) rfl
         rw [Nat.add_zero] at l1 l2
         obtain ⟨-,-,-,-,mV,rfl⟩:=h2
         obtain rfl:=mV rfl
         have KW:∀ ver,(gn st g SH l).hd (base+j) ver []=g.hd id 0 []:=fun ver=>by rw [Ge l1]; rfl
         refine ⟨fun k hk=>?_,fun aq o h=>?_⟩
         ·have:k=0:=by simpa [flat] using hk
          subst this
          exact ⟨_,h1,hb j (by omega),by show (0:Nat)<20; omega,by show (0:Nat)<20; omega,trivial,fun _=>rfl,by rw [KW]⟩
         ·replace h:look [(base+j,some (cK.row true u' 0 xs))] aq=some (some o):=h
          rw [cT] at h
          split at h
          ·rename_i h'
           subst h'
           simp only [Option.some.injEq] at h
           subst h
           obtain ⟨-,-,-,hR⟩:=hO id _ ho
           refine ⟨by show (0:Nat)<20; omega,by show (0:Nat)<20; omega,Dd (KW 0) (fun q hq=>?_) (fun b o p yO=>Sw yO l2) hL hR⟩
           rw [Ge l1]
           unfold Ao nd
           rw [ho]
           cases q with
           | nil=>exact absurd rfl hq
           | cons=>rfl
          ·simp [look] at h
        ·simp at e
      | _=>exact absurd e (by simp)
   | _=>exact absurd (show none=some _ from e) (by simp)
theorem KX {SH:Bool} {l:List (Nat×Nat)} (hO:dR g w U st) (hOr:dR g w U sr) (hL:∀ b o,g.lab b o=none→(gn st g SH l).lab b o=none)
  (hD:∀ id,sr.obj id≠none→∀ b o p,g.lab b o=some (id,p)→(gn st g SH l).lab b o=none) :
  ∀ (ps:List PK) (i:Nat) (x:fT ps) (vs:List af) (bd:List Value),ps.all PK.gD=true→ps.all (fun p=>match p with | .io t=>Nat.ble t.size 30 | _=>true)=true→i+ps.length≤15→j8 st sr ps vs=some x→bK g w U vs bd→
   (∀ p∈de i ps vs,look l p.1=some p.2∧look (swp l) p.2=some p.1)→
   bK (gn st g SH l) w eZ ((entry i ps x).1.map (·.2)) bd∧∀ id o,look (entry i ps x).2 id=some (some o)→dQ (gn st g SH l) w eZ id o
 | [],i,x,vs,bd,he,hz,hi,e,hv,hl=>by
  cases vs with
  | nil=>exact ⟨hv,fun id o h=>by simp [entry,look] at h⟩
  | cons v vs=>exact absurd (show none=some x from e) (by simp)
 | p::ps,i,x,vs,bd,he,hz,hi,e,hv,hl=>by
  simp only [List.all_cons,Bool.and_eq_true] at he hz
  simp only [List.length_cons] at hi
  cases vs with
  | nil=>exact absurd (show none=some x from e) (by simp)
  | cons v vs=>
   have e:(match mQ st sr p v with
    | some x=>(match j8 st sr ps vs with | some r=>some (x,r) | none=>none)
    | none=>none)=some x:=e
   split at e
   ·rename_i x1 e1
    split at e
    ·rename_i r1 e2
     obtain rfl:=Option.some.inj e
     obtain ⟨a,b,rfl,ha,hb⟩:=hv
     obtain ⟨i1,i2⟩:=KX hO hOr hL hD ps (i+1) r1 vs b he.2 hz.2 (by omega) e2 hb (fun q hq=>hl q (by simp only [de,List.mem_append]; exact .inr hq))
     have gD:ay (gn st g SH l) w eZ (qd i p x1).1 a∧∀ id o,look (qd i p x1).2 id=some (some o)→dQ (gn st g SH l) w eZ id o:=by
      cases p with
      | val t=>exact ⟨wP hOr hL hD (.val t) x1 v a e1 ha,fun id o h=>by simp [qd,look] at h⟩
      | ee t=>exact ⟨wP hOr hL hD (.ee t) x1 v a e1 ha,fun id o h=>by simp [qd,look] at h⟩
      | gB f caps=>exact ⟨wP hOr hL hD (.gB f caps) x1 v a e1 ha,fun id o h=>by simp [qd,look] at h⟩
      | gA t ms=>simp [PK.gD] at he
      | io t=>
       obtain ⟨d1,d2⟩:=yN e1
       have aX:=Nat.le_of_ble_eq_true hz.1
       obtain ⟨f,f1,f2⟩:=F0 t ha
       obtain ⟨k1,k2⟩:=Gf (SH:=SH) (l:=l) (base:=i*1024) (fun j hj=>by show (i*1024+j) / 1024<20; omega) hO hL t 0 _ x1 [] f (by omega) d1 f1 (fun k id ver p u hk h=>by
        have:=hl (i*1024+k,id) (by
         simp only [de,List.mem_append]
         exact .inl ((sj _ _ _ _).2 ⟨k,ver,p,u,h,rfl⟩))
        simpa using this)
       exact ⟨AR (f2 d2) (gZ _ _ _ _) k1,k2⟩
     refine ⟨⟨a,b,rfl,gD.1,i1⟩,fun id o h=>?_⟩
     replace h:look ((qd i p x1).2++(entry (i+1) ps r1).2) id=some (some o):=h
     rw [fV] at h
     cases hq:look (qd i p x1).2 id with
     | some y=>
      rw [hq] at h
      simp only [Option.some.injEq] at h
      subst h
      exact gD.2 id o hq
     | none=>
      rw [hq] at h
      exact i2 id o h
    ·simp at e
   ·simp at e
end
end Go.Am
namespace Go.Am
open Go
section
variable {g g1 g':Gh} {w:World} {U U':Nat→Prop} {st sr:St}
theorem Dz {id aq vr tP:Nat} (cJ:∀ q,q≠[]→g'.hd aq tP q=g.hd id vr q) (cn:∀ b o p,g.lab b o=some (id,p)→g'.lab b o=some (aq,p)) :
  ∀ (t:Ty) (sk:Nat→Nat→Bool) (p:Path) (i j:Nat) (x:t.T) (b o:Nat),t.gC=true→cQ g w true id vr t sk p i j x b o→cQ g' w true aq tP t sk p i j x b o
 | .int _,_,_,_,_,_,_,_,_,h=>h
 | .bool,_,_,_,_,_,_,_,_,h=>h
 | .str,_,_,_,_,_,_,_,_,h=>h
 | .err,_,_,_,_,_,_,_,_,h=>h
 | .bh t,_,_,_,_,_,_,_,hn,h=>by simp [Ty.gC] at hn
 | .pair s t,sk,p,i,j,x,b,o,hn,h=>by
  simp only [Ty.gC,Bool.and_eq_true] at hn
  exact ⟨Dz cJ cn s sk p i j x.1 b o hn.1 h.1,Dz cJ cn t sk p i (j+s.size) x.2 b (o+s.size) hn.2 h.2⟩
 | .sl t,sk,p,i,j,xs,b,o,hn,h=>by
  rcases h with h | ⟨h1,h2⟩
  ·exact .inl h
  ·refine .inr ⟨?_,?_⟩
   ·rw [cJ _ (by simp)]; exact h1
   ·rw [cJ _ (by simp)]
    obtain ⟨r1,r2,r3,r4⟩:=h2
    refine ⟨r1,r2,r3,fun b o hb=>?_⟩
    obtain ⟨r5,r6⟩:=r4 b o hb
    exact ⟨fun k hk=>⟨cn _ _ _ (r5 k hk).1,(r5 k hk).2⟩,fun k hk=>Dz cJ cn t _ _ k 0 _ b _ hn (r6 k hk)⟩
theorem Gg {id aq vr tP:Nat} {t:Ty} {xs:List t.T} (h0:g'.hd aq 0 []=g.hd id 0 []) (cJ:∀ q,q≠[]→g'.hd aq tP q=g.hd id vr q)
  (cn:∀ b o p,g.lab b o=some (id,p)→g'.lab b o=some (aq,p)) (hn:t.gC=true) (h:dC g w true id 0 vr t b9 [] xs):dC g' w true aq 0 tP t b9 [] xs:=by
 unfold dC at h ⊢
 rw [h0]
 obtain ⟨r1,r2,r3,r4⟩:=h
 refine ⟨r1,r2,r3,fun b o hb=>?_⟩
 obtain ⟨r5,r6⟩:=r4 b o hb
 exact ⟨fun k hk=>⟨cn _ _ _ (r5 k hk).1,(r5 k hk).2⟩,fun k hk=>Dz cJ cn t _ _ k 0 _ b _ hn (r6 k hk)⟩
def uk (site:Nat):af→Bool
 | .int _ _ | .bool _ | .str _ | .err _=>true
 | .own id ver [] _=>Nat.beq ver 0&&Nat.beq (id / 1024) site
 | _=>false
theorem KY {site:Nat} (h0:U' 0) (hs:U' site) (cJ:∀ id,id / 1024=site→g'.hd id 0 []=g.hd id 0 []) {v:af} {x:Value} (hv:uk site v=true) (h:ay g w U v x):ay g' w U' v x:=by
 cases v<;>try (simp [uk] at hv; done)
 ·exact h
 ·exact h
 ·exact h
 ·exact h
 ·rename_i id ver p t
  cases p with
  | cons a p=>simp [uk] at hv
  | nil=>
   simp only [uk,Bool.and_eq_true,Nat.beq_eq] at hv
   obtain ⟨rfl,rfl⟩:=hv
   obtain ⟨-,-,-,-,-,rfl⟩:=h
   exact ⟨hs,h0,h0,trivial,fun _=>rfl,by rw [cJ _ rfl]⟩
theorem Gi {base site:Nat} (hb:∀ j,j<32→(base+j) / 1024=site):∀ (t:Ty) (x:t.T) (j:Nat),t.gC=true→j+t.size≤32→∀ v∈flat (rC base) t x j,uk site v=true
 | .int _,_,_,_,_,v,h=>by simp [flat] at h; subst h; rfl
 | .bool,_,_,_,_,v,h=>by simp [flat] at h; subst h; rfl
 | .str,_,_,_,_,v,h=>by simp [flat] at h; subst h; rfl
 | .err,_,_,_,_,v,h=>by simp [flat] at h; subst h; rfl
 | .bh _,_,_,hn,_,v,h=>by simp [Ty.gC] at hn
 | .sl u,xs,j,hn,hj,v,h=>by
  simp only [flat,List.mem_singleton] at h
  subst h
  simp only [Ty.size] at hj
  simp [rC,uk,hb j (by omega)]
 | .pair s t,x,j,hn,hj,v,h=>by
  simp only [Ty.gC,Bool.and_eq_true] at hn
  simp only [Ty.size] at hj
  have:=s.size_pos
  have:=t.size_pos
  simp only [flat,List.mem_append] at h
  rcases h with h | h
  ·exact Gi hb s x.1 j hn.1 (by omega) v h
  ·exact Gi hb t x.2 (j+s.size) hn.2 (by omega) v h
theorem KZ {site:Nat} (h0:U' 0) (hs:U' site) (cJ:∀ id,id / 1024=site→g'.hd id 0 []=g.hd id 0 []):∀ {vs:List af} {l:List Value},(∀ v∈vs,uk site v=true)→bK g w U vs l→bK g' w U' vs l
 | [],_,_,h=>h
 | v::vs,_,hv,⟨x,r,e,a,b⟩=>⟨x,r,e,KY h0 hs cJ (hv v (by simp)) a,KZ h0 hs cJ (fun v h=>hv v (by simp [h])) b⟩
theorem Sx {site:Nat} (h0:U' 0) (hs:U' site) (cJ:∀ id,id / 1024=site→g'.hd id 0 []=g.hd id 0 []) {t:Ty} {cs:List af} (hc:∀ v∈cs,uk site v=true) {x:Value}
  (h:ay g w U (shut t cs) x):ay g' w U' (shut t cs) x:=by
 cases t with
 | pair a b=>
  obtain ⟨l,rfl,hl⟩:=h
  exact ⟨l,rfl,KZ h0 hs cJ hc hl⟩
 | _=>
  match cs,hc,h with
  | [],_,_=>trivial
  | [v],hc,h=>exact KY h0 hs cJ (hc v (by simp)) h
  | _::_::_,_,_=>trivial
theorem Gj:∀ (t:Ty) (x:t.T) (j:Nat),∀ id,id∉af.ids.fw (flat j4 t x j)
 | .int _,_,_,id=>by simp [flat,af.ids.fw,af.ids]
 | .bool,_,_,id=>by simp [flat,af.ids.fw,af.ids]
 | .str,_,_,id=>by simp [flat,af.ids.fw,af.ids]
 | .err,_,_,id=>by simp [flat,af.ids.fw,af.ids]
 | .bh _,_,_,id=>by simp [flat,af.ids.fw,af.ids]
 | .sl _,_,_,id=>by simp [flat,j4,af.ids.fw,af.ids]
 | .pair s t,x,j,id=>by
  intro h
  have app:∀ (l m:List af),af.ids.fw (l++m)=af.ids.fw l++af.ids.fw m:=by
   intro l m
   induction l with
   | nil=>simp [af.ids.fw]
   | cons a l ih=>simp [af.ids.fw,ih]
  rw [flat,app,List.mem_append] at h
  rcases h with h | h
  ·exact Gj s x.1 j id h
  ·exact Gj t x.2 _ id h
theorem Sy {t:Ty} {cs:List af} : ∀ id∈(shut t cs).ids,id∈af.ids.fw cs:=by
 intro id h
 cases t with
 | pair a b=>exact h
 | _=>
  match cs,h with
  | [],h=>exact absurd (show id∈[] from h) (by simp)
  | [v],h=>exact List.mem_append_left _ h
  | _::_::_,h=>exact absurd (show id∈[] from h) (by simp)
theorem Sz (hU:∀ s,U s→U' s) (gm:∀ b o,g.lab b o=none→g'.lab b o=none) {v:af} {x:Value} (hv:∀ id,id∉v.ids) (h:ay g w U v x):ay g' w U' v x:=
 Dh hU gm v (fun id hid=>absurd hid (hv id)) x x h h
theorem K_ {site:Nat} (h0:U' 0) (hs:U' site) (hU:∀ s,U s→U' s) (cJ:∀ id ver p,id / 1024=site→g'.hd id ver p=g.hd id ver p)
  (cn:∀ b o id p,g.lab b o=some (id,p)→id / 1024=site→g'.lab b o=some (id,p)) :
  ∀ (rs:List RK) (q:Nat) (os:List Ty) (z:bz (RK.aV rs++os)) (bd:List Value),rs.all RK.gD=true→rs.all (fun r=>match r with | .val t=>t.gC | _=>true)=true→
   rs.all (fun r=>Nat.ble r.ty.size 30)=true→q % 32=0→q+32*rs.length≤480→(rs.any rD=true→∀ b o,g.lab b o=none→g'.lab b o=none)→
   (bK g w U (eJ site q rs os z).1 bd→bK g' w U' (eJ site q rs os z).1 bd)∧
   ∀ id oo,look (eJ site q rs os z).2.1 id=some oo→id / 1024=site∧∃ ob,oo=some ob∧(dQ g w U id ob→dQ g' w U' id ob)
 | [],q,os,z,bd,he,hn,hz,hq,hl,gm=>⟨fun h=>h,fun id oo h=>by simp [eJ,look] at h⟩
 | r::rs,q,os,z,bd,he,hn,hz,hq,hl,gm=>by
  simp only [List.all_cons,Bool.and_eq_true] at he hn hz
  simp only [List.length_cons] at hl
  have aX:=Nat.le_of_ble_eq_true hz.1
  have ih:=fun bd=>K_ h0 hs hU cJ cn rs (q+32) os z.2 bd he.2 hn.2 hz.2 (by omega) (by omega) (fun h=>gm (by simp [h]))
  have one:(∀ v,ay g w U (nM site q r z.1).1 v→ay g' w U' (nM site q r z.1).1 v)∧
    ∀ id oo,look (nM site q r z.1).2 id=some oo→id / 1024=site∧∃ ob,oo=some ob∧(dQ g w U id ob→dQ g' w U' id ob):=by
   cases r with
   | val t=>
    have aX:t.size≤30:=aX
    refine ⟨fun v h=>Sx h0 hs (fun id hid=>cJ id 0 [] hid) (Gi (fun j hj=>by omega) t z.1 0 hn.1 (by omega)) h,fun id oo h=>?_⟩
    obtain ⟨u,xs,k,rfl,h2,h3,h4,rfl⟩:=Dt t z.1 0 id oo h
    have hdiv:(site*1024+q+k) / 1024=site:=by omega
    refine ⟨hdiv,_,rfl,fun hO=>⟨h0,hs,Gg (cJ _ _ _ hdiv) (fun q _=>cJ _ _ _ hdiv) (fun b o p hb=>cn _ _ _ _ hb hdiv) (h2 hn.1) hO.2.2⟩⟩
   | sh t=>
    refine ⟨fun v h=>Sz hU (gm (by simp [rD])) (fun id hid=>Gj t z.1 0 id (Sy id hid)) h,fun id oo h=>by simp [nM,look] at h⟩
   | ptr t ms=>simp [RK.gD] at he
  refine ⟨fun h=>?_,fun id oo h=>?_⟩
  ·obtain ⟨x,r',e,a,b⟩:=h
   exact ⟨x,r',e,one.1 x a,(ih r').1 b⟩
  ·replace h:look ((nM site q r z.1).2++(eJ site (q+32) rs os z.2).2.1) id=some oo:=h
   rw [fV] at h
   cases m_:look (nM site q r z.1).2 id with
   | some y=>
    rw [m_] at h
    simp only [Option.some.injEq] at h
    subst h
    exact one.2 id _ m_
   | none=>
    rw [m_] at h
    exact (ih []).2 id oo h
def sn (g:Gh) (w:World) (V:Nat→Nat) (base:Nat):(t:Ty)→Nat→{os:List Ty}→bz (t.fc os)→(bz os→Prop)→Prop
 | .pair a b,j,os,y,K=>sn g w V base a j (os:=b.fc os) y (fun y=>sn g w V base b (j+a.size) (os:=os) y K)
 | .sl u,j,_,y,K=>dC g w true (base+j) 0 (V (base+j)) u b9 [] y.1∧K y.2
 | .int _,_,_,y,K=>K y
 | .bool,_,_,y,K=>K y
 | .str,_,_,y,K=>K y
 | .err,_,_,y,K=>K y
 | .bh _,_,_,y,K=>K y
theorem DB {V V':Nat→Nat} {base:Nat} : ∀ (t:Ty) (j:Nat) {os:List Ty} (y:bz (t.fc os)) {K K':bz os→Prop},(∀ m,base+j≤m→V' m=V m)→(∀ y,K y→K' y)→sn g w V base t j y K→sn g w V' base t j y K'
 | .pair a b,j,os,y,K,K',h,hK,h'=>DB a j (os:=b.fc os) y h (fun y hy=>DB b (j+a.size) (os:=os) y (fun m hm=>h m (by omega)) hK hy) h'
 | .sl u,j,_,y,K,K',h,hK,⟨h1,h2⟩=>⟨by rw [h _ (Nat.le_refl _)]; exact h1,hK _ h2⟩
 | .int _,_,_,y,K,K',h,hK,h'=>hK y h'
 | .bool,_,_,y,K,K',h,hK,h'=>hK y h'
 | .str,_,_,y,K,K',h,hK,h'=>hK y h'
 | .err,_,_,y,K,K',h,hK,h'=>hK y h'
 | .bh _,_,_,y,K,K',h,hK,h'=>hK y h'
theorem Gk {base:Nat} : ∀ (t:Ty) (j:Nat) {os:List Ty} (y:bz (t.fc os)) {K:bz os→Prop} {KV:(Nat→Nat)→bz os→Prop},AU g w base t j y K→(∀ y,K y→∃ V,KV V y)→
  (∀ V V' y,(∀ m,base+j+t.size≤m→V' m=V m)→KV V y→KV V' y)→∃ V,sn g w V base t j y (KV V)
 | .pair a b,j,os,y,K,KV,h,hK,hc=>by
  have hs:=a.size_pos
  have K4:=b.size_pos
  refine Gk a j (os:=b.fc os) y (KV:=fun V y=>sn g w V base b (j+a.size) (os:=os) y (KV V)) h (fun y hy=>Gk b (j+a.size) (os:=os) y hy hK (fun V V' y hm hv=>hc V V' y (fun m wQ=>hm m (by simp only [Ty.size] at wQ; omega)) hv)) (fun V V' y hm hv=>?_)
  exact DB b (j+a.size) (os:=os) y (fun m wQ=>hm m (by omega)) (fun y hy=>hc V V' y (fun m wQ=>hm m (by simp only [Ty.size] at wQ; omega)) hy) hv
 | .sl u,j,_,y,K,KV,⟨⟨v,h1⟩,h2⟩,hK,hc=>by
  obtain ⟨V,h3⟩:=hK _ h2
  refine ⟨fun m=>if m=base+j then v else V m,by simpa using h1,hc V _ y.2 (fun m hm=>if_neg (by simp only [Ty.size] at hm; omega)) h3⟩
 | .int _,_,_,y,K,KV,h,hK,hc=>hK y h
 | .bool,_,_,y,K,KV,h,hK,hc=>hK y h
 | .str,_,_,y,K,KV,h,hK,hc=>hK y h
 | .err,_,_,y,K,KV,h,hK,hc=>hK y h
 | .bh _,_,_,y,K,KV,h,hK,hc=>hK y h
def nX (g:Gh) (w:World) (V:Nat→Nat):Nat→(ps:List PK)→bz (PK.outs ps)→Prop
 | _,[],_=>True
 | i,.io t::ps,y=>sn g w V (i*1024) t 0 y (fun y=>nX g w V (i+1) ps y)
 | _,.gA _ _::_,_=>False
 | i,.val _::ps,y=>nX g w V (i+1) ps y
 | i,.ee _::ps,y=>nX g w V (i+1) ps y
 | i,.gB _ _::ps,y=>nX g w V (i+1) ps y
theorem SA {i m:Nat} (h:(i+1)*1024≤m):i*1024≤m:=Nat.le_trans (Nat.mul_le_mul_right _ (Nat.le_succ i)) h
theorem SB {i m k:Nat} (hk:k≤1024) (h:(i+1)*1024≤m):i*1024+k≤m:=by
 have:=Nat.succ_mul i 1024
 omega
theorem SC {V V':Nat→Nat} : ∀ (ps:List PK) (i:Nat) (y:bz (PK.outs ps)),(∀ m,i*1024≤m→V' m=V m)→nX g w V i ps y→nX g w V' i ps y:=by
 intro ps
 induction ps with
 | nil=>intro i y h h'; trivial
 | cons p ps ih=>
  intro i y h h'
  have h2:∀ m,(i+1)*1024≤m→V' m=V m:=fun m hm=>h m (SA hm)
  cases p with
  | io t=>exact DB t 0 (os:=PK.outs ps) y (fun m hm=>h m (by rw [Nat.add_zero] at hm; exact hm)) (fun y hy=>ih (i+1) y h2 hy) h'
  | gA t ms=>exact h'
  | val t=>exact ih (i+1) y h2 h'
  | ee t=>exact ih (i+1) y h2 h'
  | gB f caps=>exact ih (i+1) y h2 h'
theorem SD:∀ (ps:List PK) (i:Nat) (y:bz (PK.outs ps)),ps.all (fun p=>match p with | .io t=>Nat.ble t.size 30 | _=>true)=true→ug g w i ps y→∃ V,nX g w V i ps y:=by
 intro ps
 induction ps with
 | nil=>intro i y hz h; exact ⟨fun _=>0,trivial⟩
 | cons p ps ih=>
  intro i y hz h
  simp only [List.all_cons,Bool.and_eq_true] at hz
  cases p with
  | io t=>
   have hs:=Nat.le_of_ble_eq_true hz.1
   exact Gk t 0 (os:=PK.outs ps) y (KV:=fun V y=>nX g w V (i+1) ps y) h (fun y hy=>ih (i+1) y hz.2 hy)
    (fun V V' y hm hv=>SC ps (i+1) y (fun m wQ=>hm m (by rw [Nat.add_zero]; exact SB (by omega) wQ)) hv)
  | gA t ms=>exact h.elim
  | val t=>exact ih (i+1) y hz.2 h
  | ee t=>exact ih (i+1) y hz.2 h
  | gB f caps=>exact ih (i+1) y hz.2 h
theorem A2:∀ t:Ty,t.beq t=true
 | .int k=>by cases k<;>rfl
 | .bool | .str | .err=>rfl
 | .pair a b=>by simp [Ty.beq,A2 a,A2 b]
 | .sl t=>by simp [Ty.beq,A2 t]
 | .bh t=>by simp [Ty.beq,A2 t]
theorem DC {p:Ty→Bool} : ∀ (t:Ty) (os:List Ty),(t.fc os).all p=true→os.all p=true
 | .pair a b,os,h=>DC b os (DC a _ h)
 | .sl u,os,h=>by
  replace h:(Ty.sl u::os).all p=true:=h
  simp only [List.all_cons,Bool.and_eq_true] at h
  exact h.2
 | .int _,os,h=>h
 | .bool,os,h=>h
 | .str,os,h=>h
 | .err,os,h=>h
 | .bh _,os,h=>h
theorem DD {n:Nat} {cs:List af} {os:List Ty} {y:bz os} {o:List (Nat×Option cK)} {c_:List af} {y':bz os} {K:bz os→Prop} {P:Nat→Option cK→Prop} {st:St} (hn:n=1)
  (kf:∀ id ver p u,cs[0]?≠some (.own id ver p u)) (ho:some ([],cs.tail,y)=some (o,c_,y')) (hV:K y) :
  c_=cs.drop n∧K y'∧(∀ id oo,look o id=some oo→P id oo)∧(∀ k id ver p u,k<n→cs[k]? = some (.own id ver p u)→(look o id).isSome=true∧st.obj id≠none):=by
 have ho:=Option.some.inj ho
 have f1:([]:List (Nat×Option cK))=o:=congrArg (fun p=>p.1) ho
 have f2:cs.tail=c_:=congrArg (fun p=>p.2.1) ho
 have f3:y=y':=congrArg (fun p=>p.2.2) ho
 subst f1; subst f2; subst f3
 subst hn
 refine ⟨by simp,hV,fun id oo h=>by simp [look] at h,fun k id ver p u hk h=>?_⟩
 have:k=0:=by omega
 subst this
 exact absurd h (kf id ver p u)
theorem Gm {site:Nat} {l:List (Nat×Nat)} {V:Nat→Nat} (h0:U' 0) (hs:U' site) (yP:∀ s,U s→U' s)
  (l8:∀ n id,look l n=some id→g'.hd id 0 []=g.hd n 0 []) (yQ:∀ n id q,look l n=some id→g'.hd id site q=g.hd n (V n) q)
  (cn:∀ n id b o p,look l n=some id→g.lab b o=some (n,p)→g'.lab b o=some (id,p)) {base:Nat} :
  ∀ (t:Ty) (j:Nat) (cs:List af) (x:t.T) (r:List af) {os:List Ty} (y:bz (t.fc os)) (o:List (Nat×Option cK)) (c_:List af) (y':bz os) (K:bz os→Prop),
   (t.fc os).all Ty.gC=true→cW st t cs=some (x,r)→vX st site t cs y=some (o,c_,y')→
   (∀ k id ver p u,k<t.size→cs[k]? = some (.own id ver p u)→look l (base+j+k)=some id)→sn g w V base t j y K→
   c_=cs.drop t.size∧K y'∧
   (∀ id oo,look o id=some oo→st.obj id≠none∧(∃ k ver p u,k<t.size∧cs[k]? = some (.own id ver p u))∧∃ ob,oo=some ob∧∀ w1,dR g1 w1 U st→U' (id / 1024)∧dQ g' w U' id ob)∧
   (∀ k id ver p u,k<t.size→cs[k]? = some (.own id ver p u)→(look o id).isSome=true∧st.obj id≠none)
 | .pair a b,j,cs,x,r,os,y,o,c_,y',K,hn,hd,ho,hl,hV=>by
  replace hd:(match cW st a cs with
   | some (x,r)=>(match cW st b r with | some (y,r)=>some ((x,y),r) | none=>none)
   | none=>none)=some (x,r):=hd
  replace ho:(match vX st site a cs (os:=b.fc os) y with
   | some (o,cs,y)=>(match vX st site b cs (os:=os) y with | some (p,cs,y)=>some (o++p,cs,y) | none=>none)
   | none=>none)=some (o,c_,y'):=ho
  split at hd
  ·rename_i xa r1 d1
   split at hd
   ·rename_i xb r2 d2
    split at ho
    ·rename_i o1 c1 y1 e1
     split at ho
     ·rename_i o2 c2 y2 e2
      have ho:=Option.some.inj ho
      have f1:o1++o2=o:=congrArg (fun p=>p.1) ho
      have f2:c2=c_:=congrArg (fun p=>p.2.1) ho
      have f3:y2=y':=congrArg (fun p=>p.2.2) ho
      subst f1; subst f2; subst f3
      obtain ⟨-,rfl⟩:=yM a cs xa r1 d1
      obtain ⟨a1,a2,a3,a4⟩:=Gm h0 hs yP l8 yQ cn a j cs xa _ y o1 c1 y1 (fun y=>sn g w V base b (j+a.size) (os:=os) y K) hn d1 e1 (fun k id ver p u hk h=>hl k id ver p u (by simp only [Ty.size]; omega) h) hV
      subst a1
      obtain ⟨b1,b2,b3,b4⟩:=Gm h0 hs yP l8 yQ cn b (j+a.size) _ xb _ y1 o2 c2 y2 K (DC a _ hn) d2 e2 (fun k id ver p u hk h=>by
       have:=hl (a.size+k) id ver p u (by simp only [Ty.size]; omega) (by rw [List.getElem?_drop] at h; exact h)
       simpa [Nat.add_assoc] using this) a2
      refine ⟨by rw [b1,List.drop_drop]; rfl,b2,fun id oo h=>?_,fun k id ver p u hk h=>?_⟩
      ·rw [fV] at h
       cases hq:look o1 id with
       | some q=>
        rw [hq] at h
        simp only [Option.some.injEq] at h
        subst h
        obtain ⟨c1,⟨k,ver,p,u,hk,hc⟩,c3⟩:=a3 id _ hq
        exact ⟨c1,⟨k,ver,p,u,by simp only [Ty.size]; omega,hc⟩,c3⟩
       | none=>
        rw [hq] at h
        obtain ⟨c1,⟨k,ver,p,u,hk,hc⟩,c3⟩:=b3 id _ h
        exact ⟨c1,⟨a.size+k,ver,p,u,by simp only [Ty.size]; omega,by rw [List.getElem?_drop] at hc; exact hc⟩,c3⟩
      ·simp only [Ty.size] at hk
       rw [fV]
       by_cases Gn:k<a.size
       ·obtain ⟨c1,c2⟩:=a4 k id ver p u Gn h
        refine ⟨?_,c2⟩
        cases hq:look o1 id with
        | some q=>rfl
        | none=>rw [hq] at c1; simp at c1
       ·obtain ⟨c1,c2⟩:=b4 (k-a.size) id ver p u (by omega) (by rw [List.getElem?_drop,show a.size+(k-a.size)=k by omega]; exact h)
        refine ⟨?_,c2⟩
        cases hq:look o1 id with
        | some q=>rfl
        | none=>exact c1
     ·simp at ho
    ·simp at ho
   ·simp at hd
  ·simp at hd
 | .sl t,j,cs,x,r,os,y,o,c_,y',K,hn,hd,ho,hl,⟨SE,Gp⟩=>by
  replace hn:(Ty.sl t::os).all Ty.gC=true:=hn
  simp only [List.all_cons,Bool.and_eq_true] at hn
  cases cs with
  | nil=>exact absurd (show none=some _ from hd) (by simp)
  | cons c cs=>
   cases c with
   | own id ver p u=>
    cases p with
    | cons a p=>exact absurd (show none=some _ from hd) (by simp)
    | nil=>
     replace hd:(match st.obj id with
      | some (.row true u _ xs)=>(match Ty.cast (.sl u) (.sl t) xs with | some ys=>some (ys,cs) | none=>none)
      | _=>none)=some (x,r):=hd
     replace ho:(match st.obj id with
      | some (.row own u _ _)=>(match Ty.cast (.sl t) (.sl u) y.1 with | some xs=>some ([(id,some (.row own u site xs))],cs,y.2) | none=>none)
      | _=>none)=some (o,c_,y'):=ho
     cases aY:st.obj id with
     | none=>rw [aY] at hd; exact absurd hd (by simp)
     | some ob=>
      rw [aY] at hd ho
      cases ob with
      | row own u' vr xs=>
       cases own with
       | false=>exact absurd hd (by simp)
       | true=>
        replace hd:(match Ty.cast (.sl u') (.sl t) xs with | some ys=>some (ys,cs) | none=>none)=some (x,r):=hd
        replace ho:(match Ty.cast (.sl t) (.sl u') y.1 with | some xs=>some ([(id,some (cK.row true u' site xs))],cs,y.2) | none=>none)=some (o,c_,y'):=ho
        split at hd
        ·rename_i ys hc
         obtain ⟨rfl,-⟩:=kC hc
         have SF:Ty.cast (.sl u') (.sl u') y.1=some y.1:=by
          unfold Ty.cast
          rw [dif_pos (A2 _)]
         rw [SF] at ho
         have ho:=Option.some.inj ho
         have f1:[(id,some (cK.row true u' site y.1))]=o:=congrArg (fun p=>p.1) ho
         have f2:cs=c_:=congrArg (fun p=>p.2.1) ho
         have f3:y.2=y':=congrArg (fun p=>p.2.2) ho
         subst f1; subst f2; subst f3
         have jM:look l (base+j)=some id:=by
          have:=hl 0 id ver [] u (by simp [Ty.size]) rfl
          simpa using this
         refine ⟨rfl,Gp,fun aq oo h=>?_,fun k aq kx p' u' hk h=>?_⟩
         ·rw [cT] at h
          split at h
          ·rename_i he
           subst he
           simp only [Option.some.injEq] at h
           refine ⟨by rw [aY]; simp,⟨0,_,_,_,by simp [Ty.size],rfl⟩,_,h.symm,fun w1 SG=>⟨yP _ (SG id _ aY).1,h0,hs,?_⟩⟩
           exact Gg (l8 _ id jM) (fun q' _=>yQ _ id q' jM) (fun b o p hb=>cn _ id b o p jM hb) hn.1 SE
          ·simp [look] at h
         ·simp only [Ty.size] at hk
          have:k=0:=by omega
          subst this
          simp only [List.getElem?_cons_zero,Option.some.injEq,af.own.injEq] at h
          obtain ⟨rfl,-⟩:=h
          exact ⟨by rw [cT,if_pos rfl]; rfl,by rw [aY]; simp⟩
        ·simp at hd
      | _=>exact absurd hd (by simp)
   | _=>exact absurd (show none=some _ from hd) (by simp)
 | .int k,j,cs,x,r,os,y,o,c_,y',K,hn,hd,ho,hl,hV=>by
  have ho:some ([],cs.tail,y)=some (o,c_,y'):=ho
  exact DD (by simp [Ty.size]) (by
   intro id ver p u h
   cases cs with
   | nil=>simp at h
   | cons c cs=>simp at h; subst h; simp [cW] at hd) ho hV
 | .bool,j,cs,x,r,os,y,o,c_,y',K,hn,hd,ho,hl,hV=>by
  have ho:some ([],cs.tail,y)=some (o,c_,y'):=ho
  exact DD (by simp [Ty.size]) (by
   intro id ver p u h
   cases cs with
   | nil=>simp at h
   | cons c cs=>simp at h; subst h; simp [cW] at hd) ho hV
 | .str,j,cs,x,r,os,y,o,c_,y',K,hn,hd,ho,hl,hV=>by
  have ho:some ([],cs.tail,y)=some (o,c_,y'):=ho
  exact DD (by simp [Ty.size]) (by
   intro id ver p u h
   cases cs with
   | nil=>simp at h
   | cons c cs=>simp at h; subst h; simp [cW] at hd) ho hV
 | .err,j,cs,x,r,os,y,o,c_,y',K,hn,hd,ho,hl,hV=>by
  have ho:some ([],cs.tail,y)=some (o,c_,y'):=ho
  exact DD (by simp [Ty.size]) (by
   intro id ver p u h
   cases cs with
   | nil=>simp at h
   | cons c cs=>simp at h; subst h; simp [cW] at hd) ho hV
 | .bh t,j,cs,x,r,os,y,o,c_,y',K,hn,hd,ho,hl,hV=>by simp [cW] at hd
theorem K5 {site:Nat} {l:List (Nat×Nat)} {V:Nat→Nat} (h0:U' 0) (hs:U' site) (yP:∀ s,U s→U' s)
  (l8:∀ n id,look l n=some id→g'.hd id 0 []=g.hd n 0 []) (yQ:∀ n id q,look l n=some id→g'.hd id site q=g.hd n (V n) q)
  (cn:∀ n id b o p,look l n=some id→g.lab b o=some (n,p)→g'.lab b o=some (id,p)) :
  ∀ (ps:List PK) (i q:Nat) (x:fT ps) (vs:List af) (y:bz (PK.outs ps)) (o:List (Nat×Option cK)),ps.all PK.gD=true→(PK.outs ps).all Ty.gC=true→j8 st sr ps vs=some x→
   o6 st site q ps vs y=some o→(∀ p∈de i ps vs,look l p.1=some p.2)→nX g w V i ps y→
   (∀ id oo,look o id=some oo→st.obj id≠none∧(∃ i',(i',id)∈de i ps vs)∧∃ ob,oo=some ob∧∀ w1,dR g1 w1 U st→U' (id / 1024)∧dQ g' w U' id ob)∧
   (∀ p∈de i ps vs,(look o p.2).isSome=true∧st.obj p.2≠none)
 | [],i,q,x,vs,y,o,he,hn,e,ho,hl,hV=>by
  cases vs with
  | nil=>
   obtain rfl:=Option.some.inj (show some []=some o from ho)
   exact ⟨fun id oo h=>by simp [look] at h,fun p h=>by simp [de] at h⟩
  | cons v vs=>exact absurd (show none=some x from e) (by simp)
 | p::ps,i,q,x,[],y,o,he,hn,e,ho,hl,hV=>absurd (show none=some x from e) (by simp)
 | p::ps,i,q,x,v::vs,y,o,he,hn,e,ho,hl,hV=>by
  simp only [List.all_cons,Bool.and_eq_true] at he
  obtain ⟨e1,e2⟩:=Dx e
  have Ag:∀ p∈de (i+1) ps vs,look l p.1=some p.2:=fun p' hp=>hl p' (by simp only [de,List.mem_append]; exact .inr hp)
  have rest:=fun (y':bz (PK.outs ps)) (o':List (Nat×Option cK)) (kF:(PK.outs ps).all Ty.gC=true) (fL:o6 st site (q+32) ps vs y'=some o') (Gq:nX g w V (i+1) ps y')=>
   K5 h0 hs yP l8 yQ cn ps (i+1) _ x.2 vs y' o' he.2 kF e2 fL Ag Gq
  have same:de i (p::ps) (v::vs)=de (i+1) ps vs→∀ (y':bz (PK.outs ps)),(PK.outs ps).all Ty.gC=true→o6 st site (q+32) ps vs y'=some o→nX g w V (i+1) ps y'→
    (∀ id oo,look o id=some oo→st.obj id≠none∧(∃ i',(i',id)∈de i (p::ps) (v::vs))∧∃ ob,oo=some ob∧∀ w1,dR g1 w1 U st→U' (id / 1024)∧dQ g' w U' id ob)∧
    (∀ p'∈de i (p::ps) (v::vs),(look o p'.2).isSome=true∧st.obj p'.2≠none):=by
   intro h1 y' kF fL Gq
   rw [h1]
   exact rest y' o kF fL Gq
  cases p with
  | gA t ms=>simp [PK.gD] at he
  | val t=>exact same (by simp [de]) y hn ho hV
  | ee t=>exact same (by simp [de]) y hn ho hV
  | gB f caps=>exact same (by simp [de]) y hn ho hV
  | io t=>
   obtain ⟨d1,d2⟩:=yN e1
   replace hn:(t.fc (PK.outs ps)).all Ty.gC=true:=hn
   replace ho:(match vX st site t (lR t v) y with
    | some (o,_,y')=>(match o6 st site (q+32) ps vs y' with | some r=>some (o++r) | none=>none)
    | none=>none)=some o:=ho
   split at ho
   ·rename_i o1 c1 y1 fy
    split at ho
    ·rename_i o2 pj
     obtain rfl:=Option.some.inj ho
     obtain ⟨-,Gp,a3,a4⟩:=Gm (g1:=g1) h0 hs yP l8 yQ cn t 0 _ x.1 [] (os:=PK.outs ps) y o1 c1 y1 (fun y=>nX g w V (i+1) ps y) hn d1 fy (fun k id ver p u hk h=>by
      have:=hl (i*1024+k,id) (by
       simp only [de,List.mem_append]
       exact .inl ((sj _ _ _ _).2 ⟨k,ver,p,u,h,rfl⟩))
      simpa using this) hV
     obtain ⟨k1,k2⟩:=rest y1 o2 (DC t _ hn) pj Gp
     refine ⟨fun id oo h=>?_,fun p' jd=>?_⟩
     ·rw [fV] at h
      cases hq:look o1 id with
      | some qq=>
       rw [hq] at h
       simp only [Option.some.injEq] at h
       subst h
       obtain ⟨c1,⟨k,ver,p,u,hk,hc⟩,c3⟩:=a3 id _ hq
       refine ⟨c1,⟨i*1024+k,?_⟩,c3⟩
       simp only [de,List.mem_append]
       exact .inl ((sj _ _ _ _).2 ⟨k,ver,p,u,hc,rfl⟩)
      | none=>
       rw [hq] at h
       obtain ⟨a1,⟨i',a2⟩,a3⟩:=k1 id oo h
       exact ⟨a1,⟨i',by simp only [de,List.mem_append]; exact .inr a2⟩,a3⟩
     ·simp only [de,List.mem_append] at jd
      rw [fV]
      rcases jd with jd | jd
      ·obtain ⟨m,id⟩:=p'
       obtain ⟨k,ver,p,u,h1,h2⟩:=(sj _ _ _ _).1 jd
       have hk:=(List.getElem?_eq_some_iff.1 h1).1
       obtain ⟨c1,c2⟩:=a4 k id ver p u (by omega) h1
       refine ⟨?_,c2⟩
       cases hq:look o1 id with
       | some q=>rfl
       | none=>rw [hq] at c1; simp at c1
      ·obtain ⟨a1,a2⟩:=k2 p' jd
       refine ⟨?_,a2⟩
       cases hq:look o1 p'.2 with
       | some q=>rfl
       | none=>exact a1
    ·simp at ho
   ·simp at ho
end
end Go.Am
namespace Go.Am
open Go
def cG (P:Program) (f:FuncId):Prop:=∃ fn,P.funcs[f]? = some fn∧(fn.name== "runtime.NumGoroutine")=false∧fn.body.isNone=false
structure DE (P:Program) (f:FuncId):Prop where
 a:∀ (w:World) (b o:Nat) (op:Int),w.cell? (ad b o)=some (.int .i64 op)→jB op=true→Calls P f #[.pointer (some (ad b o))] w fun e w'=>
  e = .returned (.slice (some (ad w.heap.size 0)) 2 2)∧∃ t,iL w w' #[.pointer (some (ad b (o+1))),.pointer (some (ad b (o+2)))] t
 b:∀ (w:World) (b o:Nat) (op:Int),w.cell? (ad b o)=some (.int .i64 op)→ij op=true→Calls P f #[.pointer (some (ad b o))] w fun e w'=>
  e = .returned (.slice (some (ad w.heap.size 0)) 3 3)∧∃ t,iL w w' #[.pointer (some (ad b (o+1))),.pointer (some (ad b (o+2))),.pointer (some (ad b (o+3)))] t
 c:∀ (w:World) (b o:Nat) (op:Int),w.cell? (ad b o)=some (.int .i64 op)→lS op=true→Calls P f #[.pointer (some (ad b o))] w fun e w'=>
  e = .returned (.slice (some (ad w.heap.size 0)) 1 1)∧∃ t,iL w w' #[.pointer (some (ad b (o+2)))] t
 n:∀ (w:World) (b o:Nat) (op:Int),w.cell? (ad b o)=some (.int .i64 op)→jB op=false→ij op=false→lS op=false→Calls P f #[.pointer (some (ad b o))] w fun e w'=>
  e = .returned (.slice none 0 0)∧w'=w
def DF (P:Program) (c:aP):Prop:=∀ f,c.j7.any (Nat.beq (f+3000000))=true→DE P f∧cG P f
def A3 (P:Program) (c:aP):Prop:=(∀ f m,(f,m)∈c.calls→Sound P (vY f) m∧cG P (vY f))∧DF P c
theorem Gr {P:Program} {c:aP} (h:c.j7.all (fun x=>Nat.blt x 3000000)=true):DF P c:=by
 intro f hf
 obtain ⟨x,hx,he⟩:=List.any_eq_true.1 hf
 have h1:=List.all_eq_true.1 h x hx
 have h2:=Nat.eq_of_beq_eq_true he
 have h3:x<3000000:=by simpa [Nat.blt_eq] using h1
 omega
theorem K6 {P:Program} {c:aP} {f:FuncId} (h:c.j7.all (fun x=>Nat.blt x 3000000||Nat.beq x (f+3000000))=true) (hp:DE P f) (hg:cG P f):DF P c:=by
 intro f' hf
 obtain ⟨x,hx,he⟩:=List.any_eq_true.1 hf
 have h1:=List.all_eq_true.1 h x hx
 have h2:=Nat.eq_of_beq_eq_true he
 simp only [Bool.or_eq_true] at h1
 rcases h1 with h1 | h1
 ·have h3:x<3000000:=by simpa [Nat.blt_eq] using h1
  omega
 ·have h3:=Nat.eq_of_beq_eq_true h1
  have:f'=f:=by omega
  subst this
  exact ⟨hp,hg⟩
theorem Gs {st:St} {f:Nat} {args:List af} : ∀ (l:List (Nat×ar)) (m:ar) (x:fT m.ps),xU st f args l=some ⟨m,x⟩→(f,m)∈l∧j8 st (tM st m.rs (kW st m.ps args)) m.ps args=some x
 | [],m,x,e=>by simp [xU] at e
 | (g,m')::l,m,x,e=>by
  simp only [xU] at e
  split at e
  ·obtain ⟨h1,h2⟩:=Gs l m x e
   exact ⟨List.mem_cons_of_mem _ h1,h2⟩
  ·rename_i hb
   obtain rfl:=Nat.eq_of_beq_eq_true hb
   split at e
   ·rename_i x' hx
    simp only [Option.some.injEq] at e
    obtain ⟨rfl,e⟩:=Sigma.mk.inj e
    obtain rfl:=eq_of_heq e
    exact ⟨by simp,hx⟩
   ·obtain ⟨h1,h2⟩:=Gs l m x e
    exact ⟨List.mem_cons_of_mem _ h1,h2⟩
theorem K7 {st:St} {rs:List RK} {io:List Nat} {id:Nat} {ob:cK} (h:(tM st rs io).obj id=some ob):rs.any rD=false∧id∉io∧st.obj id=some ob:=by
 unfold tM at h
 split at h
 ·simp [St.obj,look] at h
 ·rename_i hr
  unfold St.obj at h
  simp only [fV,jI] at h
  by_cases hm:id∈io
  ·simp [hm] at h
  ·simp only [hm,if_false] at h
   exact ⟨hr,hm,h⟩
theorem DG {g:Gh} {w:World} {U:Nat→Prop} : ∀ {as bs:List af} {l m:List Value},bK g w U as l→bK g w U bs m→bK g w U (as++bs) (l++m)
 | [],bs,l,m,h,h'=>by obtain rfl:=h; exact h'
 | a::as,bs,l,m,⟨x,r,e,h1,h2⟩,h'=>⟨x,r++m,by rw [e]; rfl,h1,DG h2 h'⟩
section
variable {P:Program} {c:aP} {g:Gh} {w:World} {U:Nat→Prop} {sr:St} {a:Act} {site:Nat} {o:Oper} {ρ:Type} {r:ρ} {k:bR→Option ρ}
theorem K8 {l:List (Nat×Nat)} (h1:(l.map (·.1)).Nodup) (h2:(l.map (·.2)).Nodup):(∀ p∈l,look l p.1=some p.2∧look (swp l) p.2=some p.1)∧(∀ i id,look l i=some id→look (swp l) id=some i)∧(∀ i id,look (swp l) id=some i→look l i=some id):=by
 have hn:((swp l).map (·.1)).Nodup:=by simpa [swp,Function.comp_def] using h2
 have l7:∀ i id,(i,id)∈l→(id,i)∈swp l:=fun i id h=>List.mem_map.2 ⟨_,h,rfl⟩
 refine ⟨fun p hp=>⟨A0 h1 hp,A0 hn (l7 _ _ hp)⟩,fun i id h=>A0 hn (l7 _ _ (iN h)),fun i id h=>?_⟩
 obtain ⟨p,hp,e⟩:=List.mem_map.1 (iN h)
 simp only [Prod.mk.injEq] at e
 obtain ⟨rfl,rfl⟩:=e
 exact A0 h1 hp
def fW (g g1:Gh) (site:Nat) (l:List (Nat×Nat)) (V:Nat→Nat):Gh where
 hd n ver s:=if n / 1024=site then g1.hd n ver s else if ver=site then (match look (swp l) n with | some i=>g1.hd i (V i) s | none=>c8) else g.hd n ver s
 lab b o:=match g1.lab b o with
  | none=>(match g.lab b o with | some (id,p)=>(match look (swp l) id with | some _=>none | none=>some (id,p)) | none=>none)
  | some (id,p)=>if id / 1024=site then some (id,p) else (match look l id with
    | some bJ=>some (bJ,p)
    | none=>(match g.lab b o with | some q=>some q | none=>some (site*1024+1023,[])))
theorem Gt {st:St} : ∀ (t:Ty) (cs:List af) (x:t.T) (r:List af),cW st t cs=some (x,r)→∀ k id ver p u,k<t.size→cs[k]? = some (.own id ver p u)→∃ ob,st.obj id=some ob
 | .pair a b,cs,x,r,e,k,id,ver,p,u,hk,h=>by
  replace e:(match cW st a cs with
   | some (x,r)=>(match cW st b r with | some (y,r)=>some ((x,y),r) | none=>none)
   | none=>none)=some (x,r):=e
  split at e
  ·rename_i y r1 e1
   split at e
   ·rename_i z r2 e2
    obtain ⟨-,rfl⟩:=yM a cs y r1 e1
    by_cases Gn:k<a.size
    ·exact Gt a cs y _ e1 k id ver p u Gn h
    ·simp only [Ty.size] at hk
     exact Gt b _ z r2 e2 (k-a.size) id ver p u (by omega) (by rw [List.getElem?_drop,show a.size+(k-a.size)=k by omega]; exact h)
   ·simp at e
  ·simp at e
 | .sl t,cs,x,r,e,k,id,ver,p,u,hk,h=>by
  simp only [Ty.size] at hk
  have:k=0:=by omega
  subst this
  cases cs with
  | nil=>simp at h
  | cons c cs=>
   simp only [List.getElem?_cons_zero,Option.some.injEq] at h
   subst h
   cases p with
   | cons a p=>exact absurd (show none=some _ from e) (by simp)
   | nil=>
    replace e:(match st.obj id with
     | some (.row true u _ xs)=>(match Ty.cast (.sl u) (.sl t) xs with | some ys=>some (ys,cs) | none=>none)
     | _=>none)=some (x,r):=e
    cases ho:st.obj id with
    | none=>rw [ho] at e; exact absurd e (by simp)
    | some ob=>exact ⟨ob,rfl⟩
 | .int k',cs,x,r,e,k,id,ver,p,u,hk,h=>by
  simp only [Ty.size] at hk
  have:k=0:=by omega
  subst this
  cases cs with
  | nil=>simp at h
  | cons c cs=>simp only [List.getElem?_cons_zero,Option.some.injEq] at h; subst h; simp [cW] at e
 | .bool,cs,x,r,e,k,id,ver,p,u,hk,h=>by
  simp only [Ty.size] at hk
  have:k=0:=by omega
  subst this
  cases cs with
  | nil=>simp at h
  | cons c cs=>simp only [List.getElem?_cons_zero,Option.some.injEq] at h; subst h; simp [cW] at e
 | .str,cs,x,r,e,k,id,ver,p,u,hk,h=>by
  simp only [Ty.size] at hk
  have:k=0:=by omega
  subst this
  cases cs with
  | nil=>simp at h
  | cons c cs=>simp only [List.getElem?_cons_zero,Option.some.injEq] at h; subst h; simp [cW] at e
 | .err,cs,x,r,e,k,id,ver,p,u,hk,h=>by
  simp only [Ty.size] at hk
  have:k=0:=by omega
  subst this
  cases cs with
  | nil=>simp at h
  | cons c cs=>simp only [List.getElem?_cons_zero,Option.some.injEq] at h; subst h; simp [cW] at e
 | .bh t,cs,x,r,e,k,id,ver,p,u,hk,h=>by simp [cW] at e
theorem A4 {st sr:St} : ∀ (ps:List PK) (i:Nat) (x:fT ps) (vs:List af),ps.all PK.gD=true→j8 st sr ps vs=some x→∀ p∈de i ps vs,∃ ob,st.obj p.2=some ob
 | [],i,x,vs,he,e,p,hp=>by cases vs<;>simp [de] at hp
 | q::ps,i,x,[],he,e,p,hp=>by simp [de] at hp
 | q::ps,i,x,v::vs,he,e,p,hp=>by
  simp only [List.all_cons,Bool.and_eq_true] at he
  obtain ⟨e1,e2⟩:=Dx e
  simp only [de,List.mem_append] at hp
  rcases hp with hp | hp
  ·cases q with
   | io t=>
    obtain ⟨m,id⟩:=p
    obtain ⟨k,ver,pp,u,h1,h2⟩:=(sj _ _ _ _).1 hp
    exact Gt t _ x.1 [] (yN e1).1 k id ver pp u (by
     have:=(List.getElem?_eq_some_iff.1 h1).1
     rw [(yN e1).2] at this; exact this) h1
   | _=>simp at hp
  ·exact A4 ps (i+1) x.2 vs he.2 e2 p hp
theorem SI (S:cB P c g w U sr a) (hs:¬ U site) {m:ar} {x:fT m.ps} {vs:List af} {y:bz (RK.aV m.rs++PK.outs m.ps)} {os:List (Nat×Option cK)} (bb:tN m.ps m.rs=true)
  (dw:(kW sr m.ps vs).Nodup) (hx:j8 sr (tM sr m.rs (kW sr m.ps vs)) m.ps vs=some x) (ho:o6 sr site 0 m.ps vs (eJ site 0 m.rs (PK.outs m.ps) y).2.2=some os)
  {v:Value} {g1:Gh} {w':World} (E:uh (gn sr g (m.rs.any rD) (de 0 m.ps vs)) w site m y v g1 w') :
  ∃ g',cR g w U site ⟨match (eJ site 0 m.rs (PK.outs m.ps) y).1 with | [v]=>v | vs=>.fb vs,(eJ site 0 m.rs (PK.outs m.ps) y).2.1++os⟩ v w' g' (U' U site):=by
 unfold tN at bb
 simp only [Bool.and_eq_true] at bb
 obtain ⟨⟨⟨⟨⟨⟨⟨⟨mg,AZ⟩,ui⟩,sg⟩,si⟩,KP⟩,K9⟩,La⟩,qw⟩:=bb
 have ui:=Nat.le_of_ble_eq_true ui
 have sg:=Nat.le_of_ble_eq_true sg
 have qz:20≤site:=by
  rcases Nat.lt_or_ge site 20 with h | h
  ·exact absurd (S.ky site h) hs
  ·exact h
 obtain ⟨V,hV⟩:=SD m.ps 0 _ qw E.outs
 let SH:=m.rs.any rD
 let l:=de 0 m.ps vs
 rw [Dw m.ps vs 0 mg] at dw
 obtain ⟨Gu,Lb,DH⟩:=K8 (Gc m.ps x vs 0 qw hx) dw
 have Gv:∀ i id,look l i=some id→i / 1024<15:=fun i id h=>by
  have:=Gb m.ps x vs 0 qw hx _ (iN h)
  simp only at this; omega
 have jM:∀ p∈de 0 m.ps vs,look l p.1=some p.2:=fun p hp=>(Gu p hp).1
 have yR:∀ b o,g.lab b o=none→(gn sr g SH l).lab b o=none:=fun b o h=>Dy h
 have A5:∀ b o,qf (gn sr g SH l) b o→∃ id p i,g.lab b o=some (id,p)∧look (swp l) id=some i:=by
  rintro b o ⟨id,p,h1,h2⟩
  cases hg:g.lab b o with
  | none=>rw [yR b o hg] at h1; simp at h1
  | some q=>
   obtain ⟨aq,p'⟩:=q
   cases hw:look (swp l) aq with
   | some i=>exact ⟨aq,p',i,rfl,hw⟩
   | none=>
    rw [A1 hg hw] at h1
    cases qA:SH with
    | true=>rw [qA] at h1; simp at h1; obtain ⟨rfl,-⟩:=h1; exact absurd rfl h2
    | false=>rw [qA] at h1; simp at h1
 let g':=fW g g1 site l V
 have SJ:∀ b o id p,g.lab b o=some (id,p)→look (swp l) id=none→b<w.heap.size→g'.lab b o=some (id,p):=by
  intro b o id p hg hw hb
  cases qA:SH with
  | true=>
   have bV:(gn sr g SH l).lab b o=some (19*1024,[]):=by rw [A1 hg hw,qA]
   have fU:=E.kX b o (19*1024) [] bV rfl
   have SK:look l (19*1024)=none:=by
    cases h:look l (19*1024) with
    | none=>rfl
    | some id=>
     have:=Gv (19*1024) id h
     rw [show 19*1024 / 1024=19 from rfl] at this; omega
   show (fW g g1 site l V).lab b o=_
   have ki:¬ 19*1024 / 1024=site:=fun e=>by
    rw [show 19*1024 / 1024=19 from rfl] at e; omega
   simp only [fW,fU,hg,ki,if_false,SK]
  | false=>
   have bV:(gn sr g SH l).lab b o=none:=by rw [A1 hg hw,qA]
   have fU:g1.lab b o=none:=by
    cases h:g1.lab b o with
    | none=>rfl
    | some q=>exact absurd bV (E.bP b o q hb h)
   show (fW g g1 site l V).lab b o=_
   simp only [fW,fU,hg,hw]
 have SL:∀ b o id p,g1.lab b o=some (id,p)→id / 1024=site→g'.lab b o=some (id,p):=by
  intro b o id p h1 h2
  show (fW g g1 site l V).lab b o=_
  simp only [fW,h1,h2,if_true]
 have SM:∀ i id b o p,look l i=some id→g1.lab b o=some (i,p)→g'.lab b o=some (id,p):=by
  intro i id b o p h1 h2
  have:=Gv i id h1
  show (fW g g1 site l V).lab b o=_
  simp only [fW,h2]
  rw [if_neg (by omega),h1]
 have hU:∀ s,U' eZ site s→U' U site s:=by
  rintro s (h | h)
  ·exact .inl (S.ky s h)
  ·exact .inr h
 have SN:∀ id ver p,id / 1024=site→g'.hd id ver p=g1.hd id ver p:=by
  intro id ver p h
  show (fW g g1 site l V).hd id ver p=_
  simp [fW,h]
 have Ld:∀ id ver p,U (id / 1024)→U ver→g'.hd id ver p=g.hd id ver p:=by
  intro id ver p h1 h2
  show (fW g g1 site l V).hd id ver p=_
  simp only [fW]
  rw [if_neg (fun e:id / 1024=site=>hs (e▸h1)),if_neg (fun e:ver=site=>hs (e▸h2))]
 have SO:m.rs.any rD=true→∀ b o,g1.lab b o=none→g'.lab b o=none:=by
  intro qA b o h1
  cases hg:g.lab b o with
  | none=>
   show (fW g g1 site l V).lab b o=_
   simp only [fW,h1,hg]
  | some q=>
   obtain ⟨id,p⟩:=q
   cases hw:look (swp l) id with
   | some i=>
    show (fW g g1 site l V).lab b o=_
    simp only [fW,h1,hg,hw]
   | none=>
    have bV:(gn sr g SH l).lab b o=some (19*1024,[]):=by rw [A1 hg hw,show SH=true from qA]
    rw [E.kX b o (19*1024) [] bV rfl] at h1
    simp at h1
 obtain ⟨Le,SP⟩:=K5 (g:=g1) (g1:=g) (g':=fW g g1 site l V) (U:=U) (U':=U' U site) (w:=w') (st:=sr) (site:=site) (l:=l) (V:=V) (.inl S.u0) (.inr rfl) (fun s h=>.inl h)
  (fun i id h=>by
   have hu:U (id / 1024):=by
    obtain ⟨p,hp,e⟩:∃ p∈l,p=(i,id):=⟨_,iN h,rfl⟩
    subst e
    obtain ⟨aq,jJ⟩:=A4 m.ps 0 x vs mg hx _ hp
    exact (S.aE id _ jJ).1
   rw [show (fW g g1 site l V).hd id 0 []=_ from Ld id 0 [] hu S.u0,E.par i (by have:=Gv i id h; omega),Ge h]
   rfl)
  (fun i id q h=>by
   have hu:U (id / 1024):=by
    obtain ⟨aq,jJ⟩:=A4 m.ps 0 x vs mg hx _ (iN h)
    exact (S.aE id _ jJ).1
   have av:¬ id / 1024=site:=fun e=>hs (e▸hu)
   have h2:look (swp l) id=some i:=Lb i id h
   simp only [fW,av,if_false,if_true,h2])
  (fun i id b o p h1 h2=>SM i id b o p h1 h2)
  m.ps 0 0 x vs _ os mg La hx ho jM hV
 have rU:=fun bd=>K_ (g:=g1) (g':=g') (w:=w') (U:=U' eZ site) (U':=U' U site) (site:=site) (.inl S.u0) (.inr rfl) hU SN (fun b o id p h1 h2=>SL b o id p h1 h2)
  m.rs 0 (PK.outs m.ps) y bd AZ K9 si rfl (by omega) SO
 have hT:∀ id,(look ((eJ site 0 m.rs (PK.outs m.ps) y).2.1++os) id).isSome=true→id / 1024=site∨∃ i,look l i=some id:=by
  intro id h
  rw [fV] at h
  cases hq:look (eJ site 0 m.rs (PK.outs m.ps) y).2.1 id with
  | some oo=>exact .inl ((rU []).2 id oo hq).1
  | none=>
   rw [hq] at h
   cases ix:look os id with
   | none=>rw [ix] at h; simp at h
   | some oo=>
    obtain ⟨-,⟨i,hi⟩,-⟩:=Le id oo ix
    exact .inr ⟨i,jM _ hi⟩
 have AF:∀ i id,look l i=some id→(look ((eJ site 0 m.rs (PK.outs m.ps) y).2.1++os) id).isSome=true:=by
  intro i id h
  rw [fV]
  cases hq:look (eJ site 0 m.rs (PK.outs m.ps) y).2.1 id with
  | some oo=>rfl
  | none=>exact (SP _ (iN h)).1
 refine ⟨g',⟨⟨fun s h=>.inl h,Ld,fun b o hl v hv=>?_,fun b o id p hl qh=>?_⟩,?_,fun id ob h=>?_,fun s h=>h,fun b o q h=>?_,fun b o q hb h=>?_,?_,fun id h=>?_⟩⟩
 ·obtain ⟨h1,h2⟩:=E.shr b o (yR b o hl) v hv
  refine ⟨h1,?_⟩
  show (fW g g1 site l V).lab b o=_
  simp only [fW,h2,hl]
 ·have hw:look (swp l) id=none:=by
   cases h:look (swp l) id with
   | none=>rfl
   | some i=>exact absurd (AF i id (DH i id h)) qh
  have hb:=S.bB b o _ hl
  refine ⟨SJ b o id p hl hw hb,Fr.cell E.fr hb (fun hm=>?_)⟩
  obtain ⟨aq,p',i,h1,h2⟩:=A5 b o hm
  rw [hl] at h1
  simp only [Option.some.injEq,Prod.mk.injEq] at h1
  obtain ⟨rfl,rfl⟩:=h1
  rw [hw] at h2; simp at h2
 ·have hv:=E.val
  revert hv
  have so:=fun bd=>(rU bd).1
  revert so
  generalize (eJ site 0 m.rs (PK.outs m.ps) y).1=rl
  intro so hv
  match rl,so,hv with
  | [],so,hv=>
   obtain ⟨bd,e,h⟩:=hv
   exact ⟨bd,e,so bd h⟩
  | [a1],so,hv=>
   obtain ⟨x',r',e,h1,-⟩:=so [v] ⟨v,[],rfl,hv,rfl⟩
   simp only [List.cons.injEq] at e
   rw [e.1]; exact h1
  | a1::a2::rl,so,hv=>
   obtain ⟨bd,e,h⟩:=hv
   exact ⟨bd,e,so bd h⟩
 ·replace h:look ((eJ site 0 m.rs (PK.outs m.ps) y).2.1++os) id=some (some ob):=h
  rw [fV] at h
  cases hq:look (eJ site 0 m.rs (PK.outs m.ps) y).2.1 id with
  | some oo=>
   rw [hq] at h
   simp only [Option.some.injEq] at h
   subst h
   obtain ⟨h1,qu,h2,h3⟩:=(rU []).2 id _ hq
   simp only [Option.some.injEq] at h2
   subst h2
   exact ⟨by rw [h1]; exact .inr rfl,h3 (E.aE id ob hq).2⟩
  | none=>
   rw [hq] at h
   obtain ⟨-,-,qu,h2,h3⟩:=Le id _ h
   simp only [Option.some.injEq] at h2
   subst h2
   exact h3 w S.aE
 ·cases h1:g1.lab b o with
  | some q'=>exact E.bB b o q' h1
  | none=>
   cases hg:g.lab b o with
   | some q'=>exact Nat.lt_of_lt_of_le (S.bB b o q' hg) E.fr.size
   | none=>
    have:g'.lab b o=none:=by
     show (fW g g1 site l V).lab b o=_
     simp only [fW,h1,hg]
    rw [this] at h; simp at h
 ·intro hg
  have bV:=yR b o hg
  have h1:g1.lab b o=none:=by
   cases h1:g1.lab b o with
   | none=>rfl
   | some q'=>exact absurd bV (E.bP b o q' hb h1)
  have:g'.lab b o=none:=by
   show (fW g g1 site l V).lab b o=_
   simp only [fW,h1,hg]
  rw [this] at h; simp at h
 ·refine E.fr.mono (fun b o hb hm=>?_)
  obtain ⟨id,p,i,h1,h2⟩:=A5 b o hm
  obtain ⟨aq,jJ⟩:=A4 m.ps 0 x vs mg hx _ (iN (DH i id h2))
  exact ⟨id,p,h1,S.nf id (by rw [jJ]; simp)⟩
 ·rcases hT id h with h | ⟨i,h⟩
  ·omega
  ·obtain ⟨aq,jJ⟩:=A4 m.ps 0 x vs mg hx _ (iN h)
   exact S.nf id (by rw [jJ]; simp)
theorem SQ {f:Operand} {args:Array Operand} {ts:Array TypeId} (aw:o.op = .call ⟨.value f,args,ts⟩) {gp:Nat} {pk:List Value} (rX:a.eval f = .func (.func gp) #[] pk.toArray) (hg:cG P gp) :
  (execOp a.eval o).run P w = .ok (.enter gp (args.toList.map a.eval++pk).toArray) w:=by
 obtain ⟨fn,sq,A6,um⟩:=hg
 unfold execOp
 rw [aw]
 simp only [resolve,rX,Deferred.ofValue,invoke,callFunc]
 have A7:¬ fn.name = "runtime.NumGoroutine" :=by simpa using A6
 have A8:¬ fn.body=none:=by intro hh; rw [hh] at um; simp at um
 simp [sq,A7,A8]
theorem SR {gp:Nat} (hP:DE P gp∧cG P gp) (S:cB P c g w U sr a) (hs:¬ U site) {f:Operand} {args:Array Operand} {ts:Array TypeId} (aw:o.op = .call ⟨.value f,args,ts⟩) {caps:List af} (hf:sr.ev f = .fn gp caps)
  (e:xV sr site (args.toList.map sr.ev++caps) k=some r):∃ aT,k aT=some r∧kB P g w U site o a aT:=by
 have uq:=S.ev f
 rw [hf] at uq
 obtain ⟨pk,rX,eK⟩:=uq
 have mb:bK g w U (args.toList.map sr.ev++caps) (args.toList.map a.eval++pk):=by
  refine DG ?_ eK
  have:∀ l:List Operand,bK g w U (l.map sr.ev) (l.map a.eval):=by
   intro l
   induction l with
   | nil=>rfl
   | cons x l ih=>exact ⟨_,_,rfl,S.ev x,ih⟩
  exact this _
 generalize hA:args.toList.map sr.ev++caps=A at e mb
 have hex:=SQ (w:=w) aw rX hP.2
 generalize args.toList.map a.eval++pk=V at mb hex
 unfold xV at e
 split at e
 ·rename_i id
  split at e
  ·rename_i ro op rest aY
   obtain ⟨h0,b,o',cJ,iJ⟩:=(S.aE id _ aY).2
   obtain ⟨x,rr,rfl,hx,SS⟩:=mb
   obtain rfl:rr=[]:=SS
   obtain ⟨hu,SU,b1,o1,Gw,rfl⟩:=hx
   rw [cJ] at Gw
   simp only [Option.some.injEq,Prod.mk.injEq] at Gw
   obtain ⟨rfl,rfl⟩:=Gw
   have hc:w.cell? (ad b o')=some (.int .i64 op):=by
    obtain ⟨_,_,v,hv,hr⟩:=iJ 0 (by simp)
    obtain rfl:v = .int .i64 op:=hr
    simpa using hv
   have p:∀ j,ay g w U (.aJ id j) (.pointer (some (ad b (o'+j)))):=fun j=>⟨hu,SU,b,o',by rw [cJ],rfl⟩
   split at e
   ·rename_i hk
    refine ⟨_,e,fun next Q hn=>?_⟩
    unfold Oper.wp
    rw [hex,Oper.upon_enter]
    refine Calls.mono (hP.1.a w b o' op hc hk) (fun en w' h=>?_)
    obtain ⟨rfl,t,B⟩:=h
    obtain ⟨g',U',hp⟩:=yt S hs B (cs:=[.aJ id 1,.aJ id 2]) ⟨_,_,rfl,p 1,_,_,rfl,p 2,rfl⟩ (x:=.dW (site*1024) 0 2 1) (v:=.slice (some (ad w.heap.size 0)) 2 2)
     (fun g' hg=>⟨.inr (iw site),.inl S.u0,_,2,rfl,Nat.le_refl _,by rw [hg]; rfl,w.heap.size,0,by rw [hg],fun _=>rfl⟩)
    exact hn _ _ _ _ hp
   ·rename_i rW
    split at e
    ·rename_i hk
     refine ⟨_,e,fun next Q hn=>?_⟩
     unfold Oper.wp
     rw [hex,Oper.upon_enter]
     refine Calls.mono (hP.1.b w b o' op hc hk) (fun en w' h=>?_)
     obtain ⟨rfl,t,B⟩:=h
     obtain ⟨g',U',hp⟩:=yt S hs B (cs:=[.aJ id 1,.aJ id 2,.aJ id 3]) ⟨_,_,rfl,p 1,_,_,rfl,p 2,_,_,rfl,p 3,rfl⟩ (x:=.dW (site*1024) 0 3 1) (v:=.slice (some (ad w.heap.size 0)) 3 3)
      (fun g' hg=>⟨.inr (iw site),.inl S.u0,_,3,rfl,Nat.le_refl _,by rw [hg]; rfl,w.heap.size,0,by rw [hg],fun _=>rfl⟩)
     exact hn _ _ _ _ hp
    ·rename_i rY
     split at e
     ·rename_i hk
      refine ⟨_,e,fun next Q hn=>?_⟩
      unfold Oper.wp
      rw [hex,Oper.upon_enter]
      refine Calls.mono (hP.1.c w b o' op hc hk) (fun en w' h=>?_)
      obtain ⟨rfl,t,B⟩:=h
      obtain ⟨g',U',hp⟩:=yt S hs B (cs:=[.aJ id 2]) ⟨_,_,rfl,p 2,rfl⟩ (x:=.dW (site*1024) 0 1 1) (v:=.slice (some (ad w.heap.size 0)) 1 1)
       (fun g' hg=>⟨.inr (iw site),.inl S.u0,_,1,rfl,Nat.le_refl _,by rw [hg]; rfl,w.heap.size,0,by rw [hg],fun _=>rfl⟩)
      exact hn _ _ _ _ hp
     ·rename_i SV
      refine ⟨_,e,fun next Q hn=>?_⟩
      unfold Oper.wp
      rw [hex,Oper.upon_enter]
      refine Calls.mono (hP.1.n w b o' op hc rW rY SV) (fun en w' h=>?_)
      obtain ⟨rfl,rfl⟩:=h
      exact hn _ _ _ _ (cR.same S.bB rfl)
  ·simp at e
 ·simp at e
theorem SW (hC:A3 P c) (S:cB P c g w U sr a) (hs:¬ U site) {f:Operand} {args:Array Operand} {ts:Array TypeId} (aw:o.op = .call ⟨.value f,args,ts⟩) {gp:Nat} {caps:List af} (hf:sr.ev f = .fn gp caps)
  (e:xW c sr site gp (args.toList.map sr.ev++caps) k=some r):∃ aT,k aT=some r∧kB P g w U site o a aT:=by
 have uq:=S.ev f
 rw [hf] at uq
 obtain ⟨pk,rX,eK⟩:=uq
 unfold xW at e
 split at e
 ·split at e
  ·rename_i hq
   exact SR (hC.2 gp hq) S hs aw hf e
  ·simp at e
 ·rename_i m x Fo
  obtain ⟨l7,hx⟩:=Gs _ _ _ Fo
  split at e
  ·simp at e
  ·rename_i hq
   simp only [Bool.and_eq_true] at hq
   obtain ⟨⟨dw,bb⟩,ao⟩:=hq
   have dw:=tS.1 dw
   obtain ⟨y,hy,e⟩:=Option.bind_eq_some_iff.1 e
   simp only at e
   split at e
   ·rename_i os SX
    refine ⟨_,e,fun next Q hn=>?_⟩
    have Lf:=hC.1 _ m l7
    rw [PH ao] at Lf
    obtain ⟨hS,fn,sq,A6,um⟩:=Lf
    have qz:20≤site:=by
     rcases Nat.lt_or_ge site 20 with h | h
     ·exact absurd (S.ky site h) hs
     ·exact h
    have wR:=bb
    unfold tN at wR
    simp only [Bool.and_eq_true] at wR
    obtain ⟨⟨⟨⟨⟨⟨⟨⟨mg,AZ⟩,ui⟩,sg⟩,si⟩,KP⟩,K9⟩,La⟩,qw⟩:=wR
    have sg:=Nat.le_of_ble_eq_true sg
    have mb:bK g w U (args.toList.map sr.ev++caps) (args.toList.map a.eval++pk):=by
     refine DG ?_ eK
     have:∀ l:List Operand,bK g w U (l.map sr.ev) (l.map a.eval):=by
      intro l
      induction l with
      | nil=>rfl
      | cons x l ih=>exact ⟨_,_,rfl,S.ev x,ih⟩
     exact this _
    let vs:=args.toList.map sr.ev++caps
    have Lg:=dw
    rw [Dw m.ps vs 0 mg] at Lg
    obtain ⟨Gu,Lb,DH⟩:=K8 (Gc m.ps x vs 0 qw hx) Lg
    have hD:∀ id,(tM sr m.rs (kW sr m.ps vs)).obj id≠none→∀ b o p,g.lab b o=some (id,p)→(gn sr g (m.rs.any rD) (de 0 m.ps vs)).lab b o=none:=by
     intro id hid b o p hl
     cases aY:(tM sr m.rs (kW sr m.ps vs)).obj id with
     | none=>exact absurd aY hid
     | some ob=>
      obtain ⟨h1,h2,h3⟩:=K7 aY
      rw [A1 hl,h1]
      cases hw:look (swp (de 0 m.ps vs)) id with
      | none=>rfl
      | some i=>
       refine absurd ?_ h2
       rw [Dw m.ps vs 0 mg]
       exact List.mem_map.2 ⟨_,iN (DH i id hw),rfl⟩
    have hOr:dR g w U (tM sr m.rs (kW sr m.ps vs)):=by
     intro id ob aY
     exact S.aE id ob (K7 aY).2.2
    obtain ⟨SY,SZ⟩:=KX (SH:=m.rs.any rD) (l:=de 0 m.ps vs) S.aE hOr (fun b o h=>Dy h) hD m.ps 0 x vs _ mg qw (by omega) hx mb Gu
    have S_:=hS x y hy bb site qz _ w _ ⟨SY,SZ,fun b o q h=>?_⟩ (S.gl.mono (Fr.refl _ _) (fun b o _ h=>Dy h))
    ·have hex:(execOp a.eval o).run P w = .ok (.enter gp (args.toList.map a.eval++pk).toArray) w:=by
      unfold execOp
      rw [aw]
      simp only [resolve,rX,Deferred.ofValue,invoke,callFunc]
      have A7:¬ fn.name = "runtime.NumGoroutine" :=by simpa using A6
      have A8:¬ fn.body=none:=by intro hh; rw [hh] at um; simp at um
      simp [sq,A7,A8]
     unfold Oper.wp
     rw [hex,Oper.upon_enter]
     refine Calls.mono S_ (fun en w' h=>?_)
     obtain ⟨v,g1,rfl,E⟩:=h
     obtain ⟨g',hp⟩:=SI S hs bb dw hx SX E
     exact hn _ _ _ _ hp
    ·cases hg:g.lab b o with
     | none=>rw [Dy hg] at h; simp at h
     | some q'=>exact S.bB b o q' hg
   ·simp at e
end
end Go.Am
namespace Go.Am
open Go
def A9 (l:List Value):Act:={ tmps:=l.toArray,defers:=[] }
theorem DI (l:List Value) (t:Nat):(A9 l).eval (.tmp t)=l.getD t undef:=by
 simp [A9,Act.eval,Array.getD_eq_getD_getElem?]
theorem Ba:∀ (l:List af) (n t:Nat),look (number n l) t=if n≤t then l[t-n]? else none
 | [],n,t=>by simp [number,look]
 | v::l,n,t=>by
  simp only [number]
  rw [cT,Ba l]
  by_cases h:n=t
  ·subst h; simp
  ·rw [if_neg h]
   by_cases h2:n≤t
   ·rw [if_pos (by omega),if_pos h2]
    have:t-n=(t-(n+1))+1:=by omega
    rw [this,List.getElem?_cons_succ]
   ·rw [if_neg (by omega),if_neg h2]
structure DJ (g:Gh) (w:World) (lb:LA) (y:lb.LT) (bd:List Value) (gf:Gh) (Uf:Nat→Prop) (stf:St) (w':World):Prop where
 aE:dR gf w' Uf stf
 env:∀ t v,look stf.env t=some v→ay gf w' Uf v ((A9 bd).eval (.tmp t))
 len:bd.length=lb.bO.length
 rd:lb.EP stf=some y
 par:∀ n,n / 1024<15→gf.hd n 0 []=g.hd n 0 []
 shr:∀ b o,g.lab b o=none→∀ v,w.cell? (ad b o)=some v→w'.cell? (ad b o)=some v∧gf.lab b o=none
 kX:∀ b o id p,g.lab b o=some (id,p)→id / 1024=19→gf.lab b o=some (id,p)
 bB:∀ b o q,gf.lab b o=some q→b<w'.heap.size
 bP:∀ b o q,b<w.heap.size→gf.lab b o=some q→g.lab b o≠none
 fr:Fr (qf g) w w'
 nf:∀ id,stf.obj id≠none→id / 1024≠19
def qB (P:Program) (f:FuncId) (M:bS):Prop:=
 ∀ (x:M.la.rB Mp) (y:M.lb.LT),M.m x=some y→∀ (g:Gh) (w:World) (args:List Value),args.length=M.la.bO.length→
  (∀ t v,look (M.la.xM x).env t=some v→∃ xv,args[t]? = some xv∧ay g w eZ v xv)→
  (∀ id o,(M.la.xM x).obj id=some o→id / 1024<15∧dQ g w eZ id o)→
  (∀ b o q,g.lab b o=some q→b<w.heap.size)→Gl P g.lab w→
  Calls P f args.toArray w fun e w'=>∃ bd gf Uf stf,e = .returned (ph bd)∧DJ g w M.lb y bd gf Uf stf w'
theorem Gx {P:Program} {c:aP} {n:Nat} {f:FuncId} {fn:Func} {an:fJ} {M:bS} (HR:wN P c) (hc:eu P c) (hf:P.funcs[f]? = some fn)
  (hm:∀ x,M.m x=bS.run c n fn an M.la M.lb x):qB P f M:=by
 intro x y hy g w args _ nV yL F9 hG
 rw [hm] at hy
 unfold bS.run at hy
 split at hy
 ·rename_i code hb
  split at hy
  ·simp at hy
  ·rename_i hd
   have hd:fi fn.ntmps code=true:=by simpa using hd
   refine calls_of_wp hf hb ?_
   let a0:Act:={ tmps:=args.toArray++Array.replicate (fn.ntmps-args.toArray.size) undef,defers:=[] }
   have hN:fn.ntmps≤a0.tmps.size:=by simp [a0]; omega
   have R0:Rel w g.lab a0.tmps.size g eZ (M.la.xM x) a0 w:=by
    refine ⟨fun t v h=>?_,fun id o h=>?_,fun s h=>h,F9,fun b o id p hb hl=>?_,fun b o id p hf gK=>hf,.refl _ _,rfl,rfl,by show (0:Nat)<20; omega,fun s hs=>hs,fun id h=>?_⟩
    ·obtain ⟨v',h5,h6⟩:=nV t v h
     have:a0.eval (.tmp t)=v':=by
      have ao:t<args.length:=(List.getElem?_eq_some_iff.1 h5).1
      have h7:args[t]=v':=(List.getElem?_eq_some_iff.1 h5).2
      simp only [Act.eval,a0]
      simp [Array.getD_eq_getD_getElem?,Array.getElem?_append,ao,h7]
     rw [this]; exact h6
    ·obtain ⟨h1,h2⟩:=yL id o h
     exact ⟨by show id / 1024<20; omega,h2⟩
    ·by_cases gK:id / 1024=19
     ·exact .inl ⟨gK,hl⟩
     ·exact .inr ⟨id,p,hl,gK⟩
    ·cases ho:(M.la.xM x).obj id with
     | none=>exact absurd ho h
     | some o=>
      have:=(yL id o ho).1
      omega
   have AP:fi a0.tmps.size code=true:=sf hN code hd
   refine lq HR hG code an _ y (M.la.xM x) _ (bodyPost P fn fun e w'=>∃ bd gf Uf stf,e = .returned (ph bd)∧DJ g w M.lb y bd gf Uf stf w') a0 w g eZ AP R0 hy (fun ex st' a' w' g1 U1 R1 E1 e1=>?_)
   have main:(match rJ st' (fun t=>((c.ti t).agg,(c.ti t).size)) fn.results.toList with
     | some vs=>(match Nat.beq vs.length M.lb.bO.length with
      | true=>M.lb.EP { env:=number 0 vs,heap:=st'.heap,nxt:=st'.nxt }
      | false=>none)
     | none=>none)=some y→a'.defers=[]∧∃ v,(results fn a'.tmps).run P w' = .ok v w'∧∃ bd gf Uf stf,Ending.returned v = .returned (ph bd)∧DJ g w M.lb y bd gf Uf stf w':=by
    intro e1
    split at e1
    ·rename_i vs dD
     split at e1
     ·rename_i hlen
      have hlen:=Nat.eq_of_beq_eq_true hlen
      obtain ⟨bd,kb,uf⟩:=Dq hc R1.heap R1.env _ _ dD
      have hvl:=ka uf
      refine ⟨R1.defers,ph bd,KN kb,bd,g1,U1,{ env:=number 0 vs,heap:=st'.heap,nxt:=st'.nxt },rfl,fun id o h=>R1.heap id o h,fun t v h=>?_,by omega,e1,fun i hi=>?_,fun b o hl v hv=>?_,fun b o id p hl gK=>R1.kX b o id p hl gK,R1.bB,fun b o q hb h=>?_,R1.fr,fun id h=>R1.nf id h⟩
      ·replace h:look (number 0 vs) t=some v:=h
       rw [Ba,if_pos (Nat.zero_le _),Nat.sub_zero] at h
       obtain ⟨h3,h4⟩:=List.getElem?_eq_some_iff.1 h
       obtain ⟨x',h5,h6⟩:=jF uf t h3
       rw [DI]
       have:bd.getD t undef=x':=by
        rw [List.getD_eq_getElem?_getD,h5]; rfl
       rw [this,← h4]; exact h6
      ·exact E1.par i (by omega) (by show i / 1024<20; omega)
      ·have hb:=wD hv
       have hm:¬ Af g.lab b o:=fun ⟨id,p,e,_⟩=>by rw [hl] at e; simp at e
       have hc:=Fr.cell R1.fr hb hm
       refine ⟨by rw [hc.1]; exact hv,?_⟩
       cases jM:g1.lab b o with
       | none=>rfl
       | some q=>
        obtain ⟨id,p⟩:=q
        rcases R1.bP b o id p hb jM with h | h
        ·rw [hl] at h; simp at h
        ·exact absurd h hm
      ·obtain ⟨id,p⟩:=q
       intro hn
       rcases R1.bP b o id p hb h with h | ⟨i',p',h,-⟩
       ·rw [hn] at h; simp at h
       ·rw [hn] at h; simp at h
     ·simp at e1
    ·simp at e1
   cases ex with
   | normal=>exact main e1
   | ret=>exact main e1
   | exit j=>simp at e1
 ·simp at hy
end Go.Am
namespace Go.Am
noncomputable section
open Go
def jo (g:Gh) (SH:Bool) (hs:List Nat):Gh where
 hd:=g.hd
 lab b o:=match g.lab b o with
  | none=>none
  | some (id,p)=>match SH||hs.any (Nat.beq id) with | true=>some (id,p) | false=>none
section
variable {P:Program} {c:aP} {g g1 g' gf:Gh} {w w':World} {U:Nat→Prop} {sr st stf:St} {a:Act} {site:Nat} {o:Oper} {ρ:Type} {r:ρ} {k:bR→Option ρ} {SH:Bool} {hs:List Nat}
theorem Bb {b o:Nat} (h:g.lab b o=none):(jo g SH hs).lab b o=none:=by simp [jo,h]
theorem S0 {b o id:Nat} {p:Path} (hi:id∈hs) (h:g.lab b o=some (id,p)):(jo g SH hs).lab b o=some (id,p):=by
 have:hs.any (Nat.beq id)=true:=any_beq.2 hi
 simp [jo,h,this]
theorem S3 {b o id:Nat} {p:Path} (hS:SH=false) (hi:id∉hs) (h:g.lab b o=some (id,p)):(jo g SH hs).lab b o=none:=by
 have:hs.any (Nat.beq id)=false:=by
  rw [← Bool.not_eq_true]; exact fun h=>hi (any_beq.1 h)
 simp only [jo,h,hS,this,Bool.or_self]
theorem Gy {b o:Nat} {q:Nat×Path} (h:(jo g SH hs).lab b o=some q):g.lab b o=some q:=by
 simp only [jo] at h
 split at h
 ·simp at h
 ·rename_i id p e
  split at h
  ·rw [e]; exact h
  ·simp at h
theorem S4 {b o:Nat} (hS:SH=true):(jo g SH hs).lab b o=g.lab b o:=by
 subst hS
 simp only [jo,Bool.true_or]
 cases g.lab b o<;>rfl
theorem S5 {v:af} {x:Value} (h:ay g w U v x):ay (jo g SH hs) w U v x:=
 du.qe (T:=fun _=>True) (g:=g) (w:=w) (U:=U) (g':=jo g SH hs) (w':=w) (U':=U) ⟨fun _ h=>h,fun _ _ _ _ _=>rfl,fun b o hl v hv=>⟨hv,Bb hl⟩,fun _ _ _ _ _ hn=>absurd trivial hn⟩ v x h
theorem S6 {id:Nat} {ob:cK} (hi:id∈hs) (hu:U (id / 1024)) (h:dQ g w U id ob):dQ (jo g SH hs) w U id ob:=
 CE (T:=fun i=>i∉hs) (g:=g) (w:=w) (U:=U) (g':=jo g SH hs) (w':=w) (U':=U) ⟨fun _ h=>h,fun _ _ _ _ _=>rfl,fun b o hl v hv=>⟨hv,Bb hl⟩,fun b o id p hl hn=>⟨S0 (Classical.not_not.1 hn) hl,rfl,rfl⟩⟩ (fun h=>h hi) hu ob h
mutual
theorem S7 (hO:dR g w U sr) (hL:∀ b o,g.lab b o=none→g1.lab b o=none) (hD:∀ id,sr.obj id≠none→∀ b o p,g.lab b o=some (id,p)→g1.lab b o=none)
  (hV:∀ v x,ay g w U v x→ay g1 w U v x):∀ (s:bN) (v:af) (x:Value),ay g w U v x→ay g1 w U (I7 sr s v) x
 | .sh t,v,x,h=>by
  show ay g1 w U (match mQ sr sr (.val (.sl t)) v with | some x=>.sh t x | none=>v) x
  split
  ·rename_i y hy
   exact wP hO hL hD (.val (.sl t)) y v x hy h
  ·exact hV _ _ h
 | .cu t,v,x,h=>by
  show ay g1 w U (match mQ sr sr (.val (.bh t)) v with | some x=>.cu t x | none=>v) x
  split
  ·rename_i y hy
   exact wP hO hL hD (.val (.bh t)) y v x hy h
  ·exact hV _ _ h
 | .eE t 0,v,x,h=>by
  show ay g1 w U (match mQ sr sr (.ee t) v with | some x=>.eE t x 0 | none=>v) x
  split
  ·rename_i y hy
   exact wP hO hL hD (.ee t) y v x hy h
  ·exact hV _ _ h
 | .eE t (j+1),v,x,h=>hV _ _ h
 | .agg l,v,x,h=>by
  cases v with
  | agg vs=>
   obtain ⟨l',rfl,h'⟩:=h
   exact ⟨l',rfl,DK hO hL hD hV l vs l' h'⟩
  | _=>exact hV _ _ h
 | .fn f l,v,x,h=>by
  cases v with
  | fn f' vs=>
   obtain ⟨l',rfl,h'⟩:=h
   exact ⟨l',rfl,DK hO hL hD hV l vs l' h'⟩
  | _=>exact hV _ _ h
 | .int _,v,x,h=>hV _ _ h
 | .bool,v,x,h=>hV _ _ h
 | .str,v,x,h=>hV _ _ h
 | .err,v,x,h=>hV _ _ h
 | .own _ _,v,x,h=>hV _ _ h
 | .dV _ _,v,x,h=>hV _ _ h
 | .aJ _ _,v,x,h=>hV _ _ h
 | .dI _ _ _,v,x,h=>hV _ _ h
 | .tJ _ _ _ _,v,x,h=>hV _ _ h
 | .lQ _,v,x,h=>hV _ _ h
theorem DK (hO:dR g w U sr) (hL:∀ b o,g.lab b o=none→g1.lab b o=none) (hD:∀ id,sr.obj id≠none→∀ b o p,g.lab b o=some (id,p)→g1.lab b o=none)
  (hV:∀ v x,ay g w U v x→ay g1 w U v x):∀ (l:List bN) (vs:List af) (xs:List Value),bK g w U vs xs→bK g1 w U (vZ sr l vs) xs
 | [],vs,xs,h=>by
  have all:∀ (vs:List af) (xs:List Value),bK g w U vs xs→bK g1 w U vs xs:=by
   intro vs
   induction vs with
   | nil=>intro xs h; exact h
   | cons v vs ih=>rintro xs ⟨y,ys,rfl,h1,h2⟩; exact ⟨y,ys,rfl,hV _ _ h1,ih _ h2⟩
  exact all vs xs h
 | s::l,[],xs,h=>h
 | s::l,v::vs,xs,h=>by
  obtain ⟨y,ys,rfl,h1,h2⟩:=h
  exact ⟨y,ys,rfl,S7 hO hL hD hV s v y h1,DK hO hL hD hV l vs ys h2⟩
end
open Classical in
def nh (st:St) (M:Mp) (gL:Gh) (SH:Bool):Gh where
 hd id ver p:=if h:∃ q:Nat×Nat×Nat,look M q.1=some q.2∧id=bE 20 q.1 then
   (if p=[] then cZ gL h.choose.2.1 h.choose.2.2 else if h.choose.2.2=0 then gL.hd h.choose.2.1 (nd st h.choose.2.1) p else c8)
  else c8
 lab b o:=match gL.lab b o with
  | none=>none
  | some (id,p)=>if h:∃ k d,look M k=some (id,d)∧id≠b_ then some (bE 20 h.choose,p) else (match SH with | true=>some (19*1024,[]) | false=>none)
variable {M M' mp:Mp} {gL:Gh}
theorem Gz (hM:∀ k a d,look M k=some (a,d)→k<15) {k a d:Nat} (hk:look M k=some (a,d)) (ver:Nat) (p:Path) :
  (nh st M gL SH).hd (bE 20 k) ver p=if p=[] then cZ gL a d else if d=0 then gL.hd a (nd st a) p else c8:=by
 have hex:∃ q:Nat×Nat×Nat,look M q.1=some q.2∧bE 20 k=bE 20 q.1:=⟨(k,a,d),hk,rfl⟩
 simp only [nh,dif_pos hex]
 have hs:=hex.choose_spec
 have e:hex.choose=(k,a,d):=by
  generalize hex.choose=q at hs
  obtain ⟨k',a',d'⟩:=q
  have e:=Kt (Nat.le_refl 20) (fun _=>by have:=hM _ _ _ hk; omega) (fun _=>by have:=hM _ _ _ hs.1; omega) hs.2
  subst e
  have h1:=hs.1
  simp only [hk,Option.some.injEq] at h1
  rw [h1]
 rw [e]
theorem Bc {b o:Nat} (h:gL.lab b o=none):(nh st M gL SH).lab b o=none:=by simp [nh,h]
theorem S8 (hI:jn M) {k a d b o:Nat} {p:Path} (hk:look M k=some (a,d)) (av:a≠b_) (hl:gL.lab b o=some (a,p)):(nh st M gL SH).lab b o=some (bE 20 k,p):=by
 have hex:∃ k d,look M k=some (a,d)∧a≠b_:=⟨k,d,hk,av⟩
 simp only [nh,hl,dif_pos hex]
 obtain ⟨d',h1,h2⟩:=hex.choose_spec
 rw [hI _ _ _ _ _ h1 hk av]
theorem GA {b o id:Nat} {p:Path} (hl:gL.lab b o=some (id,p)) (kf:¬ ∃ k d,look M k=some (id,d)∧id≠b_) :
  (nh st M gL SH).lab b o=match SH with | true=>some (19*1024,[]) | false=>none:=by
 simp only [nh,hl,dif_neg kf]
theorem Lh {b o:Nat} {q:Nat×Path} (h:(nh st M gL SH).lab b o=some q):∃ q',gL.lab b o=some q':=by
 cases hl:gL.lab b o with
 | none=>rw [Bc hl] at h; simp at h
 | some q'=>exact ⟨q',rfl⟩
open Classical in
def dX (g gf:Gh) (stf:St) (mp M':Mp) (site:Nat) (hide:Bool):Gh where
 hd n ver s:=if h:(n / 1024=site∨ver=site)∧∃ q:Nat×Nat×Nat,look M' q.1=some q.2∧n=cF mp site q.1 then
   (if s=[] then cZ gf h.2.choose.2.1 h.2.choose.2.2 else if h.2.choose.2.2=0 then gf.hd h.2.choose.2.1 (nd stf h.2.choose.2.1) s else c8)
  else g.hd n ver s
 lab b o:=match gf.lab b o with
  | some (a',p)=>if h:∃ k d,look M' k=some (a',d)∧a'≠b_ then some (cF mp site h.choose,p) else (match g.lab b o with | some q=>some q | none=>some (site*1024+1023,[]))
  | none=>match hide with
   | true=>none
   | false=>match g.lab b o with
    | some (id,p)=>if (∃ k d,look mp k=some (id,d)∧id≠b_) then none else some (id,p)
    | none=>none
theorem Li {hide:Bool} (hJ:∀ k1 k2 a1 a2,look M' k1=some a1→look M' k2=some a2→cF mp site k1=cF mp site k2→k1=k2) {k a d ver:Nat} (hk:look M' k=some (a,d)) (hv:cF mp site k / 1024=site∨ver=site) (p:Path) :
  (dX g gf stf mp M' site hide).hd (cF mp site k) ver p=if p=[] then cZ gf a d else if d=0 then gf.hd a (nd stf a) p else c8:=by
 have hex:(cF mp site k / 1024=site∨ver=site)∧∃ q:Nat×Nat×Nat,look M' q.1=some q.2∧cF mp site k=cF mp site q.1:=⟨hv,(k,a,d),hk,rfl⟩
 simp only [dX,dif_pos hex]
 have hs:=hex.2.choose_spec
 have e:hex.2.choose=(k,a,d):=by
  generalize hex.2.choose=q at hs
  obtain ⟨k',a',d'⟩:=q
  have e:=hJ _ _ _ _ hk hs.1 hs.2
  subst e
  have h1:=hs.1
  simp only [hk,Option.some.injEq] at h1
  rw [h1]
 rw [e]
theorem Lj {hide:Bool} {n ver:Nat} (h1:n / 1024≠site) (h2:ver≠site) (p:Path):(dX g gf stf mp M' site hide).hd n ver p=g.hd n ver p:=by
 simp only [dX]
 rw [dif_neg]
 rintro ⟨h | h,-⟩
 ·exact h1 h
 ·exact h2 h
theorem S9 {hide:Bool} (hI:jn M') {k a d b o:Nat} {p:Path} (hk:look M' k=some (a,d)) (av:a≠b_) (hl:gf.lab b o=some (a,p)):(dX g gf stf mp M' site hide).lab b o=some (cF mp site k,p):=by
 have hex:∃ k d,look M' k=some (a,d)∧a≠b_:=⟨k,d,hk,av⟩
 simp only [dX,hl,dif_pos hex]
 obtain ⟨d',h1,h2⟩:=hex.choose_spec
 rw [hI _ _ _ _ _ h1 hk av]
theorem GB {b o:Nat} (hl:gf.lab b o=none):(dX g gf stf mp M' site true).lab b o=none:=by simp [dX,hl]
theorem DL {b o:Nat} (hl:gf.lab b o=none) (hg:g.lab b o=none):(dX g gf stf mp M' site false).lab b o=none:=by simp [dX,hl,hg]
theorem Ta {b o id:Nat} {p:Path} (hl:gf.lab b o=none) (hg:g.lab b o=some (id,p)) (hn:¬ ∃ k d,look mp k=some (id,d)∧id≠b_):(dX g gf stf mp M' site false).lab b o=some (id,p):=by
 simp only [dX,hl,hg,if_neg hn]
theorem Tb {b o id:Nat} {p:Path} (hl:gf.lab b o=none) (hg:g.lab b o=some (id,p)) (hn:∃ k d,look mp k=some (id,d)∧id≠b_):(dX g gf stf mp M' site false).lab b o=none:=by
 simp only [dX,hl,hg,if_pos hn]
theorem Tc {hide:Bool} {b o a':Nat} {p:Path} {q:Nat×Path} (hl:gf.lab b o=some (a',p)) (hn:¬ ∃ k d,look M' k=some (a',d)∧a'≠b_) (hg:g.lab b o=some q):(dX g gf stf mp M' site hide).lab b o=some q:=by
 simp only [dX,hl,dif_neg hn,hg]
mutual
theorem GC {L':bt} {nm:Nat→Nat} {vr:Nat} : ∀ (s:bN) {q:Type} (y:s.LT q) (x:Value),s.gW=false→ay g w U (reflect nm vr s y).1 x→ay ⟨g.hd,L'⟩ w U (reflect nm vr s y).1 x
 | .int _,_,_,_,_,h=>h
 | .bool,_,_,_,_,h=>h
 | .str,_,_,_,_,h=>h
 | .err,_,_,_,_,h=>h
 | .sh _,_,_,_,hs,_=>by simp [bN.gW] at hs
 | .cu _,_,_,_,hs,_=>by simp [bN.gW] at hs
 | .eE _ _,_,_,_,hs,_=>by simp [bN.gW] at hs
 | .own _ _,_,_,_,_,h=>h
 | .dV _ _,_,_,_,_,h=>h
 | .aJ _ _,_,_,_,_,h=>h
 | .dI _ _ _,_,_,_,_,h=>h
 | .tJ _ _ _ _,_,_,_,_,h=>h
 | .agg l,_,y,x,hs,h=>by
  obtain ⟨l',e,h'⟩:=h
  exact ⟨l',e,DM l y l' (by simpa [bN.gW] using hs) h'⟩
 | .fn f l,_,y,x,hs,h=>by
  obtain ⟨l',e,h'⟩:=h
  exact ⟨l',e,DM l y l' (by simpa [bN.gW] using hs) h'⟩
 | .lQ v,_,_,x,hs,h=>by
  have:xJ v v=true:=by simpa [bN.gW] using hs
  exact Kq this h
theorem DM {L':bt} {nm:Nat→Nat} {vr:Nat} : ∀ (l:List bN) {q:Type} (y:bN.tK l q) (xs:List Value),bN.o5 l=false→bK g w U (kU nm vr l y).1 xs→bK ⟨g.hd,L'⟩ w U (kU nm vr l y).1 xs
 | [],_,_,_,_,h=>h
 | s::l,_,y,xs,hs,h=>by
  obtain ⟨x,r,e,h1,h2⟩:=h
  simp only [bN.o5,Bool.or_eq_false_iff] at hs
  exact ⟨x,r,e,GC s y x hs.1 h1,DM l _ r hs.2 h2⟩
end
theorem Td {L':bt} {nm:Nat→Nat} {vr id:Nat} (cn:∀ b o p,g.lab b o=some (id,p)→L' b o=some (id,p)):∀ (s:jk) {q:Type} (y:s.LT q),s.gW=false→
  dQ g w U id (kV nm vr s y).1→dQ ⟨g.hd,L'⟩ w U id (kV nm vr s y).1
 | .row own t,_,y,hs,h=>by
  simp only [jk.gW,Bool.or_eq_false_iff,Bool.not_eq_false'] at hs
  obtain ⟨rfl,hn⟩:=hs
  obtain ⟨h1,h2,h3⟩:=h
  exact ⟨h1,h2,Gg (g:=g) (g':=⟨g.hd,L'⟩) rfl (fun _ _=>rfl) cn hn h3⟩
 | .cells ro l,_,y,hs,h=>by
  obtain ⟨h0,b,o,hh,hc⟩:=h
  have dD:bK g w U (kU nm vr l y).1 ((List.range (kU nm vr l y).1.length).map fun k=>(w.cell? (ad b (o+k))).getD undef):=by
   refine rM (by simp) (fun k hk bL=>?_)
   obtain ⟨-,-,v,h5,h6⟩:=hc k hk
   simp [h5]; exact h6
  have De:=DM (L':=L') l y _ hs dD
  refine ⟨h0,b,o,hh,fun k hk=>?_⟩
  obtain ⟨h1,h2,v,h3,h4⟩:=hc k hk
  refine ⟨cn _ _ _ h1,h2,v,h3,?_⟩
  obtain ⟨x,hx,hr⟩:=jF De k hk
  have rY:k<(kU nm vr l y).1.length:=hk
  simp [rY,h3] at hx
  subst hx
  exact hr
theorem Te {L':bt} {nm:Nat→Nat} {vr:Nat} {ev:Nat→Value} : ∀ (l:List (Nat×bN)) {q:Type} (y:p_ l q),bN.o5 (l.map (·.2))=false→
  (∀ t v,look (cf nm vr l y).1 t=some v→ay g w U v (ev t))→∀ t v,look (cf nm vr l y).1 t=some v→ay ⟨g.hd,L'⟩ w U v (ev t)
 | [],_,y,_,_,t,v,h=>by simp [cf,look] at h
 | (i,s)::l,_,y,hs,hh,t,v,h=>by
  simp only [List.map_cons,bN.o5,Bool.or_eq_false_iff] at hs
  replace h:look ((i,(reflect nm vr s y).1)::(cf nm vr l (reflect nm vr s y).2).1) t=some v:=h
  have Lk:=hh t v h
  rw [cT] at h
  split at h
  ·rename_i hi
   simp only [Option.some.injEq] at h
   subst h
   exact GC s y _ hs.1 Lk
  ·rename_i hi
   have go:∀ (l:List (Nat×bN)) {q:Type} (y:p_ l q),bN.o5 (l.map (·.2))=false→look (cf nm vr l y).1 t=some v→ay g w U v (ev t)→ay ⟨g.hd,L'⟩ w U v (ev t):=by
    intro l
    induction l with
    | nil=>intro q y _ h; simp [cf,look] at h
    | cons p l ih=>
     obtain ⟨i,s⟩:=p
     intro q y hs h hv
     simp only [List.map_cons,bN.o5,Bool.or_eq_false_iff] at hs
     replace h:look ((i,(reflect nm vr s y).1)::(cf nm vr l (reflect nm vr s y).2).1) t=some v:=h
     rw [cT] at h
     split at h
     ·simp only [Option.some.injEq] at h
      subst h
      exact GC s y _ hs.1 hv
     ·exact ih _ hs.2 h hv
   exact go l _ hs.2 h Lk
theorem Ll {L':bt} {nm:Nat→Nat} {vr:Nat} {id:Nat} {ob:cK} (cn:∀ b o p,g.lab b o=some (id,p)→L' b o=some (id,p)):∀ (l:List (Nat×jk)) {q:Type} (y:rz l q),l.any (fun p=>p.2.gW)=false→
  look (dJ nm vr l y).1 id=some (some ob)→dQ g w U id ob→dQ ⟨g.hd,L'⟩ w U id ob
 | [],_,y,_,h,_=>by simp [dJ,look] at h
 | (i,s)::l,_,y,hs,h,hr=>by
  simp only [List.any_cons,Bool.or_eq_false_iff] at hs
  replace h:look ((nm i,some (kV nm vr s y).1)::(dJ nm vr l (kV nm vr s y).2).1) id=some (some ob):=h
  rw [cT] at h
  split at h
  ·simp only [Option.some.injEq] at h
   subst h
   exact Td cn s y hs.1 hr
  ·exact Ll cn l _ hs.2 h hr
theorem Lm {nm:Nat→Nat} {vr:Nat} : ∀ (l:List (Nat×jk)) {q:Type} (y:rz l q) (p:Nat×jk),p∈l→(look (dJ nm vr l y).1 (nm p.1)).isSome=true
 | [],_,y,p,h=>by simp at h
 | (i,s)::l,_,y,p,h=>by
  show (look ((nm i,some (kV nm vr s y).1)::(dJ nm vr l (kV nm vr s y).2).1) (nm p.1)).isSome=true
  rw [cT]
  split
  ·rfl
  ·rename_i hi
   rcases List.mem_cons.1 h with rfl | h
   ·exact absurd rfl hi
   ·exact Lm l _ p h
theorem GD {nm:Nat→Nat} {vr:Nat} : ∀ (l:List (Nat×bN)) (n:Nat) {q:Type} (y:p_ l q),countB n l=true→(cf nm vr l y).1=number n ((cf nm vr l y).1.map (·.2))∧(cf nm vr l y).1.length=l.length
 | [],n,_,y,_=>⟨rfl,rfl⟩
 | (i,s)::l,n,_,y,h=>by
  simp only [countB,Bool.and_eq_true,Nat.beq_eq] at h
  obtain ⟨rfl,h⟩:=h
  obtain ⟨h1,h2⟩:=GD (nm:=nm) (vr:=vr) l (i+1) (reflect nm vr s y).2 h
  refine ⟨?_,by show ((cf nm vr l (reflect nm vr s y).2).1.length+1)=_; rw [h2]; rfl⟩
  show (i,(reflect nm vr s y).1)::(cf nm vr l (reflect nm vr s y).2).1=(i,(reflect nm vr s y).1)::number (i+1) ((cf nm vr l (reflect nm vr s y).2).1.map (·.2))
  rw [← h1]
theorem GF {M:bS} {mp0:Mp} : ∀ (mp:Mp) (id:Nat),id∈mR M mp0 mp↔∃ p∈mp,p.2.1=id∧id≠b_∧(∀ q∈M.lb.aE,q.1≠p.1)∧∃ d,look mp0 p.1=some (id,d)
 | [],id=>by simp [mR]
 | p::mp,id=>by
  have ih:=GF (M:=M) (mp0:=mp0) mp id
  have key:(Nat.beq p.2.1 b_||M.lb.aE.any (fun q=>Nat.beq q.1 p.1)||!(match look mp0 p.1 with | some ad=>Nat.beq ad.1 p.2.1 | none=>false))=false↔(p.2.1≠b_∧(∀ q∈M.lb.aE,q.1≠p.1)∧∃ d,look mp0 p.1=some (p.2.1,d)):=by
   rw [Bool.or_eq_false_iff,Bool.or_eq_false_iff,Bool.not_eq_false',List.any_eq_false]
   constructor
   ·rintro ⟨⟨h1,h2⟩,h3⟩
    refine ⟨fun e=>by rw [e] at h1; simp at h1,fun q hq e=>h2 q hq (by rw [e]; simp),?_⟩
    split at h3
    ·rename_i ad he
     obtain ⟨x,d⟩:=ad
     have:=Nat.eq_of_beq_eq_true h3
     simp only at this
     subst this
     exact ⟨d,he⟩
    ·simp at h3
   ·rintro ⟨h1,h2,d,h3⟩
    refine ⟨⟨?_,fun q hq e=>h2 q hq (Nat.eq_of_beq_eq_true e)⟩,by rw [h3]; simp⟩
    rw [← Bool.not_eq_true]
    exact fun e=>h1 (Nat.eq_of_beq_eq_true e)
  simp only [mR]
  cases hb:(Nat.beq p.2.1 b_||M.lb.aE.any (fun q=>Nat.beq q.1 p.1)||!(match look mp0 p.1 with | some ad=>Nat.beq ad.1 p.2.1 | none=>false)) with
  | true=>
   simp only
   rw [ih]
   constructor
   ·rintro ⟨q,h1,h2⟩; exact ⟨q,List.mem_cons_of_mem _ h1,h2⟩
   ·rintro ⟨q,h1,h2,h3,h4,h5⟩
    rcases List.mem_cons.1 h1 with rfl | h1
    ·exfalso
     have:=key.2 ⟨by rw [h2]; exact h3,h4,by rw [h2]; exact h5⟩
     rw [hb] at this; simp at this
    ·exact ⟨q,h1,h2,h3,h4,h5⟩
  | false=>
   simp only [List.mem_cons,ih]
   constructor
   ·rintro (rfl | ⟨q,h1,h2⟩)
    ·obtain ⟨a1,a2,a3⟩:=key.1 hb
     exact ⟨p,.inl rfl,rfl,a1,a2,a3⟩
    ·exact ⟨q,.inr h1,h2⟩
   ·rintro ⟨q,h1,h2,h3⟩
    rcases h1 with rfl | h1
    ·exact .inl h2.symm
    ·exact .inr ⟨q,h1,h2,h3⟩
end
end
end Go.Am
namespace Go.Am
open Go
def DN (P:Program) (c:aP):Prop:=∀ f M,(f,M)∈c.p7→qB P f M∧cG P f
section
variable {P:Program} {c:aP} {g gf:Gh} {w w':World} {U:Nat→Prop} {sr stf:St} {a:Act} {site:Nat} {o:Oper} {ρ:Type} {r:ρ} {k:bR→Option ρ}
structure Handed (g:Gh) (U:Nat→Prop) (M:bS) (hs:List Nat) (mp:Mp):Prop where
 inj:jn mp
 lt:∀ k a d,look mp k=some (a,d)→k<15
 mem:∀ k a d,look mp k=some (a,d)→a=b_∨(a∈hs∧U (a / 1024)∧a / 1024≠19)
 all:∀ p∈M.la.aE,∃ a d,look mp p.1=some (a,d)
theorem GG {mp:Mp} {k a d:Nat} (h:k<1000) (hk:look mp k=some (a,d)):cF mp site k=a:=by
 have:Nat.blt k 1000=true:=by simpa using h
 simp [cF,this,hk]
theorem Ln {mp:Mp} {k:Nat} (h:¬ k<1000):cF mp site k=site*1024+(k-1000):=by
 have:Nat.blt k 1000=false:=by rw [← Bool.not_eq_true]; intro hh; exact h (by simpa using hh)
 simp [cF,this]
theorem Tf (S:cB P c g w U sr a) (hs:¬ U site) {M:bS} {hl:List Nat} {dm:St} {mp:Mp} (H:Handed g U M hl mp) {vs:List af} (bb:Co M vs mp=true) {y:M.lb.LT} {bd:List Value} {Uf:Nat→Prop}
  (X:DJ (nh dm mp (jo g M.lb.gW hl) M.lb.gW) w M.lb y bd gf Uf stf w') :
  ∃ g',cR g w U site ⟨match (cf (cF mp site) site M.lb.bO y).1.map (·.2) with | [v]=>v | vs=>.fb vs,
   (dJ (cF mp site) site M.lb.aE (cf (cF mp site) site M.lb.bO y).2).1++gone (mR M mp mp)⟩ (ph bd) w' g' (U' U site):=by
 unfold Co at bb
 simp only [Bool.and_eq_true] at bb
 obtain ⟨⟨⟨⟨-,-⟩,ui⟩,sg⟩,si⟩:=bb
 have si:=List.all_eq_true.1 si
 have qz:20≤site:=by
  rcases Nat.lt_or_ge site 20 with h | h
  ·exact absurd (S.ky site h) hs
  ·exact h
 have Lo:∀ p∈M.lb.aE,p.1<1000→∃ aid,look mp p.1=some (aid,0)∧aid≠b_:=by
  intro p hp ao
  have:=si p hp
  rw [show Nat.blt p.1 1000=true by simpa using ao] at this
  simp only at this
  split at this
  ·rename_i ad hk
   obtain ⟨aid,d⟩:=ad
   simp only [Bool.and_eq_true,Bool.not_eq_true',Nat.beq_eq] at this
   obtain ⟨t1,rfl⟩:=this
   exact ⟨aid,hk,fun e=>by subst e; simp at t1⟩
  ·simp at this
 have Lp:∀ p∈M.lb.aE,¬ p.1<1000→p.1<2000:=by
  intro p hp ao
  have:=si p hp
  rw [show Nat.blt p.1 1000=false by rw [← Bool.not_eq_true]; intro hh; exact ao (by simpa using hh)] at this
  simpa [Nat.blt_eq] using this
 obtain ⟨M1,r1,r2,r3,r4⟩:=Df (nm:=cF mp site) (vr:=site) X.aE X.env M.lb.bO [] _ y X.rd
 obtain ⟨M',k1,k2,k3,k4,k5⟩:=AN (nm:=cF mp site) (vr:=site) X.aE M.lb.aE M1 _ _ r3
 have i0:jn []:=fun _ _ _ _ _ h=>by simp [look] at h
 have hI:jn M':=k2 (r2 i0)
 have fit:∀ k a d,look M' k=some (a,d)→(∃ q∈M.lb.aE,q.1=k)∧(k<1000→k<15∧a=k*1024∧d=0):=by
  unfold LA.I4 at k3
  split at k3
  ·rename_i hf
   intro k a d hk
   have:=List.all_eq_true.1 hf _ (iN hk)
   simp only [Bool.and_eq_true] at this
   obtain ⟨t1,t2⟩:=this
   obtain ⟨q,h1,h2⟩:=List.any_eq_true.1 t1
   refine ⟨⟨q,h1,Nat.eq_of_beq_eq_true h2⟩,fun ao=>?_⟩
   rw [show Nat.blt k 1000=true by simpa using ao] at t2
   simp only [Bool.and_eq_true,Nat.beq_eq,Nat.blt_eq] at t2
   exact ⟨t2.1.1,t2.1.2,t2.2⟩
  ·simp at k3
 have yS:∀ k a d,look M' k=some (a,d)→k<1000→∃ aid,look mp k=some (aid,0)∧aid≠b_∧cF mp site k=aid∧U (aid / 1024)∧aid∈hl∧aid / 1024≠19:=by
  intro k a d hk ao
  obtain ⟨⟨q,hq,rfl⟩,-⟩:=fit k a d hk
  obtain ⟨aid,h1,h2⟩:=Lo q hq ao
  obtain ⟨h3,h4,h5⟩:=(H.mem _ _ _ h1).resolve_left h2
  exact ⟨aid,h1,h2,GG ao h1,h4,h3,h5⟩
 have nw:∀ k a d,look M' k=some (a,d)→¬ k<1000→cF mp site k=site*1024+(k-1000)∧cF mp site k / 1024=site∧k<2000:=by
  intro k a d hk ao
  obtain ⟨⟨q,hq,rfl⟩,-⟩:=fit k a d hk
  have:=Lp q hq ao
  have e:=Ln (site:=site) (mp:=mp) ao
  exact ⟨e,by rw [e]; omega,this⟩
 have hJ:∀ k1 k2 a1 a2,look M' k1=some a1→look M' k2=some a2→cF mp site k1=cF mp site k2→k1=k2:=by
  intro k1 k2 a1 a2 h1 h2 e
  obtain ⟨a1,d1⟩:=a1
  obtain ⟨a2,d2⟩:=a2
  by_cases l1:k1<1000<;>by_cases l2:k2<1000
  ·obtain ⟨x1,y1,z1,e1,-⟩:=yS k1 _ _ h1 l1
   obtain ⟨x2,y2,z2,e2,-⟩:=yS k2 _ _ h2 l2
   rw [e1,e2] at e
   subst e
   exact H.inj _ _ _ _ _ y1 y2 z1
  ·obtain ⟨x1,y1,z1,e1,u1,-⟩:=yS k1 _ _ h1 l1
   obtain ⟨e2,e3,-⟩:=nw k2 _ _ h2 l2
   exfalso
   rw [← e,e1] at e3
   exact hs (e3▸u1)
  ·obtain ⟨x2,y2,z2,e2,u2,-⟩:=yS k2 _ _ h2 l2
   obtain ⟨e1,e3,-⟩:=nw k1 _ _ h1 l1
   exfalso
   rw [e,e2] at e3
   exact hs (e3▸u2)
  ·obtain ⟨e1,-,b1⟩:=nw k1 _ _ h1 l1
   obtain ⟨e2,-,b2⟩:=nw k2 _ _ h2 l2
   rw [e1,e2] at e
   omega
 have Lq:∀ k a d,look mp k=some (a,d)→k<15:=H.lt
 let SH:=M.lb.gW
 let gL:=jo g SH hl
 let gI:=nh dm mp gL SH
 have yR:∀ b o,g.lab b o=none→gI.lab b o=none:=fun b o h=>Bc (Bb h)
 have A5:∀ b o,qf gI b o→∃ id p,g.lab b o=some (id,p)∧∃ k d,look mp k=some (id,d)∧id≠b_:=by
  rintro b o ⟨id,p,h1,h2⟩
  obtain ⟨⟨aq,p'⟩,hq⟩:=Lh h1
  refine ⟨aq,p',Gy hq,?_⟩
  by_cases hex:∃ k d,look mp k=some (aq,d)∧aq≠b_
  ·exact hex
  ·exfalso
   have h1:(nh dm mp gL SH).lab b o=some (id,p):=h1
   rw [GA hq hex] at h1
   cases qA:SH with
   | true=>rw [qA] at h1; simp at h1; obtain ⟨rfl,-⟩:=h1; exact h2 rfl
   | false=>rw [qA] at h1; simp at h1
 have other:∀ b o id p,g.lab b o=some (id,p)→(¬ ∃ k d,look mp k=some (id,d)∧id≠b_)→gI.lab b o=none∨gI.lab b o=some (19*1024,[]):=by
  intro b o id p hg hn
  cases hq:gL.lab b o with
  | none=>exact .inl (Bc hq)
  | some q'=>
   have:=Gy hq
   rw [hg] at this
   obtain rfl:=Option.some.inj this
   have e:gI.lab b o=_:=GA hq hn
   rw [e]
   cases SH<;>simp
 let gO:=dX g gf stf mp M' site false
 let gH:=dX g gf stf mp M' site true
 have hU:∀ k a d,look M' k=some (a,d)→U' U site (cF mp site k / 1024):=by
  intro k a d hk
  by_cases ao:k<1000
  ·obtain ⟨x1,y1,z1,e1,u1,-⟩:=yS k _ _ hk ao
   rw [e1]; exact .inl u1
  ·exact .inr (nw k _ _ hk ao).2.1
 have ma:site≠0:=by omega
 have C:Cons stf (cF mp site) site M' gf gH (U' U site):=by
  refine ⟨fun k a d hk=>⟨hU k a d hk,?_⟩,.inl S.u0,.inr rfl,fun b o h=>GB h,fun k a d b o p hk av yO=>S9 hI hk av yO,fun k a d q hk hq=>?_⟩
  ·by_cases ao:k<1000
   ·obtain ⟨x1,y1,z1,e1,u1,m1,-⟩:=yS k _ _ hk ao
    obtain ⟨-,ff⟩:=fit k a d hk
    obtain ⟨f1,rfl,rfl⟩:=ff ao
    have av:k*1024≠b_:=by unfold b_; omega
    rw [e1]
    have:gH.hd x1 0 []=g.hd x1 0 []:=Lj (n:=x1) (ver:=0) (show x1 / 1024≠site from fun e=>hs (e▸u1)) (fun e=>ma e.symm) []
    rw [this]
    have hp:=X.par (k*1024) (by omega)
    have hh:=Gz (st:=dm) (gL:=gL) (SH:=SH) Lq y1 0 []
    rw [if_pos rfl,FQ (by omega)] at hh
    simp only [cZ,av,if_false,if_true]
    rw [hp,hh]
    simp [cZ,z1,gL,jo]
   ·have:=Li (g:=g) (gf:=gf) (stf:=stf) (hide:=true) hJ hk (ver:=0) (.inl (nw k _ _ hk ao).2.1) []
    rw [if_pos rfl] at this
    exact this
  ·have:=Li (g:=g) (gf:=gf) (stf:=stf) (hide:=true) hJ hk (ver:=site) (.inr rfl) q
   rw [if_neg hq] at this
   exact this
 have e1:=r4 gH _ (C.mono k1)
 have e2:=k5 gH _ C
 have CB:∀ b o p id,gH.lab b o=some (id,p)→gO.lab b o=some (id,p):=by
  intro b o p id h
  cases hf:gf.lab b o with
  | none=>
   have:gH.lab b o=none:=GB hf
   rw [this] at h; simp at h
  | some q=>
   have:gO.lab b o=gH.lab b o:=by simp only [gO,gH,dX,hf]
   rw [this]; exact h
 have same:SH=true→gO=gH:=by
  intro hS
  have:gO.lab=gH.lab:=by
   funext b o
   cases hf:gf.lab b o with
   | some q=>simp only [gO,gH,dX,hf]
   | none=>
    have h2:gH.lab b o=none:=GB hf
    rw [h2]
    cases hg:g.lab b o with
    | none=>exact DL hf hg
    | some q=>
     obtain ⟨id,p⟩:=q
     by_cases hex:∃ k d,look mp k=some (id,d)∧id≠b_
     ·exact Tb hf hg hex
     ·exfalso
      have Tg:gL.lab b o=some (id,p):=by
       show (jo g SH hl).lab b o=_
       rw [S4 hS]; exact hg
      have bV:gI.lab b o=some (19*1024,[]):=by
       have e:gI.lab b o=_:=GA Tg hex
       rw [e,hS]
      have:=X.kX b o (19*1024) [] bV rfl
      rw [hf] at this; simp at this
  show Gh.mk gO.hd gO.lab=Gh.mk gH.hd gH.lab
  rw [this]
  rfl
 have v1:∀ t v,look (cf (cF mp site) site M.lb.bO y).1 t=some v→ay gO w' (U' U site) v ((A9 bd).eval (.tmp t)):=by
  cases hS:SH with
  | true=>rw [same hS]; exact e1
  | false=>
   have wS:M.lb.gW=false:=hS
   unfold LA.gW at wS
   rw [Bool.or_eq_false_iff] at wS
   exact Te (g:=gH) (L':=gO.lab) M.lb.bO y wS.1 e1
 have o1:∀ id ob,look (dJ (cF mp site) site M.lb.aE (cf (cF mp site) site M.lb.bO y).2).1 id=some (some ob)→U' U site (id / 1024)∧dQ gO w' (U' U site) id ob:=by
  cases hS:SH with
  | true=>rw [same hS]; exact e2
  | false=>
   have wS:M.lb.gW=false:=hS
   unfold LA.gW at wS
   rw [Bool.or_eq_false_iff] at wS
   intro id ob h
   obtain ⟨x1,x2⟩:=e2 id ob h
   exact ⟨x1,Ll (g:=gH) (L':=gO.lab) (fun b o p hb=>CB b o p id hb) M.lb.aE _ wS.2 h x2⟩
 have hT:∀ id,(look ((dJ (cF mp site) site M.lb.aE (cf (cF mp site) site M.lb.bO y).2).1++gone (mR M mp mp)) id).isSome=true→id / 1024=site∨∃ k d,look mp k=some (id,d)∧id≠b_:=by
  intro id h
  rw [fV] at h
  cases hq:look (dJ (cF mp site) site M.lb.aE (cf (cF mp site) site M.lb.bO y).2).1 id with
  | some oo=>
   obtain ⟨p,hp,rfl,-⟩:=yH _ _ _ _ hq
   by_cases ao:p.1<1000
   ·obtain ⟨aid,h1,h2⟩:=Lo p hp ao
    rw [GG ao h1]
    exact .inr ⟨_,_,h1,h2⟩
   ·rw [Ln ao]
    have:=Lp p hp ao
    exact .inl (by omega)
  | none=>
   rw [hq,jI] at h
   by_cases hm:id∈mR M mp mp
   ·obtain ⟨p,h1,h2,h3,-,d,hd⟩:=(GF mp id).1 hm
    exact .inr ⟨_,_,hd,h3⟩
   ·rw [if_neg hm] at h; simp at h
 have AF:∀ k id d,look mp k=some (id,d)→id≠b_→(look ((dJ (cF mp site) site M.lb.aE (cf (cF mp site) site M.lb.bO y).2).1++gone (mR M mp mp)) id).isSome=true:=by
  intro k id d hk av
  rw [fV]
  cases hq:look (dJ (cF mp site) site M.lb.aE (cf (cF mp site) site M.lb.bO y).2).1 id with
  | some oo=>rfl
  | none=>
   simp only
   have hm:id∈mR M mp mp:=by
    refine (GF mp id).2 ⟨_,iN hk,rfl,av,fun q ix e=>?_,d,hk⟩
    have ao:=Lq k id d hk
    simp only at e
    have:=Lm (nm:=cF mp site) (vr:=site) M.lb.aE (cf (cF mp site) site M.lb.bO y).2 q ix
    rw [e,GG (by omega) hk,hq] at this
    simp at this
   rw [jI,if_pos hm]; rfl
 have fH:∀ b o id p,g.lab b o=some (id,p)→(¬ ∃ k d,look mp k=some (id,d)∧id≠b_)→b<w.heap.size→gO.lab b o=some (id,p):=by
  intro b o id p hg hn hb
  rcases other b o id p hg hn with h | h
  ·have hf:gf.lab b o=none:=by
    cases hf:gf.lab b o with
    | none=>rfl
    | some q=>exact absurd h (X.bP b o q hb hf)
   exact Ta hf hg hn
  ·have hf:=X.kX b o (19*1024) [] h rfl
   refine Tc hf ?_ hg
   rintro ⟨k,d,hk,av⟩
   obtain ⟨⟨q,hq,Th⟩,ff⟩:=fit k _ _ hk
   obtain ⟨aa,dd,h1,h2⟩:=k4 q hq
   rw [Th,hk] at h1
   simp only [Option.some.injEq,Prod.mk.injEq] at h1
   rcases h2 with h2 | h2
   ·rw [← h1.1] at h2; exact av h2
   ·rw [← h1.1] at h2
    exact X.nf _ h2 rfl
 refine ⟨gO,⟨⟨fun s h=>.inl h,fun id ver p h1 h2=>Lj (n:=id) (ver:=ver) (show id / 1024≠site from fun e=>hs (e▸h1)) (show ver≠site from fun e=>hs (e▸h2)) p,fun b o jH v hv=>?_,fun b o id p jH qh=>?_⟩,?_,fun id ob h=>?_,fun s h=>h,fun b o q h=>?_,fun b o q hb h=>?_,?_,fun id h=>?_⟩⟩
 ·obtain ⟨h1,h2⟩:=X.shr b o (yR b o jH) v hv
  exact ⟨h1,DL h2 jH⟩
 ·have hn:¬ ∃ k d,look mp k=some (id,d)∧id≠b_:=by
   rintro ⟨k,d,hk,av⟩
   exact qh (AF k id d hk av)
  have hb:=S.bB b o _ jH
  refine ⟨fH b o id p jH hn hb,Fr.cell X.fr hb (fun hm=>?_)⟩
  obtain ⟨aq,p',h1,hex⟩:=A5 b o hm
  rw [jH] at h1
  simp only [Option.some.injEq,Prod.mk.injEq] at h1
  obtain ⟨rfl,rfl⟩:=h1
  exact hn hex
 ·obtain ⟨s1,s2⟩:=GD (nm:=cF mp site) (vr:=site) M.lb.bO 0 y ui
  have hv:bK gO w' (U' U site) ((cf (cF mp site) site M.lb.bO y).1.map (·.2)) bd:=by
   refine rM (by simp [s2,X.len]) (fun k hk bL=>?_)
   have h1:=v1 k ((cf (cF mp site) site M.lb.bO y).1.map (·.2))[k] (by
    have h0:look (cf (cF mp site) site M.lb.bO y).1 k=look (number 0 ((cf (cF mp site) site M.lb.bO y).1.map (·.2))) k:=congrArg (fun e=>look e k) s1
    rw [h0,Ba,if_pos (Nat.zero_le _),Nat.sub_zero]
    exact List.getElem?_eq_getElem hk)
   rw [DI] at h1
   simpa [bL] using h1
  revert hv
  generalize (cf (cF mp site) site M.lb.bO y).1.map (·.2)=rl
  intro hv
  match rl,bd,hv,ka hv with
  | [],[],hv,_=>exact ⟨[],rfl,hv⟩
  | [a1],[x1],hv,_=>
   obtain ⟨x',r',e,h1,-⟩:=hv
   simp only [List.cons.injEq] at e
   rw [e.1]; exact h1
  | a1::a2::rl,x1::x2::xs,hv,_=>exact ⟨_,rfl,hv⟩
 ·replace h:look ((dJ (cF mp site) site M.lb.aE (cf (cF mp site) site M.lb.bO y).2).1++gone (mR M mp mp)) id=some (some ob):=h
  rw [fV] at h
  cases hq:look (dJ (cF mp site) site M.lb.aE (cf (cF mp site) site M.lb.bO y).2).1 id with
  | some oo=>
   rw [hq] at h
   simp only [Option.some.injEq] at h
   subst h
   exact o1 id ob hq
  | none=>
   rw [hq] at h
   replace h:look (gone (mR M mp mp)) id=some (some ob):=h
   rw [jI] at h
   split at h<;>simp at h
 ·cases hf:gf.lab b o with
  | some q'=>exact X.bB b o q' hf
  | none=>
   cases hg:g.lab b o with
   | some q'=>exact Nat.lt_of_lt_of_le (S.bB b o q' hg) X.fr.size
   | none=>
    have:gO.lab b o=none:=DL hf hg
    rw [this] at h; simp at h
 ·intro hg
  have bV:=yR b o hg
  have hf:gf.lab b o=none:=by
   cases hf:gf.lab b o with
   | none=>rfl
   | some q'=>exact absurd bV (X.bP b o q' hb hf)
  have:gO.lab b o=none:=DL hf hg
  rw [this] at h; simp at h
 ·refine X.fr.mono (fun b o hb hm=>?_)
  obtain ⟨id,p,h1,k,d,hk,av⟩:=A5 b o hm
  exact ⟨id,p,h1,((H.mem k id d hk).resolve_left av).2.2⟩
 ·rcases hT id h with h | ⟨k,d,hk,av⟩
  ·omega
  ·exact ((H.mem k id d hk).resolve_left av).2.2
theorem Lr {st:St} {SH:Bool} {hl:List Nat} {id:Nat} {ob:cK} (h:(xX st SH hl).obj id=some ob):SH=false∧id∉hl∧st.obj id=some ob:=by
 cases SH with
 | true=>exact absurd (show (none:Option cK)=some ob from h) (by simp)
 | false=>
  replace h:({ st with heap:=gone hl++st.heap } : St).obj id=some ob:=h
  unfold St.obj at h
  simp only [fV,jI] at h
  by_cases hm:id∈hl
  ·simp [hm] at h
  ·simp only [hm,if_false] at h
   exact ⟨rfl,hm,h⟩
theorem Ti (S:cB P c g w U sr a) (hs:¬ U site) {f:Operand} {args:Array Operand} {ts:Array TypeId} (aw:o.op = .call ⟨.value f,args,ts⟩) {gp:Nat} {caps:List af} (hf:sr.ev f = .fn gp caps) {M:bS}
  (hM:qB P gp M) (hG:cG P gp) {x:M.la.rB Mp} (hx:ET sr M (args.toList.map sr.ev++caps)=some x) (e:zZ sr site M x k=some r):∃ aT,k aT=some r∧kB P g w U site o a aT:=by
 have uq:=S.ev f
 rw [hf] at uq
 obtain ⟨pk,rX,eK⟩:=uq
 obtain ⟨fn,sq,A6,um⟩:=hG
 unfold ET at hx
 split at hx
 ·rename_i x' Ls
  split at hx
  ·rename_i bb
   obtain rfl:=Option.some.inj hx
   obtain ⟨y,hy,e⟩:=Option.bind_eq_some_iff.1 e
   refine ⟨_,e,fun next Q hn=>?_⟩
   let vs:=args.toList.map sr.ev++caps
   let l:=args.toList.map a.eval++pk
   have mb:bK g w U vs l:=by
    refine DG ?_ eK
    have:∀ l:List Operand,bK g w U (l.map sr.ev) (l.map a.eval):=by
     intro l
     induction l with
     | nil=>rfl
     | cons x l ih=>exact ⟨_,_,rfl,S.ev x,ih⟩
    exact this _
   let SH:=M.lb.gW
   let hl:=handed sr M.la vs
   let gL:=jo g SH hl
   let dm:=I8 sr M vs
   have Tj:bK gL w U (vZ (xX sr SH hl) (M.la.bO.map (·.2)) vs) l:=by
    refine DK (g:=g) (g1:=gL) (sr:=xX sr SH hl) (fun id ob h=>?_) (fun b o h=>Bb h) (fun id hid b o p h=>?_) (fun v x h=>S5 h) _ vs l mb
    ·exact S.aE id ob (Lr h).2.2
    ·cases ho:(xX sr SH hl).obj id with
     | none=>exact absurd ho hid
     | some ob=>
      obtain ⟨h1,h2,-⟩:=Lr ho
      exact S3 h1 h2 h
   have nW:∀ id ob,dm.obj id=some ob→id∈hl∧sr.obj id=some ob:=by
    intro id ob h
    have h0:dm.obj id=if id∈hl then sr.obj id else none:=wM (st:=sr) hl id
    rw [h0] at h
    split at h
    ·rename_i hm; exact ⟨hm,h⟩
    ·simp at h
   have hO:dR gL w U dm:=by
    intro id ob h
    obtain ⟨h1,h2⟩:=nW id ob h
    obtain ⟨u,hr⟩:=S.aE id ob h2
    exact ⟨u,S6 h1 u hr⟩
   have hE:∀ t v,look dm.env t=some v→ay gL w U v ((A9 l).eval (.tmp t)):=by
    intro t v h
    have h:look (number 0 (vZ (xX sr SH hl) (M.la.bO.map (·.2)) vs)) t=some v:=h
    rw [Ba,if_pos (Nat.zero_le _),Nat.sub_zero] at h
    obtain ⟨h3,h4⟩:=List.getElem?_eq_some_iff.1 h
    obtain ⟨x',h5,h6⟩:=jF Tj t h3
    rw [DI,List.getD_eq_getElem?_getD,h5,← h4]
    exact h6
   obtain ⟨M1,r1,r2,r3,r4⟩:=Df (nm:=bE 20) (vr:=0) hO hE M.la.bO [] _ x' Ls
   obtain ⟨M2,k1,k2,k3,k4,k5⟩:=AN (nm:=bE 20) (vr:=0) hO M.la.aE M1 _ _ r3
   have i0:jn []:=fun _ _ _ _ _ h=>by simp [look] at h
   have hI:jn M2:=k2 (r2 i0)
   have fit:(∀ k a d,look M2 k=some (a,d)→(∃ q∈M.la.aE,q.1=k)∧k<15)∧M.la.tail x'=M2:=by
    unfold LA.I5 at k3
    split at k3
    ·rename_i hf
     refine ⟨fun k a d hk=>?_,(Option.some.inj k3).symm⟩
     have:=List.all_eq_true.1 hf _ (iN hk)
     simp only [Bool.and_eq_true,Nat.blt_eq] at this
     obtain ⟨q,h1,h2⟩:=List.any_eq_true.1 this.1
     exact ⟨⟨q,h1,Nat.eq_of_beq_eq_true h2⟩,this.2⟩
    ·simp at k3
   obtain ⟨fit,Lt⟩:=fit
   have ao:∀ k a d,look M2 k=some (a,d)→k<15:=fun k a d h=>(fit k a d h).2
   have H:Handed g U M hl M2:=by
    refine ⟨hI,ao,fun k a d hk=>?_,fun p hp=>?_⟩
    ·obtain ⟨⟨q,hq,rfl⟩,-⟩:=fit k a d hk
     obtain ⟨a',d',h1,h2⟩:=k4 q hq
     rw [hk] at h1
     simp only [Option.some.injEq,Prod.mk.injEq] at h1
     obtain ⟨rfl,rfl⟩:=h1
     rcases h2 with h2 | h2
     ·exact .inl h2
     ·cases ho:dm.obj a with
      | none=>exact absurd ho h2
      | some ob=>
       obtain ⟨h3,h4⟩:=nW a ob ho
       exact .inr ⟨h3,(S.aE a ob h4).1,S.nf a (by rw [h4]; simp)⟩
    ·obtain ⟨a',d',h1,-⟩:=k4 p hp
     exact ⟨a',d',h1⟩
   let gI:=nh dm M2 gL SH
   have C:Cons dm (bE 20) 0 M2 gL gI eZ:=by
    refine ⟨fun k a d hk=>⟨?_,?_⟩,by show (0:Nat)<20; omega,by show (0:Nat)<20; omega,fun b o h=>Bc h,fun k a d b o p hk av yO=>S8 hI hk av yO,fun k a d q hk hq=>?_⟩
    ·have:=ao k a d hk
     show bE 20 k / 1024<20
     rw [wL,if_pos (by omega)]; omega
    ·have:=Gz (st:=dm) (gL:=gL) (SH:=SH) ao hk 0 []
     rw [if_pos rfl] at this; exact this
    ·have:=Gz (st:=dm) (gL:=gL) (SH:=SH) ao hk 0 q
     rw [if_neg hq] at this; exact this
   have c1:=r4 gI _ (C.mono k1)
   have c2:=k5 gI _ C
   have wR:=bb
   unfold Co at wR
   simp only [Bool.and_eq_true,Nat.beq_eq] at wR
   obtain ⟨⟨⟨⟨q1,q2⟩,-⟩,-⟩,-⟩:=wR
   obtain ⟨s1,s2⟩:=GD (nm:=bE 20) (vr:=0) M.la.bO 0 x' q1
   have hlen:l.length=M.la.bO.length:=by
    have:=ka mb
    rw [q2]; exact this
   have qt:=hM x' y hy gI w l hlen (fun t v h=>?_) (fun id ob h=>?_) (fun b o q h=>?_) (S.gl.mono (Fr.refl _ _) (fun b o _ h=>Bc (Bb h)))
   ·have hex:(execOp a.eval o).run P w = .ok (.enter gp (args.toList.map a.eval++pk).toArray) w:=by
     unfold execOp
     rw [aw]
     simp only [resolve,rX,Deferred.ofValue,invoke,callFunc]
     have A7:¬ fn.name = "runtime.NumGoroutine" :=by simpa using A6
     have A8:¬ fn.body=none:=by intro hh; rw [hh] at um; simp at um
     simp [sq,A7,A8]
    unfold Oper.wp
    rw [hex,Oper.upon_enter]
    refine Calls.mono qt (fun en w' h=>?_)
    obtain ⟨bd,gf,Uf,stf,rfl,X⟩:=h
    obtain ⟨g',hp⟩:=Tf S hs H (vs:=vs) (by rw [← Lt]; exact bb) X
    rw [← Lt] at hp
    exact hn _ _ _ _ hp
   ·have h:look (cf (bE 20) 0 M.la.bO x').1 t=some v:=h
    have hv:=c1 t v h
    rw [DI] at hv
    have ht:t<l.length:=by
     rw [s1,Ba,if_pos (Nat.zero_le _),Nat.sub_zero] at h
     have:=(List.getElem?_eq_some_iff.1 h).1
     rw [List.length_map,s2] at this
     omega
    exact ⟨l[t],List.getElem?_eq_getElem ht,by simpa [ht] using hv⟩
   ·have h:(match look (dJ (bE 20) 0 M.la.aE (cf (bE 20) 0 M.la.bO x').2).1 id with | some (some o)=>some o | _=>none)=some ob:=h
    split at h
    ·rename_i o' h'
     obtain rfl:=Option.some.inj h
     obtain ⟨p,hp,rfl,-⟩:=yH _ _ _ _ h'
     obtain ⟨a',d',h1,-⟩:=k4 p hp
     have:=ao _ _ _ h1
     exact ⟨by rw [wL,if_pos (by omega)]; exact this,(c2 _ _ h').2⟩
    ·simp at h
   ·obtain ⟨q',hq⟩:=Lh h
    exact S.bB b o q' (Gy hq)
  ·simp at hx
 ·simp at hx
theorem GH (hC:A3 P c) (hL:DN P c) (S:cB P c g w U sr a) (hs:¬ U site) {f:Operand} {args:Array Operand} {ts:Array TypeId} (aw:o.op = .call ⟨.value f,args,ts⟩) {gp:Nat} {caps:List af} (hf:sr.ev f = .fn gp caps) :
  ∀ (l:List (Nat×bS)),(∀ p∈l,p∈c.p7)→p8 c sr site gp (args.toList.map sr.ev++caps) k l=some r→∃ aT,k aT=some r∧kB P g w U site o a aT
 | [],_,e=>SW hC S hs aw hf e
 | (Tl,M)::l,dE,e=>by
  simp only [p8] at e
  split at e
  ·exact GH hC hL S hs aw hf l (fun p hp=>dE p (List.mem_cons_of_mem _ hp)) e
  ·rename_i hb
   obtain rfl:=Nat.eq_of_beq_eq_true hb
   split at e
   ·rename_i x hx
    obtain ⟨h1,h2⟩:=hL Tl M (dE _ List.mem_cons_self)
    exact Ti S hs aw hf h1 h2 hx e
   ·exact GH hC hL S hs aw hf l (fun p hp=>dE p (List.mem_cons_of_mem _ hp)) e
theorem su (hC:A3 P c) (hL:DN P c):uc P c:=by
 intro ρ r k g w U sr a site o S hs e
 by_cases qt:∃ f args ts gp caps,o.op = .call ⟨.value f,args,ts⟩∧sr.ev f = .fn gp caps
 ·obtain ⟨f,args,ts,gp,caps,aw,hf⟩:=qt
  rw [aw] at e
  have e:(match sr.ev f with | .fn f caps=>p8 c sr site f (args.toList.map sr.ev++caps) k c.p7 | _=>none)=some r:=e
  rw [hf] at e
  exact GH hC hL S hs aw hf c.p7 (fun _ h=>h) e
 ·cases hc:Da o.op with
  | false=>exact RA S hs hc e
  | true=>
   exfalso
   unfold Da at hc
   split at hc
   ·rename_i f args ts aw
    rw [aw] at e
    have e:(match sr.ev f with | .fn f caps=>p8 c sr site f (args.toList.map sr.ev++caps) k c.p7 | _=>none)=some r:=e
    split at e
    ·rename_i gp caps hf
     exact qt ⟨f,args,ts,gp,caps,aw,hf⟩
    ·simp at e
   ·simp at hc
end
end Go.Am
namespace Go.Am
open Go
end Go.Am
namespace Go.Am
open Go
section
variable {ρ:Type} (k:bR→Option ρ)
theorem qC {α ρ:Type} (p:Prop) [Decidable p] (x:Option α) (f:α→Option ρ):(ab p x).bind f=ab p (x.bind f):=by unfold ab; split<;>rfl
theorem Tm {α ρ:Type} (b:Bool) (x y:Option α) (f:α→Option ρ):(br b x y).bind f=br b (x.bind f) (y.bind f):=by cases b<;>rfl
theorem Lu {kd:TK} {yc:Bool} {op:BinOp} {x y:af} (k:af→Option ρ):ry kd yc op x y k=(ry kd yc op x y some).bind k:=by
 unfold ry
 repeat' (first | rfl | (split; done) | split)
theorem DO {n:Nat} {st:St} {x:af} {i:Int} (k:af→Option ρ):mP n st x i k=(mP n st x i some).bind k:=by
 unfold mP
 repeat' (first | rfl | split)
theorem Tn (site id own t vr xs tt i j aq kx i' j' u off len):xN site id own t vr xs tt i j aq kx i' j' u off len k=(xN site id own t vr xs tt i j aq kx i' j' u off len some).bind k:=by
 unfold xN
 split
 ·rfl
 ·rw [qC]
  congr 1
  split<;>rfl
theorem To (st site size id own t vr xs p tt i j vs):vU st site size id own t vr xs p tt i j vs k=(vU st site size id own t vr xs p tt i j vs some).bind k:=by
 unfold vU
 repeat' (first | rfl | split)
theorem Tp (st site size id t xs bi bj tt i j vs):xO st site size id t xs bi bj tt i j vs k=(xO st site size id t xs bi bj tt i j vs some).bind k:=by
 unfold xO
 split
 ·rfl
 ·rw [qC]
  congr 1
  repeat' (first | rfl | split)
theorem Tq (st site size a v):xP st site size a v k=(xP st site size a v some).bind k:=by
 unfold xP
 repeat' (first | rfl | exact Tn k _ _ _ _ _ _ _ _ _ _ _ _ _ _ _ _ | exact To k _ _ _ _ _ _ _ _ _ _ _ _ _ | exact Tp k _ _ _ _ _ _ _ _ _ _ _ _ | split)
theorem Tr (dK st site t s x):vV dK st site t s x k=(vV dK st site t s x some).bind k:=by
 unfold vV
 repeat' (first | rfl | (rw [qC]; rfl) | split)
theorem Ts (dK st site id own t xs x):vW dK st site id own t xs x k=(vW dK st site id own t xs x some).bind k:=by
 unfold vW
 repeat' (first | rfl | (rw [qC]; rfl) | split)
theorem Tt (dK st site id t xs i j x):xQ dK st site id t xs i j x k=(xQ dK st site id t xs i j x some).bind k:=by
 unfold xQ
 repeat' (first | rfl | (rw [qC,Option.bind_some]; done) | split)
theorem Tu (dK st site gX fg s x):xR dK st site gX fg s x k=(xR dK st site gX fg s x some).bind k:=by
 unfold xR
 repeat' (first | rfl | exact Tr k _ _ _ _ _ _ | exact Ts k _ _ _ _ _ _ _ _ | exact Tt k _ _ _ _ _ _ _ _ _ | split)
theorem Tv (dK st gX s x):xS dK st gX s x k=(xS dK st gX s x some).bind k:=by
 unfold xS
 repeat' (first | rfl | (rw [qC,Option.bind_some]; done) | split)
theorem Tw (dK st site gX s x):xT dK st site gX s x k=(xT dK st site gX s x some).bind k:=by
 unfold xT
 split
 ·split
  ·rw [qC,Option.bind_some]
  ·rfl
 ·rfl
theorem Tx (dK site gX s x):zW dK site gX s x k=(zW dK site gX s x some).bind k:=by
 unfold zW
 split<;>first | rfl | (rw [qC]; rfl)
theorem Tz (st id own t vr xs off len x):v_ st id own t vr xs off len x k=(v_ st id own t vr xs off len x some).bind k:=by
 unfold v_
 repeat' (first | rfl | split)
theorem TA (fg st d x):xY fg st d x k=(xY fg st d x some).bind k:=by
 unfold xY
 repeat' (first | rfl | exact Tz k _ _ _ _ _ _ _ _ _ | split)
theorem TB (st site args):xV st site args k=(xV st site args some).bind k:=by
 unfold xV
 repeat' (first | rfl | split)
theorem Lv (c st site f args):xW c st site f args k=(xW c st site f args some).bind k:=by
 unfold xW
 split
 ·split
  ·exact TB k _ _ _
  ·rfl
 ·split
  ·rfl
  ·rename_i m x _ _ _
   cases h:m.m x with
   | none=>rfl
   | some y=>
    simp only [Option.bind_some]
    repeat' (first | rfl | split)
theorem TC (st site M x):zZ st site M x k=(zZ st site M x some).bind k:=by
 unfold zZ
 cases M.m x<;>rfl
theorem GI (c st site f args):∀ l,p8 c st site f args k l=(p8 c st site f args some l).bind k
 | []=>Lv k c st site f args
 | (g,M)::r=>by
  simp only [p8]
  split
  ·exact GI c st site f args r
  ·split
   ·exact TC k _ _ _ _
   ·exact GI c st site f args r
theorem GJ (fg st x lo hi):p9 fg st x lo hi k=(p9 fg st x lo hi some).bind k:=by
 unfold p9
 split
 ·rfl
 ·split
  ·split
   ·rw [qC]
    congr 1
    repeat' (first | rfl | split)
   ·rfl
  ·rfl
theorem TD (ow fg st site x lo hi):wa ow fg st site x lo hi k=(wa ow fg st site x lo hi some).bind k:=by
 unfold wa
 refine (GJ _ _ _ _ _ _).trans ?_
 conv=>rhs; rw [GJ]
 rw [Option.bind_assoc]
 congr 1
 funext e
 repeat' (first | rfl | split)
theorem Lw {n:Nat} {st:St} {x:af} {i:Int} {ρ:Type} (k:bR→Option ρ):∀ {m:Nat},tL n st x i (fun z=>k ⟨z,[]⟩) m=(tL n st x i (fun z=>some (⟨z,[]⟩:bR)) m).bind k
 | 0=>rfl
 | m+1=>by
  unfold tL
  by_cases h:i=Int.ofNat m
  ·simp only [h,decide_true,br]
   rw [DO,DO (ρ:=bR)]
   cases mP n st x (Int.ofNat m) some<;>rfl
  ·simp only [h,decide_false,br]
   exact Lw k
theorem TE (c st site o):dk c st site o k=(dk c st site o some).bind k:=by
 unfold dk
 have hv:∀ x:Option af,(match x with | some y=>k ⟨y,[]⟩ | none=>none)=(match x with | some y=>some (⟨y,[]⟩:bR) | none=>none).bind k:=by
  intro x; cases x<;>rfl
 have hb:∀ {kd yc op x y},ry kd yc op x y (fun z=>k ⟨z,[]⟩)=(ry kd yc op x y (fun z=>some (⟨z,[]⟩:bR))).bind k:=by
  intro kd yc op x y
  rw [Lu,Lu (ρ:=bR)]
  cases ry kd yc op x y some<;>rfl
 have hi:∀ {n x i},mP n st x i (fun z=>k ⟨z,[]⟩)=(mP n st x i (fun z=>some (⟨z,[]⟩:bR))).bind k:=by
  intro n x i
  rw [DO,DO (ρ:=bR)]
  cases mP n st x i some<;>rfl
 split
 all_goals (try simp only)
 all_goals repeat' (first | rfl | (rw [qC,Option.bind_some]; done) | (rw [Tm,Option.bind_some,Option.bind_some]; done) | exact hb | exact hi | exact Lw k | exact Tq k _ _ _ _ _ | exact Tu k _ _ _ _ _ _ _ | exact Tx k _ _ _ _ _ | exact Tv k _ _ _ _ _ | exact Tw k _ _ _ _ _ _ | exact TD k _ _ _ _ _ _ _ | exact Lv k _ _ _ _ _ | exact GI k _ _ _ _ _ _ | exact TA k _ _ _ _ | exact GJ k _ _ _ _ _ | split)
end
end Go.Am
namespace Go.Am
open Go
section
variable {c:aP} {all:List Oper} {st0:St} {ρ:Type} {r:ρ}
structure Fact (c:aP) (all:List Oper) (st0:St) (i:Nat) (es:List bU) (o:Oper) (e:bU):Prop where
 dst:e.dst=o.dst
 mask:e.mask=lU (es.reverse.map (·.mask)) i o.after.toList
 Lx:z7 i o.after.toList=true
 TF:∀ t∈ya all o,t∈e.lT
 act:∃ runs:Bool,(match o.guard with | none=>runs=true | some (gd,want)=>∃ d,qa all gd=some d∧((∃ b,(jC st0 e.mask i.pred es).ev (.tmp d) = .bool b∧runs=(b==want))∨((jC st0 e.mask i.pred es).ev (.tmp d) = .fb []∧runs=false)))∧
  (match runs with
   | true=>(∀ t∈jl o.op.operands.toList,t∈e.lT)∧dk c (restrict (jC st0 e.mask i.pred es) (jl o.op.operands.toList) e.reads) (st0.nxt+i) o.op some=some e.aT
   | false=>e.aT=⟨.fb [],[]⟩)
inductive lu (c:aP) (all:List Oper) (st0:St):Nat→List bU→Prop
 | nil:lu c all st0 0 []
 | cons {i:Nat} {es:List bU} {o:Oper} {e:bU} (h:lu c all st0 i es) (ho:all[i]? = some o) (hf:Fact c all st0 i es o e):lu c all st0 (i+1) (e::es)
theorem lu.len {i:Nat} {es:List bU} (h:lu c all st0 i es):es.length=i:=by
 induction h with
 | nil=>rfl
 | cons h ho hf ih=>simp [ih]
theorem DP {mask d:Nat} {b:Bool} : ∀ (es:List bU) (i:Nat),Cs mask d i es=true→(jC st0 mask i es).ev (.tmp d) = .bool b→setBool d b es=es
 | [],i,h1,h2=>rfl
 | e::es,i,h1,h2=>by
  simp only [Cs,Bool.and_eq_true] at h1
  obtain ⟨h1,h3⟩:=h1
  simp only [jC] at h2
  cases hd:e.dst with
  | none=>
   simp only [setBool,hd]
   congr 1
   refine DP es i.pred h3 ?_
   split at h2
   ·simpa [St.ev,St.put,hd] using h2
   ·exact h2
  | some x=>
   simp only [setBool,hd]
   by_cases hx:x=d
   ·subst hx
    simp only [Nat.beq_refl]
    simp only [hd,Nat.beq_refl,Bool.not_true,Bool.or_false] at h1
    rw [h1] at h2
    simp only [St.ev,St.put,hd] at h2
    rw [cT,if_pos rfl] at h2
    simp only at h2
    obtain ⟨m,ds,⟨v,os⟩,rs,us⟩:=e
    simp only at h2
    have fx:ds=some x:=hd
    subst fx
    rw [← h2]
   ·have hb:Nat.beq x d=false:=by rw [← Bool.not_eq_true]; intro h; exact hx (Nat.eq_of_beq_eq_true h)
    rw [hb]
    simp only
    congr 1
    refine DP es i.pred h3 ?_
    split at h2
    ·simp only [St.ev,St.put,hd] at h2
     rw [cT,if_neg hx] at h2
     exact h2
    ·exact h2
theorem DQ:∀ (ops:List Oper) (i:Nat) (es:List bU) (k:List bU→Option ρ),lu c all st0 i es→all.drop i=ops→rF c all st0 ops i es k=some r→∃ fX,lu c all st0 all.length fX∧k fX=some r
 | [],i,es,k,D,ha,e=>by
  refine ⟨es,?_,e⟩
  have hi:all.length≤i:=by simpa using List.drop_eq_nil_iff.1 ha
  have:i≤all.length:=by
   cases D with
   | nil=>omega
   | cons h ho hf=>have:=(List.getElem?_eq_some_iff.1 ho).1; omega
  have:i=all.length:=by omega
  rw [← this]; exact D
 | o::ops,i,es,k,D,ha,e=>by
  have ho:all[i]? = some o:=by
   have:=congrArg (fun l=>l[0]?) ha
   simpa using this
  have Ly:all.drop (i+1)=ops:=by
   have:=congrArg (List.drop 1) ha
   simpa using this
  simp only [rF] at e
  split at e
  ·simp at e
  ·rename_i yT
   have run:∀ (cx:match o.guard with | none=>True | some (gd,want)=>∃ d b,qa all gd=some d∧(jC st0 (lU (es.reverse.map (·.mask)) i o.after.toList) i.pred es).ev (.tmp d) = .bool b∧true=(b==want)),
     dk c (restrict (jC st0 (lU (es.reverse.map (·.mask)) i o.after.toList) i.pred es) (jl o.op.operands.toList) (EU (jC st0 (lU (es.reverse.map (·.mask)) i o.after.toList) i.pred es) o.op)) (st0.nxt+i) o.op
      (fun e=>rF c all st0 ops (i+1) (⟨lU (es.reverse.map (·.mask)) i o.after.toList,o.dst,e,EU (jC st0 (lU (es.reverse.map (·.mask)) i o.after.toList) i.pred es) o.op,ya all o++jl o.op.operands.toList⟩::es) k)=some r→
     ∃ fX,lu c all st0 all.length fX∧k fX=some r:=by
    intro cx e
    rw [TE] at e
    obtain ⟨aT,h1,h2⟩:=Option.bind_eq_some_iff.1 e
    refine DQ ops (i+1) _ k (.cons D ho ⟨rfl,rfl,yT,fun t ht=>List.mem_append_left _ ht,true,?_,fun t ht=>List.mem_append_right _ ht,h1⟩) Ly h2
    cases hg:o.guard with
    | none=>rfl
    | some gw=>
     rw [hg] at cx
     obtain ⟨d,b,h1,h2,h3⟩:=cx
     exact ⟨d,h1,.inl ⟨b,h2,h3⟩⟩
   have skip:∀ (cx:match o.guard with | none=>False | some (gd,want)=>∃ d,qa all gd=some d∧((∃ b,(jC st0 (lU (es.reverse.map (·.mask)) i o.after.toList) i.pred es).ev (.tmp d) = .bool b∧false=(b==want))∨(jC st0 (lU (es.reverse.map (·.mask)) i o.after.toList) i.pred es).ev (.tmp d) = .fb [])),
     rF c all st0 ops (i+1) (⟨lU (es.reverse.map (·.mask)) i o.after.toList,o.dst,⟨.fb [],[]⟩,[],ya all o⟩::es) k=some r→
     ∃ fX,lu c all st0 all.length fX∧k fX=some r:=by
    intro cx e
    refine DQ ops (i+1) _ k (.cons D ho ⟨rfl,rfl,yT,fun t ht=>ht,false,?_,rfl⟩) Ly e
    cases hg:o.guard with
    | none=>rw [hg] at cx; exact cx.elim
    | some gw=>
     rw [hg] at cx
     obtain ⟨d,h1,h2⟩:=cx
     exact ⟨d,h1,h2.imp id (fun h=>⟨h,rfl⟩)⟩
   cases hg:o.guard with
   | none=>
    rw [hg] at e
    exact run (by rw [hg]; trivial) e
   | some gw=>
    obtain ⟨gd,want⟩:=gw
    rw [hg] at e
    simp only at e
    split at e
    ·simp at e
    ·rename_i d hd
     split at e
     ·rename_i b GK hb
      cases b with
      | true=>
       simp only [br] at e
       rw [DP es i.pred GK hb] at e
       cases want with
       | true=>exact run (by rw [hg]; exact ⟨d,true,hd,hb,rfl⟩) e
       | false=>exact skip (by rw [hg]; exact ⟨d,hd,.inl ⟨true,hb,rfl⟩⟩) e
      | false=>
       simp only [br] at e
       rw [DP es i.pred GK hb] at e
       cases want with
       | true=>exact skip (by rw [hg]; exact ⟨d,hd,.inl ⟨false,hb,rfl⟩⟩) e
       | false=>exact run (by rw [hg]; exact ⟨d,false,hd,hb,rfl⟩) e
     ·rename_i GK hb
      exact skip (by rw [hg]; exact ⟨d,hd,.inr hb⟩) e
     ·simp at e
def bD (st0:St) (S:Nat→Bool):List bU→St
 | []=>st0
 | e::r=>match S r.length with | true=>(bD st0 S r).put e.dst e.aT | false=>bD st0 S r
theorem GL {mask:Nat} : ∀ (es:List bU) (i:Nat),es.length=i→jC st0 mask i.pred es=bD st0 (Nat.testBit mask) es
 | [],i,h=>rfl
 | e::es,i,h=>by
  simp only [List.length_cons] at h
  subst h
  simp only [jC,bD,Nat.pred_succ]
  rw [GL es es.length rfl]
  rfl
theorem GM {S:Nat→Bool} : ∀ (es:List bU),(∀ i,i<es.length→S i=true)→jD st0 es=bD st0 S es
 | [],_=>rfl
 | e::es,h=>by
  simp only [jD,bD,h es.length (by simp)]
  rw [GM es (fun i hi=>h i (by simp only [List.length_cons]; omega))]
def dF (es:List bU) (j:Nat):Option bU:=es.reverse[j]?
theorem mh (e:bU) (es:List bU) (j:Nat):dF (e::es) j=if j<es.length then dF es j else if j=es.length then some e else none:=by
 unfold dF
 simp only [List.reverse_cons,List.getElem?_append,List.length_reverse]
 split
 ·rfl
 ·split
  ·rename_i h; subst h; simp
  ·rw [List.getElem?_eq_none]; simp; omega
theorem yU {st:St} {d:Option Nat} {e:bR} {id:Nat} : (st.put d e).obj id=match look e.aE id with | some x=>x | none=>st.obj id:=by
 unfold St.obj St.put
 simp only [fV]
 cases look e.aE id with
 | none=>rfl
 | some x=>cases x<;>rfl
theorem ur {st:St} {d:Option Nat} {e:bR} {t:Nat} : look (st.put d e).env t=if d=some t then some e.val else look st.env t:=by
 cases d with
 | none=>simp [St.put]
 | some x=>
  simp only [St.put]
  rw [cT]
  by_cases h:x=t
  ·subst h; simp
  ·rw [if_neg h,if_neg (by simpa using h)]
theorem Bd {S1 S2:Nat→Bool} {t:Nat} : ∀ (es:List bU),(∀ j e,dF es j=some e→S1 j=S2 j∨e.dst≠some t)→look (bD st0 S1 es).env t=look (bD st0 S2 es).env t
 | [],_=>rfl
 | e::es,h=>by
  have ih:=Bd (S1:=S1) (S2:=S2) (t:=t) es (fun j f hf=>h j f (by
   rw [mh]
   have:j<es.length:=by
    have:=(List.getElem?_eq_some_iff.1 hf).1; simpa using this
   rw [if_pos this]; exact hf))
  have he:=h es.length e (by rw [mh]; simp)
  simp only [bD]
  rcases he with he | he
  ·rw [he]
   cases S2 es.length with
   | true=>simp only [ur,ih]
   | false=>exact ih
  ·cases S1 es.length<;>cases S2 es.length<;>simp only [ur,if_neg he,ih]
theorem Be {S1 S2:Nat→Bool} {id:Nat} : ∀ (es:List bU),(∀ j e,dF es j=some e→S1 j=S2 j∨id∉lV e)→(bD st0 S1 es).obj id=(bD st0 S2 es).obj id
 | [],_=>rfl
 | e::es,h=>by
  have ih:=Be (S1:=S1) (S2:=S2) (id:=id) es (fun j f hf=>h j f (by
   rw [mh]
   have:j<es.length:=by
    have:=(List.getElem?_eq_some_iff.1 hf).1; simpa using this
   rw [if_pos this]; exact hf))
  have he:=h es.length e (by rw [mh]; simp)
  simp only [bD]
  rcases he with he | he
  ·rw [he]
   cases S2 es.length with
   | true=>simp only [yU,ih]
   | false=>exact ih
  ·have hn:look e.aT.aE id=none:=AO he
   cases S1 es.length<;>cases S2 es.length<;>simp only [yU,hn,ih]
theorem GN {S:Nat→Bool} : ∀ (fs es:List bU),(∀ j,es.length≤j→S j=false)→bD st0 S (fs++es)=bD st0 S es
 | [],es,_=>rfl
 | f::fs,es,h=>by
  simp only [List.cons_append,bD]
  rw [h _ (by simp)]
  exact GN fs es h
theorem Lz {e:bU} : ∀ (es:List bU),mS.go e es.length.pred es=true→∀ j f,dF es j=some f→Nat.testBit e.mask j=true∨z_ e f=true
 | [],_,j,f,hf=>by simp [dF] at hf
 | g::es,h,j,f,hf=>by
  simp only [List.length_cons,Nat.pred_succ,mS.go,Bool.and_eq_true,Bool.or_eq_true] at h
  rw [mh] at hf
  split at hf
  ·exact Lz es h.2 j f hf
  ·split at hf
   ·rename_i hj
    simp only [Option.some.injEq] at hf
    subst hf; subst hj
    exact h.1
   ·simp at hf
theorem Bf:∀ (es:List bU),mS es.length.pred es=true→∀ j1 j2 f1 f2,j1<j2→dF es j1=some f1→dF es j2=some f2→Nat.testBit f2.mask j1=true∨z_ f2 f1=true
 | [],_,j1,j2,f1,f2,hj,h1,h2=>by simp [dF] at h1
 | e::es,h,j1,j2,f1,f2,hj,h1,h2=>by
  simp only [List.length_cons,Nat.pred_succ,mS,Bool.and_eq_true] at h
  rw [mh] at h1 h2
  split at h2
  ·rename_i ao
   rw [if_pos (by omega)] at h1
   exact Bf es h.2 j1 j2 f1 f2 hj h1 h2
  ·split at h2
   ·rename_i he
    simp only [Option.some.injEq] at h2
    subst h2
    rw [if_pos (by omega)] at h1
    exact Lz es h.1 j1 f1 h1
   ·simp at h2
structure Bg (a b:bU):Prop where
 t1:∀ i∈lV a,i∉b.reads
 t2:∀ i∈lV b,i∉a.reads
 t3:∀ i∈lV a,i∉lV b
 d1:∀ t,a.dst=some t→b.dst≠some t
 u1:∀ t,a.dst=some t→t∉b.lT
 u2:∀ t,b.dst=some t→t∉a.lT
theorem GO {a b:List Nat} (h:Cq a b=true):∀ i∈a,i∉b:=by
 intro i hi hb
 have:=List.all_eq_true.1 h i hi
 rw [any_beq.2 hb] at this
 simp at this
theorem DR {a b:bU} (h:z_ a b=true):Bg a b:=by
 unfold z_ at h
 simp only [Bool.and_eq_true] at h
 obtain ⟨⟨⟨⟨⟨h1,h2⟩,h3⟩,h4⟩,h5⟩,h6⟩:=h
 refine ⟨GO h1,GO h2,GO h3,fun t ht hb=>?_,fun t ht hb=>?_,fun t ht hb=>?_⟩
 ·rw [ht,hb] at h4; simp [Jb] at h4
 ·rw [ht] at h5; simp only [Cr] at h5; rw [any_beq.2 hb] at h5; simp at h5
 ·rw [ht] at h6; simp only [Cr] at h6; rw [any_beq.2 hb] at h6; simp at h6
theorem GP {wc:List Nat} {i m:Nat} : ∀ (l:List Edge),Nat.testBit (lU wc i l) m=true→∃ e∈l,Region.binds .any e=true∧e.on<i∧(m=e.on∨Nat.testBit (wc.getD e.on 0) m=true)
 | [],h=>by simp [lU] at h
 | e::l,h=>by
  simp only [lU,Nat.testBit_or,Bool.or_eq_true] at h
  rcases h with h | h
  ·split at h
   ·rename_i hb
    simp only [Bool.and_eq_true,Nat.blt_eq] at hb
    rw [show Nat.lor (2 ^ e.on) (wc.getD e.on 0)=2 ^ e.on||| wc.getD e.on 0 from rfl,Nat.testBit_or,Bool.or_eq_true] at h
    refine ⟨e,by simp,hb.1,hb.2,?_⟩
    rcases h with h | h
    ·left
     rw [Nat.testBit_two_pow] at h
     exact (of_decide_eq_true h).symm
    ·exact .inr h
   ·simp at h
  ·obtain ⟨e',h1,h2⟩:=GP l h
   exact ⟨e',by simp [h1],h2⟩
theorem GQ {i:Nat} : ∀ {l:List Edge},z7 i l=true→∀ e∈l,Region.binds .any e=true→e.on<i
 | [],_,e,he,_=>by simp at he
 | a::l,h,e,he,hb=>by
  simp only [z7,Bool.and_eq_true] at h
  rcases List.mem_cons.1 he with rfl | he
  ·have:=h.1
   rw [hb] at this
   simpa using this
  ·exact GQ h.2 e he hb
theorem lu.at {n:Nat} {es:List bU} (D:lu c all st0 n es):∀ i e,dF es i=some e→∃ fs pre o,es=fs++e::pre∧pre.length=i∧all[i]? = some o∧Fact c all st0 i pre o e:=by
 induction D with
 | nil=>intro i e h; simp [dF] at h
 | @cons m fX o e' hD ho hf ih=>
  intro i e h
  have hlen:=hD.len
  rw [mh] at h
  split at h
  ·obtain ⟨fs,pre,o',h1,h2,h3,h4⟩:=ih i e h
   exact ⟨e'::fs,pre,o',by rw [h1]; rfl,h2,h3,h4⟩
  ·split at h
   ·rename_i hi
    simp only [Option.some.injEq] at h
    subst h; subst hi
    rw [hlen]
    exact ⟨[],fX,o,rfl,hlen,ho,hf⟩
   ·simp at h
theorem LB {fs pre:List bU} {e:bU} {j:Nat} (h:j<pre.length):dF (fs++e::pre) j=dF pre j:=by
 unfold dF
 simp only [List.reverse_append,List.reverse_cons,List.append_assoc]
 rw [List.getElem?_append_left (by simpa using h)]
end
end Go.Am
namespace Go.Am
open Go
section
variable {P:Program} {c:aP} {w0:World} {F:bt} {N:Nat} {g g':Gh} {w w':World} {U U':Nat→Prop} {st:St} {a:Act}
theorem Rel.GR (R:Rel w0 F N g U st a w) {site:Nat} {e:bR} {v:Value} {dst:Option Nat} (hd:∀ x,dst=some x→x<N) (Q:cR g w U site e v w' g' U') {st':St}
  (nV:∀ t,look st'.env t=if dst=some t then some e.val else look st.env t) (nW:∀ id,st'.obj id=match look e.aE id with | some x=>x | none=>st.obj id) (hu:∀ s,U' s→s<st'.nxt) :
  Rel w0 F N g' U' st' (a.put dst v) w':=by
 have fx:∀ x,dst=some x→x<a.tmps.size:=by rw [R.size]; exact hd
 refine ⟨fun t x h=>?_,fun id ob h=>?_,hu,Q.bB,fun b o id p hb h=>?_,fun b o id p hf gK=>?_,?_,?_,?_,Q.gh.sub _ R.u0,fun s hs=>Q.gh.sub _ (R.ky s hs),fun id h=>?_⟩
 ·rw [sb fx]
  rw [nV] at h
  by_cases jK:dst=some t
  ·rw [if_pos jK] at h ⊢
   simp only [Option.some.injEq] at h
   subst h; exact Q.val
  ·rw [if_neg jK] at h ⊢
   exact Q.gh.qe _ _ (R.env t x h)
 ·rw [nW] at h
  cases hl:look e.aE id with
  | some qu=>
   rw [hl] at h
   simp only at h
   subst h
   exact Q.aE id _ hl
  | none=>
   rw [hl] at h
   obtain ⟨h1,h2⟩:=R.heap id ob h
   exact ⟨Q.gh.sub _ h1,CE Q.gh (by rw [hl]; simp) h1 ob h2⟩
 ·have cw:b<w.heap.size:=Nat.lt_of_lt_of_le hb R.fr.size
  have av:=Q.bP b o _ cw h
  cases hl:g.lab b o with
  | none=>exact absurd hl av
  | some q=>
   obtain ⟨aq,p'⟩:=q
   cases ht:(look e.aE aq).isSome with
   | true=>
    rcases R.bP b o aq p' hb hl with h2 | h2
    ·exact absurd h2.1 (Q.nf aq ht)
    ·exact .inr h2
   | false=>
    have:=(Q.gh.own b o aq p' hl (by rw [ht]; simp)).1
    rw [this] at h
    simp only [Option.some.injEq,Prod.mk.injEq] at h
    obtain ⟨rfl,rfl⟩:=h
    exact R.bP b o aq p' hb hl
 ·have hl:=R.kX b o id p hf gK
  refine (Q.gh.own b o id p hl (fun ht=>Q.nf id ht gK)).1
 ·refine R.fr.trans' Q.fr (fun b o hb h=>?_)
  obtain ⟨id,p,hl,hn⟩:=h
  rcases R.bP b o id p hb hl with h2 | h2
  ·exact absurd h2.1 hn
  ·exact h2
 ·cases dst<;>exact R.defers
 ·cases dst<;>simp [Act.put,R.size]
 ·rw [nW] at h
  cases hl:look e.aE id with
  | some qu=>exact Q.nf id (by rw [hl]; rfl)
  | none=>rw [hl] at h; exact R.nf id h
theorem Rel.same (R:Rel w0 F N g U st a w) {st':St} (nV:∀ t,look st'.env t=look st.env t) (nW:∀ id,st'.obj id=st.obj id) (hu:∀ s,U s→s<st'.nxt):Rel w0 F N g U st' a w:=
 ⟨fun t v h=>R.env t v (by rw [← nV]; exact h),fun id o h=>R.heap id o (by rw [← nW]; exact h),hu,R.bB,R.bP,R.kX,R.fr,R.defers,R.size,R.u0,R.ky,fun id h=>R.nf id (by rw [← nW]; exact h)⟩
structure Inv (w0:World) (F:bt) (N:Nat) (g0:Gh) (U0:Nat→Prop) (st0:St) (es:List bU) (D:Nat→Bool) (g:Gh) (U:Nat→Prop) (a:Act) (w:World):Prop where
 rel:Rel w0 F N g U ⟨(bD st0 D es).env,(bD st0 D es).heap,st0.nxt+es.length,[],[]⟩ a w
 used:∀ s,U s→s<st0.nxt∨∃ i,i<es.length∧D i=true∧s=st0.nxt+i
 sd:∀ i e,dF es i=some e→D i=true→∀ m,Nat.testBit e.mask m=true→m<i∧D m=true
 sub:∀ s,U0 s→U s
 hd:∀ id ver p,U0 (id / 1024)→U0 ver→g.hd id ver p=g0.hd id ver p
theorem LC {α:Type} {l:List (Nat×α)} {q:Nat×α} {id:Nat} (hq:q∈l) (he:q.1=id) (h:look l id=none):False:=by
 induction l with
 | nil=>simp at hq
 | cons p l ih=>
  obtain ⟨k,v⟩:=p
  rw [cT] at h
  split at h
  ·simp at h
  ·rename_i av
   rcases List.mem_cons.1 hq with e | e
   ·subst e; exact av he
   ·exact ih e h
theorem Rel.drawn (R:Rel w0 F N g U st a w):Rel w0 F N g U st a { w with drawn:=w.drawn+1 }:=by
 have DS:Fr (qf g) w { w with drawn:=w.drawn+1 }:=⟨rfl,rfl,rfl,Nat.le_refl _,fun _ c _ _ h=>⟨c,h,rfl,fun _ _=>rfl⟩,fun _ _ _=>rfl,fun _ _ h _=>h⟩
 have Q:cR g w U st.nxt ⟨.undef,[]⟩ undef { w with drawn:=w.drawn+1 } g U:=
  ⟨⟨fun s h=>h,fun _ _ _ _ _=>rfl,fun b o hl v hv=>⟨hv,hl⟩,fun b o id p hl _=>⟨hl,rfl,rfl⟩⟩,trivial,fun id o h=>by simp [look] at h,fun s h=>.inl h,R.bB,fun b o q _ h=>by rw [h]; simp,DS,fun id h=>by simp [look] at h⟩
 exact R.GR (dst:=none) (fun x h=>by simp at h) Q (fun t=>rfl) (fun id=>rfl) R.used
theorem GS {st0:St} {S:Nat→Bool} {t:Nat} (es:List bU):∀ (fs:List bU),(∀ j f,es.length≤j→dF (fs++es) j=some f→S j=false∨f.dst≠some t)→look (bD st0 S (fs++es)).env t=look (bD st0 S es).env t
 | [],_=>rfl
 | f::fs,h=>by
  have ih:=GS (st0:=st0) es fs (fun j g hj hg=>h j g hj (by
   rw [List.cons_append,mh]
   have:j<(fs++es).length:=by
    have:=(List.getElem?_eq_some_iff.1 hg).1; simp at this ⊢; omega
   rw [if_pos this]; exact hg))
  have hf:=h (fs++es).length f (by simp) (by rw [List.cons_append,mh]; simp)
  simp only [List.cons_append,bD]
  rcases hf with hf | hf
  ·rw [hf]; exact ih
  ·cases S (fs++es).length<;>simp only [ur,if_neg hf,ih]
theorem GU {st0:St} {S:Nat→Bool} {id:Nat} (es:List bU):∀ (fs:List bU),(∀ j f,es.length≤j→dF (fs++es) j=some f→S j=false∨id∉lV f)→(bD st0 S (fs++es)).obj id=(bD st0 S es).obj id
 | [],_=>rfl
 | f::fs,h=>by
  have ih:=GU (st0:=st0) es fs (fun j g hj hg=>h j g hj (by
   rw [List.cons_append,mh]
   have:j<(fs++es).length:=by
    have:=(List.getElem?_eq_some_iff.1 hg).1; simp at this ⊢; omega
   rw [if_pos this]; exact hg))
  have hf:=h (fs++es).length f (by simp) (by rw [List.cons_append,mh]; simp)
  simp only [List.cons_append,bD]
  rcases hf with hf | hf
  ·rw [hf]; exact ih
  ·have hn:look f.aT.aE id=none:=AO hf
   cases S (fs++es).length<;>simp only [yU,hn,ih]
theorem TG (H:uc P c) (hc:eu P c) (hG:Gl P F w0) {ops:Array Oper} (hN:∀ o∈ops.toList,∀ x,o.dst=some x→x<N) {es:List bU} (D0:lu c ops.toList st ops.toList.length es) (hp:mS es.length.pred es=true)
  {g0:Gh} {U0:Nat→Prop} {D:Nat→Bool} {i:Nat} {o:Oper} (ho:ops.toList[i]? = some o) (hi:D i=false) (hr:∀ e∈o.after.toList,Region.binds .any e=true→D e.on=true)
  (I:Inv w0 F N g0 U0 st es D g U a w) {K:Act→World→Prop} {Q:Exit→Act→World→Prop}
  (hK:∀ a' w' g' U',Inv w0 F N g0 U0 st es (fun j=>D j||j==i) g' U' a' w'→K a' w') :
  if Region.wanted o (yielded ops a.tmps) then o.wp P a w K Q∨(o.asks P a w∧LetsOut Q) else K (a.put o.dst undef) w:=by
 have hlen:=D0.len
 have Bh:i<es.length:=by rw [hlen]; exact (List.getElem?_eq_some_iff.1 ho).1
 obtain ⟨e,he⟩:∃ e,dF es i=some e:=⟨_,List.getElem?_eq_getElem (by simpa using Bh)⟩
 obtain ⟨fs,pre,o',kj,nT,fL,hf⟩:=D0.at i e he
 rw [ho] at fL
 obtain rfl:=Option.some.inj fL
 have sv:∀ m,Nat.testBit e.mask m=true→m<i∧D m=true:=by
  intro m hm
  rw [hf.mask] at hm
  obtain ⟨ed,h1,h2,h3,h4⟩:=GP _ hm
  have hD:=hr ed h1 h2
  rcases h4 with rfl | h4
  ·exact ⟨h3,hD⟩
  ·have ao:ed.on<pre.length:=by omega
   obtain ⟨f,wT⟩:∃ f,dF pre ed.on=some f:=⟨_,List.getElem?_eq_getElem (by simpa using ao)⟩
   have AJ:(pre.reverse.map (·.mask)).getD ed.on 0=f.mask:=by
    rw [List.getD_eq_getElem?_getD,List.getElem?_map]
    unfold dF at wT
    rw [wT]; rfl
   rw [AJ] at h4
   have:=I.sd ed.on f (by rw [kj,LB ao]; exact wT) hD m h4
   exact ⟨by omega,this.2⟩
 have sw:∀ j f,dF es j=some f→D j=true→Nat.testBit e.mask j=false→Bg e f∨Bg f e:=by
  intro j f hj ea hm
  have av:j≠i:=fun h=>by subst h; rw [hi] at ea; simp at ea
  rcases Nat.lt_or_gt_of_ne av with h | h
  ·rcases Bf es hp j i f e h hj he with h1 | h1
   ·rw [hm] at h1; simp at h1
   ·exact .inl (DR h1)
  ·rcases Bf es hp i j e f h he hj with h1 | h1
   ·have:=(I.sd j f hj ea i h1).2
    rw [hi] at this; simp at this
   ·exact .inr (DR h1)
 have wU:∀ j,pre.length≤j→Nat.testBit e.mask j=false:=by
  intro j hj
  cases h:Nat.testBit e.mask j with
  | false=>rfl
  | true=>have:=(sv j h).1; omega
 have DT:jC st e.mask i.pred pre=bD st (Nat.testBit e.mask) es:=by
  rw [GL pre i nT,kj]
  exact (GN (fs++[e]) pre wU).symm.trans (by rw [List.append_assoc]; rfl)
 have yV:∀ t,(t∈e.lT)→look (bD st (Nat.testBit e.mask) es).env t=look (bD st D es).env t:=by
  intro t ht
  refine Bd es (fun j f hj=>?_)
  cases hm:Nat.testBit e.mask j with
  | true=>exact .inl (sv j hm).2.symm
  | false=>
   cases ea:D j with
   | false=>exact .inl rfl
   | true=>
    refine .inr (fun hd=>?_)
    rcases sw j f hj ea hm with hq | hq
    ·exact hq.u2 t hd ht
    ·exact hq.u1 t hd ht
 have Bi:∀ id,id∈e.reads→(bD st (Nat.testBit e.mask) es).obj id=(bD st D es).obj id:=by
  intro id hid
  refine Be es (fun j f hj=>?_)
  cases hm:Nat.testBit e.mask j with
  | true=>exact .inl (sv j hm).2.symm
  | false=>
   cases ea:D j with
   | false=>exact .inl rfl
   | true=>
    refine .inr (fun hd=>?_)
    rcases sw j f hj ea hm with hq | hq
    ·exact hq.t2 id hd hid
    ·exact hq.t1 id hd hid
 have later:∀ j f,i<j→dF es j=some f→∀ {t:Nat},((e.dst≠some t→False)→(fun j=>D j||j==i) j=false∨f.dst≠some t):=by
  intro j f hj iy t ht
  cases ea:D j with
  | false=>exact .inl (by first | (show (D j||j==i)=false; rw [ea]; simp; omega) | (show (false||j==i)=false; simp; omega) | (simp [ea]; omega))
  | true=>
   have hm:Nat.testBit e.mask j=false:=wU j (by omega)
   have Bj:e.dst=some t:=Classical.not_not.1 ht
   rcases sw j f iy ea hm with hq | hq
   ·exact .inr (hq.d1 t Bj)
   ·exact .inr (fun h=>hq.d1 t h Bj)
 have Bk:¬ U (st.nxt+i):=by
  intro h
  rcases I.used _ h with h | ⟨j,h1,h2,h3⟩
  ·omega
  ·have:j=i:=by omega
   subst this; rw [hi] at h2; simp at h2
 have after:∀ v w' g' U',cR g w U (st.nxt+i) e.aT v w' g' U'→K (a.put o.dst v) w':=by
  intro v w' g' U' kG
  refine hK _ _ g' U' ⟨?_,fun s h=>?_,fun j f hj ea m hm=>?_,fun s h=>kG.gh.sub s (I.sub s h),fun id ver p h1 h2=>?_⟩
  ·refine I.rel.GR (hN o (by rw [Array.mem_toList_iff]; exact Array.mem_of_getElem? (by rw [← Array.getElem?_toList]; exact ho))) kG (fun t=>?_) (fun id=>?_) (fun s h=>?_)
   ·by_cases jK:o.dst=some t
    ·rw [if_pos jK]
     show look (bD st (fun j=>D j||j==i) es).env t=_
     have fl:look (bD st (fun j=>D j||j==i) es).env t=look (bD st (fun j=>D j||j==i) (e::pre)).env t:=by
      rw [kj]
      refine GS (e::pre) fs (fun j f hj iy=>?_)
      rw [← kj] at iy
      simp only [List.length_cons] at hj
      exact later j f (by omega) iy (fun hd=>hd (by rw [hf.dst]; exact jK))
     rw [fl]
     simp only [bD,nT,beq_self_eq_true,Bool.or_true,ur]
     rw [if_pos (by rw [hf.dst]; exact jK)]
    ·rw [if_neg jK]
     refine Bd es (fun j f hj=>?_)
     by_cases eO:j=i
     ·subst eO
      rw [he] at hj
      obtain rfl:=Option.some.inj hj
      exact .inr (by rw [hf.dst]; exact jK)
     ·exact .inl (by simp [eO])
   ·show (bD st (fun j=>D j||j==i) es).obj id=_
    cases gM:look e.aT.aE id with
    | none=>
     refine Be es (fun j f hj=>?_)
     by_cases eO:j=i
     ·subst eO
      rw [he] at hj
      obtain rfl:=Option.some.inj hj
      refine .inr (fun hm=>?_)
      obtain ⟨q,hq,sa⟩:=List.mem_map.1 hm
      exact LC hq sa gM
     ·exact .inl (by simp [eO])
    | some x=>
     have fl:(bD st (fun j=>D j||j==i) es).obj id=(bD st (fun j=>D j||j==i) (e::pre)).obj id:=by
      rw [kj]
      refine GU (e::pre) fs (fun j f hj iy=>?_)
      rw [← kj] at iy
      simp only [List.length_cons] at hj
      cases ea:D j with
      | false=>exact .inl (by first | (show (D j||j==i)=false; rw [ea]; simp; omega) | (show (false||j==i)=false; simp; omega) | (simp [ea]; omega))
      | true=>
       have hm:Nat.testBit e.mask j=false:=wU j (by omega)
       have hid:id∈lV e:=List.mem_map.2 ⟨_,iN gM,rfl⟩
       rcases sw j f iy ea hm with hq | hq
       ·exact .inr (fun h=>hq.t3 id hid h)
       ·exact .inr (fun h=>hq.t3 id h hid)
     rw [fl]
     simp only [bD,nT,beq_self_eq_true,Bool.or_true,yU,gM]
   ·rcases kG.used s h with h | h
    ·have:=I.rel.used s h; exact this
    ·show s<st.nxt+es.length; omega
  ·rcases kG.used s h with h | h
   ·rcases I.used s h with h | ⟨j,h1,h2,h3⟩
    ·exact .inl h
    ·exact .inr ⟨j,h1,by simp [h2],h3⟩
   ·exact .inr ⟨i,Bh,by simp,h⟩
  ·by_cases eO:j=i
   ·subst eO
    rw [he] at hj
    obtain rfl:=Option.some.inj hj
    obtain ⟨h1,h2⟩:=sv m hm
    exact ⟨h1,by simp [h2]⟩
   ·have GV:D j=true:=by simpa [eO] using ea
    obtain ⟨h1,h2⟩:=I.sd j f hj GV m hm
    exact ⟨h1,by simp [h2]⟩
  ·rw [kG.gh.hd _ _ _ (I.sub _ h1) (I.sub _ h2),I.hd id ver p h1 h2]
 obtain ⟨runs,hg,yW⟩:=hf.act
 have TH:Region.wanted o (yielded ops a.tmps)=runs:=by
  cases pn:o.guard with
  | none=>
   rw [pn] at hg
   simp only at hg
   rw [hg]
   simp [Region.wanted,pn]
  | some gw=>
   obtain ⟨gd,want⟩:=gw
   rw [pn] at hg
   obtain ⟨d,h1,hg⟩:=hg
   rw [DT] at hg
   have hd:d∈e.lT:=hf.TF d (by simp [ya,pn,h1])
   rcases hg with ⟨b,h2,h3⟩ | ⟨h2,h3⟩
   ·have hv:a.eval (.tmp d) = .bool b:=by
     have h4:look (bD st (Nat.testBit e.mask) es).env d=some (.bool b):=by
      simp only [St.ev] at h2
      split at h2
      ·rename_i v hv; rw [hv,h2]
      ·simp at h2
     rw [yV d hd] at h4
     exact I.rel.env d _ h4
    have hy:yielded ops a.tmps gd=some b:=Km h1 hv
    rw [h3]
    simp [Region.wanted,pn,hy]
   ·have hv:a.eval (.tmp d)=undef:=by
     have h4:look (bD st (Nat.testBit e.mask) es).env d=some (.fb []):=by
      simp only [St.ev] at h2
      split at h2
      ·rename_i v hv; rw [hv,h2]
      ·simp at h2
     rw [yV d hd] at h4
     obtain ⟨l,h5,h6⟩:=I.rel.env d _ h4
     obtain rfl:=h6
     exact h5
    have hy:yielded ops a.tmps gd=none:=Kn h1 hv
    rw [h3]
    simp [Region.wanted,pn,hy]
 rw [TH]
 cases runs with
 | false=>
  have yW:e.aT=⟨.fb [],[]⟩:=yW
  simp only [Bool.false_eq_true,if_false]
  refine after undef w g (U' U (st.nxt+i)) ?_
  rw [yW]
  exact ⟨⟨fun s h=>.inl h,fun _ _ _ _ _=>rfl,fun b o hl v hv=>⟨hv,hl⟩,fun b o id p hl _=>⟨hl,rfl,rfl⟩⟩,⟨[],rfl,rfl⟩,fun id o h=>by simp [look] at h,fun s h=>h,I.rel.bB,fun b o q _ h=>by rw [h]; simp,.refl _ _,fun id h=>by simp [look] at h⟩
 | true=>
  obtain ⟨hu,kH⟩:=yW
  rw [DT] at kH
  simp only [if_true]
  have S:cB P c g w U (restrict (bD st (Nat.testBit e.mask) es) (jl o.op.operands.toList) e.reads) a:=by
   refine ⟨hc,fun t v h=>?_,fun id ob h=>?_,I.rel.bB,I.rel.u0,I.rel.ky,fun id h=>?_,I.rel.gl hG⟩
   ·rw [show (restrict (bD st (Nat.testBit e.mask) es) (jl o.op.operands.toList) e.reads).env=gg (bD st (Nat.testBit e.mask) es) (jl o.op.operands.toList) from rfl,yI] at h
    split at h
    ·rename_i ht
     rw [yV t (hu t ht)] at h
     exact I.rel.env t v h
    ·simp at h
   ·have h':(if id∈e.reads then (bD st (Nat.testBit e.mask) es).obj id else none)=some ob:=by rw [← wM]; exact h
    split at h'
    ·rename_i hid
     rw [Bi id hid] at h'
     exact I.rel.heap id ob h'
    ·simp at h'
   ·have h':(if id∈e.reads then (bD st (Nat.testBit e.mask) es).obj id else none)≠none:=by rw [← wM]; exact h
    split at h'
    ·rename_i hid
     rw [Bi id hid] at h'
     exact I.rel.nf id h'
    ·exact absurd rfl h'
  obtain ⟨aT,h1,h2⟩:=H S Bk kH
  obtain rfl:=Option.some.inj h1
  exact .inl (h2 _ _ (fun v w' g' U' hp=>after v w' g' U' hp))
def iO (D:Nat→Bool):Nat→Nat
 | 0=>0
 | n+1=>iO D n+(if D n=true then 0 else 1)
theorem GW {D:Nat→Bool} {i:Nat} (hi:D i=false):∀ n,(i<n→iO (fun j=>D j||j==i) n+1=iO D n)∧(n≤i→iO (fun j=>D j||j==i) n=iO D n)
 | 0=>⟨fun h=>by omega,fun _=>rfl⟩
 | n+1=>by
  obtain ⟨h1,h2⟩:=GW hi n
  refine ⟨fun h=>?_,fun h=>?_⟩
  ·by_cases hn:n=i
   ·subst hn
    have:=h2 (Nat.le_refl _)
    simp only [iO,this,hi]
    simp
   ·have:=h1 (by omega)
    have hb:(n==i)=false:=by simpa using hn
    simp only [iO,hb,Bool.or_false]
    omega
  ·have hb:(n==i)=false:=by simp; omega
   have:=h2 (by omega)
   simp only [iO,this,hb,Bool.or_false]
theorem yX {D:Nat→Bool} : ∀ n,iO D n=0→∀ i,i<n→D i=true
 | 0,_,i,h=>by omega
 | n+1,h0,i,h=>by
  simp only [iO] at h0
  by_cases hn:i=n
  ·subst hn
   cases hD:D i with
   | true=>rfl
   | false=>rw [hD] at h0; simp at h0
  ·exact yX n (by omega) i (by omega)
theorem GX {D:Nat→Bool} : ∀ n,iO D n≠0→∃ i,i<n∧D i=false∧∀ j,j<i→D j=true
 | 0,h=>absurd rfl h
 | n+1,h=>by
  by_cases hn:iO D n=0
  ·refine ⟨n,by omega,?_,yX n hn⟩
   simp only [iO,hn] at h
   cases hD:D n with
   | false=>rfl
   | true=>rw [hD] at h; simp at h
  ·obtain ⟨i,h1,h2,h3⟩:=GX n hn
   exact ⟨i,by omega,h2,h3⟩
theorem TI (H:uc P c) (hc:eu P c) (hG:Gl P F w0) {ops:Array Oper} (hN:∀ o∈ops.toList,∀ x,o.dst=some x→x<N) {es:List bU} (D0:lu c ops.toList st ops.toList.length es) (hp:mS es.length.pred es=true)
  {g0:Gh} {U0:Nat→Prop} {Q:Exit→Act→World→Prop}
  (hQ:∀ a' w' g' U' (D:Nat→Bool),(∀ i,i<es.length→D i=true)→Inv w0 F N g0 U0 st es D g' U' a' w'→Q .normal a' w') :
  ∀ (fuel:Nat) (listed:Array Bool) (a:Act) (w:World) (g:Gh) (U:Nat→Prop),listed.size=ops.size→iO (fun i=>listed.getD i true) ops.size≤fuel→
   Inv w0 F N g0 U0 st es (fun i=>listed.getD i true) g U a w→wpAny P .any ops Q fuel listed a w:=by
 have hlen:=D0.len
 have kj:es.length=ops.size:=by rw [hlen]; simp
 intro fuel
 have ready:∀ (listed:Array Bool) (i:Nat),i∈Region.ready .any ops listed→i<ops.size∧listed.getD i true=false∧∀ o,ops[i]? = some o→∀ e∈o.after.toList,Region.binds .any e=true→listed.getD e.on false=true:=by
  intro listed i h
  unfold Region.ready at h
  obtain ⟨h1,h2⟩:=List.mem_filter.1 h
  simp only [Bool.and_eq_true,Bool.not_eq_true'] at h2
  refine ⟨by simpa using h1,h2.1,fun o ho e he hb=>?_⟩
  have h3:=h2.2
  rw [ho] at h3
  simp only [Option.map_some,Option.getD_some] at h3
  have:=(Array.all_eq_true'.1 h3) e (by simpa using he)
  simpa [hb] using this
 have least:∀ (listed:Array Bool),listed.size=ops.size→Region.ready .any ops listed=[]→∀ i,i<ops.size→listed.getD i true=true:=by
  intro listed hs hr
  refine yX ops.size ?_
  by_cases h0:iO (fun i=>listed.getD i true) ops.size=0
  ·exact h0
  ·exfalso
   obtain ⟨i,h1,h2,h3⟩:=GX _ h0
   have bV:i∈Region.ready .any ops listed:=by
    unfold Region.ready
    refine List.mem_filter.2 ⟨by simpa using h1,?_⟩
    obtain ⟨o,ho⟩:∃ o,ops[i]? = some o:=⟨_,Array.getElem?_eq_getElem h1⟩
    have fL:ops.toList[i]? = some o:=by rw [Array.getElem?_toList]; exact ho
    obtain ⟨e,he⟩:∃ e,dF es i=some e:=⟨_,List.getElem?_eq_getElem (by simpa [kj] using h1)⟩
    obtain ⟨fs,pre,o',-,-,pj,hf⟩:=D0.at i e he
    rw [fL] at pj
    obtain rfl:=Option.some.inj pj
    simp only [h2,Bool.not_false,Bool.true_and,ho,Option.map_some,Option.getD_some]
    refine Array.all_eq_true'.2 (fun ed yT=>?_)
    cases hb:Region.binds .any ed with
    | false=>rfl
    | true=>
     have ao:=GQ hf.Lx ed (by simpa using yT) hb
     have:=h3 ed.on ao
     simp only [Bool.not_true,Bool.false_or]
     have GY:ed.on<listed.size:=by omega
     simpa [Array.getD_eq_getD_getElem?,Array.getElem?_eq_getElem GY] using this
   rw [hr] at bV
   simp at bV
 induction fuel with
 | zero=>
  intro listed a w g U hs Bl I
  have eM:=yX ops.size (Nat.le_zero.1 Bl)
  refine ⟨?_,hQ a w g U _ (fun i hi=>eM i (by omega)) I⟩
  cases hr:Region.ready .any ops listed with
  | nil=>rfl
  | cons i l=>
   obtain ⟨h1,h2,-⟩:=ready listed i (by rw [hr]; simp)
   rw [eM i h1] at h2
   simp at h2
 | succ fuel ih=>
  intro listed a w g U hs Bl I
  refine ⟨fun hr=>hQ a w g U _ (fun i hi=>least listed hs hr i (by omega)) I,fun i hi=>?_⟩
  obtain ⟨h1,h2,h3⟩:=ready listed i hi
  obtain ⟨o,ho⟩:∃ o,ops[i]? = some o:=⟨_,Array.getElem?_eq_getElem h1⟩
  unfold wpOp
  rw [ho]
  simp only
  have jG:∀ j,(listed.setIfInBounds i true).getD j true=(listed.getD j true||j==i):=by
   intro j
   simp only [Array.getD_eq_getD_getElem?,Array.getElem?_setIfInBounds]
   by_cases eO:i=j
   ·subst eO
    rw [if_pos rfl]
    simp [hs,h1]
   ·rw [if_neg eO]
    have:(j==i)=false:=by simp; exact fun e=>eO e.symm
    rw [this,Bool.or_false]
  have fL:ops.toList[i]? = some o:=by rw [Array.getElem?_toList]; exact ho
  refine TG H hc hG hN D0 hp fL h2 (fun e he hb=>?_) I (fun a' w' g' U' I'=>ih _ a' w' g' U' (by simp [hs]) ?_ ?_)
  ·have hf:=h3 o ho e he hb
   simp only [Array.getD_eq_getD_getElem?] at hf ⊢
   cases hx:listed[e.on]? with
   | none=>rfl
   | some b=>rw [hx] at hf; exact hf
  ·have:=(GW (D:=fun j=>listed.getD j true) h2 ops.size).1 h1
   have e:(fun j=>(listed.setIfInBounds i true).getD j true)=(fun j=>listed.getD j true||j==i):=funext jG
   rw [e]; omega
  ·have e:(fun j=>(listed.setIfInBounds i true).getD j true)=(fun j=>listed.getD j true||j==i):=funext jG
   rw [e]; exact I'
theorem GZ {g0:Gh} {U0:Nat→Prop} (dE:∀ s,U0 s→U s) (cJ:∀ id ver p,U0 (id / 1024)→U0 ver→g.hd id ver p=g0.hd id ver p) (h0:U0 0):∀ (es:List bU),Ext g0 U0 st g U (jD st es)
 | []=>⟨dE,Nat.le_refl _,⟨[],rfl,fun _ _=>.inr rfl⟩,⟨[],rfl,fun _ _=>.inr ⟨rfl,fun ver p h1 h2=>cJ _ _ _ h1 h2⟩⟩,fun i _ h=>cJ _ _ _ h h0⟩
 | e::es=>by
  obtain ⟨x1,x2,⟨l,x3,x4⟩,⟨m,x5,x6⟩,x7⟩:=GZ dE cJ h0 es
  refine ⟨dE,Nat.le_succ_of_le x2,⟨(match e.dst with | some x=>[x] | none=>[])++l,?_,fun t ht=>?_⟩,⟨lV e++m,?_,fun id hid=>?_⟩,x7⟩
  ·show (match e.dst with | some d=>d::(jD st es).et | none=>(jD st es).et)=_
   rw [x3]
   cases e.dst<;>rfl
  ·simp only [List.mem_append,not_or] at ht
   show look ((jD st es).put e.dst e.aT).env t=none∨look ((jD st es).put e.dst e.aT).env t=_
   rw [ur,if_neg]
   ·exact x4 t ht.2
   ·intro hd
    rw [hd] at ht
    simp at ht
  ·show lV e++(jD st es).ht=_
   rw [x5,List.append_assoc]
  ·simp only [List.mem_append,not_or] at hid
   show ((jD st es).put e.dst e.aT).obj id=none∨(((jD st es).put e.dst e.aT).obj id=_∧_)
   rw [yU,AO hid.1]
   exact x6 id hid.2
theorem G_:∀ es:List bU,(jD st es).nxt=st.nxt+es.length
 | []=>rfl
 | e::es=>by
  show (jD st es).nxt+1=_
  rw [G_ es]
  simp only [List.length_cons]; omega
theorem LD (hm:P.follows .mixedOrders=true) (H:uc P c) (hc:eu P c) {ρ:Type} {r:ρ} {w0:World} {F:bt} {N:Nat} (id:Nat) (ops:Array Oper) (st:St) (a:Act) (w:World) (g:Gh) (U:Nat→Prop)
  (k:St→Option ρ) (Q:Exit→Act→World→Prop) (hN:∀ o∈ops.toList,∀ x,o.dst=some x→x<N) (hG:Gl P F w0) (R:Rel w0 F N g U st a w) (e:we c ops st k=some r)
  (hQ:∀ st' a' w' g' U',Rel w0 F N g' U' st' a' w'→Ext g U st g' U' st'→k st'=some r→Q .normal a' w'):(Code.region id ops true).wp P Q a w:=by
 have e:rF c ops.toList st ops.toList 0 [] (fun es=>match mS (ops.toList.length-1) es with | true=>k (jD st es) | false=>none)=some r:=e
 obtain ⟨es,D0,e⟩:=DQ ops.toList 0 [] _ .nil rfl e
 have hlen:=D0.len
 split at e
 ·rename_i hp
  have hp:mS es.length.pred es=true:=by rw [hlen]; exact hp
  have Rd:Rel w0 F N g U st a { w with drawn:=w.drawn+1 }:=R.drawn
  refine wp_region_any hm (TI (w0:=w0) (F:=F) (N:=N) H hc hG hN D0 hp (g0:=g) (U0:=U) (fun a' w' g' U' D hD I=>?_) ops.size _ a _ g U (by simp) ?_ ⟨?_,fun s h=>.inl (R.used s h),fun i f hf hi=>?_,fun s h=>h,fun _ _ _ _ _=>rfl⟩)
  ·have eM:=GM (st0:=st) es hD
   refine hQ (jD st es) a' w' g' U' (I.rel.same (fun t=>by rw [eM]) (fun id=>by rw [eM]; rfl) (fun s hs=>?_)) (GZ I.sub I.hd R.u0 es) e
   rw [G_]
   exact I.rel.used s hs
  ·have:∀ (D:Nat→Bool) n,iO D n≤n:=by
    intro D n
    induction n with
    | zero=>exact Nat.le_refl _
    | succ n ih=>simp only [iO]; split<;>omega
   exact this _ _
  ·have G0:∀ fX:List bU,fX.length≤ops.size→bD st (fun i=>(Array.replicate ops.size false).getD i true) fX=st:=by
    intro fX
    induction fX with
    | nil=>intro _; rfl
    | cons f fX ih=>
     intro hl
     simp only [List.length_cons] at hl
     have ao:fX.length<ops.size:=by omega
     have hb:(Array.replicate ops.size false).getD fX.length true=false:=by
      simp [Array.getD_eq_getD_getElem?,ao]
     simp only [bD,hb]
     exact ih (by omega)
   have cI:=G0 es (by rw [hlen]; simp)
   refine Rd.same (fun t=>by rw [cI]) (fun id=>by rw [cI]; rfl) (fun s hs=>?_)
   have:=R.used s hs
   show s<st.nxt+es.length
   omega
  ·exfalso
   have ao:i<ops.size:=by
    have:=(List.getElem?_eq_some_iff.1 hf).1
    simp only [List.length_reverse,hlen] at this
    simpa using this
   have hb:(Array.replicate ops.size false).getD i true=false:=by
    simp [Array.getD_eq_getD_getElem?,ao]
   rw [hb] at hi; simp at hi
 ·simp at e
theorem uw (hm:P.follows .mixedOrders=true) (H:uc P c) (hc:eu P c) (h0:rI c=none:=by rfl):wN P c:=by
 intro ρ r w0 F N id ops draw st a w g U k Q hN hG R e hQ
 cases draw with
 | false=>exact wp_region_list (Dn H hc hG hN ops.toList st a w g U k (fun o h=>h) R e hQ)
 | true=>
  have e:(match rI c with | none=>we c ops st k | some T=>match Aa ops.toList with | none=>we c ops st k | some mf=>match Ac T ops.toList mf with | true=>Ae c mf ops.toList st k | false=>none)=some r:=e
  rw [h0] at e
  exact LD hm H hc id ops st a w g U k Q hN hG R e hQ
end
end Go.Am
namespace Go.Am
open Go
def G1:af→Value→Bool
 | .int k n,.int l m=>ku k l&&(n==m)
 | .bool b,.bool c=>b==c
 | .str [],.string s=>s.data.toList.isEmpty
 | .err true,.nilIface=>true
 | .nil,.slice none 0 0=>true
 | .oX,.pointer none=>true
 | .pZ,.nilFunc=>true
 | .undef,_=>true
 | _,_=>false
def yY:List af→List Value→Bool
 | [],vs=>vs.isEmpty
 | a::as,vs=>match vs with
  | []=>false
  | v::vs=>G1 a v&&yY as vs
theorem TJ {g:Gh} {w:World} {U:Nat→Prop} {a:af} {v:Value} (h:G1 a v=true):ay g w U a v:=by
 unfold G1 at h
 split at h
 ·simp only [Bool.and_eq_true,beq_iff_eq] at h
  obtain ⟨h1,rfl⟩:=h
  obtain rfl:=lP h1
  rfl
 ·simp only [beq_iff_eq] at h; subst h; rfl
 ·rename_i d
  show Value.string d = .string ⟨([]:List UInt8).toArray⟩
  obtain ⟨⟨l⟩⟩:=d
  cases l with
  | nil=>rfl
  | cons a l=>simp at h
 ·rfl
 ·rfl
 ·rfl
 ·rfl
 ·trivial
 ·simp at h
theorem LF {g:Gh} {w:World} {U:Nat→Prop} : ∀ {as:List af} {vs:List Value},yY as vs=true→bK g w U as vs
 | [],vs,h=>by
  cases vs with
  | nil=>rfl
  | cons v vs=>simp [yY] at h
 | a::as,vs,h=>by
  cases vs with
  | nil=>simp [yY] at h
  | cons v vs=>
   simp only [yY,Bool.and_eq_true] at h
   exact ⟨v,vs,rfl,TJ h.1,LF h.2⟩
def yZ:List Field→List (Nat×Nat)→Bool
 | [],l=>l.isEmpty
 | f::fs,l=>match l with
  | []=>false
  | p::l=>Nat.beq f.offset p.1&&Nat.beq f.type p.2&&yZ fs l
theorem LG:∀ {fs:List Field} {l:List (Nat×Nat)},yZ fs l=true→fs.map (fun f=>(f.offset,f.type))=l
 | [],l,h=>by cases l with | nil=>rfl | cons=>simp [yZ] at h
 | f::fs,l,h=>by
  cases l with
  | nil=>simp [yZ] at h
  | cons p l=>
   simp only [yZ,Bool.and_eq_true] at h
   obtain ⟨⟨h1,h2⟩,h3⟩:=h
   rw [List.map_cons,LG h3,Nat.eq_of_beq_eq_true h1,Nat.eq_of_beq_eq_true h2]
def LH (k:TK) (elem:Nat) (fields:List (Nat×Nat)) (d:TypeDesc):Bool:=match k,d with
 | .int k,.int l=>ku k l
 | .str,.string=>true
 | .bool,.bool=>true
 | .iface,.interface _=>true
 | .slice,.slice e=>Nat.beq e elem
 | .struct,.struct fs=>yZ fs.toList fields
 | .other,_=>true
 | _,_=>false
def y_:List af→List af→Bool
 | [],l=>l.isEmpty
 | a::as,l=>match l with
  | []=>false
  | b::bs=>(match a,b with
   | .int k n,.int l m=>ku k l&&(n==m)
   | .bool b,.bool c=>b==c
   | .str [],.str []=>true
   | .err a,.err b=>a==b
   | .nil,.nil=>true
   | _,_=>false)&&y_ as bs
theorem LI:∀ {as bs:List af},y_ as bs=true→as=bs
 | [],l,h=>by cases l with | nil=>rfl | cons=>simp [y_] at h
 | a::as,l,h=>by
  cases l with
  | nil=>simp [y_] at h
  | cons b bs=>
   simp only [y_,Bool.and_eq_true] at h
   rw [LI h.2]
   have h:=h.1
   congr 1
   split at h
   ·simp only [Bool.and_eq_true,beq_iff_eq] at h
    rw [lP h.1,h.2]
   ·simp only [beq_iff_eq] at h; rw [h]
   ·rfl
   ·simp only [beq_iff_eq] at h; rw [h]
   ·rfl
   ·simp at h
def DU (P:Program):Nat→List Field→Bool
 | _,[]=>true
 | n,f::fs=>Nat.beq f.offset n&&!(f.name== "_")&&(match P.underlying f.type with | some (.int _)=>true | _=>false)&&DU P (n+1) fs
theorem LJ {P:Program} : ∀ (fs:List Field) (m:Nat),DU P m fs=true→∀ (n:Nat) (f:Field),fs[n]? = some f→f.offset=m+n∧f.name≠ "_" ∧∃ kk,P.underlying f.type=some (.int kk)
 | [],m,h,n,f,hf=>by simp at hf
 | g::fs,m,h,n,f,hf=>by
  simp only [DU,Bool.and_eq_true] at h
  obtain ⟨⟨⟨h1,h2⟩,h3⟩,h4⟩:=h
  cases n with
  | zero=>
   simp only [List.getElem?_cons_zero,Option.some.injEq] at hf
   subst hf
   refine ⟨Nat.eq_of_beq_eq_true h1,by simpa using h2,?_⟩
   split at h3
   ·rename_i k hk; exact ⟨k,hk⟩
   ·simp at h3
  | succ n=>
   obtain ⟨a1,a2⟩:=LJ fs (m+1) h4 n f (by simpa using hf)
   exact ⟨by omega,a2⟩
def Bm (P:Program) (t:Nat) (i:j5):Bool:=
 (match P.info? t with
  | some ti=>Nat.beq ti.size i.size&&Nat.beq ti.bytes i.bytes&&(match ti.zero with | some z=>Nat.beq z.cells.size i.size&&yY i.zero z.cells.toList | none=>false)
  | none=>false)&&
 (match i.ty with | some T=>y_ i.zero (wm T)&&Nat.beq i.size T.size | none=>true)&&
 (match P.underlying t with
  | some d=>LH i.kind i.elem i.fields d&&(i.agg==(match d with | .struct _=>true | .array _ _=>true | _=>false))
  | none=>false)&&
 (match i.eq with
  | false=>true
  | true=>!(P.stoodInHeld t)&&!(P.eqGuardType P.depth t)&&(match P.underlying t with | some (.struct fs)=>Nat.beq fs.size i.fields.length&&DU P 0 fs.toList | _=>false))
theorem TL {P:Program} {t:Nat} {i:j5} (h:Bm P t i=true):kz P t i:=by
 unfold Bm at h
 simp only [Bool.and_eq_true] at h
 obtain ⟨⟨⟨h1,h2⟩,h3⟩,h4⟩:=h
 refine ⟨?_,fun T hT=>?_,?_,fun he=>?_⟩
 ·split at h1
  ·rename_i ti lf
   simp only [Bool.and_eq_true] at h1
   obtain ⟨⟨a1,a2⟩,a3⟩:=h1
   split at a3
   ·rename_i z hz
    simp only [Bool.and_eq_true] at a3
    exact ⟨ti,lf,Nat.eq_of_beq_eq_true a1,Nat.eq_of_beq_eq_true a2,z,hz,Nat.eq_of_beq_eq_true a3.1,fun g w U=>LF a3.2⟩
   ·simp at a3
  ·simp at h1
 ·rw [hT] at h2
  simp only [Bool.and_eq_true] at h2
  exact ⟨LI h2.1,Nat.eq_of_beq_eq_true h2.2⟩
 ·split at h3
  ·rename_i d hd
   simp only [Bool.and_eq_true,beq_iff_eq] at h3
   refine ⟨d,hd,?_,h3.2⟩
   have h3:=h3.1
   revert h3
   cases i.kind<;>cases d<;>intro h3<;>simp only [LH] at h3<;>first
    | exact absurd h3 Bool.false_ne_true
    | trivial
    | (rw [lP h3])
    | (rw [Nat.eq_of_beq_eq_true h3])
    | exact ⟨_,rfl⟩
    | exact ⟨_,rfl,LG h3⟩
  ·simp at h3
 ·rw [he] at h4
  simp only [Bool.and_eq_true,Bool.not_eq_true'] at h4
  obtain ⟨⟨a1,a2⟩,a3⟩:=h4
  split at a3
  ·rename_i fs tR
   simp only [Bool.and_eq_true] at a3
   refine ⟨a1,a2,fs,tR,Nat.eq_of_beq_eq_true a3.1,fun n f hf=>?_⟩
   obtain ⟨b1,b2⟩:=LJ fs.toList 0 a3.2 n f hf
   exact ⟨by omega,b2⟩
  ·simp at a3
theorem dM {P:Program} {c:aP} (h:(c.aV.all fun p=>Bm P p.1 p.2)=true):eu P c:=by
 intro t i hl
 exact TL (List.all_eq_true.1 h _ (iN hl))
end Go.Am
namespace Go.Am
open Go Go.WideShapes Go.RowKit
def wV (P:Program) (f:TypeId→Ty→Bool):List Field→Nat→Ty→Bool
 | [],_,_=>false
 | [x],off,T=>Nat.beq x.offset off&&f x.type T&&Nat.beq (P.cellsOf x.type) T.size
 | x::y::l,off,T=>match T with
  | .pair a b=>Nat.beq x.offset off&&f x.type a&&Nat.beq (P.cellsOf x.type) a.size&&wV P f (y::l) (off+a.size) b
  | _=>false
def lv (P:Program):Nat→TypeId→Ty→Bool
 | 0,_,_=>false
 | n+1,t,.int k=>match P.underlying t with | some (.int l)=>ku k l | _=>false
 | n+1,t,.bool=>match P.underlying t with | some .bool=>true | _=>false
 | n+1,t,.str=>match P.underlying t with | some .string=>true | _=>false
 | n+1,t,.sl u=>match P.underlying t with | some (.slice e)=>lv P n e u&&Nat.beq (P.cellsOf e) u.size | _=>false
 | n+1,t,.pair a b=>match P.underlying t with | some (.struct fs)=>wV P (lv P n) fs.toList 0 (.pair a b)&&Nat.beq (P.cellsOf t) (Ty.pair a b).size | _=>false
 | _+1,_,_=>false
def po:(t:Ty)→t.T→Prop
 | .int k,n=>(Lit.int k n).wf=true
 | .bool,_=>True
 | .str,s=>(s:List UInt8).length≤maxLen
 | .err,_=>True
 | .pair a b,x=>po a x.1∧po b x.2
 | .sl t,xs=>let ys:List t.T:=xs; ys.length≤maxLen∧∀ x∈ys,po t x
 | .bh _,_=>True
section
variable {H:Type} {enc:TypeId×Value→H} {P:Program} {w:World} {held:Bool} {g:Gh}
abbrev L0:bt:=fun _ _=>none
theorem TM (a:Addr) (i k:Nat):a.add (i+k)=(a.add i).add k:=by
 unfold Addr.add
 by_cases hi:i=0
 ·subst hi; simp
 ·by_cases hk:k=0
  ·subst hk; simp [hi]
  ·simp [hi,hk,Nat.add_assoc]
theorem TN {α:Type} (n:Nat) (p:Nat→α→Prop) (h:∀ i,i<n→∃ x,p i x):∃ xs:List α,xs.length=n∧∀ i (hi:i<xs.length),p i xs[i]:=by
 induction n with
 | zero=>exact ⟨[],rfl,fun i hi=>by simp at hi⟩
 | succ n ih=>
  obtain ⟨xs,h1,h2⟩:=ih (fun i hi=>h i (by omega))
  obtain ⟨x,hx⟩:=h n (by omega)
  refine ⟨xs++[x],by simp [h1],fun i hi=>?_⟩
  by_cases ao:i<xs.length
  ·rw [List.getElem_append_left ao]; exact h2 i ao
  ·have:i=n:=by simp at hi; omega
   subst this
   rw [List.getElem_append_right (by omega)]
   simpa [h1] using hx
theorem LK {f:TypeId→Ty→Bool} {n:Nat} {cs:List Value} (hf:∀ t T c_ x,f t T=true→DataW.trod enc P w 0 (fun _=>true) held n t c_=some x→
   ∃ d:T.T,c_.length=T.size∧(∀ q i j,ca g L0 w false bC T q i j d (fun k=>c_[k]?))∧po T d) :
  ∀ (fs:List Field) (off:Nat) (T:Ty) (xs:List (DataW H×List MemPlace)),wV P f fs off T=true→off+T.size≤cs.length→
   (∀ (i:Nat) (fd:Field),fs[i]? = some fd→∃ x,DataW.trod enc P w 0 (fun _=>true) held n fd.type ((cs.drop fd.offset).take (P.cellsOf fd.type))=some x)→
   ∃ d:T.T,(∀ q i j,ca g L0 w false bC T q i j d (fun k=>cs[off+k]?))∧po T d
 | [],off,T,xs,h,hl,hx=>by simp [wV] at h
 | [fd],off,T,xs,h,hl,hx=>by
  simp only [wV,Bool.and_eq_true] at h
  obtain ⟨⟨h1,h2⟩,h3⟩:=h
  obtain ⟨x,hx⟩:=hx 0 fd rfl
  obtain ⟨d,a1,a2,a3⟩:=hf _ _ _ _ h2 hx
  refine ⟨d,fun q i j=>gi T q i j d _ _ (fun k hk=>?_) (a2 q i j),a3⟩
  rw [List.getElem?_take,Nat.eq_of_beq_eq_true h3,if_pos hk,List.getElem?_drop,Nat.eq_of_beq_eq_true h1]
 | fd::fe::fs,off,T,xs,h,hl,hx=>by
  cases T with
  | pair a b=>
   simp only [wV,Bool.and_eq_true] at h
   obtain ⟨⟨⟨h1,h2⟩,h3⟩,h4⟩:=h
   simp only [Ty.size] at hl
   obtain ⟨x,qp⟩:=hx 0 fd rfl
   obtain ⟨d,a1,a2,a3⟩:=hf _ _ _ _ h2 qp
   obtain ⟨d2,b1,b2⟩:=LK hf (fe::fs) (off+a.size) b [] h4 (by omega) (fun i TO hi=>hx (i+1) TO (by simpa using hi))
   refine ⟨(d,d2),fun q i j=>⟨gi a q i j d _ _ (fun k hk=>?_) (a2 q i j),gi b q i _ d2 _ _ (fun k hk=>?_) (b1 q i (j+a.size))⟩,a3,b2⟩
   ·rw [List.getElem?_take,Nat.eq_of_beq_eq_true h3,if_pos hk,List.getElem?_drop,Nat.eq_of_beq_eq_true h1]
   ·rw [Nat.add_assoc]
  | _=>simp [wV] at h
theorem G2:∀ (m:Nat) (t:TypeId) (T:Ty),lv P m t T=true→∀ (n:Nat) (cs:List Value) (x:DataW H×List MemPlace),DataW.trod enc P w 0 (fun _=>true) held n t cs=some x→
  ∃ d:T.T,cs.length=T.size∧(∀ q i j,ca g L0 w false bC T q i j d (fun k=>cs[k]?))∧po T d
 | 0,t,T,h=>by simp [lv] at h
 | m+1,t,.int k,h=>by
  simp only [lv] at h
  split at h
  ·rename_i l hu
   obtain rfl:=lP h
   intro n cs x hx
   obtain ⟨v,rfl,rfl,hw⟩:=DataW.trod_int hu hx
   exact ⟨v,rfl,fun _ _ _=>rfl,hw⟩
  ·simp at h
 | m+1,t,.bool,h=>by
  simp only [lv] at h
  split at h
  ·rename_i hu
   intro n cs x hx
   obtain ⟨v,rfl,rfl⟩:=DataW.trod_bool hu hx
   exact ⟨v,rfl,fun _ _ _=>rfl,trivial⟩
  ·simp at h
 | m+1,t,.str,h=>by
  simp only [lv] at h
  split at h
  ·rename_i hu
   intro n cs x hx
   obtain ⟨v,rfl,rfl,hw⟩:=DataW.trod_string hu hx
   refine ⟨v.data.toList,rfl,fun _ _ _=>?_,by simpa [po] using hw⟩
   obtain ⟨⟨l⟩⟩:=v
   rfl
  ·simp at h
 | m+1,t,.sl u,h=>by
  simp only [lv] at h
  split at h
  ·rename_i e hu
   simp only [Bool.and_eq_true] at h
   obtain ⟨h1,h2⟩:=h
   have h2:=Nat.eq_of_beq_eq_true h2
   intro n cs x hx
   rcases DataW.trod_slice hu hx with ⟨rfl,-⟩ | ⟨a,len,cap,elems,rest,n',rfl,rfl,rfl,hb,hl,hm,hlen,AI,-⟩
   ·exact ⟨([]:List u.T),rfl,fun _ _ _=>⟨_,rfl,none,0,0,rfl,rfl,Nat.le_refl _,fun _=>rfl,fun h=>absurd rfl h⟩,Nat.zero_le _,fun x hx=>absurd hx (by simp)⟩
   ·have each:∀ i,i<len→∃ d:u.T,(∀ k,k<u.size→∃ v,w.cell? (a.add (i*u.size+k))=some v)∧(∀ q i' j,ca g L0 w false bC u q i' j d (fun k=>w.cell? (a.add (i*u.size+k))))∧po u d:=by
     intro i hi
     have hx:=AI i hi
     have ao:i<elems.length:=by omega
     rw [List.getElem?_eq_getElem ao,h2] at hx
     obtain ⟨c_,hc,ht⟩:=Option.bind_eq_some_iff.1 hx
     obtain ⟨-,c1,c2⟩:=World.cells?_some hc
     obtain ⟨d,d1,d2,d3⟩:=G2 m e u h1 n' c_ _ ht
     have kE:∀ k,k<u.size→w.cell? (a.add (i*u.size+k))=c_[k]?:=fun k hk=>by
      rw [← c2 k hk]
      congr 1
      exact TM a _ _
     refine ⟨d,fun k hk=>?_,fun q i' j=>gi u q i' j d _ _ (fun k hk=>kE k hk) (d2 q i' j),d3⟩
     rw [kE k hk]
     exact ⟨_,List.getElem?_eq_getElem (by omega)⟩
    obtain ⟨ds,e1,e2⟩:=TN len _ each
    refine ⟨ds,rfl,fun _ _ _=>⟨_,rfl,some a,len,cap,rfl,e1.symm,hl,by simp,fun av=>?_⟩,by show ds.length≤maxLen; omega,fun x hx=>?_⟩
    ·have fM:0<ds.length:=List.length_pos_iff.2 av
     have DV:a.spot=none:=by
      obtain ⟨v,hv⟩:=(e2 0 fM).1 0 u.size_pos
      unfold World.cell? at hv
      split at hv
      ·split at hv
       ·simp at hv
       ·rename_i hs; simpa [Addr.add] using hs
      ·simp at hv
     have ha:∀ k,a.add k=ad a.block (a.off+k):=fun k=>by
      obtain ⟨b,o,s⟩:=a
      simp only at DV
      subst DV
      exact Addr.add_lit _ _ _
     have C5:a=ad a.block a.off:=by
      obtain ⟨b,o,s⟩:=a
      simp only at DV
      subst DV
      rfl
     refine ⟨a.block,a.off,by rw [← C5],fun i hi=>?_⟩
     refine ym (g:=g) (L:=L0) (σ:=bC) u [] 0 0 _ a.block (a.off+i*u.size) (fun _ _=>rfl) ?_
     refine gi u [] 0 0 _ _ _ (fun k hk=>?_) ((e2 i hi).2.1 [] 0 0)
     rw [ha,Nat.add_assoc]
    ·obtain ⟨i,hi,rfl⟩:=List.getElem_of_mem hx
     exact (e2 i hi).2.2
  ·simp at h
 | m+1,t,.pair a b,h=>by
  simp only [lv] at h
  split at h
  ·rename_i fs hu
   simp only [Bool.and_eq_true] at h
   obtain ⟨h1,h2⟩:=h
   intro n cs x hx
   obtain ⟨xs,n',rfl,rfl,hl,hlen,AI⟩:=DataW.trod_struct hu hx
   have Ag:cs.length=(Ty.pair a b).size:=by rw [hl,Nat.eq_of_beq_eq_true h2]
   obtain ⟨d,d1,d2⟩:=LK (g:=g) (cs:=cs) (fun t T c_ x hb hx=>G2 m t T hb n' c_ x hx) fs.toList 0 (.pair a b) [] h1 (by omega) (fun i fd hi=>by
    have mW:fs[i]? = some fd:=by simpa using hi
    have:=AI i fd mW
    have ao:i<xs.length:=by
     have:=(Array.getElem?_eq_some_iff.1 mW).1
     omega
    exact ⟨xs[i],by rw [this,List.getElem?_eq_getElem ao]⟩)
   exact ⟨d,Ag,fun q i j=>gi (.pair a b) q i j d _ _ (fun k hk=>by rw [Nat.zero_add]) (d1 q i j),d2⟩
  ·simp at h
 | m+1,t,.err,h=>by simp [lv] at h
 | m+1,t,.bh u,h=>by simp [lv] at h
theorem TP {m : Nat} {t : TypeId} {T : Ty} (hT : lv P m t T = true) {v : Value} {d : DataW H} {ps : List MemPlace} {W0 : World} {base : Nat} (bb : Value.okWide P W0 .any base t v) (h : DataW.Trod enc P w 0 (fun _ => true) held t v d ps) (U : Nat → Prop) :
    ∃ x : T.T, ay ⟨fun _ _ _ => c8, L0⟩ w U (shut T (flat j4 T x 0)) v ∧ po T x := by
  obtain ⟨n, h⟩ := h
  obtain ⟨x, h1, h2, h3⟩ := G2 (g := ⟨fun _ _ _ => c8, L0⟩) m t T hT n _ _ h
  refine ⟨x, AR (f := fun k => v.cells.toList[k]?) ?_ (gZ _ _ _ _) (AT (fun _ _ h => h) T [] 0 0 0 x _ (h2 [] 0 0)), h3⟩
  cases T with
  | pair a b =>
    have aX : 2 ≤ (Ty.pair a b).size := by
      have := a.size_pos; have := b.size_pos; simp [Ty.size]; omega
    cases v with
    | agg cs =>
      exact ⟨cs.toList, by simp, h1, rfl⟩
    | _ => simp only [Value.cells, List.size_toArray, Array.toList, List.length_singleton] at h1; omega
  | _ =>
    have wW : ∀ cs, v ≠ .agg cs := by
      cases m with
      | zero => simp [lv] at hT
      | succ m =>
        simp only [lv] at hT
        first
          | exact absurd hT Bool.false_ne_true
          | (split at hT
             · rename_i hu
               first
                 | (obtain ⟨_, rfl⟩ := okWide_int hu bb; intro cs h; simp at h; done)
                 | (obtain ⟨_, rfl⟩ := okWide_bool hu bb; intro cs h; simp at h; done)
                 | (obtain ⟨_, rfl⟩ := okWide_string hu bb; intro cs h; simp at h; done)
                 | (obtain ⟨_, _, _, rfl⟩ := okWide_slice hu bb; intro cs h; simp at h; done)
             · simp at hT)
    cases v with
    | agg cs => exact absurd rfl (wW cs)
    | _ => rfl
def pq (P:Program):List (Nat×ar)→Prop
 | []=>True
 | (k,m)::l=>(Sound P (vY k) m∧cG P (vY k))∧pq P l
theorem A3.of {c:aP} (h:pq P c.calls) (hp:DF P c:=by exact Go.Am.Gr rfl):A3 P c:=by
 refine ⟨?_,hp⟩
 intro f m hm
 revert h hm
 generalize c.calls=l
 intro h hm
 induction l with
 | nil=>simp at hm
 | cons p l ih=>
  rcases List.mem_cons.1 hm with e | e
  ·rw [← e] at h; exact h.1
  ·exact ih h.2 e
def sA (P:Program):List (Nat×bS)→Prop
 | []=>True
 | p::l=>(qB P p.1 p.2∧cG P p.1)∧sA P l
theorem DN.of {c:aP} (h:sA P c.p7):DN P c:=by
 intro f m hm
 revert h hm
 generalize c.p7=l
 intro h hm
 induction l with
 | nil=>simp at hm
 | cons p l ih=>
  rcases List.mem_cons.1 hm with e | e
  ·rw [← e] at h; exact h.1
  ·exact ih h.2 e
def G3:(ps:List PK)→fT ps→Prop
 | [],_=>True
 | .val t::ps,x=>po t x.1∧G3 ps x.2
 | _::_,_=>False
def ux (P:Program):List TypeId→List PK→Bool
 | [],[]=>true
 | t::ts,.val T::ps=>lv P 20 t T&&ux P ts ps
 | _,_=>false
theorem LL:∀ (ts:List TypeId) (ps:List PK) (vs:List Value) (ds:List (DataW H)) (p:List MemPlace) (i:Nat),ux P ts ps=true→DataW.TrodAll enc P w 0 (fun _=>true) held ts vs ds p→
  (∀ (j:Nat) t v,ts[j]? = some t→vs[j]? = some v→∃ W0 base,Value.okWide P W0 .any base t v)→
  ∃ x:fT ps,bK ⟨fun _ _ _=>c8,L0⟩ w eZ ((entry i ps x).1.map (·.2)) vs∧G3 ps x∧(entry i ps x).2=[]
 | [],ps,vs,ds,p,i,hb,h,bb=>by
  cases ps with
  | cons q ps=>simp [ux] at hb
  | nil=>
   cases vs with
   | nil=>exact ⟨(),rfl,trivial,rfl⟩
   | cons v vs=>exact absurd h (by cases ds<;>simp [DataW.TrodAll])
 | t::ts,ps,vs,ds,p,i,hb,h,bb=>by
  cases ps with
  | nil=>simp [ux] at hb
  | cons q ps=>
   cases q with
   | val T=>
    simp only [ux,Bool.and_eq_true] at hb
    cases vs with
    | nil=>exact absurd h (by cases ds<;>simp [DataW.TrodAll])
    | cons v vs=>
     cases ds with
     | nil=>exact absurd h (by simp [DataW.TrodAll])
     | cons d ds=>
      obtain ⟨p1,q1,h1,h2,-⟩:=h
      obtain ⟨W0,base,TQ⟩:=bb 0 t v rfl rfl
      obtain ⟨x,x1,x2⟩:=TP hb.1 TQ h1 eZ
      obtain ⟨y,y1,y2,y3⟩:=LL ts ps vs ds q1 (i+1) hb.2 h2 (fun j t v a b=>bb (j+1) t v (by simpa using a) (by simpa using b))
      exact ⟨(x,y),⟨v,vs,rfl,x1,y1⟩,⟨x2,y2⟩,y3⟩
   | _=>simp [ux] at hb
theorem TR {f:FuncId} {ps:List PK} {F:Nat→fT ps→Option (bz (RK.aV [RK.val .bool]++PK.outs ps))} (hS:∀ n,Sound P f ⟨ps,[.val .bool],F n⟩) (bb:tN ps [.val .bool]=true)
  (TS:∀ x,G3 ps x→∃ n y,F n x=some y∧(eJ 20 0 [RK.val .bool] (PK.outs ps) y).1=[.bool true])
  {ts:List TypeId} {vs:List Value} {ds:List (DataW H)} {p:List MemPlace} (hT:ux P ts ps=true) (h:DataW.TrodAll enc P w 0 (fun _=>true) held ts vs ds p)
  (hw:∀ (j:Nat) t v,ts[j]? = some t→vs[j]? = some v→∃ W0 base,Value.okWide P W0 .any base t v) (hG:Gl P L0 w) :
  Calls P f vs.toArray w fun e w'=>e = .returned (.bool true)∧Below w.heap.size w w':=by
 obtain ⟨x,x1,x2,x3⟩:=LL ts ps vs ds p 0 hT h hw
 obtain ⟨n,y,y1,y2⟩:=TS x x2
 refine Calls.mono (hS n x y y1 bb 20 (Nat.le_refl _) ⟨fun _ _ _=>c8,L0⟩ w vs ⟨x1,fun id o h=>?_,fun b o q h=>by simp [L0] at h⟩ hG) (fun e w' h=>?_)
 ·have h:look (entry 0 ps x).2 id=some (some o):=h
  rw [x3] at h
  simp [look] at h
 ·obtain ⟨v,g',rfl,E⟩:=h
  have hv:=E.val
  rw [y2] at hv
  obtain rfl:v = .bool true:=hv
  exact ⟨rfl,E.fr.os,E.fr.tape,E.fr.output,E.fr.size,fun k hk=>E.fr.block k hk (fun o ⟨id,p,h,_⟩=>by simp [L0] at h)⟩
end
end Go.Am
namespace Go.Am
open Go
theorem ah {ρ:Type} {p:Prop} [Decidable p] {x:Option ρ} (h:p):ab p x=x:=by simp [ab,h]
theorem aL {ρ:Type} {x y:Option ρ} : br true x y=x:=rfl
theorem aF {ρ:Type} {x y:Option ρ} : br false x y=y:=rfl
theorem nY {ρ:Type} {b:Bool} {x y:Option ρ} : br b x y=if b=true then x else y:=by cases b<;>rfl
theorem LM {α ρ:Type} {F:(α→Option ρ)→α→Option ρ} (I:α→Prop) (μ:α→Nat) (Q:α→Option ρ→Prop)
  (step:∀ ih x,I x→(∀ y,I y→μ y<μ x→Q y (ih y))→Q x (F ih x)):∀ n x,I x→μ x<n→Q x (iter n F x)
 | 0,x,_,h=>absurd h (Nat.not_lt_zero _)
 | n+1,x,hx,h=>step (iter n F) x hx (fun y hy hm=>LM I μ Q step n y hy (by omega))
theorem G4 {σ ρ:Type} {F:(Int×σ→Option ρ)→Int×σ→Option ρ} (len:Nat) (P:Nat→σ→Option ρ→Prop)
  (hE:∀ ih s,P len s (F ih ((len:Int),s))) (hS:∀ ih (i:Nat) s,i<len→(∀ s',P (i+1) s' (ih (((i+1:Nat):Int),s')))→P i s (F ih ((i:Int),s))) :
  ∀ n (i:Nat) s,i≤len→len<n+i→P i s (iter n F ((i:Int),s))
 | 0,i,s,hi,h=>by omega
 | n+1,i,s,hi,h=>by
  show P i s (F (iter n F) ((i:Int),s))
  rcases Nat.lt_or_eq_of_le hi with ao | he
  ·exact hS _ i s ao (fun s'=>G4 len P hE hS n (i+1) s' (by omega) (by omega))
  ·subst he; exact hE _ s
theorem bo {n:Int} (h1 : -9223372036854775808≤n) (h2:n<9223372036854775808):ag n=n:=by
 unfold ag; omega
theorem bm {i:Nat} (h:i<4611686018427387904):ag ((i:Int)+1)=((i+1:Nat):Int):=by
 rw [bo]<;>omega
theorem aH {α:Type} {xs:List α} {i:Nat} (h:i<xs.length) (z:α):xs.getD i z=xs[i]:=by simp [h]
theorem TT {α:Type} (a:List α) (ok:α→Bool) {F:(Int×Unit→Option (Bool×Unit))→Int×Unit→Option (Bool×Unit)}
  (hF:∀ ih (i:Nat) (hi:i<a.length),F ih ((i:Int),())=if ok a[i]=true then ih (((i+1:Nat):Int),()) else some (false,()))
  (hE:∀ ih,F ih ((a.length:Int),())=some (true,())) {n:Nat} (hn:a.length<n):iter n F (0,())=some (a.all ok,()):=by
 have:=G4 (F:=F) a.length (fun i _ o=>o=some ((a.drop i).all ok,())) (fun ih s=>by rw [hE]; simp) (fun ih i s hi h=>by
  rw [hF ih i hi]
  have hd:a.drop i=a[i]::a.drop (i+1):=List.drop_eq_getElem_cons hi
  rw [hd,List.all_cons]
  split
  ·rename_i hk; rw [h ()]; simp [hk]
  ·rename_i hk; simp [hk]) n 0 () (Nat.zero_le _) (by omega)
 simpa using this
theorem G5 {α:Type} (a:List α) (p:α→Bool) {F:(Int×Unit→Option (Int×Unit))→Int×Unit→Option (Int×Unit)}
  (hF:∀ ih (i:Nat) (hi:i<a.length),F ih ((i:Int),())=if p a[i]=true then some ((i:Int),()) else ih (((i+1:Nat):Int),()))
  (hE:∀ ih,F ih ((a.length:Int),())=some (-1,())) {n:Nat} (hn:a.length<n):∃ r:Int,iter n F (0,())=some (r,())∧decide (0≤r)=a.any p:=by
 have:=G4 (F:=F) a.length (fun i _ o=>∃ r:Int,o=some (r,())∧decide (0≤r)=(a.drop i).any p) (fun ih s=>by rw [hE]; exact ⟨-1,rfl,by simp⟩) (fun ih i s hi h=>by
  rw [hF ih i hi]
  have hd:a.drop i=a[i]::a.drop (i+1):=List.drop_eq_getElem_cons hi
  rw [hd,List.any_cons]
  split
  ·rename_i hk; exact ⟨i,rfl,by simp [hk]⟩
  ·rename_i hk
   obtain ⟨r,h1,h2⟩:=h ()
   exact ⟨r,h1,by rw [h2]; simp [hk]⟩) n 0 () (Nat.zero_le _) (by omega)
 simpa using this
end Go.Am
namespace Go.Am
open Go
theorem G6 {α σ ρ:Type} {F:(α→Option ρ)→α→Option ρ} (st:Nat→σ→α) (len:Nat) (P:Nat→σ→Option ρ→Prop)
  (hE:∀ ih s,P len s (F ih (st len s))) (hS:∀ ih (i:Nat) s,i<len→(∀ s',P (i+1) s' (ih (st (i+1) s')))→P i s (F ih (st i s))) :
  ∀ n (i:Nat) s,i≤len→len<n+i→P i s (iter n F (st i s))
 | 0,i,s,hi,h=>by omega
 | n+1,i,s,hi,h=>by
  show P i s (F (iter n F) (st i s))
  rcases Nat.lt_or_eq_of_le hi with ao | he
  ·exact hS _ i s ao (fun s'=>G6 st len P hE hS n (i+1) s' (by omega) (by omega))
  ·subst he; exact hE _ s
theorem TU {ok:Nat→Bool} {i len:Nat} (bb:ok i=true):(∀ j,i+1≤j→j<len→ok j=true)↔(∀ j,i≤j→j<len→ok j=true):=by
 constructor
 ·intro hh j a b
  rcases Nat.eq_or_lt_of_le a with e | e
  ·subst e; exact bb
  ·exact hh j e b
 ·intro hh j a b; exact hh j (by omega) b
theorem LN {ρ:Type} (len:Nat) (ok:Nat→Bool) (bad wX:Option ρ) {F:(Int×Unit→Option ρ)→Int×Unit→Option ρ}
  (hF:∀ ih (i:Nat) (hi:i<len),F ih ((i:Int),())=if ok i=true then ih (((i+1:Nat):Int),()) else bad)
  (hE:∀ ih,F ih ((len:Int),())=wX) {n:Nat} (hn:len<n) :
  ((∀ i,i<len→ok i=true)→iter n F (0,())=wX)∧(¬ (∀ i,i<len→ok i=true)→iter n F (0,())=bad):=by
 have:=G6 (F:=F) (fun i (s:Unit)=>((i:Int),())) len
  (fun i s o=>((∀ j,i≤j→j<len→ok j=true)→o=wX)∧(¬ (∀ j,i≤j→j<len→ok j=true)→o=bad))
  (fun ih s=>by rw [hE ih]; exact ⟨fun _=>rfl,fun hn=>absurd (fun j h1 h2=>by omega) hn⟩)
  (fun ih i s hi h=>by
   rw [hF ih i hi]
   by_cases bb:ok i=true
   ·rw [if_pos bb]
    have h2:=h ()
    rw [TU bb] at h2
    exact h2
   ·rw [if_neg bb]
    exact ⟨fun hh=>absurd (hh i (Nat.le_refl _) hi) bb,fun _=>rfl⟩)
  n 0 () (Nat.zero_le _) (by omega)
 simpa using this
end Go.Am
namespace Go.Am
open Go
theorem bF {α ρ:Type} (y:α) (f:α→Option ρ):cut (some (.inr y)) f=f y:=rfl
def W {α:Type} (m:Option α) (Q:α→Prop):Prop:=∃ x,m=some x∧Q x
section
variable {α β ρ:Type} {Q:α→Prop}
theorem aj {x:α} : W (some x) Q↔Q x:=⟨fun ⟨y,e,h⟩=>by cases e; exact h,fun h=>⟨x,rfl,h⟩⟩
theorem aB {m:Option β} {f:β→Option α} : W (m.bind f) Q↔W m (fun x=>W (f x) Q):=by
 cases m with
 | none=>simp [W]
 | some x=>simp [W]
theorem bH {b:Bool} {x y:Option α} : W (br b x y) Q↔((b=true→W x Q)∧(b=false→W y Q)):=by cases b<;>simp [br]
theorem bI {p:Prop} [Decidable p] {x y:Option α} : W (br (decide p) x y) Q↔((p→W x Q)∧(¬ p→W y Q)):=by rw [bH]; simp
theorem pt {b:Bool} {x y:Option α} : W (br (!b) x y) Q↔((b=false→W x Q)∧(b=true→W y Q)):=by cases b<;>simp [br]
theorem e_ {m:Option (Sum α β)} {f:β→Option α} : W (cut m f) Q↔W m (fun s=>match s with | .inl r=>Q r | .inr y=>W (f y) Q):=by
 cases m with
 | none=>simp [W,cut]
 | some s=>cases s<;>simp [W,cut]
theorem au {m:Option α} {P:α→Prop} (h:W m P) (h':∀ x,P x→Q x):W m Q:=let ⟨x,e,p⟩:=h; ⟨x,e,h' x p⟩
theorem iz {m:Option α} {v:α} : W m (fun x=>x=v)↔m=some v:=⟨fun ⟨x,e,h⟩=>by rw [e,h],fun h=>⟨v,h,rfl⟩⟩
theorem qD {γ:Type} {F:(γ→Option α)→γ→Option α} (I:γ→Prop) (μ:γ→Nat)
  (step:∀ ih x,I x→(∀ y,I y→μ y<μ x→W (ih y) Q)→W (F ih x) Q) {n:Nat} {x:γ} (hx:I x) (hn:μ x<n):W (iter n F x) Q:=
 LM I μ (fun _ o=>W o Q) step n x hx hn
theorem fA {γ σ:Type} {F:(γ→Option α)→γ→Option α} (st:Nat→σ→γ) (len:Nat) (I:Nat→σ→Prop) {n:Nat} {x:γ} {s0:σ} (hx:x=st 0 s0) (h0:I 0 s0) (hn:len<n)
  (hE:∀ ih s,I len s→W (F ih (st len s)) Q) (hS:∀ ih (i:Nat) s,i<len→I i s→(∀ s',I (i+1) s'→W (ih (st (i+1) s')) Q)→W (F ih (st i s)) Q):W (iter n F x) Q:=by
 subst hx
 exact G6 (F:=F) st len (fun i s o=>I i s→W o Q) (fun ih s h=>hE ih s h) (fun ih i s hi hh h=>hS ih i s hi h (fun s' h'=>hh s' h')) n 0 s0 (Nat.zero_le _) (by omega) h0
theorem uz {m:Option (Bool×Unit)} {P:Prop} [Decidable P] (h:W m (fun r=>(r.1=true↔P))):m=some (decide P,()):=by
 obtain ⟨⟨b,⟨⟩⟩,e,h⟩:=h
 rw [e]
 congr 2
 by_cases hp:P
 ·simp [hp] at h ⊢; exact h
 ·simp [hp] at h ⊢; exact h
end
theorem Bn {α:Type} [BEq α] [LawfulBEq α]:∀ {l m:List α},l.Nodup→(∀ x∈l,x∈m)→l.length≤m.length
 | [],m,_,_=>Nat.zero_le _
 | a::l,m,h,hs=>by
  obtain ⟨h1,h2⟩:=List.nodup_cons.1 h
  have ha:a∈m:=hs a (by simp)
  have:=Bn (m:=m.erase a) h2 (fun x hx=>by
   rw [List.mem_erase_of_ne (by intro e; subst e; exact h1 hx)]
   exact hs x (by simp [hx]))
  rw [List.length_erase_of_mem ha] at this
  have:0<m.length:=List.length_pos_of_mem ha
  simp only [List.length_cons]; omega
theorem LO {α:Type} [BEq α] [LawfulBEq α]:∀ {l m:List α},l.Nodup→(∀ x∈l,x∈m)→m.length≤l.length→l.Perm m
 | [],m,_,_,h=>by
  have:m=[]:=List.eq_nil_of_length_eq_zero (by simpa using h)
  subst this; exact .refl _
 | a::l,m,h,hs,hl=>by
  obtain ⟨h1,h2⟩:=List.nodup_cons.1 h
  have ha:a∈m:=hs a (by simp)
  have:=LO (m:=m.erase a) h2 (fun x hx=>by
   rw [List.mem_erase_of_ne (by intro e; subst e; exact h1 hx)]
   exact hs x (by simp [hx])) (by rw [List.length_erase_of_mem ha]; simp at hl; omega)
  exact (this.cons a).trans (List.perm_cons_erase ha).symm
theorem G7 {α:Type} [BEq α] [LawfulBEq α]:∀ {l:List α},l.Nodup→∀ {a:α},a∈l→l.count a=1
 | [],_,a,h=>by simp at h
 | b::l,h,a,ha=>by
  obtain ⟨h1,h2⟩:=List.nodup_cons.1 h
  by_cases qy:b=a
  ·subst qy
   rw [List.count_cons_self,List.count_eq_zero.2 h1]
  ·rw [List.count_cons_of_ne qy]
   rcases List.mem_cons.1 ha with e | e
   ·exact absurd e.symm qy
   ·exact G7 h2 e
theorem LP {α:Type} [BEq α] [LawfulBEq α] {l m:List α} (hm:m.Nodup) (hs:∀ x∈l,x∈m):(∀ q∈m,l.count q=1)↔(l.Nodup∧m.length≤l.length):=by
 constructor
 ·intro h
  have hp:l.Perm m:=List.perm_iff_count.2 (fun a=>by
   by_cases ha:a∈m
   ·rw [h a ha,G7 hm ha]
   ·rw [List.count_eq_zero.2 ha,List.count_eq_zero.2 (fun hl=>ha (hs a hl))])
  exact ⟨hp.nodup_iff.2 hm,by rw [hp.length_eq]; exact Nat.le_refl _⟩
 ·rintro ⟨h1,h2⟩ q hq
  exact G7 h1 ((LO h1 hs h2).mem_iff.2 hq)
end Go.Am
namespace Go.Am
open Go
section
variable {α β ρ:Type} {Q:α→Prop}
theorem ni {m:Option (Sum α β)} {f:β→Option α} (y:β) (h:m=some (.inr y)) (h':W (f y) Q):W (cut m f) Q:=by subst h; exact h'
theorem LQ {m:Option (Sum α β)} {f:β→Option α} (r:α) (h:m=some (.inl r)) (h':Q r):W (cut m f) Q:=by subst h; exact ⟨r,rfl,h'⟩
theorem aK {p:Prop} [Decidable p] (h:¬ p) {x y:Option α} : br (decide p) x y=y:=by simp [h,br]
theorem aZ {p:Prop} [Decidable p] (h:p) {x y:Option α} : br (decide p) x y=x:=by simp [h,br]
theorem wY {b:Bool} {x y:Option α} : br (!b) x y=if b=true then y else x:=by cases b<;>rfl
theorem mi {F:(Int×Unit→Option α)→Int×Unit→Option α} (len:Nat) (ok:Nat→Bool) {bad wX:Option α}
  (hF:∀ ih (i:Nat) (hi:i<len),F ih ((i:Int),())=if ok i=true then ih (((i+1:Nat):Int),()) else bad) (hE:∀ ih,F ih ((len:Int),())=wX) {n:Nat} (hn:len<n)
  (hg:(∀ i,i<len→ok i=true)→W wX Q) (hb:∀ i,i<len→ok i=false→W bad Q):W (iter n F (0,())) Q:=by
 obtain ⟨h1,h2⟩:=LN len ok bad wX hF hE hn
 by_cases h:∀ i,i<len→ok i=true
 ·rw [h1 h]; exact hg h
 ·rw [h2 h]
  simp only [Classical.not_forall,Bool.not_eq_true] at h
  obtain ⟨i,hi,h⟩:=h
  exact hb i hi h
def lx (f:β→Bool) (ls:List β):Int:=if ls.countP f=0 then -1 else if ls.countP f=1 then (ls.findIdx f:Int) else -2
theorem TV {f:β→Bool} {ls:List β} {i:Nat} (hi:i<ls.length):(ls.take (i+1)).countP f=(ls.take i).countP f+(if f ls[i]=true then 1 else 0):=by
 rw [List.take_succ_eq_append_getElem hi,List.countP_append,List.countP_singleton]
theorem TW {f:β→Bool} {ls:List β} {i:Nat} (hi:i<ls.length) (h0:(ls.take i).countP f=0) (hf:f ls[i]=true):ls.findIdx f=i:=by
 refine (List.findIdx_eq hi).2 ⟨hf,fun j hj=>?_⟩
 rw [List.countP_eq_zero] at h0
 have:=h0 (ls[j]'(by omega)) (by
  rw [List.mem_take_iff_getElem]
  exact ⟨j,by omega,rfl⟩)
 simpa using this
theorem LR (ls:List β) (f:β→Bool) {F:(Int×(Int×Unit)→Option (Int×Unit))→Int×(Int×Unit)→Option (Int×Unit)}
  (hF:∀ ih (i:Nat) (hi:i<ls.length) (at':Int),F ih (at',((i:Int),()))=if f ls[i]=true then (if 0≤at' then some (-2,()) else ih ((i:Int),(((i+1:Nat):Int),()))) else ih (at',(((i+1:Nat):Int),())))
  (hE:∀ ih at',F ih (at',((ls.length:Int),()))=some (at',())) {n:Nat} (hn:ls.length<n):iter n F (-1,(0,()))=some (lx f ls,()):=by
 refine iz.1 (fA (fun i (s:Int)=>(s,((i:Int),()))) ls.length (fun i s=>((ls.take i).countP f=0∧s = -1)∨((ls.take i).countP f=1∧s=(ls.findIdx f:Int))) rfl (.inl ⟨by simp,rfl⟩) hn
  (fun ih s hI=>?_) (fun ih i s hi hI hS=>?_))
 ·simp only [List.take_length] at hI
  rw [hE,aj]
  unfold lx
  rcases hI with ⟨h1,h2⟩ | ⟨h1,h2⟩
  ·rw [if_pos h1,h2]
  ·rw [if_neg (by omega),if_pos h1,h2]
 ·rw [hF ih i hi s]
  have hc:=TV (f:=f) hi
  by_cases hf:f ls[i]=true
  ·rw [if_pos hf] at hc ⊢
   rcases hI with ⟨h1,h2⟩ | ⟨h1,h2⟩
   ·rw [if_neg (by omega)]
    exact hS _ (.inr ⟨by omega,by rw [TW hi h1 hf]⟩)
   ·rw [if_pos (by omega),aj]
    have:(ls.take (i+1)).countP f≤ls.countP f:=List.Sublist.countP_le (List.take_sublist _ _)
    unfold lx
    rw [if_neg (by omega),if_neg (by omega)]
  ·rw [if_neg hf] at hc ⊢
   exact hS _ (by rw [hc]; exact hI)
end
end Go.Am
