/- The abstract machine is right: functions, calls, regions in any order, arguments, laws; plain laws of loops. No condition. -/
import Derived.Test.YtfoamipegmbcgaaGreatDoorAmC
import Derived.Orders
import Derived.ProofKit
import Derived.ChangeOld
import Derived.Below
import Derived.RowKit
import Derived.WideShapes
set_option linter.unusedVariables false
set_option linter.unusedSimpArgs false
namespace Go.Am
open Go
section
variable {P:Program} {c:Cfg} {g g':Gh} {L:Lab} {w:World} {U U':Nat→Prop} {st:St} {a:Act}
theorem flatObjs_row {base site:Nat} : ∀ (t:Ty) (x:t.T) (j:Nat) (id:Nat) (oo:Option AObj),look (flatObjs base site t x j) id=some oo→
  ∃ u xs k,oo=some (.row true u site xs)∧(t.noOsl=true→u.noOsl=true)∧j≤k∧k<j+t.size∧id=base+k
 | .int _,_,_,_,_,h=>by simp [flatObjs,look] at h
 | .bool,_,_,_,_,h=>by simp [flatObjs,look] at h
 | .str,_,_,_,_,h=>by simp [flatObjs,look] at h
 | .err,_,_,_,_,h=>by simp [flatObjs,look] at h
 | .osl _,_,_,_,_,h=>by simp [flatObjs,look] at h
 | .sl u,xs,j,id,oo,h=>by
  replace h:look [(base+j,some (AObj.row true u site xs))] id=some oo:=h
  rw [look_cons] at h
  split at h
  ·rename_i he
   simp only [Option.some.injEq] at h
   exact ⟨u,xs,j,h.symm,fun h=>h,Nat.le_refl _,by simp [Ty.size],he.symm⟩
  ·simp [look] at h
 | .pair s t,x,j,id,oo,h=>by
  replace h:look (flatObjs base site s x.1 j++flatObjs base site t x.2 (j+s.size)) id=some oo:=h
  rw [look_app] at h
  cases hq:look (flatObjs base site s x.1 j) id with
  | some y=>
   rw [hq] at h
   simp only [Option.some.injEq] at h
   subst h
   obtain ⟨u,xs,k,h1,h2,h3,h4,h5⟩:=flatObjs_row s x.1 j id _ hq
   exact ⟨u,xs,k,h1,fun hn=>h2 (by simp only [Ty.noOsl,Bool.and_eq_true] at hn; exact hn.1),h3,by simp only [Ty.size]; omega,h5⟩
  | none=>
   rw [hq] at h
   obtain ⟨u,xs,k,h1,h2,h3,h4,h5⟩:=flatObjs_row t x.2 _ id _ h
   exact ⟨u,xs,k,h1,fun hn=>h2 (by simp only [Ty.noOsl,Bool.and_eq_true] at hn; exact hn.2),by omega,by simp only [Ty.size]; omega,h5⟩
def IoPre (st:St) (uo:List Nat) (base:Nat):(t:Ty)→Nat→{os:List Ty}→OTs (t.slsA os)→(OTs os→Prop)→Prop
 | .pair a b,j,os,y,K=>IoPre st uo base a j (os:=b.slsA os) y (fun y=>IoPre st uo base b (j+a.size) (os:=os) y K)
 | .sl u,j,_,y,K=>(∃ vr,st.obj (base+j)=some (.row true u vr y.1))∧base+j∈uo∧K y.2
 | .int _,_,_,y,K=>K y
 | .bool,_,_,y,K=>K y
 | .str,_,_,y,K=>K y
 | .err,_,_,y,K=>K y
 | .osl _,_,_,y,K=>K y
theorem IoPre.mono {uo uo':List Nat} (h:∀ i∈uo,i∈uo') {base:Nat} : ∀ (t:Ty) (j:Nat) {os:List Ty} (y:OTs (t.slsA os)) {K K':OTs os→Prop},(∀ y,K y→K' y)→IoPre st uo base t j y K→IoPre st uo' base t j y K'
 | .pair a b,j,os,y,K,K',hK,h'=>IoPre.mono h a j (os:=b.slsA os) y (fun y hy=>IoPre.mono h b (j+a.size) (os:=os) y hK hy) h'
 | .sl u,j,_,y,K,K',hK,⟨h1,h2,h3⟩=>⟨h1,h _ h2,hK _ h3⟩
 | .int _,_,_,y,K,K',hK,h'=>hK y h'
 | .bool,_,_,y,K,K',hK,h'=>hK y h'
 | .str,_,_,y,K,K',hK,h'=>hK y h'
 | .err,_,_,y,K,K',hK,h'=>hK y h'
 | .osl _,_,_,y,K,K',hK,h'=>hK y h'
theorem finIo_ok {base:Nat} : ∀ (t:Ty) (j:Nat) {os:List Ty} (z:OTs os) (w:List Nat) (y:OTs (t.slsA os)) (u:List Nat) (K:OTs os→Prop),finIo st base t j z w=some (y,u)→K z→
  IoPre st u base t j y K∧(∀ i∈w,i∈u)∧∀ i∈u,i∈w∨st.obj i≠none
 | .pair a b,j,os,z,w,y,u,K,e,hK=>by
  replace e:(match finIo st base b (j+a.size) (os:=os) z w with
   | some (z,w)=>finIo st base a j (os:=b.slsA os) z w
   | none=>none)=some (y,u):=e
  split at e
  ·rename_i z1 w1 e1
   obtain ⟨h1,h2,h3⟩:=finIo_ok b (j+a.size) z w z1 w1 K e1 hK
   obtain ⟨k1,k2,k3⟩:=finIo_ok a j z1 w1 y u (fun y=>IoPre st w1 base b (j+a.size) (os:=os) y K) e h1
   refine ⟨IoPre.mono (fun _ h=>h) a j (os:=b.slsA os) y (fun y hy=>IoPre.mono k2 b (j+a.size) (os:=os) y (fun _ h=>h) hy) k1,fun i hi=>k2 i (h2 i hi),fun i hi=>?_⟩
   rcases k3 i hi with h | h
   ·exact h3 i h
   ·exact .inr h
  ·simp at e
 | .sl t,j,os,z,w,y,u,K,e,hK=>by
  replace e:(match st.obj (base+j) with
   | some (.row true u _ xs)=>(match Ty.cast (.sl u) (.sl t) xs with | some ys=>some ((ys,z),(base+j)::w) | none=>none)
   | _=>none)=some (y,u):=e
  cases hob:st.obj (base+j) with
  | none=>rw [hob] at e; exact absurd e (by simp)
  | some ob=>
   rw [hob] at e
   cases ob with
   | row own u' vr xs=>
    cases own with
    | false=>exact absurd e (by simp)
    | true=>
     replace e:(match Ty.cast (.sl u') (.sl t) xs with | some ys=>some ((ys,z),(base+j)::w) | none=>none)=some (y,u):=e
     split at e
     ·rename_i ys hc
      have e1:(ys,z)=y:=congrArg Prod.fst (Option.some.inj e)
      have e2:(base+j)::w=u:=congrArg Prod.snd (Option.some.inj e)
      subst e1
      subst e2
      obtain ⟨rfl,hh⟩:=cast_sl hc
      obtain rfl:=eq_of_heq hh
      refine ⟨⟨⟨vr,hob⟩,by simp,hK⟩,fun i hi=>by simp [hi],fun i hi=>?_⟩
      rcases List.mem_cons.1 hi with rfl | hi
      ·exact .inr (by rw [hob]; simp)
      ·exact .inl hi
     ·simp at e
   | _=>exact absurd e (by simp)
 | .int _,j,os,z,w,y,u,K,e,hK=>by
  have e:some (z,w)=some (y,u):=e
  have e1:z=y:=congrArg Prod.fst (Option.some.inj e)
  have e2:w=u:=congrArg Prod.snd (Option.some.inj e)
  subst e1; subst e2
  exact ⟨hK,fun i h=>h,fun i h=>.inl h⟩
 | .bool,j,os,z,w,y,u,K,e,hK=>by
  have e:some (z,w)=some (y,u):=e
  have e1:z=y:=congrArg Prod.fst (Option.some.inj e)
  have e2:w=u:=congrArg Prod.snd (Option.some.inj e)
  subst e1; subst e2
  exact ⟨hK,fun i h=>h,fun i h=>.inl h⟩
 | .str,j,os,z,w,y,u,K,e,hK=>by
  have e:some (z,w)=some (y,u):=e
  have e1:z=y:=congrArg Prod.fst (Option.some.inj e)
  have e2:w=u:=congrArg Prod.snd (Option.some.inj e)
  subst e1; subst e2
  exact ⟨hK,fun i h=>h,fun i h=>.inl h⟩
 | .err,j,os,z,w,y,u,K,e,hK=>by
  have e:some (z,w)=some (y,u):=e
  have e1:z=y:=congrArg Prod.fst (Option.some.inj e)
  have e2:w=u:=congrArg Prod.snd (Option.some.inj e)
  subst e1; subst e2
  exact ⟨hK,fun i h=>h,fun i h=>.inl h⟩
 | .osl _,j,os,z,w,y,u,K,e,hK=>by
  have e:some (z,w)=some (y,u):=e
  have e1:z=y:=congrArg Prod.fst (Option.some.inj e)
  have e2:w=u:=congrArg Prod.snd (Option.some.inj e)
  subst e1; subst e2
  exact ⟨hK,fun i h=>h,fun i h=>.inl h⟩
def OutPre (st:St) (uo:List Nat):Nat→(ps:List PK)→OTs (PK.outs ps)→Prop
 | _,[],_=>True
 | i,.io t::ps,y=>IoPre st uo (i*1024) t 0 y (fun y=>OutPre st uo (i+1) ps y)
 | _,.pio _ _::_,_=>False
 | i,.val _::ps,y=>OutPre st uo (i+1) ps y
 | i,.psh _::ps,y=>OutPre st uo (i+1) ps y
 | i,.fnc _ _::ps,y=>OutPre st uo (i+1) ps y
theorem OutPre.mono {uo uo':List Nat} (h:∀ i∈uo,i∈uo'):∀ (ps:List PK) (i:Nat) (y:OTs (PK.outs ps)),OutPre st uo i ps y→OutPre st uo' i ps y
 | [],_,_,_=>trivial
 | .io t::ps,i,y,h'=>IoPre.mono h t 0 (os:=PK.outs ps) y (fun y hy=>OutPre.mono (ps:=ps) h (i+1) y hy) h'
 | .pio _ _::_,_,_,h=>h
 | .val _::ps,i,y,h'=>OutPre.mono (ps:=ps) h (i+1) y h'
 | .psh _::ps,i,y,h'=>OutPre.mono (ps:=ps) h (i+1) y h'
 | .fnc _ _::ps,i,y,h'=>OutPre.mono (ps:=ps) h (i+1) y h'
theorem finOs_ok:∀ (ps:List PK) (i:Nat) (zo:OTs (PK.outs ps)) (uo:List Nat),ps.all PK.easy=true→finOs st i ps=some (zo,uo)→OutPre st uo i ps zo∧∀ id∈uo,st.obj id≠none
 | [],i,zo,uo,he,e=>by
  replace e:some ((),[])=some (zo,uo):=e
  have e2:([]:List Nat)=uo:=congrArg Prod.snd (Option.some.inj e)
  subst e2
  exact ⟨trivial,by simp⟩
 | .io t::ps,i,zo,uo,he,e=>by
  simp only [List.all_cons,Bool.and_eq_true] at he
  replace e:(match finOs st (i+1) ps with
   | some (z,w)=>finIo st (i*1024) t 0 z w
   | none=>none)=some (zo,uo):=e
  split at e
  ·rename_i z w hf
   obtain ⟨h1,h2⟩:=finOs_ok ps (i+1) z w he.2 hf
   obtain ⟨k1,k2,k3⟩:=finIo_ok t 0 z w zo uo (fun y=>OutPre st w (i+1) ps y) e h1
   refine ⟨IoPre.mono (fun _ h=>h) t 0 (os:=PK.outs ps) zo (fun y hy=>hy.mono k2) k1,fun id hid=>?_⟩
   rcases k3 id hid with h | h
   ·exact h2 id h
   ·exact h
  ·simp at e
 | .pio _ _::_,i,zo,uo,he,e=>by simp [PK.easy] at he
 | .val _::ps,i,zo,uo,he,e=>finOs_ok ps (i+1) zo uo (by simp only [List.all_cons,Bool.and_eq_true] at he; exact he.2) e
 | .psh _::ps,i,zo,uo,he,e=>finOs_ok ps (i+1) zo uo (by simp only [List.all_cons,Bool.and_eq_true] at he; exact he.2) e
 | .fnc _ _::ps,i,zo,uo,he,e=>finOs_ok ps (i+1) zo uo (by simp only [List.all_cons,Bool.and_eq_true] at he; exact he.2) e
open Classical in
noncomputable def finGh (g:Gh) (site:Nat) (S:List Nat) (σs:Nat→Src):Gh where
 hd n ver s:=if n / 1024=site then (match σs ((n % 1024) / 32) ((0,n % 32)::s) with | some (_,_,h)=>h | none=>nilHd) else g.hd n ver s
 lab b o:=match g.lab b o with
  | none=>none
  | some (id,p)=>if id∈S then none else
   if h:∃ q:Nat×Nat×Path,∃ hd,σs q.1 ((0,q.2.1)::q.2.2)=some (id,p,hd) then some (site*1024+32*h.choose.1+h.choose.2.1,h.choose.2.2) else some (id,p)
section
variable {site:Nat} {S:List Nat} {σs:Nat→Src}
theorem finGh_hd {k j ver:Nat} {s:Path} (hk:k<16) (hj:j<32):(finGh g site S σs).hd (site*1024+32*k+j) ver s=match σs k ((0,j)::s) with | some (_,_,h)=>h | none=>nilHd:=by
 have h1:(site*1024+32*k+j) / 1024=site:=by omega
 have h2:(site*1024+32*k+j) % 1024 / 32=k:=by omega
 have h3:(site*1024+32*k+j) % 32=j:=by omega
 simp only [finGh,h1,h2,h3,if_true]
theorem finGh_old {n ver:Nat} {s:Path} (h:n / 1024≠site):(finGh g site S σs).hd n ver s=g.hd n ver s:=by simp [finGh,h]
theorem finGh_none {b o:Nat} (h:g.lab b o=none):(finGh g site S σs).lab b o=none:=by simp [finGh,h]
theorem finGh_S {b o id:Nat} {p:Path} (h:g.lab b o=some (id,p)) (hS:id∈S):(finGh g site S σs).lab b o=none:=by simp [finGh,h,hS]
theorem finGh_keep {b o id:Nat} {p:Path} (h:g.lab b o=some (id,p)) (hS:id∉S) (hσ:∀ m s p hd,σs m s≠some (id,p,hd)):(finGh g site S σs).lab b o=some (id,p):=by
 simp only [finGh,h,hS,if_false]
 rw [dif_neg]
 rintro ⟨q,hd,e⟩
 exact hσ _ _ _ _ e
theorem finGh_src {b o id k j:Nat} {p s:Path} {hh:Hd} (h:g.lab b o=some (id,p)) (hS:id∉S) (e:σs k ((0,j)::s)=some (id,p,hh))
  (inj:∀ m s m' s' id p h h',σs m s=some (id,p,h)→σs m' s'=some (id,p,h')→m=m'∧s=s'):(finGh g site S σs).lab b o=some (site*1024+32*k+j,s):=by
 have hex:∃ q:Nat×Nat×Path,∃ hd,σs q.1 ((0,q.2.1)::q.2.2)=some (id,p,hd):=⟨(k,j,s),hh,e⟩
 simp only [finGh,h,hS,if_false,dif_pos hex]
 have hc:hex.choose=(k,j,s):=by
  obtain ⟨hd,hs⟩:=hex.choose_spec
  generalize hex.choose=q at hs
  obtain ⟨k',j',s'⟩:=q
  obtain ⟨h1,h2⟩:=inj _ _ _ _ _ _ _ _ hs e
  simp only [List.cons.injEq,Prod.mk.injEq] at h2
  rw [show k'=k from h1,h2.1.2,h2.2]
 rw [hc]
theorem finGh_some {b o:Nat} {q:Nat×Path} (h:(finGh g site S σs).lab b o=some q):g.lab b o≠none:=by
 intro hn
 rw [finGh_none hn] at h
 simp at h
theorem resVals_ok {U':Nat→Prop} (h0:U' 0) (hs:U' site) (hL:∀ b o,L b o=none→(finGh g site S σs).lab b o=none)
  (hS:∀ m s id p h,σs m s=some (id,p,h)→id∉S) (inj:∀ m s m' s' id p h h',σs m s=some (id,p,h)→σs m' s'=some (id,p,h')→m=m'∧s=s') :
  ∀ (rs:List RK) (k:Nat) (vals:List Value) (os:List Ty) (z:OTs (RK.tys rs++os)) (zo:OTs os),rs.all RK.easy=true→rs.all (fun r=>Nat.ble r.ty.size 30)=true→k+rs.length≤15→
   FinAll g L w σs k rs vals os z zo→
   VRels (finGh g site S σs) w U' (resVals site (32*k) rs os z).1 vals∧
   (∀ id o,look (resVals site (32*k) rs os z).2.1 id=some (some o)→id / 1024=site∧ORel (finGh g site S σs) w U' id o)∧(resVals site (32*k) rs os z).2.2=zo
 | [],k,vals,os,z,zo,he,hz,hk,h=>by
  obtain ⟨rfl,rfl⟩:=h
  exact ⟨rfl,fun id o h=>by simp [resVals,look] at h,rfl⟩
 | r::rs,k,vals,os,z,zo,he,hz,hk,h=>by
  simp only [List.all_cons,Bool.and_eq_true] at he hz
  simp only [List.length_cons] at hk
  obtain ⟨v,vals',rfl,⟨f,hf,hw⟩,hr⟩:=h
  obtain ⟨i1,i2,i3⟩:=resVals_ok h0 hs hL hS inj rs (k+1) vals' os z.2 zo he.2 hz.2 (by omega) hr
  rw [show 32*(k+1)=32*k+32 by omega] at i1 i2 i3
  have hsz:=Nat.le_of_ble_eq_true hz.1
  have one:VRel (finGh g site S σs) w U' (resVal site (32*k) r z.1).1 v∧∀ id o,look (resVal site (32*k) r z.1).2 id=some (some o)→id / 1024=site∧ORel (finGh g site S σs) w U' id o:=by
   cases r with
   | val t=>
    obtain ⟨a1,a2⟩:=flat_new (g:=g) (g':=finGh g site S σs) (L:=L) (w:=w) (U':=U') (base:=site*1024+32*k) (site:=site) (σ:=σs k) hL h0 hs
     (fun j ver s hj=>finGh_hd (by omega) hj) (fun j hj=>by rw [show (site*1024+32*k+j) / 1024=site by omega]; exact hs)
     (fun j s id p h b o hj e hl=>finGh_src hl (hS _ _ _ _ _ e) e inj) t 0 z.1 f (by have:t.size≤30:=hsz; omega) hw
    refine ⟨VRel_shut hf (flat_len _ _ _ _) a1,fun id o hl=>?_⟩
    obtain ⟨⟨j,j1,j2,rfl⟩,h2⟩:=a2 id o hl
    have:t.size≤30:=hsz
    exact ⟨by omega,h2⟩
   | sh t=>exact ⟨VRel_shut hf (flat_len _ _ _ _) (flat_rd hL t _ _ _ _ _ _ hw),fun id o h=>by simp [resVal,look] at h⟩
   | ptr t ms=>simp [RK.easy] at he
  refine ⟨⟨v,vals',rfl,one.1,i1⟩,fun id o hl=>?_,i3⟩
  replace hl:look ((resVal site (32*k) r z.1).2++(resVals site (32*k+32) rs os z.2).2.1) id=some (some o):=hl
  rw [look_app] at hl
  cases hq:look (resVal site (32*k) r z.1).2 id with
  | some y=>
   rw [hq] at hl
   simp only [Option.some.injEq] at hl
   subst hl
   exact one.2 id o hq
  | none=>
   rw [hq] at hl
   exact i2 id o hl
theorem IoPre_out (hO:Objs g w U st) {uo:List Nat} {base i:Nat} (hbase:base=i*1024) (hi:i<15) (hns:site≥20) (hS:∀ id∈uo,id∉S) (hσ:∀ id∈uo,∀ m s p hd,σs m s≠some (id,p,hd)) :
  ∀ (t:Ty) (j:Nat) {os:List Ty} (y:OTs (t.slsA os)) {K K':OTs os→Prop},j+t.size≤32→(∀ y,K y→K' y)→IoPre st uo base t j y K→IoOK (finGh g site S σs) w base t j y K'
 | .pair a b,j,os,y,K,K',hj,hK,h=>by
  simp only [Ty.size] at hj
  exact IoPre_out hO hbase hi hns hS hσ a j (os:=b.slsA os) y (by omega) (fun y hy=>IoPre_out hO hbase hi hns hS hσ b (j+a.size) (os:=os) y (by omega) hK hy) h
 | .sl u,j,os,y,K,K',hj,hK,⟨⟨vr,h1⟩,h2,h3⟩=>by
  simp only [Ty.size] at hj
  refine ⟨⟨vr,?_⟩,hK _ h3⟩
  obtain ⟨-,-,-,hR⟩:=hO _ _ h1
  have hne:(base+j) / 1024≠site:=by subst hbase; omega
  exact RowR_ren (finGh_old hne) (fun q _=>finGh_old hne) (fun b o p hl=>finGh_keep hl (hS _ h2) (hσ _ h2)) (fun b o hl=>finGh_none hl) hR
 | .int _,_,_,y,K,K',hj,hK,h=>hK y h
 | .bool,_,_,y,K,K',hj,hK,h=>hK y h
 | .str,_,_,y,K,K',hj,hK,h=>hK y h
 | .err,_,_,y,K,K',hj,hK,h=>hK y h
 | .osl _,_,_,y,K,K',hj,hK,h=>hK y h
theorem OutPre_out (hO:Objs g w U st) {uo:List Nat} (hns:site≥20) (hS:∀ id∈uo,id∉S) (hσ:∀ id∈uo,∀ m s p hd,σs m s≠some (id,p,hd)):∀ (ps:List PK) (i:Nat) (y:OTs (PK.outs ps)),i+ps.length≤15→
  ps.all (fun p=>match p with | .io t=>Nat.ble t.size 30 | _=>true)=true→OutPre st uo i ps y→OutOK (finGh g site S σs) w i ps y
 | [],_,_,_,_,_=>trivial
 | .io t::ps,i,y,hi,hz,h=>by
  simp only [List.length_cons] at hi
  simp only [List.all_cons,Bool.and_eq_true] at hz
  have hsz:=Nat.le_of_ble_eq_true hz.1
  exact IoPre_out hO rfl (by omega) hns hS hσ t 0 (os:=PK.outs ps) y (by omega) (fun y hy=>OutPre_out (ps:=ps) hO hns hS hσ (i+1) y (by omega) hz.2 hy) h
 | .pio _ _::_,_,_,_,_,h=>h
 | .val _::ps,i,y,hi,hz,h'=>OutPre_out (ps:=ps) hO hns hS hσ (i+1) y (by simp only [List.length_cons] at hi; omega) (by simp only [List.all_cons,Bool.and_eq_true] at hz; exact hz.2) h'
 | .psh _::ps,i,y,hi,hz,h'=>OutPre_out (ps:=ps) hO hns hS hσ (i+1) y (by simp only [List.length_cons] at hi; omega) (by simp only [List.all_cons,Bool.and_eq_true] at hz; exact hz.2) h'
 | .fnc _ _::ps,i,y,hi,hz,h'=>OutPre_out (ps:=ps) hO hns hS hσ (i+1) y (by simp only [List.length_cons] at hi; omega) (by simp only [List.all_cons,Bool.and_eq_true] at hz; exact hz.2) h'
theorem entry_env:∀ (ps:List PK) (i:Nat) (x:PTs ps) (t:Nat) (v:AVal),look (entry i ps x).1 t=some v→∃ j,t=i+j∧((entry i ps x).1.map (·.2))[j]? = some v
 | [],i,x,t,v,h=>by simp [entry,look] at h
 | p::ps,i,x,t,v,h=>by
  replace h:look ((i,(entryP i p x.1).1)::(entry (i+1) ps x.2).1) t=some v:=h
  rw [look_cons] at h
  split at h
  ·rename_i he
   exact ⟨0,by omega,by simpa [entry] using h⟩
  ·obtain ⟨j,h1,h2⟩:=entry_env ps (i+1) x.2 t v h
   exact ⟨j+1,by omega,by simpa [entry] using h2⟩
theorem entry_ids:∀ (ps:List PK) (i:Nat) (x:PTs ps) (id:Nat) (o:Option AObj),ps.all PK.easy=true→ps.all (fun p=>match p with | .io t=>Nat.ble t.size 30 | _=>true)=true→
  look (entry i ps x).2 id=some o→i≤id / 1024∧id / 1024<i+ps.length∧o.isSome=true
 | [],i,x,id,o,he,hz,h=>by simp [entry,look] at h
 | p::ps,i,x,id,o,he,hz,h=>by
  simp only [List.all_cons,Bool.and_eq_true] at he hz
  have rest:look (entry (i+1) ps x.2).2 id=some o→i≤id / 1024∧id / 1024<i+(p::ps).length∧o.isSome=true:=by
   intro h
   obtain ⟨h1,h2,h3⟩:=entry_ids ps (i+1) x.2 id o he.2 hz.2 h
   exact ⟨by omega,by simp only [List.length_cons]; omega,h3⟩
  cases p with
  | val t=>exact rest h
  | psh t=>exact rest h
  | fnc f caps=>exact rest h
  | pio t ms=>simp [PK.easy] at he
  | io t=>
   have hsz:=Nat.le_of_ble_eq_true hz.1
   replace h:look (flatObjs (i*1024) 0 t x.1 0++(entry (i+1) ps x.2).2) id=some o:=h
   rw [look_app] at h
   cases hq:look (flatObjs (i*1024) 0 t x.1 0) id with
   | some y=>
    rw [hq] at h
    simp only [Option.some.injEq] at h
    subst h
    obtain ⟨u,xs,k,rfl,-,h3,h4,rfl⟩:=flatObjs_row t x.1 0 id _ hq
    exact ⟨by omega,by simp only [List.length_cons]; omega,rfl⟩
   | none=>
    rw [hq] at h
    exact rest h
end
end
def tupV:List Value→Value
 | [v]=>v
 | vs=>.tuple vs.toArray
theorem results_run {P:Program} {fn:Func} {tmps:Array Value} {w:World} {vals:List Value} (h:(fn.results.toList.mapM (resF tmps)).run P w = .ok vals w) :
  (results fn tmps).run P w = .ok (tupV vals) w:=by
 have e:results fn tmps=(do let vs ← fn.results.mapM (resF tmps); pure (if h:vs.size=1 then vs[0] else .tuple vs)):=by
  unfold results
  congr 1
 rw [e]
 clear e
 revert h
 generalize fn.results=rs
 obtain ⟨l⟩:=rs
 intro h
 rw [List.mapM_toArray]
 simp only [Sem.run_bind,Sem.run_map]
 rw [show (List.mapM (resF tmps) l).run P w=_ from h]
 match vals with
 | []=>simp [tupV]
 | [v]=>simp [tupV]
 | v::v'::vs=>simp [tupV]
theorem dstsB_mono {N N':Nat} (h:N≤N'):∀ (code:Code),dstsB N code=true→dstsB N' code=true
 | .region _ ops _,hd=>by
  refine List.all_eq_true.2 (fun o ho=>?_)
  have:=List.all_eq_true.1 hd o ho
  cases e:o.dst with
  | none=>rfl
  | some d=>
   rw [e] at this
   simp only [Nat.blt_eq] at this ⊢
   omega
 | .seq a b,hd=>by
  replace hd:(dstsB N a&&dstsB N b)=true:=hd
  show (dstsB N' a&&dstsB N' b)=true
  rw [Bool.and_eq_true] at hd ⊢
  exact ⟨dstsB_mono h a hd.1,dstsB_mono h b hd.2⟩
 | .cond _ a b,hd=>by
  replace hd:(dstsB N a&&dstsB N b)=true:=hd
  show (dstsB N' a&&dstsB N' b)=true
  rw [Bool.and_eq_true] at hd ⊢
  exact ⟨dstsB_mono h a hd.1,dstsB_mono h b hd.2⟩
 | .block _ b,hd=>dstsB_mono h b hd
 | .loop b,hd=>dstsB_mono h b hd
 | .scope b,hd=>dstsB_mono h b hd
 | .skip,_=>rfl
 | .exit _,_=>rfl
 | .ret,_=>rfl
 | .label _,_=>rfl
 | .goto _,_=>rfl
 | .rangeFunc _ _ _ _,_=>rfl
 | .refuse _,_=>rfl
theorem Fr.cell {F:Nat→Nat→Prop} {w w':World} (h:Fr F w w') {b o:Nat} (hb:b<w.heap.size) (hn:¬ F b o):w'.cell? (ad b o)=w.cell? (ad b o)∧w'.frozen? (ad b o)=w.frozen? (ad b o):=by
 obtain ⟨x,hx⟩:∃ x,w.heap[b]? = some x:=⟨_,Array.getElem?_eq_getElem hb⟩
 by_cases hc:∃ c e f,x = .cells c e f
 ·obtain ⟨c,e,f,rfl⟩:=hc
  obtain ⟨c',h1,h2,h3⟩:=h.cells b c e f hx
  have:=h3 o hn
  simp only [World.cell?,World.frozen?,h1,hx]
  refine ⟨this,?_⟩
  first | rfl | trivial | simp [h2]
 ·have:=h.kind b x hx (fun c e f he=>hc ⟨c,e,f,he⟩)
  simp only [World.cell?,World.frozen?,this,hx]
  first | exact ⟨rfl,rfl⟩ | trivial | simp
theorem runS_sound {P:Program} {c:Cfg} {n:Nat} {f:FuncId} {fn:Func} {an:Ann} {m:Mng} (HR:RegOK P c) (hc:TysOK P c) (hf:P.funcs[f]? = some fn) {code:Code} (hb:fn.body=some code)
  (hd:dstsB fn.ntmps code=true) {x:PTs m.ps} {st0:St} (hn:st0.nxt=20) (hheap:st0.heap=(entry 0 m.ps x).2) {y:OTs (RK.tys m.rs++PK.outs m.ps)}
  (hy:plainEx c n code an _ st0 (fun e st=>match e with | .exit _=>none | _=>finish c fn m.ps m.rs st)=some y) (hok:mOk m.ps m.rs=true) {site:Nat} (hsite:20≤site)
  {g:Gh} {w:World} {args:List Value} (henv:∀ t v,look st0.env t=some v→∃ x,args[t]? = some x∧VRel g w U20 v x)
  (hobjs:∀ id o,look (entry 0 m.ps x).2 id=some (some o)→ORel g w U20 id o) (hlabs:∀ b o q,g.lab b o=some q→b<w.heap.size) (hG:Gl P g.lab w) :
  Calls P f args.toArray w fun e w'=>∃ v g',e = .returned v∧ExitOK g w site m y v g' w':=by
 unfold mOk at hok
 simp only [Bool.and_eq_true] at hok
 obtain ⟨⟨⟨⟨⟨⟨⟨⟨ok1,ok2⟩,ok3⟩,ok4⟩,ok5⟩,ok6⟩,-⟩,-⟩,ok9⟩:=hok
 have ok3:=Nat.le_of_ble_eq_true ok3
 have ok4:=Nat.le_of_ble_eq_true ok4
 refine calls_of_wp hf hb ?_
 let a0:Act:={ tmps:=args.toArray++Array.replicate (fn.ntmps-args.toArray.size) undef,defers:=[] }
 have hobj:∀ id o,st0.obj id=some o→look (entry 0 m.ps x).2 id=some (some o):=by
  intro id o h
  unfold St.obj at h
  rw [hheap] at h
  split at h
  ·rename_i o' h'
   simp only [Option.some.injEq] at h
   rw [← h]; exact h'
  ·simp at h
 have hN:fn.ntmps≤a0.tmps.size:=by simp [a0]; omega
 have R0:Rel w g.lab a0.tmps.size g U20 st0 a0 w:=by
  refine ⟨fun t v h=>?_,fun id o h=>?_,fun s h=>by rw [hn]; exact h,hlabs,fun b o id p hb hl=>?_,fun b o id p hf h19=>hf,.refl _ _,rfl,rfl,by show (0:Nat)<20; omega,fun s hs=>hs,fun id h=>?_⟩
  ·obtain ⟨v',h5,h6⟩:=henv t v h
   have:a0.eval (.tmp t)=v':=by
    have hlt:t<args.length:=(List.getElem?_eq_some_iff.1 h5).1
    have h7:args[t]=v':=(List.getElem?_eq_some_iff.1 h5).2
    simp only [Act.eval,a0]
    simp [Array.getD_eq_getD_getElem?,Array.getElem?_append,hlt,h7]
   rw [this]; exact h6
  ·obtain ⟨h1,h2,-⟩:=entry_ids m.ps 0 x id _ ok1 ok9 (hobj id o h)
   exact ⟨by show id / 1024<20; omega,hobjs _ o (hobj _ o h)⟩
  ·by_cases h19:id / 1024=19
   ·exact .inl ⟨h19,hl⟩
   ·exact .inr ⟨id,p,hl,h19⟩
  ·cases ho:st0.obj id with
   | none=>exact absurd ho h
   | some o=>
    obtain ⟨h1,h2,-⟩:=entry_ids m.ps 0 x id _ ok1 ok9 (hobj id o ho)
    omega
 have hds:dstsB a0.tmps.size code=true:=dstsB_mono hN code hd
 refine plainEx_sound HR hG code an _ y st0 _ (bodyPost P fn fun e w'=>∃ v g',e = .returned v∧ExitOK g w site m y v g' w') a0 w g U20 hds R0 hy (fun ex st' a' w' g1 U1 R1 E1 e1=>?_)
 have main:finish c fn m.ps m.rs st'=some y→a'.defers=[]∧∃ v,(results fn a'.tmps).run P w' = .ok v w'∧∃ v' g',Ending.returned v = .returned v'∧ExitOK g w site m y v' g' w':=by
  intro e1
  unfold finish at e1
  split at e1
  ·rename_i vs hvs
   split at e1
   ·rename_i z u hz
    split at e1
    ·rename_i hnd
     obtain rfl:=Option.some.inj e1
     have hnd:=nodupB_iff.1 hnd
     obtain ⟨vals,hv1,hv2⟩:=resVs_ok hc R1.heap R1.env _ _ hvs
     refine ⟨R1.defers,tupV vals,results_run hv1,tupV vals,?_⟩
     let S:=ush st' m.rs vs
     let L:Lab:=fun b o=>match g1.lab b o with | none=>none | some (id,p)=>if id∈S then none else some (id,p)
     obtain ⟨zo,uo,uR,σs,k1,rfl,k3,k4,k5,k6,k7,k8⟩:=finRs_ok (L:=L) R1.heap (fun b o h=>by simp [L,h]) m.rs 0 vs vals _ _ z u ok2 hv2 hz (fun id hid b o p hl=>by
      have:id∈S:=hid
      simp [L,hl,this])
     obtain ⟨n1,n2,n3⟩:=List.nodup_append.1 hnd
     obtain ⟨inj,disj⟩:=k8 n1
     obtain ⟨o1,o2⟩:=finOs_ok m.ps 0 zo uo ok1 k1
     have hUsub:∀ s,(U' U20 site) s→s<20∨s=site:=fun s h=>h
     have hL':∀ b o,L b o=none→(finGh g1 site S σs).lab b o=none:=by
      intro b o h
      cases hl:g1.lab b o with
      | none=>exact finGh_none hl
      | some q=>
       obtain ⟨id,p⟩:=q
       have:id∈S:=by
        simp only [L,hl] at h
        by_cases hm:id∈S
        ·exact hm
        ·simp [hm] at h
       exact finGh_S hl this
     obtain ⟨r1,r2,r3⟩:=resVals_ok (g:=g1) (L:=L) (w:=w') (site:=site) (S:=S) (σs:=σs) (U':=U' U20 site) (.inl (by show (0:Nat)<20; omega)) (.inr rfl) hL' (fun m s id p h e=>disj m s id p h e) inj m.rs 0 vals _ z zo ok2 ok5 (by omega) k3
     refine ⟨finGh g1 site S σs,rfl,⟨?_,r2,?_,fun i hi=>?_,fun b o hl v hv=>?_,fun b o id p hl h19=>?_,fun b o q h=>?_,fun b o q hb h=>?_,R1.fr⟩⟩
     ·revert r1
      generalize (resVals site (32*0) m.rs (PK.outs m.ps) z).1=l
      intro r1
      have hlen:=VRels_len r1
      match l,vals,r1,hlen with
      | [],[],r1,_=>exact ⟨[],rfl,rfl⟩
      | [v],[v'],r1,_=>
       obtain ⟨a,b,e,h1,-⟩:=r1
       simp only [List.cons.injEq] at e
       rw [e.1]; exact h1
      | v::v2::l,x1::x2::xs,r1,_=>exact ⟨_,rfl,r1⟩
     ·have:=r3
      rw [show (resVals site 0 m.rs (PK.outs m.ps) z).2.2=zo from r3]
      exact OutPre_out R1.heap hsite (fun id hid hS=>n3 id (k6 id hS) id hid rfl) (fun id hid m' s p hd hs=>n3 id (k5 _ _ _ _ _ hs) id hid rfl) m.ps 0 zo (by omega) ok9 o1
     ·rw [finGh_old (by omega)]
      exact E1.par i hi (by show i / 1024<20; omega)
     ·have hb:=cell_lt hv
      have hm:¬ MineL g.lab b o:=fun ⟨id,p,e,_⟩=>by rw [hl] at e; simp at e
      have hc:=Fr.cell R1.fr hb hm
      refine ⟨by rw [hc.1]; exact hv,finGh_none ?_⟩
      cases hl1:g1.lab b o with
      | none=>rfl
      | some q=>
       obtain ⟨id,p⟩:=q
       rcases R1.old b o id p hb hl1 with h | h
       ·rw [hl] at h; simp at h
       ·exact absurd h hm
     ·have h1:=R1.frn b o id p hl h19
      refine finGh_keep h1 (fun hS=>R1.nf id (k7 id (k6 id hS)) h19) (fun m' s p' hd hs=>R1.nf id (k7 id (k5 _ _ _ _ _ hs)) h19)
     ·cases hl:g1.lab b o with
      | none=>exact absurd hl (finGh_some h)
      | some q'=>exact R1.labs b o q' hl
     ·obtain ⟨⟨id,p⟩,hl1⟩:∃ q,g1.lab b o=some q:=by
       cases hl:g1.lab b o with
       | none=>exact absurd hl (finGh_some h)
       | some q'=>exact ⟨q',rfl⟩
      intro hn
      rcases R1.old b o id p hb hl1 with h | ⟨i',p',h,-⟩
      ·rw [hn] at h; simp at h
      ·rw [hn] at h; simp at h
    ·simp at e1
   ·simp at e1
  ·simp at e1
 cases ex with
 | normal=>exact main e1
 | ret=>exact main e1
 | exit j=>simp at e1
theorem runF_sound {P:Program} {c:Cfg} {n:Nat} {f:FuncId} {fn:Func} {an:Ann} {m:Mng} (HR:RegOK P c) (hc:TysOK P c) (hf:P.funcs[f]? = some fn) (hm:∀ x,m.m x=runF c n fn an m.ps m.rs x):Sound P f m:=by
 intro x y hy hok site hsite g w args E hG
 rw [hm] at hy
 unfold runF at hy
 split at hy
 ·rename_i code hb
  split at hy
  ·simp at hy
  ·rename_i hd
   refine runS_sound HR hc hf hb (by simpa using hd) rfl rfl hy hok hsite (fun t v h=>?_) E.objs E.labs hG
   obtain ⟨j,h1,h2⟩:=entry_env m.ps 0 x t v h
   have ht:t=j:=by omega
   subst ht
   obtain ⟨h3,h4⟩:=List.getElem?_eq_some_iff.1 h2
   obtain ⟨v',h5,h6⟩:=VRels_get E.vals t h3
   rw [h4] at h6
   exact ⟨v',h5,h6⟩
 ·simp at hy
def runNil (c:Cfg) (n:Nat) (fn:Func) (an:Ann) (ps:List PK) (rs:List RK) (v:AVal) (env:List (Nat×AVal)) (heap:List (Nat×Option AObj)):Option (OTs (RK.tys rs++PK.outs ps)):=
 match fn.body with
 | some code=>match dstsB fn.ntmps code with
  | false=>none
  | true=>plainEx c n code an _ { env:=(0,v)::env,heap:=heap,nxt:=20 } fun e st=>match e with
   | .exit _=>none
   | _=>finish c fn ps rs st
 | none=>none
theorem runNil_sound {P:Program} {c:Cfg} {n:Nat} {f:FuncId} {fn:Func} {an:Ann} {t:Ty} {ps:List PK} {rs:List RK} {F:PTs (.val (.sl t)::ps)→Option (OTs (RK.tys rs++PK.outs (.val (.sl t)::ps)))} (HR:RegOK P c) (hc:TysOK P c)
  (hf:P.funcs[f]? = some fn)
  (h1:∀ x y,F x=some y→x.1=([]:List t.T)→runNil c n fn an (.val (.sl t)::ps) rs .nil (entry 1 ps x.2).1 (entry 1 ps x.2).2=some y)
  (h2:∀ x y,F x=some y→runNil c n fn an (.val (.sl t)::ps) rs (.osh t (some x.1)) (entry 1 ps x.2).1 (entry 1 ps x.2).2=some y):Sound P f ⟨.val (.sl t)::ps,rs,F⟩:=by
 intro x y hy hok site hsite g w args E hG
 have hy:F x=some y:=hy
 obtain ⟨v0,vs,rfl,hv0,hvs⟩:=E.vals
 have go:∀ v:AVal,VRel g w U20 v v0→runNil c n fn an (.val (.sl t)::ps) rs v (entry 1 ps x.2).1 (entry 1 ps x.2).2=some y→
   Calls P f (v0::vs).toArray w fun e w'=>∃ v g',e = .returned v∧ExitOK g w site ⟨.val (.sl t)::ps,rs,F⟩ y v g' w':=by
  intro v hv hr
  unfold runNil at hr
  split at hr
  ·rename_i code hb
   split at hr
   ·simp at hr
   ·rename_i hd
    refine runS_sound (m:=⟨.val (.sl t)::ps,rs,F⟩) (x:=x) HR hc hf hb (by simpa using hd) rfl rfl hr hok hsite (fun k u h=>?_) E.objs E.labs hG
    replace h:look ((0,v)::(entry 1 ps x.2).1) k=some u:=h
    rw [look_cons] at h
    split at h
    ·rename_i hk
     subst hk
     simp only [Option.some.injEq] at h
     subst h
     exact ⟨v0,rfl,hv⟩
    ·obtain ⟨j,e1,e2⟩:=entry_env ps 1 x.2 k u h
     obtain ⟨e3,e4⟩:=List.getElem?_eq_some_iff.1 e2
     obtain ⟨v',e5,e6⟩:=VRels_get hvs j e3
     rw [e4] at e6
     refine ⟨v',?_,e6⟩
     rw [e1,Nat.add_comm,List.getElem?_cons_succ]; exact e5
  ·simp at hr
 have hv0:shV t.size (Sh g.lab w t) x.1 v0:=hv0
 obtain ⟨a,len,cap,rfl,hl,hc',hn,hx⟩:=hv0
 cases a with
 | none=>
  have hcap:=hn rfl
  have hlen:len=0:=by omega
  subst hcap
  subst hlen
  have hx1:x.1=([]:List t.T):=List.eq_nil_of_length_eq_zero hl.symm
  exact go .nil rfl (h1 x y hy hx1)
 | some a=>exact go (.osh t (some x.1)) ⟨⟨_,_,_,rfl,hl,hc',hn,hx⟩,by simp⟩ (h2 x y hy)
end Go.Am
namespace Go.Am
open Go
def nmL:Nat→List AVal→List (Nat×Nat)
 | _,[]=>[]
 | n,v::r=>(match v with | .own id _ _ _=>[(n,id)] | _=>[])++nmL (n+1) r
def ioL:Nat→List PK→List AVal→List (Nat×Nat)
 | i,p::ps,v::vs=>(match p with | .io t=>nmL (i*1024) (fcells t v) | _=>[])++ioL (i+1) ps vs
 | _,_,_=>[]
def swp (l:List (Nat×Nat)):List (Nat×Nat):=l.map fun p=>(p.2,p.1)
theorem nmL_snd:∀ (cs:List AVal) (n:Nat),(nmL n cs).map (·.2)=ownIds cs
 | [],n=>rfl
 | v::cs,n=>by
  have ih:=nmL_snd cs (n+1)
  cases v<;>simp [nmL,ownIds,ih]
theorem nmL_mem:∀ (cs:List AVal) (n:Nat) (m id:Nat),(m,id)∈nmL n cs↔∃ k ver p u,cs[k]? = some (.own id ver p u)∧m=n+k
 | [],n,m,id=>by simp [nmL]
 | v::cs,n,m,id=>by
  have ih:=nmL_mem cs (n+1) m id
  simp only [nmL,List.mem_append,ih]
  constructor
  ·rintro (h | ⟨k,ver,p,u,h1,h2⟩)
   ·cases v<;>simp at h
    obtain ⟨rfl,rfl⟩:=h
    exact ⟨0,_,_,_,rfl,rfl⟩
   ·exact ⟨k+1,ver,p,u,by simpa using h1,by omega⟩
  ·rintro ⟨k,ver,p,u,h1,h2⟩
   cases k with
   | zero=>
    simp only [List.getElem?_cons_zero,Option.some.injEq] at h1
    subst h1
    exact .inl (by simp; omega)
   | succ k=>exact .inr ⟨k,ver,p,u,by simpa using h1,by omega⟩
theorem nmL_nodup:∀ (cs:List AVal) (n:Nat),((nmL n cs).map (·.1)).Nodup
 | [],n=>by simp [nmL]
 | v::cs,n=>by
  simp only [nmL,List.map_append]
  refine List.nodup_append.2 ⟨by cases v<;>simp,nmL_nodup cs (n+1),?_⟩
  intro a ha b hb hab
  subst hab
  have h1:a=n:=by cases v<;>simp at ha; exact ha
  obtain ⟨⟨m,id⟩,hp,he⟩:=List.mem_map.1 hb
  obtain ⟨k,-,-,-,-,h2⟩:=(nmL_mem cs (n+1) m id).1 hp
  simp only at he
  omega
theorem ioIds_eq {st:St} : ∀ (ps:List PK) (vs:List AVal) (i:Nat),ps.all PK.easy=true→ioIds st ps vs=(ioL i ps vs).map (·.2)
 | [],vs,i,he=>by cases vs<;>rfl
 | p::ps,[],i,he=>by cases p<;>rfl
 | p::ps,v::vs,i,he=>by
  simp only [List.all_cons,Bool.and_eq_true] at he
  have ih:=ioIds_eq (st:=st) ps vs (i+1) he.2
  cases p with
  | pio t ms=>simp [PK.easy] at he
  | io t=>cases v<;>simp [ioIds,ioL,ih,nmL_snd]
  | _=>cases v<;>simp [ioIds,ioL,ih]
theorem ioDat_len {st:St} : ∀ (t:Ty) (cs:List AVal) (x:t.T) (r:List AVal),ioDat st t cs=some (x,r)→t.size≤cs.length∧r=cs.drop t.size
 | .int k,cs,x,r,e=>by
  cases cs with
  | nil=>simp [ioDat] at e
  | cons c cs=>
   cases c<;>simp only [ioDat] at e<;>try (exact absurd (show none=some _ from e) (by simp))
   split at e
   ·have e2:=congrArg Prod.snd (Option.some.inj e)
    exact ⟨by simp [Ty.size],by simpa [Ty.size] using e2.symm⟩
   ·simp at e
 | .bool,cs,x,r,e=>by
  cases cs with
  | nil=>simp [ioDat] at e
  | cons c cs=>
   cases c<;>simp only [ioDat] at e<;>try (exact absurd (show none=some _ from e) (by simp))
   have e2:=congrArg Prod.snd (Option.some.inj e)
   exact ⟨by simp [Ty.size],by simpa [Ty.size] using e2.symm⟩
 | .str,cs,x,r,e=>by
  cases cs with
  | nil=>simp [ioDat] at e
  | cons c cs=>
   cases c<;>simp only [ioDat] at e<;>try (exact absurd (show none=some _ from e) (by simp))
   have e2:=congrArg Prod.snd (Option.some.inj e)
   exact ⟨by simp [Ty.size],by simpa [Ty.size] using e2.symm⟩
 | .err,cs,x,r,e=>by
  cases cs with
  | nil=>simp [ioDat] at e
  | cons c cs=>
   cases c<;>simp only [ioDat] at e<;>try (exact absurd (show none=some _ from e) (by simp))
   have e2:=congrArg Prod.snd (Option.some.inj e)
   exact ⟨by simp [Ty.size],by simpa [Ty.size] using e2.symm⟩
 | .osl t,cs,x,r,e=>by simp [ioDat] at e
 | .pair a b,cs,x,r,e=>by
  replace e:(match ioDat st a cs with
   | some (x,r)=>(match ioDat st b r with | some (y,r)=>some ((x,y),r) | none=>none)
   | none=>none)=some (x,r):=e
  split at e
  ·rename_i y r1 e1
   split at e
   ·rename_i z r2 e2
    obtain ⟨h1,rfl⟩:=ioDat_len a cs y r1 e1
    obtain ⟨h2,rfl⟩:=ioDat_len b _ z r2 e2
    have e3:=congrArg Prod.snd (Option.some.inj e)
    simp only at e3
    subst e3
    simp only [List.length_drop] at h2
    exact ⟨by simp only [Ty.size]; omega,by simp [Ty.size,List.drop_drop]⟩
   ·simp at e
  ·simp at e
 | .sl t,cs,x,r,e=>by
  cases cs with
  | nil=>exact absurd (show none=some _ from e) (by simp)
  | cons c cs=>
   cases c with
   | own id ver p u=>
    cases p with
    | cons a p=>exact absurd (show none=some _ from e) (by simp)
    | nil=>
     replace e:(match st.obj id with
      | some (.row true u _ xs)=>(match Ty.cast (.sl u) (.sl t) xs with | some ys=>some (ys,cs) | none=>none)
      | _=>none)=some (x,r):=e
     cases ho:st.obj id with
     | none=>rw [ho] at e; exact absurd e (by simp)
     | some ob=>
      rw [ho] at e
      cases ob with
      | row own u' vr xs=>
       cases own with
       | false=>exact absurd e (by simp)
       | true=>
        replace e:(match Ty.cast (.sl u') (.sl t) xs with | some ys=>some (ys,cs) | none=>none)=some (x,r):=e
        split at e
        ·have e2:=congrArg Prod.snd (Option.some.inj e)
         exact ⟨by simp [Ty.size],by simpa [Ty.size] using e2.symm⟩
        ·simp at e
      | _=>exact absurd e (by simp)
   | _=>exact absurd (show none=some _ from e) (by simp)
theorem decP_io {st sr:St} {t:Ty} {x:t.T} {v:AVal} (e:decP st sr (.io t) v=some x):ioDat st t (fcells t v)=some (x,[])∧(fcells t v).length=t.size:=by
 replace e:(match ioDat st t (fcells t v) with | some (x,[])=>some x | _=>none)=some x:=e
 split at e
 ·rename_i x' h
  obtain rfl:=Option.some.inj e
  obtain ⟨h1,h2⟩:=ioDat_len t _ x' [] h
  refine ⟨h,?_⟩
  have:=congrArg List.length h2
  simp at this; omega
 ·simp at e
theorem decPs_cons {st sr:St} {p:PK} {ps:List PK} {v:AVal} {vs:List AVal} {x:PTs (p::ps)} (e:decPs st sr (p::ps) (v::vs)=some x):decP st sr p v=some x.1∧decPs st sr ps vs=some x.2:=by
 replace e:(match decP st sr p v with
  | some x=>(match decPs st sr ps vs with | some r=>some (x,r) | none=>none)
  | none=>none)=some x:=e
 split at e
 ·rename_i x1 e1
  split at e
  ·rename_i r1 e2
   obtain rfl:=Option.some.inj e
   exact ⟨e1,e2⟩
  ·simp at e
 ·simp at e
theorem ioL_idx {st sr:St} : ∀ (ps:List PK) (x:PTs ps) (vs:List AVal) (i:Nat),ps.all (fun p=>match p with | .io t=>Nat.ble t.size 30 | _=>true)=true→decPs st sr ps vs=some x→
  ∀ p∈ioL i ps vs,i≤p.1 / 1024∧p.1 / 1024<i+ps.length
 | [],x,vs,i,hz,hx,p,h=>by simp [ioL] at h
 | q::ps,x,[],i,hz,hx,p,h=>by simp [ioL] at h
 | q::ps,x,v::vs,i,hz,hx,p,h=>by
  simp only [List.all_cons,Bool.and_eq_true] at hz
  obtain ⟨hx1,hx2⟩:=decPs_cons hx
  simp only [ioL,List.mem_append] at h
  rcases h with h | h
  ·cases q with
   | io t=>
    obtain ⟨m,id⟩:=p
    obtain ⟨k,ver,pp,u,h1,h2⟩:=(nmL_mem _ _ _ _).1 h
    have hk:=(List.getElem?_eq_some_iff.1 h1).1
    have hl:=(decP_io hx1).2
    have hs:=Nat.le_of_ble_eq_true hz.1
    simp only [List.length_cons]
    omega
   | _=>simp at h
  ·have:=ioL_idx ps x.2 vs (i+1) hz.2 hx2 p h
   simp only [List.length_cons]; omega
theorem ioL_nodup {st sr:St} : ∀ (ps:List PK) (x:PTs ps) (vs:List AVal) (i:Nat),ps.all (fun p=>match p with | .io t=>Nat.ble t.size 30 | _=>true)=true→decPs st sr ps vs=some x→((ioL i ps vs).map (·.1)).Nodup
 | [],x,vs,i,hz,hx=>by simp [ioL]
 | q::ps,x,[],i,hz,hx=>by simp [ioL]
 | q::ps,x,v::vs,i,hz,hx=>by
  have hz0:=hz
  simp only [List.all_cons,Bool.and_eq_true] at hz
  obtain ⟨hx1,hx2⟩:=decPs_cons hx
  simp only [ioL,List.map_append]
  refine List.nodup_append.2 ⟨?_,ioL_nodup ps x.2 vs (i+1) hz.2 hx2,?_⟩
  ·cases q with
   | io t=>exact nmL_nodup _ _
   | _=>simp
  ·intro a ha b hb hab
   subst hab
   have h1:a / 1024=i:=by
    cases q with
    | io t=>
     obtain ⟨⟨m,id⟩,hp,he⟩:=List.mem_map.1 ha
     obtain ⟨k,ver,pp,u,h1,h2⟩:=(nmL_mem _ _ _ _).1 hp
     have hk:=(List.getElem?_eq_some_iff.1 h1).1
     have hl:=(decP_io hx1).2
     have hs:=Nat.le_of_ble_eq_true hz.1
     simp only at he
     omega
    | _=>simp at ha
   obtain ⟨p,hp,he⟩:=List.mem_map.1 hb
   have:=ioL_idx ps x.2 vs (i+1) hz.2 hx2 p hp
   omega
theorem look_nodup {α:Type} : ∀ {l:List (Nat×α)},(l.map (·.1)).Nodup→∀ {k:Nat} {v:α},(k,v)∈l→look l k=some v
 | [],_,k,v,h=>by simp at h
 | (a,b)::l,hn,k,v,h=>by
  simp only [List.map_cons,List.nodup_cons] at hn
  rw [look_cons]
  rcases List.mem_cons.1 h with e | e
  ·simp only [Prod.mk.injEq] at e
   rw [if_pos e.1.symm,e.2]
  ·rw [if_neg]
   ·exact look_nodup hn.2 e
   ·intro he
    subst he
    exact hn.1 (List.mem_map.2 ⟨_,e,rfl⟩)
def inGh (st:St) (g:Gh) (SH:Bool) (l:List (Nat×Nat)):Gh where
 hd n _ s:=match look l n with | some id=>hdv g id (verOf st id) s | none=>nilHd
 lab b o:=match g.lab b o with
  | none=>none
  | some (id,p)=>match look (swp l) id with
   | some n=>some (n,p)
   | none=>match SH with | true=>some (19*1024,[]) | false=>none
section
variable {g g1 g':Gh} {w:World} {U U':Nat→Prop} {st sr:St}
theorem inGh_none {SH:Bool} {l:List (Nat×Nat)} {b o:Nat} (h:g.lab b o=none):(inGh st g SH l).lab b o=none:=by simp [inGh,h]
theorem inGh_io {SH:Bool} {l:List (Nat×Nat)} {b o id i:Nat} {p:Path} (h:g.lab b o=some (id,p)) (hl:look (swp l) id=some i):(inGh st g SH l).lab b o=some (i,p):=by simp [inGh,h,hl]
theorem inGh_other {SH:Bool} {l:List (Nat×Nat)} {b o id:Nat} {p:Path} (h:g.lab b o=some (id,p)) (hl:look (swp l) id=none) :
  (inGh st g SH l).lab b o=match SH with | true=>some (19*1024,[]) | false=>none:=by simp [inGh,h,hl]
theorem inGh_hd {SH:Bool} {l:List (Nat×Nat)} {i id ver:Nat} {s:Path} (hl:look l i=some id):(inGh st g SH l).hd i ver s=hdv g id (verOf st id) s:=by
 simp [inGh,hl]
theorem take_all {α:Type} {cs:List α} {n:Nat} (h:([]:List α)=cs.drop n) (h':n≤cs.length):cs.length=n:=by
 have:=congrArg List.length h
 simp at this; omega
mutual
theorem decP_rel (hO:Objs g w U sr) (hL:∀ b o,g.lab b o=none→g1.lab b o=none) (hD:∀ id,sr.obj id≠none→∀ b o p,g.lab b o=some (id,p)→g1.lab b o=none) :
  ∀ (p:PK) (x:p.T) (v:AVal) (vx:Value),decP st sr p v=some x→VRel g w U v vx→VRel g1 w U20 (entryC1 p x) vx
 | .io t,x,v,vx,e,hv=>trivial
 | .pio t ms,x,v,vx,e,hv=>trivial
 | .val t,x,v,vx,e,hv=>by
  have e:(match peek sr 50 t (fcells t v) with | some (x,[])=>some x | _=>none)=some x:=by cases t<;>exact e
  split at e
  ·rename_i x' hp
   obtain rfl:=Option.some.inj e
   obtain ⟨f,h1,h2⟩:=ValF_of t hv
   obtain ⟨h3,h4,h5⟩:=(peek_sound hO hL hD 50).1 t _ x' [] f [] 0 0 h1 hp
   exact VRel_shut (h2 (take_all h4 h3)) (flat_len _ _ _ _) (flat_rd (fun _ _ h=>h) t _ _ _ _ _ _ h5)
  ·simp at e
 | .psh t,x,v,vx,e,hv=>by
  cases v with
  | sptr u x0 j=>
   cases j with
   | succ j=>exact absurd (show none=some x from e) (by simp)
   | zero=>
    have e:Ty.cast u t x0=some x:=e
    obtain ⟨he,hh⟩:=cast_eq e
    subst he
    obtain rfl:=eq_of_heq hh
    obtain ⟨b,o,rfl,h⟩:=hv
    exact ⟨b,o,rfl,Sh_step (fun b o hl v hv=>⟨hv,hL b o hl⟩) u _ b o h⟩
  | vptr id j=>
   have e:(match sr.obj id with
    | some (.cells _ cs)=>(match peek sr 50 t ((cs.drop j).take t.size) with | some (x,[])=>some x | _=>none)
    | _=>none)=some x:=e
   split at e
   ·rename_i ro cs ho
    split at e
    ·rename_i x' hp
     obtain rfl:=Option.some.inj e
     obtain ⟨b,o,hhd,hlab,hvals⟩:=obj_cells hO ho
     obtain ⟨-,-,b',o',hb,rfl⟩:=hv
     rw [hhd] at hb
     simp only [Option.some.injEq,Prod.mk.injEq] at hb
     obtain ⟨rfl,rfl⟩:=hb
     have hV:Vals g w U ((cs.drop j).take t.size) (fun k=>w.cell? (ad b (o+j+k))):=by
      intro k hk
      simp only [List.length_take,List.length_drop] at hk
      obtain ⟨v,h1,h2⟩:=hvals (j+k) (by omega)
      refine ⟨v,(by show w.cell? (ad b (o+j+k))=some v; rw [Nat.add_assoc]; exact h1),?_⟩
      simp only [List.getElem_take,List.getElem_drop]
      exact h2
     obtain ⟨h3,h4,h5⟩:=(peek_sound hO hL hD 50).1 t _ x' [] _ [] 0 0 hV hp
     have hlen:=take_all h4 h3
     simp only [List.length_take,List.length_drop] at hlen
     refine ⟨b,o+j,rfl,OwS_sh (g:=g) (σ:=none1) t [] 0 0 _ b (o+j) (fun k hk=>?_) h5⟩
     rw [Nat.add_assoc]
     exact hD id (by rw [ho]; simp) _ _ _ (hlab (j+k) (by omega)).1
    ·simp at e
   ·simp at e
  | rptr id ver p tt i j=>
   cases p with
   | cons a p=>exact absurd (show none=some x from e) (by simp)
   | nil=>
    cases j with
    | succ j=>exact absurd (show none=some x from e) (by simp)
    | zero=>
     have e:(match sr.obj id with
      | some (.row _ u _ xs)=>(match Ty.beq tt u with | true=>Ty.cast u t (el u xs i) | false=>none)
      | _=>none)=some x:=e
     split at e
     ·rename_i own u vr xs ho
      split at e
      ·rename_i hb
       obtain rfl:=Ty.eq_of_beq hb
       obtain ⟨he,hh⟩:=cast_eq e
       subst he
       obtain rfl:=eq_of_heq hh
       obtain ⟨-,-,-,-,hver,hi,b,o,ha,rfl⟩:=hv
       obtain rfl:=hver rfl
       obtain ⟨-,-,-,r1,r2,r3,r4⟩:=hO id _ ho
       obtain ⟨r5,r6⟩:=r4 b o ha
       have hi':i<xs.length:=by omega
       refine ⟨b,o+i*tt.size,rfl,?_⟩
       rw [el_get hi']
       refine OwT_sh hL (hD id (by rw [ho]; simp)) tt [] i 0 _ b _ (fun d hd=>?_) (r6 i hi')
       have hle:(i+1)*tt.size≤(g.hd id 0 []).cap*tt.size:=Nat.mul_le_mul_right _ (by omega)
       rw [Nat.add_mul] at hle
       obtain ⟨a1,-,-⟩:=r5 (i*tt.size+d) (by omega)
       exact ⟨_,by rw [Nat.add_assoc]; exact a1⟩
      ·simp at e
     ·simp at e
  | _=>exact absurd (show none=some x from e) (by simp)
 | .fnc f caps,x,v,vx,e,hv=>by
  cases v with
  | fn f' vs=>
   replace e:(match Nat.beq f f' with | true=>decPs st sr caps vs | false=>none)=some x:=e
   split at e
   ·rename_i hb
    obtain rfl:=Nat.eq_of_beq_eq_true hb
    obtain ⟨l,rfl,hl⟩:=hv
    exact ⟨l,rfl,decPs_rel hO hL hD caps x vs l e hl⟩
   ·simp at e
  | _=>exact absurd (show none=some x from e) (by simp)
theorem decPs_rel (hO:Objs g w U sr) (hL:∀ b o,g.lab b o=none→g1.lab b o=none) (hD:∀ id,sr.obj id≠none→∀ b o p,g.lab b o=some (id,p)→g1.lab b o=none) :
  ∀ (ps:List PK) (x:PTs ps) (vs:List AVal) (l:List Value),decPs st sr ps vs=some x→VRels g w U vs l→VRels g1 w U20 (entryC ps x) l
 | [],x,vs,l,e,hv=>by
  cases vs with
  | nil=>exact hv
  | cons v vs=>exact absurd (show none=some x from e) (by simp)
 | p::ps,x,vs,l,e,hv=>by
  cases vs with
  | nil=>exact absurd (show none=some x from e) (by simp)
  | cons v vs=>
   have e:(match decP st sr p v with
    | some x=>(match decPs st sr ps vs with | some r=>some (x,r) | none=>none)
    | none=>none)=some x:=e
   split at e
   ·rename_i x1 e1
    split at e
    ·rename_i r1 e2
     obtain rfl:=Option.some.inj e
     obtain ⟨a,b,rfl,ha,hb⟩:=hv
     exact ⟨a,b,rfl,decP_rel hO hL hD p x1 v a e1 ha,decPs_rel hO hL hD ps r1 vs b e2 hb⟩
    ·simp at e
   ·simp at e
end
theorem io_entry {SH:Bool} {l:List (Nat×Nat)} {base:Nat} (hb:∀ j,j<32→U20 ((base+j) / 1024)) (hO:Objs g w U st) (hL:∀ b o,g.lab b o=none→(inGh st g SH l).lab b o=none) :
  ∀ (t:Ty) (j:Nat) (cs:List AVal) (x:t.T) (r:List AVal) (f:Nat→Option Value),j+t.size≤32→ioDat st t cs=some (x,r)→Vals g w U cs f→
   (∀ k id ver p u,k<t.size→cs[k]? = some (.own id ver p u)→look l (base+j+k)=some id∧look (swp l) id=some (base+j+k))→
   Vals (inGh st g SH l) w U20 (flat (newH base) t x j) f∧∀ id o,look (flatObjs base 0 t x j) id=some (some o)→ORel (inGh st g SH l) w U20 id o
 | .int k,j,cs,x,r,f,hj,e,hv,hl=>by
  cases cs with
  | nil=>simp [ioDat] at e
  | cons c cs=>
   obtain ⟨v,h1,h2⟩:=hv.head
   cases c<;>simp only [ioDat] at e<;>try (exact absurd (show none=some _ from e) (by simp))
   split at e
   ·rename_i hk
    obtain rfl:=ikB_eq hk
    have e1:=congrArg Prod.fst (Option.some.inj e)
    simp only at e1
    subst e1
    refine ⟨fun k hk=>?_,fun id o h=>by simp [flatObjs,look] at h⟩
    have:k=0:=by simpa [flat] using hk
    subst this
    exact ⟨v,h1,h2⟩
   ·simp at e
 | .bool,j,cs,x,r,f,hj,e,hv,hl=>by
  cases cs with
  | nil=>simp [ioDat] at e
  | cons c cs=>
   obtain ⟨v,h1,h2⟩:=hv.head
   cases c<;>simp only [ioDat] at e<;>try (exact absurd (show none=some _ from e) (by simp))
   have e1:=congrArg Prod.fst (Option.some.inj e)
   simp only at e1
   subst e1
   refine ⟨fun k hk=>?_,fun id o h=>by simp [flatObjs,look] at h⟩
   have:k=0:=by simpa [flat] using hk
   subst this
   exact ⟨v,h1,h2⟩
 | .str,j,cs,x,r,f,hj,e,hv,hl=>by
  cases cs with
  | nil=>simp [ioDat] at e
  | cons c cs=>
   obtain ⟨v,h1,h2⟩:=hv.head
   cases c<;>simp only [ioDat] at e<;>try (exact absurd (show none=some _ from e) (by simp))
   have e1:=congrArg Prod.fst (Option.some.inj e)
   simp only at e1
   subst e1
   refine ⟨fun k hk=>?_,fun id o h=>by simp [flatObjs,look] at h⟩
   have:k=0:=by simpa [flat] using hk
   subst this
   exact ⟨v,h1,h2⟩
 | .err,j,cs,x,r,f,hj,e,hv,hl=>by
  cases cs with
  | nil=>simp [ioDat] at e
  | cons c cs=>
   obtain ⟨v,h1,h2⟩:=hv.head
   cases c<;>simp only [ioDat] at e<;>try (exact absurd (show none=some _ from e) (by simp))
   have e1:=congrArg Prod.fst (Option.some.inj e)
   simp only at e1
   subst e1
   refine ⟨fun k hk=>?_,fun id o h=>by simp [flatObjs,look] at h⟩
   have:k=0:=by simpa [flat] using hk
   subst this
   exact ⟨v,h1,h2⟩
 | .osl t,j,cs,x,r,f,hj,e,hv,hl=>by simp [ioDat] at e
 | .pair a b,j,cs,x,r,f,hj,e,hv,hl=>by
  simp only [Ty.size] at hj
  replace e:(match ioDat st a cs with
   | some (x,r)=>(match ioDat st b r with | some (y,r)=>some ((x,y),r) | none=>none)
   | none=>none)=some (x,r):=e
  split at e
  ·rename_i y r1 e1
   split at e
   ·rename_i z r2 e2
    have e3:=congrArg Prod.fst (Option.some.inj e)
    simp only at e3
    subst e3
    obtain ⟨d1,rfl⟩:=ioDat_len a cs y r1 e1
    obtain ⟨a1,a2⟩:=io_entry hb hO hL a j cs y _ f (by omega) e1 hv (fun k id ver p u hk h=>hl k id ver p u (by simp only [Ty.size]; omega) h)
    obtain ⟨b1,b2⟩:=io_entry hb hO hL b (j+a.size) _ z r2 _ (by omega) e2 (hv.drop a.size) (fun k id ver p u hk h=>by
     have:=hl (a.size+k) id ver p u (by simp only [Ty.size]; omega) (by rw [List.getElem?_drop] at h; exact h)
     simpa [Nat.add_assoc] using this)
    refine ⟨Vals.app a1 (by rw [flat_len]; exact b1),fun id o h=>?_⟩
    replace h:look (flatObjs base 0 a y j++flatObjs base 0 b z (j+a.size)) id=some (some o):=h
    rw [look_app] at h
    cases hq:look (flatObjs base 0 a y j) id with
    | some q=>
     rw [hq] at h
     simp only [Option.some.injEq] at h
     subst h
     exact a2 id o hq
    | none=>
     rw [hq] at h
     exact b2 id o h
   ·simp at e
  ·simp at e
 | .sl t,j,cs,x,r,f,hj,e,hv,hl=>by
  simp only [Ty.size] at hj
  cases cs with
  | nil=>exact absurd (show none=some _ from e) (by simp)
  | cons c cs=>
   obtain ⟨v,h1,h2⟩:=hv.head
   cases c with
   | own id ver p u=>
    cases p with
    | cons a p=>exact absurd (show none=some _ from e) (by simp)
    | nil=>
     replace e:(match st.obj id with
      | some (.row true u _ xs)=>(match Ty.cast (.sl u) (.sl t) xs with | some ys=>some (ys,cs) | none=>none)
      | _=>none)=some (x,r):=e
     cases ho:st.obj id with
     | none=>rw [ho] at e; exact absurd e (by simp)
     | some ob=>
      rw [ho] at e
      cases ob with
      | row own u' vr xs=>
       cases own with
       | false=>exact absurd e (by simp)
       | true=>
        replace e:(match Ty.cast (.sl u') (.sl t) xs with | some ys=>some (ys,cs) | none=>none)=some (x,r):=e
        split at e
        ·rename_i ys hc
         have e1:ys=x:=congrArg Prod.fst (Option.some.inj e)
         subst e1
         obtain ⟨rfl,hh⟩:=cast_sl hc
         obtain rfl:=eq_of_heq hh
         obtain ⟨l1,l2⟩:=hl 0 id ver [] u (by simp [Ty.size]) rfl
         rw [Nat.add_zero] at l1 l2
         obtain ⟨-,-,-,-,hver,rfl⟩:=h2
         obtain rfl:=hver rfl
         have h00:∀ ver,(inGh st g SH l).hd (base+j) ver []=g.hd id 0 []:=fun ver=>by rw [inGh_hd l1]; rfl
         refine ⟨fun k hk=>?_,fun id' o h=>?_⟩
         ·have:k=0:=by simpa [flat] using hk
          subst this
          exact ⟨_,h1,hb j (by omega),by show (0:Nat)<20; omega,by show (0:Nat)<20; omega,trivial,fun _=>rfl,by rw [h00]⟩
         ·replace h:look [(base+j,some (AObj.row true u' 0 xs))] id'=some (some o):=h
          rw [look_cons] at h
          split at h
          ·rename_i h'
           subst h'
           simp only [Option.some.injEq] at h
           subst h
           obtain ⟨-,-,-,hR⟩:=hO id _ ho
           refine ⟨by show (0:Nat)<20; omega,by show (0:Nat)<20; omega,RowR_ren (h00 0) (fun q hq=>?_) (fun b o p hlb=>inGh_io hlb l2) hL hR⟩
           rw [inGh_hd l1]
           unfold hdv verOf
           rw [ho]
           cases q with
           | nil=>exact absurd rfl hq
           | cons=>rfl
          ·simp [look] at h
        ·simp at e
      | _=>exact absurd e (by simp)
   | _=>exact absurd (show none=some _ from e) (by simp)
theorem entry_ok {SH:Bool} {l:List (Nat×Nat)} (hO:Objs g w U st) (hOr:Objs g w U sr) (hL:∀ b o,g.lab b o=none→(inGh st g SH l).lab b o=none)
  (hD:∀ id,sr.obj id≠none→∀ b o p,g.lab b o=some (id,p)→(inGh st g SH l).lab b o=none) :
  ∀ (ps:List PK) (i:Nat) (x:PTs ps) (vs:List AVal) (vals:List Value),ps.all PK.easy=true→ps.all (fun p=>match p with | .io t=>Nat.ble t.size 30 | _=>true)=true→i+ps.length≤15→decPs st sr ps vs=some x→VRels g w U vs vals→
   (∀ p∈ioL i ps vs,look l p.1=some p.2∧look (swp l) p.2=some p.1)→
   VRels (inGh st g SH l) w U20 ((entry i ps x).1.map (·.2)) vals∧∀ id o,look (entry i ps x).2 id=some (some o)→ORel (inGh st g SH l) w U20 id o
 | [],i,x,vs,vals,he,hz,hi,e,hv,hl=>by
  cases vs with
  | nil=>exact ⟨hv,fun id o h=>by simp [entry,look] at h⟩
  | cons v vs=>exact absurd (show none=some x from e) (by simp)
 | p::ps,i,x,vs,vals,he,hz,hi,e,hv,hl=>by
  simp only [List.all_cons,Bool.and_eq_true] at he hz
  simp only [List.length_cons] at hi
  cases vs with
  | nil=>exact absurd (show none=some x from e) (by simp)
  | cons v vs=>
   have e:(match decP st sr p v with
    | some x=>(match decPs st sr ps vs with | some r=>some (x,r) | none=>none)
    | none=>none)=some x:=e
   split at e
   ·rename_i x1 e1
    split at e
    ·rename_i r1 e2
     obtain rfl:=Option.some.inj e
     obtain ⟨a,b,rfl,ha,hb⟩:=hv
     obtain ⟨i1,i2⟩:=entry_ok hO hOr hL hD ps (i+1) r1 vs b he.2 hz.2 (by omega) e2 hb (fun q hq=>hl q (by simp only [ioL,List.mem_append]; exact .inr hq))
     have easy:VRel (inGh st g SH l) w U20 (entryP i p x1).1 a∧∀ id o,look (entryP i p x1).2 id=some (some o)→ORel (inGh st g SH l) w U20 id o:=by
      cases p with
      | val t=>exact ⟨decP_rel hOr hL hD (.val t) x1 v a e1 ha,fun id o h=>by simp [entryP,look] at h⟩
      | psh t=>exact ⟨decP_rel hOr hL hD (.psh t) x1 v a e1 ha,fun id o h=>by simp [entryP,look] at h⟩
      | fnc f caps=>exact ⟨decP_rel hOr hL hD (.fnc f caps) x1 v a e1 ha,fun id o h=>by simp [entryP,look] at h⟩
      | pio t ms=>simp [PK.easy] at he
      | io t=>
       obtain ⟨d1,d2⟩:=decP_io e1
       have hsz:=Nat.le_of_ble_eq_true hz.1
       obtain ⟨f,f1,f2⟩:=ValF_of t ha
       obtain ⟨k1,k2⟩:=io_entry (SH:=SH) (l:=l) (base:=i*1024) (fun j hj=>by show (i*1024+j) / 1024<20; omega) hO hL t 0 _ x1 [] f (by omega) d1 f1 (fun k id ver p u hk h=>by
        have:=hl (i*1024+k,id) (by
         simp only [ioL,List.mem_append]
         exact .inl ((nmL_mem _ _ _ _).2 ⟨k,ver,p,u,h,rfl⟩))
        simpa using this)
       exact ⟨VRel_shut (f2 d2) (flat_len _ _ _ _) k1,k2⟩
     refine ⟨⟨a,b,rfl,easy.1,i1⟩,fun id o h=>?_⟩
     replace h:look ((entryP i p x1).2++(entry (i+1) ps r1).2) id=some (some o):=h
     rw [look_app] at h
     cases hq:look (entryP i p x1).2 id with
     | some y=>
      rw [hq] at h
      simp only [Option.some.injEq] at h
      subst h
      exact easy.2 id o hq
     | none=>
      rw [hq] at h
      exact i2 id o h
    ·simp at e
   ·simp at e
end
end Go.Am
namespace Go.Am
open Go
section
variable {g g1 g':Gh} {w:World} {U U':Nat→Prop} {st sr:St}
theorem OwT_no {id id' vr vr':Nat} (hhd:∀ q,q≠[]→g'.hd id' vr' q=g.hd id vr q) (hlab:∀ b o p,g.lab b o=some (id,p)→g'.lab b o=some (id',p)) :
  ∀ (t:Ty) (sk:Nat→Nat→Bool) (p:Path) (i j:Nat) (x:t.T) (b o:Nat),t.noOsl=true→OwT g w true id vr t sk p i j x b o→OwT g' w true id' vr' t sk p i j x b o
 | .int _,_,_,_,_,_,_,_,_,h=>h
 | .bool,_,_,_,_,_,_,_,_,h=>h
 | .str,_,_,_,_,_,_,_,_,h=>h
 | .err,_,_,_,_,_,_,_,_,h=>h
 | .osl t,_,_,_,_,_,_,_,hn,h=>by simp [Ty.noOsl] at hn
 | .pair s t,sk,p,i,j,x,b,o,hn,h=>by
  simp only [Ty.noOsl,Bool.and_eq_true] at hn
  exact ⟨OwT_no hhd hlab s sk p i j x.1 b o hn.1 h.1,OwT_no hhd hlab t sk p i (j+s.size) x.2 b (o+s.size) hn.2 h.2⟩
 | .sl t,sk,p,i,j,xs,b,o,hn,h=>by
  rcases h with h | ⟨h1,h2⟩
  ·exact .inl h
  ·refine .inr ⟨?_,?_⟩
   ·rw [hhd _ (by simp)]; exact h1
   ·rw [hhd _ (by simp)]
    obtain ⟨r1,r2,r3,r4⟩:=h2
    refine ⟨r1,r2,r3,fun b o hb=>?_⟩
    obtain ⟨r5,r6⟩:=r4 b o hb
    exact ⟨fun k hk=>⟨hlab _ _ _ (r5 k hk).1,(r5 k hk).2⟩,fun k hk=>OwT_no hhd hlab t _ _ k 0 _ b _ hn (r6 k hk)⟩
theorem RowR_no {id id' vr vr':Nat} {t:Ty} {xs:List t.T} (h0:g'.hd id' 0 []=g.hd id 0 []) (hhd:∀ q,q≠[]→g'.hd id' vr' q=g.hd id vr q)
  (hlab:∀ b o p,g.lab b o=some (id,p)→g'.lab b o=some (id',p)) (hn:t.noOsl=true) (h:RowR g w true id 0 vr t noSk [] xs):RowR g' w true id' 0 vr' t noSk [] xs:=by
 unfold RowR at h ⊢
 rw [h0]
 obtain ⟨r1,r2,r3,r4⟩:=h
 refine ⟨r1,r2,r3,fun b o hb=>?_⟩
 obtain ⟨r5,r6⟩:=r4 b o hb
 exact ⟨fun k hk=>⟨hlab _ _ _ (r5 k hk).1,(r5 k hk).2⟩,fun k hk=>OwT_no hhd hlab t _ _ k 0 _ b _ hn (r6 k hk)⟩
def simpleV (site:Nat):AVal→Bool
 | .int _ _ | .bool _ | .str _ | .err _=>true
 | .own id ver [] _=>Nat.beq ver 0&&Nat.beq (id / 1024) site
 | _=>false
theorem simple_mv {site:Nat} (h0:U' 0) (hs:U' site) (hhd:∀ id,id / 1024=site→g'.hd id 0 []=g.hd id 0 []) {v:AVal} {x:Value} (hv:simpleV site v=true) (h:VRel g w U v x):VRel g' w U' v x:=by
 cases v<;>try (simp [simpleV] at hv; done)
 ·exact h
 ·exact h
 ·exact h
 ·exact h
 ·rename_i id ver p t
  cases p with
  | cons a p=>simp [simpleV] at hv
  | nil=>
   simp only [simpleV,Bool.and_eq_true,Nat.beq_eq] at hv
   obtain ⟨rfl,rfl⟩:=hv
   obtain ⟨-,-,-,-,-,rfl⟩:=h
   exact ⟨hs,h0,h0,trivial,fun _=>rfl,by rw [hhd _ rfl]⟩
theorem flat_simple {base site:Nat} (hb:∀ j,j<32→(base+j) / 1024=site):∀ (t:Ty) (x:t.T) (j:Nat),t.noOsl=true→j+t.size≤32→∀ v∈flat (newH base) t x j,simpleV site v=true
 | .int _,_,_,_,_,v,h=>by simp [flat] at h; subst h; rfl
 | .bool,_,_,_,_,v,h=>by simp [flat] at h; subst h; rfl
 | .str,_,_,_,_,v,h=>by simp [flat] at h; subst h; rfl
 | .err,_,_,_,_,v,h=>by simp [flat] at h; subst h; rfl
 | .osl _,_,_,hn,_,v,h=>by simp [Ty.noOsl] at hn
 | .sl u,xs,j,hn,hj,v,h=>by
  simp only [flat,List.mem_singleton] at h
  subst h
  simp only [Ty.size] at hj
  simp [newH,simpleV,hb j (by omega)]
 | .pair s t,x,j,hn,hj,v,h=>by
  simp only [Ty.noOsl,Bool.and_eq_true] at hn
  simp only [Ty.size] at hj
  have:=s.size_pos
  have:=t.size_pos
  simp only [flat,List.mem_append] at h
  rcases h with h | h
  ·exact flat_simple hb s x.1 j hn.1 (by omega) v h
  ·exact flat_simple hb t x.2 (j+s.size) hn.2 (by omega) v h
theorem simples_mv {site:Nat} (h0:U' 0) (hs:U' site) (hhd:∀ id,id / 1024=site→g'.hd id 0 []=g.hd id 0 []):∀ {vs:List AVal} {l:List Value},(∀ v∈vs,simpleV site v=true)→VRels g w U vs l→VRels g' w U' vs l
 | [],_,_,h=>h
 | v::vs,_,hv,⟨x,r,e,a,b⟩=>⟨x,r,e,simple_mv h0 hs hhd (hv v (by simp)) a,simples_mv h0 hs hhd (fun v h=>hv v (by simp [h])) b⟩
theorem shut_mv {site:Nat} (h0:U' 0) (hs:U' site) (hhd:∀ id,id / 1024=site→g'.hd id 0 []=g.hd id 0 []) {t:Ty} {cs:List AVal} (hc:∀ v∈cs,simpleV site v=true) {x:Value}
  (h:VRel g w U (shut t cs) x):VRel g' w U' (shut t cs) x:=by
 cases t with
 | pair a b=>
  obtain ⟨l,rfl,hl⟩:=h
  exact ⟨l,rfl,simples_mv h0 hs hhd hc hl⟩
 | _=>
  match cs,hc,h with
  | [],_,_=>trivial
  | [v],hc,h=>exact simple_mv h0 hs hhd (hc v (by simp)) h
  | _::_::_,_,_=>trivial
theorem sh_simple:∀ (t:Ty) (x:t.T) (j:Nat),∀ id,id∉AVal.ids.goL (flat shH t x j)
 | .int _,_,_,id=>by simp [flat,AVal.ids.goL,AVal.ids]
 | .bool,_,_,id=>by simp [flat,AVal.ids.goL,AVal.ids]
 | .str,_,_,id=>by simp [flat,AVal.ids.goL,AVal.ids]
 | .err,_,_,id=>by simp [flat,AVal.ids.goL,AVal.ids]
 | .osl _,_,_,id=>by simp [flat,AVal.ids.goL,AVal.ids]
 | .sl _,_,_,id=>by simp [flat,shH,AVal.ids.goL,AVal.ids]
 | .pair s t,x,j,id=>by
  intro h
  have app:∀ (l m:List AVal),AVal.ids.goL (l++m)=AVal.ids.goL l++AVal.ids.goL m:=by
   intro l m
   induction l with
   | nil=>simp [AVal.ids.goL]
   | cons a l ih=>simp [AVal.ids.goL,ih]
  rw [flat,app,List.mem_append] at h
  rcases h with h | h
  ·exact sh_simple s x.1 j id h
  ·exact sh_simple t x.2 _ id h
theorem shut_ids {t:Ty} {cs:List AVal} : ∀ id∈(shut t cs).ids,id∈AVal.ids.goL cs:=by
 intro id h
 cases t with
 | pair a b=>exact h
 | _=>
  match cs,h with
  | [],h=>exact absurd (show id∈[] from h) (by simp)
  | [v],h=>exact List.mem_append_left _ h
  | _::_::_,h=>exact absurd (show id∈[] from h) (by simp)
theorem VRel_self (hU:∀ s,U s→U' s) (hsh:∀ b o,g.lab b o=none→g'.lab b o=none) {v:AVal} {x:Value} (hv:∀ id,id∉v.ids) (h:VRel g w U v x):VRel g' w U' v x:=
 VRel_move hU hsh v (fun id hid=>absurd hid (hv id)) x x h h
theorem res_mv {site:Nat} (h0:U' 0) (hs:U' site) (hU:∀ s,U s→U' s) (hhd:∀ id ver p,id / 1024=site→g'.hd id ver p=g.hd id ver p)
  (hlab:∀ b o id p,g.lab b o=some (id,p)→id / 1024=site→g'.lab b o=some (id,p)) :
  ∀ (rs:List RK) (q:Nat) (os:List Ty) (z:OTs (RK.tys rs++os)) (vals:List Value),rs.all RK.easy=true→rs.all (fun r=>match r with | .val t=>t.noOsl | _=>true)=true→
   rs.all (fun r=>Nat.ble r.ty.size 30)=true→q % 32=0→q+32*rs.length≤480→(rs.any isShR=true→∀ b o,g.lab b o=none→g'.lab b o=none)→
   (VRels g w U (resVals site q rs os z).1 vals→VRels g' w U' (resVals site q rs os z).1 vals)∧
   ∀ id oo,look (resVals site q rs os z).2.1 id=some oo→id / 1024=site∧∃ ob,oo=some ob∧(ORel g w U id ob→ORel g' w U' id ob)
 | [],q,os,z,vals,he,hn,hz,hq,hl,hsh=>⟨fun h=>h,fun id oo h=>by simp [resVals,look] at h⟩
 | r::rs,q,os,z,vals,he,hn,hz,hq,hl,hsh=>by
  simp only [List.all_cons,Bool.and_eq_true] at he hn hz
  simp only [List.length_cons] at hl
  have hsz:=Nat.le_of_ble_eq_true hz.1
  have ih:=fun vals=>res_mv h0 hs hU hhd hlab rs (q+32) os z.2 vals he.2 hn.2 hz.2 (by omega) (by omega) (fun h=>hsh (by simp [h]))
  have one:(∀ v,VRel g w U (resVal site q r z.1).1 v→VRel g' w U' (resVal site q r z.1).1 v)∧
    ∀ id oo,look (resVal site q r z.1).2 id=some oo→id / 1024=site∧∃ ob,oo=some ob∧(ORel g w U id ob→ORel g' w U' id ob):=by
   cases r with
   | val t=>
    have hsz:t.size≤30:=hsz
    refine ⟨fun v h=>shut_mv h0 hs (fun id hid=>hhd id 0 [] hid) (flat_simple (fun j hj=>by omega) t z.1 0 hn.1 (by omega)) h,fun id oo h=>?_⟩
    obtain ⟨u,xs,k,rfl,h2,h3,h4,rfl⟩:=flatObjs_row t z.1 0 id oo h
    have hdiv:(site*1024+q+k) / 1024=site:=by omega
    refine ⟨hdiv,_,rfl,fun hO=>⟨h0,hs,RowR_no (hhd _ _ _ hdiv) (fun q _=>hhd _ _ _ hdiv) (fun b o p hb=>hlab _ _ _ _ hb hdiv) (h2 hn.1) hO.2.2⟩⟩
   | sh t=>
    refine ⟨fun v h=>VRel_self hU (hsh (by simp [isShR])) (fun id hid=>sh_simple t z.1 0 id (shut_ids id hid)) h,fun id oo h=>by simp [resVal,look] at h⟩
   | ptr t ms=>simp [RK.easy] at he
  refine ⟨fun h=>?_,fun id oo h=>?_⟩
  ·obtain ⟨x,r',e,a,b⟩:=h
   exact ⟨x,r',e,one.1 x a,(ih r').1 b⟩
  ·replace h:look ((resVal site q r z.1).2++(resVals site (q+32) rs os z.2).2.1) id=some oo:=h
   rw [look_app] at h
   cases hq':look (resVal site q r z.1).2 id with
   | some y=>
    rw [hq'] at h
    simp only [Option.some.injEq] at h
    subst h
    exact one.2 id _ hq'
   | none=>
    rw [hq'] at h
    exact (ih []).2 id oo h
def IoV (g:Gh) (w:World) (V:Nat→Nat) (base:Nat):(t:Ty)→Nat→{os:List Ty}→OTs (t.slsA os)→(OTs os→Prop)→Prop
 | .pair a b,j,os,y,K=>IoV g w V base a j (os:=b.slsA os) y (fun y=>IoV g w V base b (j+a.size) (os:=os) y K)
 | .sl u,j,_,y,K=>RowR g w true (base+j) 0 (V (base+j)) u noSk [] y.1∧K y.2
 | .int _,_,_,y,K=>K y
 | .bool,_,_,y,K=>K y
 | .str,_,_,y,K=>K y
 | .err,_,_,y,K=>K y
 | .osl _,_,_,y,K=>K y
theorem IoV_congr {V V':Nat→Nat} {base:Nat} : ∀ (t:Ty) (j:Nat) {os:List Ty} (y:OTs (t.slsA os)) {K K':OTs os→Prop},(∀ m,base+j≤m→V' m=V m)→(∀ y,K y→K' y)→IoV g w V base t j y K→IoV g w V' base t j y K'
 | .pair a b,j,os,y,K,K',h,hK,h'=>IoV_congr a j (os:=b.slsA os) y h (fun y hy=>IoV_congr b (j+a.size) (os:=os) y (fun m hm=>h m (by omega)) hK hy) h'
 | .sl u,j,_,y,K,K',h,hK,⟨h1,h2⟩=>⟨by rw [h _ (Nat.le_refl _)]; exact h1,hK _ h2⟩
 | .int _,_,_,y,K,K',h,hK,h'=>hK y h'
 | .bool,_,_,y,K,K',h,hK,h'=>hK y h'
 | .str,_,_,y,K,K',h,hK,h'=>hK y h'
 | .err,_,_,y,K,K',h,hK,h'=>hK y h'
 | .osl _,_,_,y,K,K',h,hK,h'=>hK y h'
theorem IoV_of {base:Nat} : ∀ (t:Ty) (j:Nat) {os:List Ty} (y:OTs (t.slsA os)) {K:OTs os→Prop} {KV:(Nat→Nat)→OTs os→Prop},IoOK g w base t j y K→(∀ y,K y→∃ V,KV V y)→
  (∀ V V' y,(∀ m,base+j+t.size≤m→V' m=V m)→KV V y→KV V' y)→∃ V,IoV g w V base t j y (KV V)
 | .pair a b,j,os,y,K,KV,h,hK,hc=>by
  have hs:=a.size_pos
  have hs2:=b.size_pos
  refine IoV_of a j (os:=b.slsA os) y (KV:=fun V y=>IoV g w V base b (j+a.size) (os:=os) y (KV V)) h (fun y hy=>IoV_of b (j+a.size) (os:=os) y hy hK (fun V V' y hm hv=>hc V V' y (fun m hm'=>hm m (by simp only [Ty.size] at hm'; omega)) hv)) (fun V V' y hm hv=>?_)
  exact IoV_congr b (j+a.size) (os:=os) y (fun m hm'=>hm m (by omega)) (fun y hy=>hc V V' y (fun m hm'=>hm m (by simp only [Ty.size] at hm'; omega)) hy) hv
 | .sl u,j,_,y,K,KV,⟨⟨v,h1⟩,h2⟩,hK,hc=>by
  obtain ⟨V,h3⟩:=hK _ h2
  refine ⟨fun m=>if m=base+j then v else V m,by simpa using h1,hc V _ y.2 (fun m hm=>if_neg (by simp only [Ty.size] at hm; omega)) h3⟩
 | .int _,_,_,y,K,KV,h,hK,hc=>hK y h
 | .bool,_,_,y,K,KV,h,hK,hc=>hK y h
 | .str,_,_,y,K,KV,h,hK,hc=>hK y h
 | .err,_,_,y,K,KV,h,hK,hc=>hK y h
 | .osl _,_,_,y,K,KV,h,hK,hc=>hK y h
def OutV (g:Gh) (w:World) (V:Nat→Nat):Nat→(ps:List PK)→OTs (PK.outs ps)→Prop
 | _,[],_=>True
 | i,.io t::ps,y=>IoV g w V (i*1024) t 0 y (fun y=>OutV g w V (i+1) ps y)
 | _,.pio _ _::_,_=>False
 | i,.val _::ps,y=>OutV g w V (i+1) ps y
 | i,.psh _::ps,y=>OutV g w V (i+1) ps y
 | i,.fnc _ _::ps,y=>OutV g w V (i+1) ps y
theorem up1024 {i m:Nat} (h:(i+1)*1024≤m):i*1024≤m:=Nat.le_trans (Nat.mul_le_mul_right _ (Nat.le_succ i)) h
theorem up1024' {i m k:Nat} (hk:k≤1024) (h:(i+1)*1024≤m):i*1024+k≤m:=by
 have:=Nat.succ_mul i 1024
 omega
theorem OutV_congr {V V':Nat→Nat} : ∀ (ps:List PK) (i:Nat) (y:OTs (PK.outs ps)),(∀ m,i*1024≤m→V' m=V m)→OutV g w V i ps y→OutV g w V' i ps y:=by
 intro ps
 induction ps with
 | nil=>intro i y h h'; trivial
 | cons p ps ih=>
  intro i y h h'
  have h2:∀ m,(i+1)*1024≤m→V' m=V m:=fun m hm=>h m (up1024 hm)
  cases p with
  | io t=>exact IoV_congr t 0 (os:=PK.outs ps) y (fun m hm=>h m (by rw [Nat.add_zero] at hm; exact hm)) (fun y hy=>ih (i+1) y h2 hy) h'
  | pio t ms=>exact h'
  | val t=>exact ih (i+1) y h2 h'
  | psh t=>exact ih (i+1) y h2 h'
  | fnc f caps=>exact ih (i+1) y h2 h'
theorem OutV_of:∀ (ps:List PK) (i:Nat) (y:OTs (PK.outs ps)),ps.all (fun p=>match p with | .io t=>Nat.ble t.size 30 | _=>true)=true→OutOK g w i ps y→∃ V,OutV g w V i ps y:=by
 intro ps
 induction ps with
 | nil=>intro i y hz h; exact ⟨fun _=>0,trivial⟩
 | cons p ps ih=>
  intro i y hz h
  simp only [List.all_cons,Bool.and_eq_true] at hz
  cases p with
  | io t=>
   have hs:=Nat.le_of_ble_eq_true hz.1
   exact IoV_of t 0 (os:=PK.outs ps) y (KV:=fun V y=>OutV g w V (i+1) ps y) h (fun y hy=>ih (i+1) y hz.2 hy)
    (fun V V' y hm hv=>OutV_congr ps (i+1) y (fun m hm'=>hm m (by rw [Nat.add_zero]; exact up1024' (by omega) hm')) hv)
  | pio t ms=>exact h.elim
  | val t=>exact ih (i+1) y hz.2 h
  | psh t=>exact ih (i+1) y hz.2 h
  | fnc f caps=>exact ih (i+1) y hz.2 h
theorem ty_beq_refl:∀ t:Ty,t.beq t=true
 | .int k=>by cases k<;>rfl
 | .bool | .str | .err=>rfl
 | .pair a b=>by simp [Ty.beq,ty_beq_refl a,ty_beq_refl b]
 | .sl t=>by simp [Ty.beq,ty_beq_refl t]
 | .osl t=>by simp [Ty.beq,ty_beq_refl t]
theorem slsA_all {p:Ty→Bool} : ∀ (t:Ty) (os:List Ty),(t.slsA os).all p=true→os.all p=true
 | .pair a b,os,h=>slsA_all b os (slsA_all a _ h)
 | .sl u,os,h=>by
  replace h:(Ty.sl u::os).all p=true:=h
  simp only [List.all_cons,Bool.and_eq_true] at h
  exact h.2
 | .int _,os,h=>h
 | .bool,os,h=>h
 | .str,os,h=>h
 | .err,os,h=>h
 | .osl _,os,h=>h
theorem io_one {n:Nat} {cs:List AVal} {os:List Ty} {y:OTs os} {o:List (Nat×Option AObj)} {cs':List AVal} {y':OTs os} {K:OTs os→Prop} {P:Nat→Option AObj→Prop} {st:St} (hn:n=1)
  (hno:∀ id ver p u,cs[0]?≠some (.own id ver p u)) (ho:some ([],cs.tail,y)=some (o,cs',y')) (hV:K y) :
  cs'=cs.drop n∧K y'∧(∀ id oo,look o id=some oo→P id oo)∧(∀ k id ver p u,k<n→cs[k]? = some (.own id ver p u)→(look o id).isSome=true∧st.obj id≠none):=by
 have ho:=Option.some.inj ho
 have f1:([]:List (Nat×Option AObj))=o:=congrArg (fun p=>p.1) ho
 have f2:cs.tail=cs':=congrArg (fun p=>p.2.1) ho
 have f3:y=y':=congrArg (fun p=>p.2.2) ho
 subst f1; subst f2; subst f3
 subst hn
 refine ⟨by simp,hV,fun id oo h=>by simp [look] at h,fun k id ver p u hk h=>?_⟩
 have:k=0:=by omega
 subst this
 exact absurd h (hno id ver p u)
theorem io_mv {site:Nat} {l:List (Nat×Nat)} {V:Nat→Nat} (h0:U' 0) (hs:U' site) (hUs:∀ s,U s→U' s)
  (hroot:∀ n id,look l n=some id→g'.hd id 0 []=g.hd n 0 []) (hinn:∀ n id q,look l n=some id→g'.hd id site q=g.hd n (V n) q)
  (hlab:∀ n id b o p,look l n=some id→g.lab b o=some (n,p)→g'.lab b o=some (id,p)) {base:Nat} :
  ∀ (t:Ty) (j:Nat) (cs:List AVal) (x:t.T) (r:List AVal) {os:List Ty} (y:OTs (t.slsA os)) (o:List (Nat×Option AObj)) (cs':List AVal) (y':OTs os) (K:OTs os→Prop),
   (t.slsA os).all Ty.noOsl=true→ioDat st t cs=some (x,r)→ioOut st site t cs y=some (o,cs',y')→
   (∀ k id ver p u,k<t.size→cs[k]? = some (.own id ver p u)→look l (base+j+k)=some id)→IoV g w V base t j y K→
   cs'=cs.drop t.size∧K y'∧
   (∀ id oo,look o id=some oo→st.obj id≠none∧(∃ k ver p u,k<t.size∧cs[k]? = some (.own id ver p u))∧∃ ob,oo=some ob∧∀ w1,Objs g1 w1 U st→U' (id / 1024)∧ORel g' w U' id ob)∧
   (∀ k id ver p u,k<t.size→cs[k]? = some (.own id ver p u)→(look o id).isSome=true∧st.obj id≠none)
 | .pair a b,j,cs,x,r,os,y,o,cs',y',K,hn,hd,ho,hl,hV=>by
  replace hd:(match ioDat st a cs with
   | some (x,r)=>(match ioDat st b r with | some (y,r)=>some ((x,y),r) | none=>none)
   | none=>none)=some (x,r):=hd
  replace ho:(match ioOut st site a cs (os:=b.slsA os) y with
   | some (o,cs,y)=>(match ioOut st site b cs (os:=os) y with | some (p,cs,y)=>some (o++p,cs,y) | none=>none)
   | none=>none)=some (o,cs',y'):=ho
  split at hd
  ·rename_i xa r1 d1
   split at hd
   ·rename_i xb r2 d2
    split at ho
    ·rename_i o1 c1 y1 e1
     split at ho
     ·rename_i o2 c2 y2 e2
      have ho:=Option.some.inj ho
      have f1:o1++o2=o:=congrArg (fun p=>p.1) ho
      have f2:c2=cs':=congrArg (fun p=>p.2.1) ho
      have f3:y2=y':=congrArg (fun p=>p.2.2) ho
      subst f1; subst f2; subst f3
      obtain ⟨-,rfl⟩:=ioDat_len a cs xa r1 d1
      obtain ⟨a1,a2,a3,a4⟩:=io_mv h0 hs hUs hroot hinn hlab a j cs xa _ y o1 c1 y1 (fun y=>IoV g w V base b (j+a.size) (os:=os) y K) hn d1 e1 (fun k id ver p u hk h=>hl k id ver p u (by simp only [Ty.size]; omega) h) hV
      subst a1
      obtain ⟨b1,b2,b3,b4⟩:=io_mv h0 hs hUs hroot hinn hlab b (j+a.size) _ xb _ y1 o2 c2 y2 K (slsA_all a _ hn) d2 e2 (fun k id ver p u hk h=>by
       have:=hl (a.size+k) id ver p u (by simp only [Ty.size]; omega) (by rw [List.getElem?_drop] at h; exact h)
       simpa [Nat.add_assoc] using this) a2
      refine ⟨by rw [b1,List.drop_drop]; rfl,b2,fun id oo h=>?_,fun k id ver p u hk h=>?_⟩
      ·rw [look_app] at h
       cases hq:look o1 id with
       | some q=>
        rw [hq] at h
        simp only [Option.some.injEq] at h
        subst h
        obtain ⟨c1,⟨k,ver,p,u,hk,hc⟩,c3⟩:=a3 id _ hq
        exact ⟨c1,⟨k,ver,p,u,by simp only [Ty.size]; omega,hc⟩,c3⟩
       | none=>
        rw [hq] at h
        obtain ⟨c1,⟨k,ver,p,u,hk,hc⟩,c3⟩:=b3 id _ h
        exact ⟨c1,⟨a.size+k,ver,p,u,by simp only [Ty.size]; omega,by rw [List.getElem?_drop] at hc; exact hc⟩,c3⟩
      ·simp only [Ty.size] at hk
       rw [look_app]
       by_cases hka:k<a.size
       ·obtain ⟨c1,c2⟩:=a4 k id ver p u hka h
        refine ⟨?_,c2⟩
        cases hq:look o1 id with
        | some q=>rfl
        | none=>rw [hq] at c1; simp at c1
       ·obtain ⟨c1,c2⟩:=b4 (k-a.size) id ver p u (by omega) (by rw [List.getElem?_drop,show a.size+(k-a.size)=k by omega]; exact h)
        refine ⟨?_,c2⟩
        cases hq:look o1 id with
        | some q=>rfl
        | none=>exact c1
     ·simp at ho
    ·simp at ho
   ·simp at hd
  ·simp at hd
 | .sl t,j,cs,x,r,os,y,o,cs',y',K,hn,hd,ho,hl,⟨hV1,hV2⟩=>by
  replace hn:(Ty.sl t::os).all Ty.noOsl=true:=hn
  simp only [List.all_cons,Bool.and_eq_true] at hn
  cases cs with
  | nil=>exact absurd (show none=some _ from hd) (by simp)
  | cons c cs=>
   cases c with
   | own id ver p u=>
    cases p with
    | cons a p=>exact absurd (show none=some _ from hd) (by simp)
    | nil=>
     replace hd:(match st.obj id with
      | some (.row true u _ xs)=>(match Ty.cast (.sl u) (.sl t) xs with | some ys=>some (ys,cs) | none=>none)
      | _=>none)=some (x,r):=hd
     replace ho:(match st.obj id with
      | some (.row own u _ _)=>(match Ty.cast (.sl t) (.sl u) y.1 with | some xs=>some ([(id,some (.row own u site xs))],cs,y.2) | none=>none)
      | _=>none)=some (o,cs',y'):=ho
     cases hob:st.obj id with
     | none=>rw [hob] at hd; exact absurd hd (by simp)
     | some ob=>
      rw [hob] at hd ho
      cases ob with
      | row own u' vr xs=>
       cases own with
       | false=>exact absurd hd (by simp)
       | true=>
        replace hd:(match Ty.cast (.sl u') (.sl t) xs with | some ys=>some (ys,cs) | none=>none)=some (x,r):=hd
        replace ho:(match Ty.cast (.sl t) (.sl u') y.1 with | some xs=>some ([(id,some (AObj.row true u' site xs))],cs,y.2) | none=>none)=some (o,cs',y'):=ho
        split at hd
        ·rename_i ys hc
         obtain ⟨rfl,-⟩:=cast_sl hc
         have hput:Ty.cast (.sl u') (.sl u') y.1=some y.1:=by
          unfold Ty.cast
          rw [dif_pos (ty_beq_refl _)]
         rw [hput] at ho
         have ho:=Option.some.inj ho
         have f1:[(id,some (AObj.row true u' site y.1))]=o:=congrArg (fun p=>p.1) ho
         have f2:cs=cs':=congrArg (fun p=>p.2.1) ho
         have f3:y.2=y':=congrArg (fun p=>p.2.2) ho
         subst f1; subst f2; subst f3
         have hl1:look l (base+j)=some id:=by
          have:=hl 0 id ver [] u (by simp [Ty.size]) rfl
          simpa using this
         refine ⟨rfl,hV2,fun id' oo h=>?_,fun k id' ver' p' u' hk h=>?_⟩
         ·rw [look_cons] at h
          split at h
          ·rename_i he
           subst he
           simp only [Option.some.injEq] at h
           refine ⟨by rw [hob]; simp,⟨0,_,_,_,by simp [Ty.size],rfl⟩,_,h.symm,fun w1 hO1=>⟨hUs _ (hO1 id _ hob).1,h0,hs,?_⟩⟩
           exact RowR_no (hroot _ id hl1) (fun q' _=>hinn _ id q' hl1) (fun b o p hb=>hlab _ id b o p hl1 hb) hn.1 hV1
          ·simp [look] at h
         ·simp only [Ty.size] at hk
          have:k=0:=by omega
          subst this
          simp only [List.getElem?_cons_zero,Option.some.injEq,AVal.own.injEq] at h
          obtain ⟨rfl,-⟩:=h
          exact ⟨by rw [look_cons,if_pos rfl]; rfl,by rw [hob]; simp⟩
        ·simp at hd
      | _=>exact absurd hd (by simp)
   | _=>exact absurd (show none=some _ from hd) (by simp)
 | .int k,j,cs,x,r,os,y,o,cs',y',K,hn,hd,ho,hl,hV=>by
  have ho:some ([],cs.tail,y)=some (o,cs',y'):=ho
  exact io_one (by simp [Ty.size]) (by
   intro id ver p u h
   cases cs with
   | nil=>simp at h
   | cons c cs=>simp at h; subst h; simp [ioDat] at hd) ho hV
 | .bool,j,cs,x,r,os,y,o,cs',y',K,hn,hd,ho,hl,hV=>by
  have ho:some ([],cs.tail,y)=some (o,cs',y'):=ho
  exact io_one (by simp [Ty.size]) (by
   intro id ver p u h
   cases cs with
   | nil=>simp at h
   | cons c cs=>simp at h; subst h; simp [ioDat] at hd) ho hV
 | .str,j,cs,x,r,os,y,o,cs',y',K,hn,hd,ho,hl,hV=>by
  have ho:some ([],cs.tail,y)=some (o,cs',y'):=ho
  exact io_one (by simp [Ty.size]) (by
   intro id ver p u h
   cases cs with
   | nil=>simp at h
   | cons c cs=>simp at h; subst h; simp [ioDat] at hd) ho hV
 | .err,j,cs,x,r,os,y,o,cs',y',K,hn,hd,ho,hl,hV=>by
  have ho:some ([],cs.tail,y)=some (o,cs',y'):=ho
  exact io_one (by simp [Ty.size]) (by
   intro id ver p u h
   cases cs with
   | nil=>simp at h
   | cons c cs=>simp at h; subst h; simp [ioDat] at hd) ho hV
 | .osl t,j,cs,x,r,os,y,o,cs',y',K,hn,hd,ho,hl,hV=>by simp [ioDat] at hd
theorem outs_mv {site:Nat} {l:List (Nat×Nat)} {V:Nat→Nat} (h0:U' 0) (hs:U' site) (hUs:∀ s,U s→U' s)
  (hroot:∀ n id,look l n=some id→g'.hd id 0 []=g.hd n 0 []) (hinn:∀ n id q,look l n=some id→g'.hd id site q=g.hd n (V n) q)
  (hlab:∀ n id b o p,look l n=some id→g.lab b o=some (n,p)→g'.lab b o=some (id,p)) :
  ∀ (ps:List PK) (i q:Nat) (x:PTs ps) (vs:List AVal) (y:OTs (PK.outs ps)) (o:List (Nat×Option AObj)),ps.all PK.easy=true→(PK.outs ps).all Ty.noOsl=true→decPs st sr ps vs=some x→
   outObjs st site q ps vs y=some o→(∀ p∈ioL i ps vs,look l p.1=some p.2)→OutV g w V i ps y→
   (∀ id oo,look o id=some oo→st.obj id≠none∧(∃ i',(i',id)∈ioL i ps vs)∧∃ ob,oo=some ob∧∀ w1,Objs g1 w1 U st→U' (id / 1024)∧ORel g' w U' id ob)∧
   (∀ p∈ioL i ps vs,(look o p.2).isSome=true∧st.obj p.2≠none)
 | [],i,q,x,vs,y,o,he,hn,e,ho,hl,hV=>by
  cases vs with
  | nil=>
   obtain rfl:=Option.some.inj (show some []=some o from ho)
   exact ⟨fun id oo h=>by simp [look] at h,fun p h=>by simp [ioL] at h⟩
  | cons v vs=>exact absurd (show none=some x from e) (by simp)
 | p::ps,i,q,x,[],y,o,he,hn,e,ho,hl,hV=>absurd (show none=some x from e) (by simp)
 | p::ps,i,q,x,v::vs,y,o,he,hn,e,ho,hl,hV=>by
  simp only [List.all_cons,Bool.and_eq_true] at he
  obtain ⟨e1,e2⟩:=decPs_cons e
  have hl2:∀ p∈ioL (i+1) ps vs,look l p.1=some p.2:=fun p' hp=>hl p' (by simp only [ioL,List.mem_append]; exact .inr hp)
  have rest:=fun (y':OTs (PK.outs ps)) (o':List (Nat×Option AObj)) (hn':(PK.outs ps).all Ty.noOsl=true) (ho':outObjs st site (q+32) ps vs y'=some o') (hV':OutV g w V (i+1) ps y')=>
   outs_mv h0 hs hUs hroot hinn hlab ps (i+1) _ x.2 vs y' o' he.2 hn' e2 ho' hl2 hV'
  have same:ioL i (p::ps) (v::vs)=ioL (i+1) ps vs→∀ (y':OTs (PK.outs ps)),(PK.outs ps).all Ty.noOsl=true→outObjs st site (q+32) ps vs y'=some o→OutV g w V (i+1) ps y'→
    (∀ id oo,look o id=some oo→st.obj id≠none∧(∃ i',(i',id)∈ioL i (p::ps) (v::vs))∧∃ ob,oo=some ob∧∀ w1,Objs g1 w1 U st→U' (id / 1024)∧ORel g' w U' id ob)∧
    (∀ p'∈ioL i (p::ps) (v::vs),(look o p'.2).isSome=true∧st.obj p'.2≠none):=by
   intro h1 y' hn' ho' hV'
   rw [h1]
   exact rest y' o hn' ho' hV'
  cases p with
  | pio t ms=>simp [PK.easy] at he
  | val t=>exact same (by simp [ioL]) y hn ho hV
  | psh t=>exact same (by simp [ioL]) y hn ho hV
  | fnc f caps=>exact same (by simp [ioL]) y hn ho hV
  | io t=>
   obtain ⟨d1,d2⟩:=decP_io e1
   replace hn:(t.slsA (PK.outs ps)).all Ty.noOsl=true:=hn
   replace ho:(match ioOut st site t (fcells t v) y with
    | some (o,_,y')=>(match outObjs st site (q+32) ps vs y' with | some r=>some (o++r) | none=>none)
    | none=>none)=some o:=ho
   split at ho
   ·rename_i o1 c1 y1 ho1
    split at ho
    ·rename_i o2 ho2
     obtain rfl:=Option.some.inj ho
     obtain ⟨-,hV2,a3,a4⟩:=io_mv (g1:=g1) h0 hs hUs hroot hinn hlab t 0 _ x.1 [] (os:=PK.outs ps) y o1 c1 y1 (fun y=>OutV g w V (i+1) ps y) hn d1 ho1 (fun k id ver p u hk h=>by
      have:=hl (i*1024+k,id) (by
       simp only [ioL,List.mem_append]
       exact .inl ((nmL_mem _ _ _ _).2 ⟨k,ver,p,u,h,rfl⟩))
      simpa using this) hV
     obtain ⟨k1,k2⟩:=rest y1 o2 (slsA_all t _ hn) ho2 hV2
     refine ⟨fun id oo h=>?_,fun p' hp'=>?_⟩
     ·rw [look_app] at h
      cases hq:look o1 id with
      | some qq=>
       rw [hq] at h
       simp only [Option.some.injEq] at h
       subst h
       obtain ⟨c1,⟨k,ver,p,u,hk,hc⟩,c3⟩:=a3 id _ hq
       refine ⟨c1,⟨i*1024+k,?_⟩,c3⟩
       simp only [ioL,List.mem_append]
       exact .inl ((nmL_mem _ _ _ _).2 ⟨k,ver,p,u,hc,rfl⟩)
      | none=>
       rw [hq] at h
       obtain ⟨a1,⟨i',a2⟩,a3⟩:=k1 id oo h
       exact ⟨a1,⟨i',by simp only [ioL,List.mem_append]; exact .inr a2⟩,a3⟩
     ·simp only [ioL,List.mem_append] at hp'
      rw [look_app]
      rcases hp' with hp' | hp'
      ·obtain ⟨m,id⟩:=p'
       obtain ⟨k,ver,p,u,h1,h2⟩:=(nmL_mem _ _ _ _).1 hp'
       have hk:=(List.getElem?_eq_some_iff.1 h1).1
       obtain ⟨c1,c2⟩:=a4 k id ver p u (by omega) h1
       refine ⟨?_,c2⟩
       cases hq:look o1 id with
       | some q=>rfl
       | none=>rw [hq] at c1; simp at c1
      ·obtain ⟨a1,a2⟩:=k2 p' hp'
       refine ⟨?_,a2⟩
       cases hq:look o1 p'.2 with
       | some q=>rfl
       | none=>exact a1
    ·simp at ho
   ·simp at ho
end
end Go.Am
namespace Go.Am
open Go
def GoF (P:Program) (f:FuncId):Prop:=∃ fn,P.funcs[f]? = some fn∧(fn.name== "runtime.NumGoroutine")=false∧fn.body.isNone=false
structure PtsOK (P:Program) (f:FuncId):Prop where
 a:∀ (w:World) (b o:Nat) (op:Int),w.cell? (ad b o)=some (.int .i64 op)→ptsA op=true→Calls P f #[.pointer (some (ad b o))] w fun e w'=>
  e = .returned (.slice (some (ad w.heap.size 0)) 2 2)∧∃ t,NewB w w' #[.pointer (some (ad b (o+1))),.pointer (some (ad b (o+2)))] t
 b:∀ (w:World) (b o:Nat) (op:Int),w.cell? (ad b o)=some (.int .i64 op)→ptsB op=true→Calls P f #[.pointer (some (ad b o))] w fun e w'=>
  e = .returned (.slice (some (ad w.heap.size 0)) 3 3)∧∃ t,NewB w w' #[.pointer (some (ad b (o+1))),.pointer (some (ad b (o+2))),.pointer (some (ad b (o+3)))] t
 c:∀ (w:World) (b o:Nat) (op:Int),w.cell? (ad b o)=some (.int .i64 op)→ptsC op=true→Calls P f #[.pointer (some (ad b o))] w fun e w'=>
  e = .returned (.slice (some (ad w.heap.size 0)) 1 1)∧∃ t,NewB w w' #[.pointer (some (ad b (o+2)))] t
 n:∀ (w:World) (b o:Nat) (op:Int),w.cell? (ad b o)=some (.int .i64 op)→ptsA op=false→ptsB op=false→ptsC op=false→Calls P f #[.pointer (some (ad b o))] w fun e w'=>
  e = .returned (.slice none 0 0)∧w'=w
def PtsAll (P:Program) (c:Cfg):Prop:=∀ f,c.frz.any (Nat.beq (f+3000000))=true→PtsOK P f∧GoF P f
def CallsOK (P:Program) (c:Cfg):Prop:=(∀ f m,(f,m)∈c.calls→Sound P (fidOf f) m∧GoF P (fidOf f))∧PtsAll P c
theorem ptsAll_none {P:Program} {c:Cfg} (h:c.frz.all (fun x=>Nat.blt x 3000000)=true):PtsAll P c:=by
 intro f hf
 obtain ⟨x,hx,he⟩:=List.any_eq_true.1 hf
 have h1:=List.all_eq_true.1 h x hx
 have h2:=Nat.eq_of_beq_eq_true he
 have h3:x<3000000:=by simpa [Nat.blt_eq] using h1
 omega
theorem ptsAll_one {P:Program} {c:Cfg} {f:FuncId} (h:c.frz.all (fun x=>Nat.blt x 3000000||Nat.beq x (f+3000000))=true) (hp:PtsOK P f) (hg:GoF P f):PtsAll P c:=by
 intro f' hf
 obtain ⟨x,hx,he⟩:=List.any_eq_true.1 hf
 have h1:=List.all_eq_true.1 h x hx
 have h2:=Nat.eq_of_beq_eq_true he
 simp only [Bool.or_eq_true] at h1
 rcases h1 with h1 | h1
 ·have h3:x<3000000:=by simpa [Nat.blt_eq] using h1
  omega
 ·have h3:=Nat.eq_of_beq_eq_true h1
  have:f'=f:=by omega
  subst this
  exact ⟨hp,hg⟩
theorem findM_ok {st:St} {f:Nat} {args:List AVal} : ∀ (l:List (Nat×Mng)) (m:Mng) (x:PTs m.ps),findM st f args l=some ⟨m,x⟩→(f,m)∈l∧decPs st (readSt st m.rs (ioIds st m.ps args)) m.ps args=some x
 | [],m,x,e=>by simp [findM] at e
 | (g,m')::l,m,x,e=>by
  simp only [findM] at e
  split at e
  ·obtain ⟨h1,h2⟩:=findM_ok l m x e
   exact ⟨List.mem_cons_of_mem _ h1,h2⟩
  ·rename_i hb
   obtain rfl:=Nat.eq_of_beq_eq_true hb
   split at e
   ·rename_i x' hx
    simp only [Option.some.injEq] at e
    obtain ⟨rfl,e⟩:=Sigma.mk.inj e
    obtain rfl:=eq_of_heq e
    exact ⟨by simp,hx⟩
   ·obtain ⟨h1,h2⟩:=findM_ok l m x e
    exact ⟨List.mem_cons_of_mem _ h1,h2⟩
theorem readSt_obj {st:St} {rs:List RK} {io:List Nat} {id:Nat} {ob:AObj} (h:(readSt st rs io).obj id=some ob):rs.any isShR=false∧id∉io∧st.obj id=some ob:=by
 unfold readSt at h
 split at h
 ·simp [St.obj,look] at h
 ·rename_i hr
  unfold St.obj at h
  simp only [look_app,look_gone] at h
  by_cases hm:id∈io
  ·simp [hm] at h
  ·simp only [hm,if_false] at h
   exact ⟨hr,hm,h⟩
theorem VRels_app {g:Gh} {w:World} {U:Nat→Prop} : ∀ {as bs:List AVal} {l m:List Value},VRels g w U as l→VRels g w U bs m→VRels g w U (as++bs) (l++m)
 | [],bs,l,m,h,h'=>by obtain rfl:=h; exact h'
 | a::as,bs,l,m,⟨x,r,e,h1,h2⟩,h'=>⟨x,r++m,by rw [e]; rfl,h1,VRels_app h2 h'⟩
section
variable {P:Program} {c:Cfg} {g:Gh} {w:World} {U:Nat→Prop} {sr:St} {a:Act} {site:Nat} {o:Oper} {ρ:Type} {r:ρ} {k:Eff→Option ρ}
theorem swp_look {l:List (Nat×Nat)} (h1:(l.map (·.1)).Nodup) (h2:(l.map (·.2)).Nodup):(∀ p∈l,look l p.1=some p.2∧look (swp l) p.2=some p.1)∧(∀ i id,look l i=some id→look (swp l) id=some i)∧(∀ i id,look (swp l) id=some i→look l i=some id):=by
 have hn:((swp l).map (·.1)).Nodup:=by simpa [swp,Function.comp_def] using h2
 have hmem:∀ i id,(i,id)∈l→(id,i)∈swp l:=fun i id h=>List.mem_map.2 ⟨_,h,rfl⟩
 refine ⟨fun p hp=>⟨look_nodup h1 hp,look_nodup hn (hmem _ _ hp)⟩,fun i id h=>look_nodup hn (hmem _ _ (look_mem h)),fun i id h=>?_⟩
 obtain ⟨p,hp,e⟩:=List.mem_map.1 (look_mem h)
 simp only [Prod.mk.injEq] at e
 obtain ⟨rfl,rfl⟩:=e
 exact look_nodup h1 hp
def outGh (g g1:Gh) (site:Nat) (l:List (Nat×Nat)) (V:Nat→Nat):Gh where
 hd n ver s:=if n / 1024=site then g1.hd n ver s else if ver=site then (match look (swp l) n with | some i=>g1.hd i (V i) s | none=>nilHd) else g.hd n ver s
 lab b o:=match g1.lab b o with
  | none=>(match g.lab b o with | some (id,p)=>(match look (swp l) id with | some _=>none | none=>some (id,p)) | none=>none)
  | some (id,p)=>if id / 1024=site then some (id,p) else (match look l id with
    | some cid=>some (cid,p)
    | none=>(match g.lab b o with | some q=>some q | none=>some (site*1024+1023,[])))
theorem own_obj {st:St} : ∀ (t:Ty) (cs:List AVal) (x:t.T) (r:List AVal),ioDat st t cs=some (x,r)→∀ k id ver p u,k<t.size→cs[k]? = some (.own id ver p u)→∃ ob,st.obj id=some ob
 | .pair a b,cs,x,r,e,k,id,ver,p,u,hk,h=>by
  replace e:(match ioDat st a cs with
   | some (x,r)=>(match ioDat st b r with | some (y,r)=>some ((x,y),r) | none=>none)
   | none=>none)=some (x,r):=e
  split at e
  ·rename_i y r1 e1
   split at e
   ·rename_i z r2 e2
    obtain ⟨-,rfl⟩:=ioDat_len a cs y r1 e1
    by_cases hka:k<a.size
    ·exact own_obj a cs y _ e1 k id ver p u hka h
    ·simp only [Ty.size] at hk
     exact own_obj b _ z r2 e2 (k-a.size) id ver p u (by omega) (by rw [List.getElem?_drop,show a.size+(k-a.size)=k by omega]; exact h)
   ·simp at e
  ·simp at e
 | .sl t,cs,x,r,e,k,id,ver,p,u,hk,h=>by
  simp only [Ty.size] at hk
  have:k=0:=by omega
  subst this
  cases cs with
  | nil=>simp at h
  | cons c cs=>
   simp only [List.getElem?_cons_zero,Option.some.injEq] at h
   subst h
   cases p with
   | cons a p=>exact absurd (show none=some _ from e) (by simp)
   | nil=>
    replace e:(match st.obj id with
     | some (.row true u _ xs)=>(match Ty.cast (.sl u) (.sl t) xs with | some ys=>some (ys,cs) | none=>none)
     | _=>none)=some (x,r):=e
    cases ho:st.obj id with
    | none=>rw [ho] at e; exact absurd e (by simp)
    | some ob=>exact ⟨ob,rfl⟩
 | .int k',cs,x,r,e,k,id,ver,p,u,hk,h=>by
  simp only [Ty.size] at hk
  have:k=0:=by omega
  subst this
  cases cs with
  | nil=>simp at h
  | cons c cs=>simp only [List.getElem?_cons_zero,Option.some.injEq] at h; subst h; simp [ioDat] at e
 | .bool,cs,x,r,e,k,id,ver,p,u,hk,h=>by
  simp only [Ty.size] at hk
  have:k=0:=by omega
  subst this
  cases cs with
  | nil=>simp at h
  | cons c cs=>simp only [List.getElem?_cons_zero,Option.some.injEq] at h; subst h; simp [ioDat] at e
 | .str,cs,x,r,e,k,id,ver,p,u,hk,h=>by
  simp only [Ty.size] at hk
  have:k=0:=by omega
  subst this
  cases cs with
  | nil=>simp at h
  | cons c cs=>simp only [List.getElem?_cons_zero,Option.some.injEq] at h; subst h; simp [ioDat] at e
 | .err,cs,x,r,e,k,id,ver,p,u,hk,h=>by
  simp only [Ty.size] at hk
  have:k=0:=by omega
  subst this
  cases cs with
  | nil=>simp at h
  | cons c cs=>simp only [List.getElem?_cons_zero,Option.some.injEq] at h; subst h; simp [ioDat] at e
 | .osl t,cs,x,r,e,k,id,ver,p,u,hk,h=>by simp [ioDat] at e
theorem io_obj {st sr:St} : ∀ (ps:List PK) (i:Nat) (x:PTs ps) (vs:List AVal),ps.all PK.easy=true→decPs st sr ps vs=some x→∀ p∈ioL i ps vs,∃ ob,st.obj p.2=some ob
 | [],i,x,vs,he,e,p,hp=>by cases vs<;>simp [ioL] at hp
 | q::ps,i,x,[],he,e,p,hp=>by simp [ioL] at hp
 | q::ps,i,x,v::vs,he,e,p,hp=>by
  simp only [List.all_cons,Bool.and_eq_true] at he
  obtain ⟨e1,e2⟩:=decPs_cons e
  simp only [ioL,List.mem_append] at hp
  rcases hp with hp | hp
  ·cases q with
   | io t=>
    obtain ⟨m,id⟩:=p
    obtain ⟨k,ver,pp,u,h1,h2⟩:=(nmL_mem _ _ _ _).1 hp
    exact own_obj t _ x.1 [] (decP_io e1).1 k id ver pp u (by
     have:=(List.getElem?_eq_some_iff.1 h1).1
     rw [(decP_io e1).2] at this; exact this) h1
   | _=>simp at hp
  ·exact io_obj ps (i+1) x.2 vs he.2 e2 p hp
theorem call_post (S:Sit P c g w U sr a) (hs:¬ U site) {m:Mng} {x:PTs m.ps} {vs:List AVal} {y:OTs (RK.tys m.rs++PK.outs m.ps)} {os:List (Nat×Option AObj)} (hok:mOk m.ps m.rs=true)
  (hnd:(ioIds sr m.ps vs).Nodup) (hx:decPs sr (readSt sr m.rs (ioIds sr m.ps vs)) m.ps vs=some x) (ho:outObjs sr site 0 m.ps vs (resVals site 0 m.rs (PK.outs m.ps) y).2.2=some os)
  {v:Value} {g1:Gh} {w':World} (E:ExitOK (inGh sr g (m.rs.any isShR) (ioL 0 m.ps vs)) w site m y v g1 w') :
  ∃ g',Post g w U site ⟨match (resVals site 0 m.rs (PK.outs m.ps) y).1 with | [v]=>v | vs=>.tup vs,(resVals site 0 m.rs (PK.outs m.ps) y).2.1++os⟩ v w' g' (U' U site):=by
 unfold mOk at hok
 simp only [Bool.and_eq_true] at hok
 obtain ⟨⟨⟨⟨⟨⟨⟨⟨ok1,ok2⟩,ok3⟩,ok4⟩,ok5⟩,ok6⟩,ok7⟩,ok8⟩,ok9⟩:=hok
 have ok3:=Nat.le_of_ble_eq_true ok3
 have ok4:=Nat.le_of_ble_eq_true ok4
 have h20:20≤site:=by
  rcases Nat.lt_or_ge site 20 with h | h
  ·exact absurd (S.u20 site h) hs
  ·exact h
 obtain ⟨V,hV⟩:=OutV_of m.ps 0 _ ok9 E.outs
 let SH:=m.rs.any isShR
 let l:=ioL 0 m.ps vs
 rw [ioIds_eq m.ps vs 0 ok1] at hnd
 obtain ⟨sw1,sw2,sw3⟩:=swp_look (ioL_nodup m.ps x vs 0 ok9 hx) hnd
 have hidx:∀ i id,look l i=some id→i / 1024<15:=fun i id h=>by
  have:=ioL_idx m.ps x vs 0 ok9 hx _ (look_mem h)
  simp only at this; omega
 have hl1:∀ p∈ioL 0 m.ps vs,look l p.1=some p.2:=fun p hp=>(sw1 p hp).1
 have in_none:∀ b o,g.lab b o=none→(inGh sr g SH l).lab b o=none:=fun b o h=>inGh_none h
 have mine:∀ b o,Mine (inGh sr g SH l) b o→∃ id p i,g.lab b o=some (id,p)∧look (swp l) id=some i:=by
  rintro b o ⟨id,p,h1,h2⟩
  cases hg:g.lab b o with
  | none=>rw [in_none b o hg] at h1; simp at h1
  | some q=>
   obtain ⟨id',p'⟩:=q
   cases hw:look (swp l) id' with
   | some i=>exact ⟨id',p',i,rfl,hw⟩
   | none=>
    rw [inGh_other hg hw] at h1
    cases hSH:SH with
    | true=>rw [hSH] at h1; simp at h1; obtain ⟨rfl,-⟩:=h1; exact absurd rfl h2
    | false=>rw [hSH] at h1; simp at h1
 let g':=outGh g g1 site l V
 have g'_keep:∀ b o id p,g.lab b o=some (id,p)→look (swp l) id=none→b<w.heap.size→g'.lab b o=some (id,p):=by
  intro b o id p hg hw hb
  cases hSH:SH with
  | true=>
   have hin:(inGh sr g SH l).lab b o=some (19*1024,[]):=by rw [inGh_other hg hw,hSH]
   have hout:=E.frn b o (19*1024) [] hin rfl
   have hl19:look l (19*1024)=none:=by
    cases h:look l (19*1024) with
    | none=>rfl
    | some id=>
     have:=hidx (19*1024) id h
     rw [show 19*1024 / 1024=19 from rfl] at this; omega
   show (outGh g g1 site l V).lab b o=_
   have hns:¬ 19*1024 / 1024=site:=fun e=>by
    rw [show 19*1024 / 1024=19 from rfl] at e; omega
   simp only [outGh,hout,hg,hns,if_false,hl19]
  | false=>
   have hin:(inGh sr g SH l).lab b o=none:=by rw [inGh_other hg hw,hSH]
   have hout:g1.lab b o=none:=by
    cases h:g1.lab b o with
    | none=>rfl
    | some q=>exact absurd hin (E.old b o q hb h)
   show (outGh g g1 site l V).lab b o=_
   simp only [outGh,hout,hg,hw]
 have g'_site:∀ b o id p,g1.lab b o=some (id,p)→id / 1024=site→g'.lab b o=some (id,p):=by
  intro b o id p h1 h2
  show (outGh g g1 site l V).lab b o=_
  simp only [outGh,h1,h2,if_true]
 have g'_io:∀ i id b o p,look l i=some id→g1.lab b o=some (i,p)→g'.lab b o=some (id,p):=by
  intro i id b o p h1 h2
  have:=hidx i id h1
  show (outGh g g1 site l V).lab b o=_
  simp only [outGh,h2]
  rw [if_neg (by omega),h1]
 have hU:∀ s,U' U20 site s→U' U site s:=by
  rintro s (h | h)
  ·exact .inl (S.u20 s h)
  ·exact .inr h
 have hdS:∀ id ver p,id / 1024=site→g'.hd id ver p=g1.hd id ver p:=by
  intro id ver p h
  show (outGh g g1 site l V).hd id ver p=_
  simp [outGh,h]
 have hdU:∀ id ver p,U (id / 1024)→U ver→g'.hd id ver p=g.hd id ver p:=by
  intro id ver p h1 h2
  show (outGh g g1 site l V).hd id ver p=_
  simp only [outGh]
  rw [if_neg (fun e:id / 1024=site=>hs (e▸h1)),if_neg (fun e:ver=site=>hs (e▸h2))]
 have hshS:m.rs.any isShR=true→∀ b o,g1.lab b o=none→g'.lab b o=none:=by
  intro hSH b o h1
  cases hg:g.lab b o with
  | none=>
   show (outGh g g1 site l V).lab b o=_
   simp only [outGh,h1,hg]
  | some q=>
   obtain ⟨id,p⟩:=q
   cases hw:look (swp l) id with
   | some i=>
    show (outGh g g1 site l V).lab b o=_
    simp only [outGh,h1,hg,hw]
   | none=>
    have hin:(inGh sr g SH l).lab b o=some (19*1024,[]):=by rw [inGh_other hg hw,show SH=true from hSH]
    rw [E.frn b o (19*1024) [] hin rfl] at h1
    simp at h1
 obtain ⟨out1,out2⟩:=outs_mv (g:=g1) (g1:=g) (g':=outGh g g1 site l V) (U:=U) (U':=U' U site) (w:=w') (st:=sr) (site:=site) (l:=l) (V:=V) (.inl S.u0) (.inr rfl) (fun s h=>.inl h)
  (fun i id h=>by
   have hu:U (id / 1024):=by
    obtain ⟨p,hp,e⟩:∃ p∈l,p=(i,id):=⟨_,look_mem h,rfl⟩
    subst e
    obtain ⟨id',hp2⟩:=io_obj m.ps 0 x vs ok1 hx _ hp
    exact (S.objs id _ hp2).1
   rw [show (outGh g g1 site l V).hd id 0 []=_ from hdU id 0 [] hu S.u0,E.par i (by have:=hidx i id h; omega),inGh_hd h]
   rfl)
  (fun i id q h=>by
   have hu:U (id / 1024):=by
    obtain ⟨id',hp2⟩:=io_obj m.ps 0 x vs ok1 hx _ (look_mem h)
    exact (S.objs id _ hp2).1
   have hne:¬ id / 1024=site:=fun e=>hs (e▸hu)
   have h2:look (swp l) id=some i:=sw2 i id h
   simp only [outGh,hne,if_false,if_true,h2])
  (fun i id b o p h1 h2=>g'_io i id b o p h1 h2)
  m.ps 0 0 x vs _ os ok1 ok8 hx ho hl1 hV
 have hres:=fun vals=>res_mv (g:=g1) (g':=g') (w:=w') (U:=U' U20 site) (U':=U' U site) (site:=site) (.inl S.u0) (.inr rfl) hU hdS (fun b o id p h1 h2=>g'_site b o id p h1 h2)
  m.rs 0 (PK.outs m.ps) y vals ok2 ok7 ok5 rfl (by omega) hshS
 have hT:∀ id,(look ((resVals site 0 m.rs (PK.outs m.ps) y).2.1++os) id).isSome=true→id / 1024=site∨∃ i,look l i=some id:=by
  intro id h
  rw [look_app] at h
  cases hq:look (resVals site 0 m.rs (PK.outs m.ps) y).2.1 id with
  | some oo=>exact .inl ((hres []).2 id oo hq).1
  | none=>
   rw [hq] at h
   cases hq2:look os id with
   | none=>rw [hq2] at h; simp at h
   | some oo=>
    obtain ⟨-,⟨i,hi⟩,-⟩:=out1 id oo hq2
    exact .inr ⟨i,hl1 _ hi⟩
 have hT2:∀ i id,look l i=some id→(look ((resVals site 0 m.rs (PK.outs m.ps) y).2.1++os) id).isSome=true:=by
  intro i id h
  rw [look_app]
  cases hq:look (resVals site 0 m.rs (PK.outs m.ps) y).2.1 id with
  | some oo=>rfl
  | none=>exact (out2 _ (look_mem h)).1
 refine ⟨g',⟨⟨fun s h=>.inl h,hdU,fun b o hl v hv=>?_,fun b o id p hl hnT=>?_⟩,?_,fun id ob h=>?_,fun s h=>h,fun b o q h=>?_,fun b o q hb h=>?_,?_,fun id h=>?_⟩⟩
 ·obtain ⟨h1,h2⟩:=E.shr b o (in_none b o hl) v hv
  refine ⟨h1,?_⟩
  show (outGh g g1 site l V).lab b o=_
  simp only [outGh,h2,hl]
 ·have hw:look (swp l) id=none:=by
   cases h:look (swp l) id with
   | none=>rfl
   | some i=>exact absurd (hT2 i id (sw3 i id h)) hnT
  have hb:=S.labs b o _ hl
  refine ⟨g'_keep b o id p hl hw hb,Fr.cell E.fr hb (fun hm=>?_)⟩
  obtain ⟨id',p',i,h1,h2⟩:=mine b o hm
  rw [hl] at h1
  simp only [Option.some.injEq,Prod.mk.injEq] at h1
  obtain ⟨rfl,rfl⟩:=h1
  rw [hw] at h2; simp at h2
 ·have hv:=E.val
  revert hv
  have hmv:=fun vals=>(hres vals).1
  revert hmv
  generalize (resVals site 0 m.rs (PK.outs m.ps) y).1=rl
  intro hmv hv
  match rl,hmv,hv with
  | [],hmv,hv=>
   obtain ⟨vals,e,h⟩:=hv
   exact ⟨vals,e,hmv vals h⟩
  | [a1],hmv,hv=>
   obtain ⟨x',r',e,h1,-⟩:=hmv [v] ⟨v,[],rfl,hv,rfl⟩
   simp only [List.cons.injEq] at e
   rw [e.1]; exact h1
  | a1::a2::rl,hmv,hv=>
   obtain ⟨vals,e,h⟩:=hv
   exact ⟨vals,e,hmv vals h⟩
 ·replace h:look ((resVals site 0 m.rs (PK.outs m.ps) y).2.1++os) id=some (some ob):=h
  rw [look_app] at h
  cases hq:look (resVals site 0 m.rs (PK.outs m.ps) y).2.1 id with
  | some oo=>
   rw [hq] at h
   simp only [Option.some.injEq] at h
   subst h
   obtain ⟨h1,ob',h2,h3⟩:=(hres []).2 id _ hq
   simp only [Option.some.injEq] at h2
   subst h2
   exact ⟨by rw [h1]; exact .inr rfl,h3 (E.objs id ob hq).2⟩
  | none=>
   rw [hq] at h
   obtain ⟨-,-,ob',h2,h3⟩:=out1 id _ h
   simp only [Option.some.injEq] at h2
   subst h2
   exact h3 w S.objs
 ·cases h1:g1.lab b o with
  | some q'=>exact E.labs b o q' h1
  | none=>
   cases hg:g.lab b o with
   | some q'=>exact Nat.lt_of_lt_of_le (S.labs b o q' hg) E.fr.size
   | none=>
    have:g'.lab b o=none:=by
     show (outGh g g1 site l V).lab b o=_
     simp only [outGh,h1,hg]
    rw [this] at h; simp at h
 ·intro hg
  have hin:=in_none b o hg
  have h1:g1.lab b o=none:=by
   cases h1:g1.lab b o with
   | none=>rfl
   | some q'=>exact absurd hin (E.old b o q' hb h1)
  have:g'.lab b o=none:=by
   show (outGh g g1 site l V).lab b o=_
   simp only [outGh,h1,hg]
  rw [this] at h; simp at h
 ·refine E.fr.mono (fun b o hb hm=>?_)
  obtain ⟨id,p,i,h1,h2⟩:=mine b o hm
  obtain ⟨id',hp2⟩:=io_obj m.ps 0 x vs ok1 hx _ (look_mem (sw3 i id h2))
  exact ⟨id,p,h1,S.nf id (by rw [hp2]; simp)⟩
 ·rcases hT id h with h | ⟨i,h⟩
  ·omega
  ·obtain ⟨id',hp2⟩:=io_obj m.ps 0 x vs ok1 hx _ (look_mem h)
   exact S.nf id (by rw [hp2]; simp)
theorem enter_ok {f:Operand} {args:Array Operand} {ts:Array TypeId} (hop:o.op = .call ⟨.value f,args,ts⟩) {fid:Nat} {capv:List Value} (hfe:a.eval f = .func (.func fid) #[] capv.toArray) (hg:GoF P fid) :
  (execOp a.eval o).run P w = .ok (.enter fid (args.toList.map a.eval++capv).toArray) w:=by
 obtain ⟨fn,hfn,hname,hbody⟩:=hg
 unfold execOp
 rw [hop]
 simp only [resolve,hfe,Deferred.ofValue,invoke,callFunc]
 have hname':¬ fn.name = "runtime.NumGoroutine" :=by simpa using hname
 have hbody':¬ fn.body=none:=by intro hh; rw [hh] at hbody; simp at hbody
 simp [hfn,hname',hbody']
theorem evPts_sound {fid:Nat} (hP:PtsOK P fid∧GoF P fid) (S:Sit P c g w U sr a) (hs:¬ U site) {f:Operand} {args:Array Operand} {ts:Array TypeId} (hop:o.op = .call ⟨.value f,args,ts⟩) {caps:List AVal} (hf:sr.ev f = .fn fid caps)
  (e:evPts sr site (args.toList.map sr.ev++caps) k=some r):∃ eff,k eff=some r∧Does P g w U site o a eff:=by
 have hfv:=S.ev f
 rw [hf] at hfv
 obtain ⟨capv,hfe,hcap⟩:=hfv
 have hargs:VRels g w U (args.toList.map sr.ev++caps) (args.toList.map a.eval++capv):=by
  refine VRels_app ?_ hcap
  have:∀ l:List Operand,VRels g w U (l.map sr.ev) (l.map a.eval):=by
   intro l
   induction l with
   | nil=>rfl
   | cons x l ih=>exact ⟨_,_,rfl,S.ev x,ih⟩
  exact this _
 generalize hA:args.toList.map sr.ev++caps=A at e hargs
 have hex:=enter_ok (w:=w) hop hfe hP.2
 generalize args.toList.map a.eval++capv=V at hargs hex
 unfold evPts at e
 split at e
 ·rename_i id
  split at e
  ·rename_i ro op rest hob
   obtain ⟨h0,b,o',hhd,hcs⟩:=(S.objs id _ hob).2
   obtain ⟨x,rr,rfl,hx,hrr⟩:=hargs
   obtain rfl:rr=[]:=hrr
   obtain ⟨hu,hu0,b1,o1,had,rfl⟩:=hx
   rw [hhd] at had
   simp only [Option.some.injEq,Prod.mk.injEq] at had
   obtain ⟨rfl,rfl⟩:=had
   have hc:w.cell? (ad b o')=some (.int .i64 op):=by
    obtain ⟨_,_,v,hv,hr⟩:=hcs 0 (by simp)
    obtain rfl:v = .int .i64 op:=hr
    simpa using hv
   have p:∀ j,VRel g w U (.vptr id j) (.pointer (some (ad b (o'+j)))):=fun j=>⟨hu,hu0,b,o',by rw [hhd],rfl⟩
   split at e
   ·rename_i hk
    refine ⟨_,e,fun next Q hn=>?_⟩
    unfold Oper.wp
    rw [hex,Oper.upon_enter]
    refine Calls.mono (hP.1.a w b o' op hc hk) (fun en w' h=>?_)
    obtain ⟨rfl,t,B⟩:=h
    obtain ⟨g',U',hp⟩:=Post_cells S hs B (cs:=[.vptr id 1,.vptr id 2]) ⟨_,_,rfl,p 1,_,_,rfl,p 2,rfl⟩ (x:=.csl (site*1024) 0 2 1) (v:=.slice (some (ad w.heap.size 0)) 2 2)
     (fun g' hg=>⟨.inr (site_div site),.inl S.u0,_,2,rfl,Nat.le_refl _,by rw [hg]; rfl,w.heap.size,0,by rw [hg],fun _=>rfl⟩)
    exact hn _ _ _ _ hp
   ·rename_i hk1
    split at e
    ·rename_i hk
     refine ⟨_,e,fun next Q hn=>?_⟩
     unfold Oper.wp
     rw [hex,Oper.upon_enter]
     refine Calls.mono (hP.1.b w b o' op hc hk) (fun en w' h=>?_)
     obtain ⟨rfl,t,B⟩:=h
     obtain ⟨g',U',hp⟩:=Post_cells S hs B (cs:=[.vptr id 1,.vptr id 2,.vptr id 3]) ⟨_,_,rfl,p 1,_,_,rfl,p 2,_,_,rfl,p 3,rfl⟩ (x:=.csl (site*1024) 0 3 1) (v:=.slice (some (ad w.heap.size 0)) 3 3)
      (fun g' hg=>⟨.inr (site_div site),.inl S.u0,_,3,rfl,Nat.le_refl _,by rw [hg]; rfl,w.heap.size,0,by rw [hg],fun _=>rfl⟩)
     exact hn _ _ _ _ hp
    ·rename_i hk2
     split at e
     ·rename_i hk
      refine ⟨_,e,fun next Q hn=>?_⟩
      unfold Oper.wp
      rw [hex,Oper.upon_enter]
      refine Calls.mono (hP.1.c w b o' op hc hk) (fun en w' h=>?_)
      obtain ⟨rfl,t,B⟩:=h
      obtain ⟨g',U',hp⟩:=Post_cells S hs B (cs:=[.vptr id 2]) ⟨_,_,rfl,p 2,rfl⟩ (x:=.csl (site*1024) 0 1 1) (v:=.slice (some (ad w.heap.size 0)) 1 1)
       (fun g' hg=>⟨.inr (site_div site),.inl S.u0,_,1,rfl,Nat.le_refl _,by rw [hg]; rfl,w.heap.size,0,by rw [hg],fun _=>rfl⟩)
      exact hn _ _ _ _ hp
     ·rename_i hk3
      refine ⟨_,e,fun next Q hn=>?_⟩
      unfold Oper.wp
      rw [hex,Oper.upon_enter]
      refine Calls.mono (hP.1.n w b o' op hc hk1 hk2 hk3) (fun en w' h=>?_)
      obtain ⟨rfl,rfl⟩:=h
      exact hn _ _ _ _ (Post.same S.labs rfl)
  ·simp at e
 ·simp at e
theorem evCall_sound (hC:CallsOK P c) (S:Sit P c g w U sr a) (hs:¬ U site) {f:Operand} {args:Array Operand} {ts:Array TypeId} (hop:o.op = .call ⟨.value f,args,ts⟩) {fid:Nat} {caps:List AVal} (hf:sr.ev f = .fn fid caps)
  (e:evCall c sr site fid (args.toList.map sr.ev++caps) k=some r):∃ eff,k eff=some r∧Does P g w U site o a eff:=by
 have hfv:=S.ev f
 rw [hf] at hfv
 obtain ⟨capv,hfe,hcap⟩:=hfv
 unfold evCall at e
 split at e
 ·split at e
  ·rename_i hq
   exact evPts_sound (hC.2 fid hq) S hs hop hf e
  ·simp at e
 ·rename_i m x hfm
  obtain ⟨hmem,hx⟩:=findM_ok _ _ _ hfm
  split at e
  ·simp at e
  ·rename_i hq
   simp only [Bool.and_eq_true] at hq
   obtain ⟨⟨hnd,hok⟩,hlt⟩:=hq
   have hnd:=nodupB_iff.1 hnd
   obtain ⟨y,hy,e⟩:=Option.bind_eq_some_iff.1 e
   simp only at e
   split at e
   ·rename_i os hos
    refine ⟨_,e,fun next Q hn=>?_⟩
    have hC1:=hC.1 _ m hmem
    rw [fidOf_key hlt] at hC1
    obtain ⟨hS,fn,hfn,hname,hbody⟩:=hC1
    have h20:20≤site:=by
     rcases Nat.lt_or_ge site 20 with h | h
     ·exact absurd (S.u20 site h) hs
     ·exact h
    have hok':=hok
    unfold mOk at hok'
    simp only [Bool.and_eq_true] at hok'
    obtain ⟨⟨⟨⟨⟨⟨⟨⟨ok1,ok2⟩,ok3⟩,ok4⟩,ok5⟩,ok6⟩,ok7⟩,ok8⟩,ok9⟩:=hok'
    have ok4:=Nat.le_of_ble_eq_true ok4
    have hargs:VRels g w U (args.toList.map sr.ev++caps) (args.toList.map a.eval++capv):=by
     refine VRels_app ?_ hcap
     have:∀ l:List Operand,VRels g w U (l.map sr.ev) (l.map a.eval):=by
      intro l
      induction l with
      | nil=>rfl
      | cons x l ih=>exact ⟨_,_,rfl,S.ev x,ih⟩
     exact this _
    let vs:=args.toList.map sr.ev++caps
    have hnd2:=hnd
    rw [ioIds_eq m.ps vs 0 ok1] at hnd2
    obtain ⟨sw1,sw2,sw3⟩:=swp_look (ioL_nodup m.ps x vs 0 ok9 hx) hnd2
    have hD:∀ id,(readSt sr m.rs (ioIds sr m.ps vs)).obj id≠none→∀ b o p,g.lab b o=some (id,p)→(inGh sr g (m.rs.any isShR) (ioL 0 m.ps vs)).lab b o=none:=by
     intro id hid b o p hl
     cases hob:(readSt sr m.rs (ioIds sr m.ps vs)).obj id with
     | none=>exact absurd hob hid
     | some ob=>
      obtain ⟨h1,h2,h3⟩:=readSt_obj hob
      rw [inGh_other hl,h1]
      cases hw:look (swp (ioL 0 m.ps vs)) id with
      | none=>rfl
      | some i=>
       refine absurd ?_ h2
       rw [ioIds_eq m.ps vs 0 ok1]
       exact List.mem_map.2 ⟨_,look_mem (sw3 i id hw),rfl⟩
    have hOr:Objs g w U (readSt sr m.rs (ioIds sr m.ps vs)):=by
     intro id ob hob
     exact S.objs id ob (readSt_obj hob).2.2
    obtain ⟨en1,en2⟩:=entry_ok (SH:=m.rs.any isShR) (l:=ioL 0 m.ps vs) S.objs hOr (fun b o h=>inGh_none h) hD m.ps 0 x vs _ ok1 ok9 (by omega) hx hargs sw1
    have hC2:=hS x y hy hok site h20 _ w _ ⟨en1,en2,fun b o q h=>?_⟩ (S.gl.mono (Fr.refl _ _) (fun b o _ h=>inGh_none h))
    ·have hex:(execOp a.eval o).run P w = .ok (.enter fid (args.toList.map a.eval++capv).toArray) w:=by
      unfold execOp
      rw [hop]
      simp only [resolve,hfe,Deferred.ofValue,invoke,callFunc]
      have hname':¬ fn.name = "runtime.NumGoroutine" :=by simpa using hname
      have hbody':¬ fn.body=none:=by intro hh; rw [hh] at hbody; simp at hbody
      simp [hfn,hname',hbody']
     unfold Oper.wp
     rw [hex,Oper.upon_enter]
     refine Calls.mono hC2 (fun en w' h=>?_)
     obtain ⟨v,g1,rfl,E⟩:=h
     obtain ⟨g',hp⟩:=call_post S hs hok hnd hx hos E
     exact hn _ _ _ _ hp
    ·cases hg:g.lab b o with
     | none=>rw [inGh_none hg] at h; simp at h
     | some q'=>exact S.labs b o q' hg
   ·simp at e
end
end Go.Am
namespace Go.Am
open Go
def actOf (l:List Value):Act:={ tmps:=l.toArray,defers:=[] }
theorem actOf_eval (l:List Value) (t:Nat):(actOf l).eval (.tmp t)=l.getD t undef:=by
 simp [actOf,Act.eval,Array.getD_eq_getD_getElem?]
theorem look_number:∀ (l:List AVal) (n t:Nat),look (number n l) t=if n≤t then l[t-n]? else none
 | [],n,t=>by simp [number,look]
 | v::l,n,t=>by
  simp only [number]
  rw [look_cons,look_number l]
  by_cases h:n=t
  ·subst h; simp
  ·rw [if_neg h]
   by_cases h2:n≤t
   ·rw [if_pos (by omega),if_pos h2]
    have:t-n=(t-(n+1))+1:=by omega
    rw [this,List.getElem?_cons_succ]
   ·rw [if_neg (by omega),if_neg h2]
structure LExit (g:Gh) (w:World) (lb:LA) (y:lb.LT) (vals:List Value) (gf:Gh) (Uf:Nat→Prop) (stf:St) (w':World):Prop where
 objs:Objs gf w' Uf stf
 env:∀ t v,look stf.env t=some v→VRel gf w' Uf v ((actOf vals).eval (.tmp t))
 len:vals.length=lb.slots.length
 rd:lb.readX stf=some y
 par:∀ n,n / 1024<15→gf.hd n 0 []=g.hd n 0 []
 shr:∀ b o,g.lab b o=none→∀ v,w.cell? (ad b o)=some v→w'.cell? (ad b o)=some v∧gf.lab b o=none
 frn:∀ b o id p,g.lab b o=some (id,p)→id / 1024=19→gf.lab b o=some (id,p)
 labs:∀ b o q,gf.lab b o=some q→b<w'.heap.size
 old:∀ b o q,b<w.heap.size→gf.lab b o=some q→g.lab b o≠none
 fr:Fr (Mine g) w w'
 nf:∀ id,stf.obj id≠none→id / 1024≠19
def LSound (P:Program) (f:FuncId) (M:LMng):Prop:=
 ∀ (x:M.la.LTr Mp) (y:M.lb.LT),M.m x=some y→∀ (g:Gh) (w:World) (args:List Value),args.length=M.la.slots.length→
  (∀ t v,look (M.la.mkR x).env t=some v→∃ xv,args[t]? = some xv∧VRel g w U20 v xv)→
  (∀ id o,(M.la.mkR x).obj id=some o→id / 1024<15∧ORel g w U20 id o)→
  (∀ b o q,g.lab b o=some q→b<w.heap.size)→Gl P g.lab w→
  Calls P f args.toArray w fun e w'=>∃ vals gf Uf stf,e = .returned (tupV vals)∧LExit g w M.lb y vals gf Uf stf w'
theorem runL_sound {P:Program} {c:Cfg} {n:Nat} {f:FuncId} {fn:Func} {an:Ann} {M:LMng} (HR:RegOK P c) (hc:TysOK P c) (hf:P.funcs[f]? = some fn)
  (hm:∀ x,M.m x=LMng.run c n fn an M.la M.lb x):LSound P f M:=by
 intro x y hy g w args _ henv hobjs hlabs hG
 rw [hm] at hy
 unfold LMng.run at hy
 split at hy
 ·rename_i code hb
  split at hy
  ·simp at hy
  ·rename_i hd
   have hd:dstsB fn.ntmps code=true:=by simpa using hd
   refine calls_of_wp hf hb ?_
   let a0:Act:={ tmps:=args.toArray++Array.replicate (fn.ntmps-args.toArray.size) undef,defers:=[] }
   have hN:fn.ntmps≤a0.tmps.size:=by simp [a0]; omega
   have R0:Rel w g.lab a0.tmps.size g U20 (M.la.mkR x) a0 w:=by
    refine ⟨fun t v h=>?_,fun id o h=>?_,fun s h=>h,hlabs,fun b o id p hb hl=>?_,fun b o id p hf h19=>hf,.refl _ _,rfl,rfl,by show (0:Nat)<20; omega,fun s hs=>hs,fun id h=>?_⟩
    ·obtain ⟨v',h5,h6⟩:=henv t v h
     have:a0.eval (.tmp t)=v':=by
      have hlt:t<args.length:=(List.getElem?_eq_some_iff.1 h5).1
      have h7:args[t]=v':=(List.getElem?_eq_some_iff.1 h5).2
      simp only [Act.eval,a0]
      simp [Array.getD_eq_getD_getElem?,Array.getElem?_append,hlt,h7]
     rw [this]; exact h6
    ·obtain ⟨h1,h2⟩:=hobjs id o h
     exact ⟨by show id / 1024<20; omega,h2⟩
    ·by_cases h19:id / 1024=19
     ·exact .inl ⟨h19,hl⟩
     ·exact .inr ⟨id,p,hl,h19⟩
    ·cases ho:(M.la.mkR x).obj id with
     | none=>exact absurd ho h
     | some o=>
      have:=(hobjs id o ho).1
      omega
   have hds:dstsB a0.tmps.size code=true:=dstsB_mono hN code hd
   refine plainEx_sound HR hG code an _ y (M.la.mkR x) _ (bodyPost P fn fun e w'=>∃ vals gf Uf stf,e = .returned (tupV vals)∧LExit g w M.lb y vals gf Uf stf w') a0 w g U20 hds R0 hy (fun ex st' a' w' g1 U1 R1 E1 e1=>?_)
   have main:(match resVs st' (fun t=>((c.ti t).agg,(c.ti t).size)) fn.results.toList with
     | some vs=>(match Nat.beq vs.length M.lb.slots.length with
      | true=>M.lb.readX { env:=number 0 vs,heap:=st'.heap,nxt:=st'.nxt }
      | false=>none)
     | none=>none)=some y→a'.defers=[]∧∃ v,(results fn a'.tmps).run P w' = .ok v w'∧∃ vals gf Uf stf,Ending.returned v = .returned (tupV vals)∧LExit g w M.lb y vals gf Uf stf w':=by
    intro e1
    split at e1
    ·rename_i vs hvs
     split at e1
     ·rename_i hlen
      have hlen:=Nat.eq_of_beq_eq_true hlen
      obtain ⟨vals,hv1,hv2⟩:=resVs_ok hc R1.heap R1.env _ _ hvs
      have hvl:=VRels_len hv2
      refine ⟨R1.defers,tupV vals,results_run hv1,vals,g1,U1,{ env:=number 0 vs,heap:=st'.heap,nxt:=st'.nxt },rfl,fun id o h=>R1.heap id o h,fun t v h=>?_,by omega,e1,fun i hi=>?_,fun b o hl v hv=>?_,fun b o id p hl h19=>R1.frn b o id p hl h19,R1.labs,fun b o q hb h=>?_,R1.fr,fun id h=>R1.nf id h⟩
      ·replace h:look (number 0 vs) t=some v:=h
       rw [look_number,if_pos (Nat.zero_le _),Nat.sub_zero] at h
       obtain ⟨h3,h4⟩:=List.getElem?_eq_some_iff.1 h
       obtain ⟨x',h5,h6⟩:=VRels_get hv2 t h3
       rw [actOf_eval]
       have:vals.getD t undef=x':=by
        rw [List.getD_eq_getElem?_getD,h5]; rfl
       rw [this,← h4]; exact h6
      ·exact E1.par i (by omega) (by show i / 1024<20; omega)
      ·have hb:=cell_lt hv
       have hm:¬ MineL g.lab b o:=fun ⟨id,p,e,_⟩=>by rw [hl] at e; simp at e
       have hc:=Fr.cell R1.fr hb hm
       refine ⟨by rw [hc.1]; exact hv,?_⟩
       cases hl1:g1.lab b o with
       | none=>rfl
       | some q=>
        obtain ⟨id,p⟩:=q
        rcases R1.old b o id p hb hl1 with h | h
        ·rw [hl] at h; simp at h
        ·exact absurd h hm
      ·obtain ⟨id,p⟩:=q
       intro hn
       rcases R1.old b o id p hb h with h | ⟨i',p',h,-⟩
       ·rw [hn] at h; simp at h
       ·rw [hn] at h; simp at h
     ·simp at e1
    ·simp at e1
   cases ex with
   | normal=>exact main e1
   | ret=>exact main e1
   | exit j=>simp at e1
 ·simp at hy
end Go.Am
namespace Go.Am
open Go
def lendGh (g:Gh) (SH:Bool) (hs:List Nat):Gh where
 hd:=g.hd
 lab b o:=match g.lab b o with
  | none=>none
  | some (id,p)=>match SH||hs.any (Nat.beq id) with | true=>some (id,p) | false=>none
section
variable {P:Program} {c:Cfg} {g g1 g' gf:Gh} {w w':World} {U:Nat→Prop} {sr st stf:St} {a:Act} {site:Nat} {o:Oper} {ρ:Type} {r:ρ} {k:Eff→Option ρ} {SH:Bool} {hs:List Nat}
theorem lend_none {b o:Nat} (h:g.lab b o=none):(lendGh g SH hs).lab b o=none:=by simp [lendGh,h]
theorem lend_in {b o id:Nat} {p:Path} (hi:id∈hs) (h:g.lab b o=some (id,p)):(lendGh g SH hs).lab b o=some (id,p):=by
 have:hs.any (Nat.beq id)=true:=any_beq.2 hi
 simp [lendGh,h,this]
theorem lend_out {b o id:Nat} {p:Path} (hS:SH=false) (hi:id∉hs) (h:g.lab b o=some (id,p)):(lendGh g SH hs).lab b o=none:=by
 have:hs.any (Nat.beq id)=false:=by
  rw [← Bool.not_eq_true]; exact fun h=>hi (any_beq.1 h)
 simp only [lendGh,h,hS,this,Bool.or_self]
theorem lend_some {b o:Nat} {q:Nat×Path} (h:(lendGh g SH hs).lab b o=some q):g.lab b o=some q:=by
 simp only [lendGh] at h
 split at h
 ·simp at h
 ·rename_i id p e
  split at h
  ·rw [e]; exact h
  ·simp at h
theorem lend_sh {b o:Nat} (hS:SH=true):(lendGh g SH hs).lab b o=g.lab b o:=by
 subst hS
 simp only [lendGh,Bool.true_or]
 cases g.lab b o<;>rfl
theorem lend_vrel {v:AVal} {x:Value} (h:VRel g w U v x):VRel (lendGh g SH hs) w U v x:=
 Stp.vrel (T:=fun _=>True) (g:=g) (w:=w) (U:=U) (g':=lendGh g SH hs) (w':=w) (U':=U) ⟨fun _ h=>h,fun _ _ _ _ _=>rfl,fun b o hl v hv=>⟨hv,lend_none hl⟩,fun _ _ _ _ _ hn=>absurd trivial hn⟩ v x h
theorem lend_orel {id:Nat} {ob:AObj} (hi:id∈hs) (hu:U (id / 1024)) (h:ORel g w U id ob):ORel (lendGh g SH hs) w U id ob:=
 ORel_step (T:=fun i=>i∉hs) (g:=g) (w:=w) (U:=U) (g':=lendGh g SH hs) (w':=w) (U':=U) ⟨fun _ h=>h,fun _ _ _ _ _=>rfl,fun b o hl v hv=>⟨hv,lend_none hl⟩,fun b o id p hl hn=>⟨lend_in (Classical.not_not.1 hn) hl,rfl,rfl⟩⟩ (fun h=>h hi) hu ob h
mutual
theorem lendV_rel (hO:Objs g w U sr) (hL:∀ b o,g.lab b o=none→g1.lab b o=none) (hD:∀ id,sr.obj id≠none→∀ b o p,g.lab b o=some (id,p)→g1.lab b o=none)
  (hV:∀ v x,VRel g w U v x→VRel g1 w U v x):∀ (s:Shp) (v:AVal) (x:Value),VRel g w U v x→VRel g1 w U (lendV sr s v) x
 | .sh t,v,x,h=>by
  show VRel g1 w U (match decP sr sr (.val (.sl t)) v with | some x=>.sh t x | none=>v) x
  split
  ·rename_i y hy
   exact decP_rel hO hL hD (.val (.sl t)) y v x hy h
  ·exact hV _ _ h
 | .osh t,v,x,h=>by
  show VRel g1 w U (match decP sr sr (.val (.osl t)) v with | some x=>.osh t x | none=>v) x
  split
  ·rename_i y hy
   exact decP_rel hO hL hD (.val (.osl t)) y v x hy h
  ·exact hV _ _ h
 | .sptr t 0,v,x,h=>by
  show VRel g1 w U (match decP sr sr (.psh t) v with | some x=>.sptr t x 0 | none=>v) x
  split
  ·rename_i y hy
   exact decP_rel hO hL hD (.psh t) y v x hy h
  ·exact hV _ _ h
 | .sptr t (j+1),v,x,h=>hV _ _ h
 | .agg l,v,x,h=>by
  cases v with
  | agg vs=>
   obtain ⟨l',rfl,h'⟩:=h
   exact ⟨l',rfl,lendL_rel hO hL hD hV l vs l' h'⟩
  | _=>exact hV _ _ h
 | .fn f l,v,x,h=>by
  cases v with
  | fn f' vs=>
   obtain ⟨l',rfl,h'⟩:=h
   exact ⟨l',rfl,lendL_rel hO hL hD hV l vs l' h'⟩
  | _=>exact hV _ _ h
 | .int _,v,x,h=>hV _ _ h
 | .bool,v,x,h=>hV _ _ h
 | .str,v,x,h=>hV _ _ h
 | .err,v,x,h=>hV _ _ h
 | .own _ _,v,x,h=>hV _ _ h
 | .osub _ _,v,x,h=>hV _ _ h
 | .vptr _ _,v,x,h=>hV _ _ h
 | .rptr _ _ _,v,x,h=>hV _ _ h
 | .ownp _ _ _ _,v,x,h=>hV _ _ h
 | .con _,v,x,h=>hV _ _ h
theorem lendL_rel (hO:Objs g w U sr) (hL:∀ b o,g.lab b o=none→g1.lab b o=none) (hD:∀ id,sr.obj id≠none→∀ b o p,g.lab b o=some (id,p)→g1.lab b o=none)
  (hV:∀ v x,VRel g w U v x→VRel g1 w U v x):∀ (l:List Shp) (vs:List AVal) (xs:List Value),VRels g w U vs xs→VRels g1 w U (lendL sr l vs) xs
 | [],vs,xs,h=>by
  have all:∀ (vs:List AVal) (xs:List Value),VRels g w U vs xs→VRels g1 w U vs xs:=by
   intro vs
   induction vs with
   | nil=>intro xs h; exact h
   | cons v vs ih=>rintro xs ⟨y,ys,rfl,h1,h2⟩; exact ⟨y,ys,rfl,hV _ _ h1,ih _ h2⟩
  exact all vs xs h
 | s::l,[],xs,h=>h
 | s::l,v::vs,xs,h=>by
  obtain ⟨y,ys,rfl,h1,h2⟩:=h
  exact ⟨y,ys,rfl,lendV_rel hO hL hD hV s v y h1,lendL_rel hO hL hD hV l vs ys h2⟩
end
open Classical in
noncomputable def inL (st:St) (M:Mp) (gL:Gh) (SH:Bool):Gh where
 hd id ver p:=if h:∃ q:Nat×Nat×Nat,look M q.1=some q.2∧id=cidOf 20 q.1 then
   (if p=[] then hdr gL h.choose.2.1 h.choose.2.2 else if h.choose.2.2=0 then gL.hd h.choose.2.1 (verOf st h.choose.2.1) p else nilHd)
  else nilHd
 lab b o:=match gL.lab b o with
  | none=>none
  | some (id,p)=>if h:∃ k d,look M k=some (id,d)∧id≠nilId then some (cidOf 20 h.choose,p) else (match SH with | true=>some (19*1024,[]) | false=>none)
variable {M M' mp:Mp} {gL:Gh}
theorem inL_hd (hM:∀ k a d,look M k=some (a,d)→k<15) {k a d:Nat} (hk:look M k=some (a,d)) (ver:Nat) (p:Path) :
  (inL st M gL SH).hd (cidOf 20 k) ver p=if p=[] then hdr gL a d else if d=0 then gL.hd a (verOf st a) p else nilHd:=by
 have hex:∃ q:Nat×Nat×Nat,look M q.1=some q.2∧cidOf 20 k=cidOf 20 q.1:=⟨(k,a,d),hk,rfl⟩
 simp only [inL,dif_pos hex]
 have hs:=hex.choose_spec
 have e:hex.choose=(k,a,d):=by
  generalize hex.choose=q at hs
  obtain ⟨k',a',d'⟩:=q
  have e:=cid_inj (Nat.le_refl 20) (fun _=>by have:=hM _ _ _ hk; omega) (fun _=>by have:=hM _ _ _ hs.1; omega) hs.2
  subst e
  have h1:=hs.1
  simp only [hk,Option.some.injEq] at h1
  rw [h1]
 rw [e]
theorem inL_none {b o:Nat} (h:gL.lab b o=none):(inL st M gL SH).lab b o=none:=by simp [inL,h]
theorem inL_new (hI:InjM M) {k a d b o:Nat} {p:Path} (hk:look M k=some (a,d)) (hne:a≠nilId) (hl:gL.lab b o=some (a,p)):(inL st M gL SH).lab b o=some (cidOf 20 k,p):=by
 have hex:∃ k d,look M k=some (a,d)∧a≠nilId:=⟨k,d,hk,hne⟩
 simp only [inL,hl,dif_pos hex]
 obtain ⟨d',h1,h2⟩:=hex.choose_spec
 rw [hI _ _ _ _ _ h1 hk hne]
theorem inL_other {b o id:Nat} {p:Path} (hl:gL.lab b o=some (id,p)) (hno:¬ ∃ k d,look M k=some (id,d)∧id≠nilId) :
  (inL st M gL SH).lab b o=match SH with | true=>some (19*1024,[]) | false=>none:=by
 simp only [inL,hl,dif_neg hno]
theorem inL_some {b o:Nat} {q:Nat×Path} (h:(inL st M gL SH).lab b o=some q):∃ q',gL.lab b o=some q':=by
 cases hl:gL.lab b o with
 | none=>rw [inL_none hl] at h; simp at h
 | some q'=>exact ⟨q',rfl⟩
open Classical in
noncomputable def outL (g gf:Gh) (stf:St) (mp M':Mp) (site:Nat) (hide:Bool):Gh where
 hd n ver s:=if h:(n / 1024=site∨ver=site)∧∃ q:Nat×Nat×Nat,look M' q.1=some q.2∧n=nmO mp site q.1 then
   (if s=[] then hdr gf h.2.choose.2.1 h.2.choose.2.2 else if h.2.choose.2.2=0 then gf.hd h.2.choose.2.1 (verOf stf h.2.choose.2.1) s else nilHd)
  else g.hd n ver s
 lab b o:=match gf.lab b o with
  | some (a',p)=>if h:∃ k d,look M' k=some (a',d)∧a'≠nilId then some (nmO mp site h.choose,p) else (match g.lab b o with | some q=>some q | none=>some (site*1024+1023,[]))
  | none=>match hide with
   | true=>none
   | false=>match g.lab b o with
    | some (id,p)=>if (∃ k d,look mp k=some (id,d)∧id≠nilId) then none else some (id,p)
    | none=>none
theorem outL_hd {hide:Bool} (hJ:∀ k1 k2 a1 a2,look M' k1=some a1→look M' k2=some a2→nmO mp site k1=nmO mp site k2→k1=k2) {k a d ver:Nat} (hk:look M' k=some (a,d)) (hv:nmO mp site k / 1024=site∨ver=site) (p:Path) :
  (outL g gf stf mp M' site hide).hd (nmO mp site k) ver p=if p=[] then hdr gf a d else if d=0 then gf.hd a (verOf stf a) p else nilHd:=by
 have hex:(nmO mp site k / 1024=site∨ver=site)∧∃ q:Nat×Nat×Nat,look M' q.1=some q.2∧nmO mp site k=nmO mp site q.1:=⟨hv,(k,a,d),hk,rfl⟩
 simp only [outL,dif_pos hex]
 have hs:=hex.2.choose_spec
 have e:hex.2.choose=(k,a,d):=by
  generalize hex.2.choose=q at hs
  obtain ⟨k',a',d'⟩:=q
  have e:=hJ _ _ _ _ hk hs.1 hs.2
  subst e
  have h1:=hs.1
  simp only [hk,Option.some.injEq] at h1
  rw [h1]
 rw [e]
theorem outL_old {hide:Bool} {n ver:Nat} (h1:n / 1024≠site) (h2:ver≠site) (p:Path):(outL g gf stf mp M' site hide).hd n ver p=g.hd n ver p:=by
 simp only [outL]
 rw [dif_neg]
 rintro ⟨h | h,-⟩
 ·exact h1 h
 ·exact h2 h
theorem outL_new {hide:Bool} (hI:InjM M') {k a d b o:Nat} {p:Path} (hk:look M' k=some (a,d)) (hne:a≠nilId) (hl:gf.lab b o=some (a,p)):(outL g gf stf mp M' site hide).lab b o=some (nmO mp site k,p):=by
 have hex:∃ k d,look M' k=some (a,d)∧a≠nilId:=⟨k,d,hk,hne⟩
 simp only [outL,hl,dif_pos hex]
 obtain ⟨d',h1,h2⟩:=hex.choose_spec
 rw [hI _ _ _ _ _ h1 hk hne]
theorem outL_hide {b o:Nat} (hl:gf.lab b o=none):(outL g gf stf mp M' site true).lab b o=none:=by simp [outL,hl]
theorem outL_none {b o:Nat} (hl:gf.lab b o=none) (hg:g.lab b o=none):(outL g gf stf mp M' site false).lab b o=none:=by simp [outL,hl,hg]
theorem outL_keep {b o id:Nat} {p:Path} (hl:gf.lab b o=none) (hg:g.lab b o=some (id,p)) (hn:¬ ∃ k d,look mp k=some (id,d)∧id≠nilId):(outL g gf stf mp M' site false).lab b o=some (id,p):=by
 simp only [outL,hl,hg,if_neg hn]
theorem outL_gone {b o id:Nat} {p:Path} (hl:gf.lab b o=none) (hg:g.lab b o=some (id,p)) (hn:∃ k d,look mp k=some (id,d)∧id≠nilId):(outL g gf stf mp M' site false).lab b o=none:=by
 simp only [outL,hl,hg,if_pos hn]
theorem outL_for {hide:Bool} {b o a':Nat} {p:Path} {q:Nat×Path} (hl:gf.lab b o=some (a',p)) (hn:¬ ∃ k d,look M' k=some (a',d)∧a'≠nilId) (hg:g.lab b o=some q):(outL g gf stf mp M' site hide).lab b o=some q:=by
 simp only [outL,hl,dif_neg hn,hg]
mutual
theorem reflect_clean {L':Lab} {nm:Nat→Nat} {vr:Nat} : ∀ (s:Shp) {q:Type} (y:s.LT q) (x:Value),s.shB=false→VRel g w U (reflect nm vr s y).1 x→VRel ⟨g.hd,L'⟩ w U (reflect nm vr s y).1 x
 | .int _,_,_,_,_,h=>h
 | .bool,_,_,_,_,h=>h
 | .str,_,_,_,_,h=>h
 | .err,_,_,_,_,h=>h
 | .sh _,_,_,_,hs,_=>by simp [Shp.shB] at hs
 | .osh _,_,_,_,hs,_=>by simp [Shp.shB] at hs
 | .sptr _ _,_,_,_,hs,_=>by simp [Shp.shB] at hs
 | .own _ _,_,_,_,_,h=>h
 | .osub _ _,_,_,_,_,h=>h
 | .vptr _ _,_,_,_,_,h=>h
 | .rptr _ _ _,_,_,_,_,h=>h
 | .ownp _ _ _ _,_,_,_,_,h=>h
 | .agg l,_,y,x,hs,h=>by
  obtain ⟨l',e,h'⟩:=h
  exact ⟨l',e,reflects_clean l y l' (by simpa [Shp.shB] using hs) h'⟩
 | .fn f l,_,y,x,hs,h=>by
  obtain ⟨l',e,h'⟩:=h
  exact ⟨l',e,reflects_clean l y l' (by simpa [Shp.shB] using hs) h'⟩
 | .con v,_,_,x,hs,h=>by
  have:conB v v=true:=by simpa [Shp.shB] using hs
  exact conB_ok this h
theorem reflects_clean {L':Lab} {nm:Nat→Nat} {vr:Nat} : ∀ (l:List Shp) {q:Type} (y:Shp.LTs l q) (xs:List Value),Shp.shBs l=false→VRels g w U (reflects nm vr l y).1 xs→VRels ⟨g.hd,L'⟩ w U (reflects nm vr l y).1 xs
 | [],_,_,_,_,h=>h
 | s::l,_,y,xs,hs,h=>by
  obtain ⟨x,r,e,h1,h2⟩:=h
  simp only [Shp.shBs,Bool.or_eq_false_iff] at hs
  exact ⟨x,r,e,reflect_clean s y x hs.1 h1,reflects_clean l _ r hs.2 h2⟩
end
theorem reflectO_clean {L':Lab} {nm:Nat→Nat} {vr id:Nat} (hlab:∀ b o p,g.lab b o=some (id,p)→L' b o=some (id,p)):∀ (s:OShp) {q:Type} (y:s.LT q),s.shB=false→
  ORel g w U id (reflectO nm vr s y).1→ORel ⟨g.hd,L'⟩ w U id (reflectO nm vr s y).1
 | .row own t,_,y,hs,h=>by
  simp only [OShp.shB,Bool.or_eq_false_iff,Bool.not_eq_false'] at hs
  obtain ⟨rfl,hn⟩:=hs
  obtain ⟨h1,h2,h3⟩:=h
  exact ⟨h1,h2,RowR_no (g:=g) (g':=⟨g.hd,L'⟩) rfl (fun _ _=>rfl) hlab hn h3⟩
 | .cells ro l,_,y,hs,h=>by
  obtain ⟨h0,b,o,hh,hc⟩:=h
  have hvs:VRels g w U (reflects nm vr l y).1 ((List.range (reflects nm vr l y).1.length).map fun k=>(w.cell? (ad b (o+k))).getD undef):=by
   refine VRels_of (by simp) (fun k hk hk'=>?_)
   obtain ⟨-,-,v,h5,h6⟩:=hc k hk
   simp [h5]; exact h6
  have hvs':=reflects_clean (L':=L') l y _ hs hvs
  refine ⟨h0,b,o,hh,fun k hk=>?_⟩
  obtain ⟨h1,h2,v,h3,h4⟩:=hc k hk
  refine ⟨hlab _ _ _ h1,h2,v,h3,?_⟩
  obtain ⟨x,hx,hr⟩:=VRels_get hvs' k hk
  have hk2:k<(reflects nm vr l y).1.length:=hk
  simp [hk2,h3] at hx
  subst hx
  exact hr
theorem reflectSlots_clean {L':Lab} {nm:Nat→Nat} {vr:Nat} {ev:Nat→Value} : ∀ (l:List (Nat×Shp)) {q:Type} (y:slotsLT l q),Shp.shBs (l.map (·.2))=false→
  (∀ t v,look (reflectSlots nm vr l y).1 t=some v→VRel g w U v (ev t))→∀ t v,look (reflectSlots nm vr l y).1 t=some v→VRel ⟨g.hd,L'⟩ w U v (ev t)
 | [],_,y,_,_,t,v,h=>by simp [reflectSlots,look] at h
 | (i,s)::l,_,y,hs,hh,t,v,h=>by
  simp only [List.map_cons,Shp.shBs,Bool.or_eq_false_iff] at hs
  replace h:look ((i,(reflect nm vr s y).1)::(reflectSlots nm vr l (reflect nm vr s y).2).1) t=some v:=h
  have hh1:=hh t v h
  rw [look_cons] at h
  split at h
  ·rename_i hi
   simp only [Option.some.injEq] at h
   subst h
   exact reflect_clean s y _ hs.1 hh1
  ·rename_i hi
   have go:∀ (l:List (Nat×Shp)) {q:Type} (y:slotsLT l q),Shp.shBs (l.map (·.2))=false→look (reflectSlots nm vr l y).1 t=some v→VRel g w U v (ev t)→VRel ⟨g.hd,L'⟩ w U v (ev t):=by
    intro l
    induction l with
    | nil=>intro q y _ h; simp [reflectSlots,look] at h
    | cons p l ih=>
     obtain ⟨i,s⟩:=p
     intro q y hs h hv
     simp only [List.map_cons,Shp.shBs,Bool.or_eq_false_iff] at hs
     replace h:look ((i,(reflect nm vr s y).1)::(reflectSlots nm vr l (reflect nm vr s y).2).1) t=some v:=h
     rw [look_cons] at h
     split at h
     ·simp only [Option.some.injEq] at h
      subst h
      exact reflect_clean s y _ hs.1 hv
     ·exact ih _ hs.2 h hv
   exact go l _ hs.2 h hh1
theorem reflectObjs_clean {L':Lab} {nm:Nat→Nat} {vr:Nat} {id:Nat} {ob:AObj} (hlab:∀ b o p,g.lab b o=some (id,p)→L' b o=some (id,p)):∀ (l:List (Nat×OShp)) {q:Type} (y:objsLT l q),l.any (fun p=>p.2.shB)=false→
  look (reflectObjs nm vr l y).1 id=some (some ob)→ORel g w U id ob→ORel ⟨g.hd,L'⟩ w U id ob
 | [],_,y,_,h,_=>by simp [reflectObjs,look] at h
 | (i,s)::l,_,y,hs,h,hr=>by
  simp only [List.any_cons,Bool.or_eq_false_iff] at hs
  replace h:look ((nm i,some (reflectO nm vr s y).1)::(reflectObjs nm vr l (reflectO nm vr s y).2).1) id=some (some ob):=h
  rw [look_cons] at h
  split at h
  ·simp only [Option.some.injEq] at h
   subst h
   exact reflectO_clean hlab s y hs.1 hr
  ·exact reflectObjs_clean hlab l _ hs.2 h hr
theorem reflectObjs_has {nm:Nat→Nat} {vr:Nat} : ∀ (l:List (Nat×OShp)) {q:Type} (y:objsLT l q) (p:Nat×OShp),p∈l→(look (reflectObjs nm vr l y).1 (nm p.1)).isSome=true
 | [],_,y,p,h=>by simp at h
 | (i,s)::l,_,y,p,h=>by
  show (look ((nm i,some (reflectO nm vr s y).1)::(reflectObjs nm vr l (reflectO nm vr s y).2).1) (nm p.1)).isSome=true
  rw [look_cons]
  split
  ·rfl
  ·rename_i hi
   rcases List.mem_cons.1 h with rfl | h
   ·exact absurd rfl hi
   ·exact reflectObjs_has l _ p h
theorem slots_range {nm:Nat→Nat} {vr:Nat} : ∀ (l:List (Nat×Shp)) (n:Nat) {q:Type} (y:slotsLT l q),countB n l=true→(reflectSlots nm vr l y).1=number n ((reflectSlots nm vr l y).1.map (·.2))∧(reflectSlots nm vr l y).1.length=l.length
 | [],n,_,y,_=>⟨rfl,rfl⟩
 | (i,s)::l,n,_,y,h=>by
  simp only [countB,Bool.and_eq_true,Nat.beq_eq] at h
  obtain ⟨rfl,h⟩:=h
  obtain ⟨h1,h2⟩:=slots_range (nm:=nm) (vr:=vr) l (i+1) (reflect nm vr s y).2 h
  refine ⟨?_,by show ((reflectSlots nm vr l (reflect nm vr s y).2).1.length+1)=_; rw [h2]; rfl⟩
  show (i,(reflect nm vr s y).1)::(reflectSlots nm vr l (reflect nm vr s y).2).1=(i,(reflect nm vr s y).1)::number (i+1) ((reflectSlots nm vr l (reflect nm vr s y).2).1.map (·.2))
  rw [← h1]
theorem lGone_mem {M:LMng} {mp0:Mp} : ∀ (mp:Mp) (id:Nat),id∈lGone M mp0 mp↔∃ p∈mp,p.2.1=id∧id≠nilId∧(∀ q∈M.lb.objs,q.1≠p.1)∧∃ d,look mp0 p.1=some (id,d)
 | [],id=>by simp [lGone]
 | p::mp,id=>by
  have ih:=lGone_mem (M:=M) (mp0:=mp0) mp id
  have key:(Nat.beq p.2.1 nilId||M.lb.objs.any (fun q=>Nat.beq q.1 p.1)||!(match look mp0 p.1 with | some ad=>Nat.beq ad.1 p.2.1 | none=>false))=false↔(p.2.1≠nilId∧(∀ q∈M.lb.objs,q.1≠p.1)∧∃ d,look mp0 p.1=some (p.2.1,d)):=by
   rw [Bool.or_eq_false_iff,Bool.or_eq_false_iff,Bool.not_eq_false',List.any_eq_false]
   constructor
   ·rintro ⟨⟨h1,h2⟩,h3⟩
    refine ⟨fun e=>by rw [e] at h1; simp at h1,fun q hq e=>h2 q hq (by rw [e]; simp),?_⟩
    split at h3
    ·rename_i ad he
     obtain ⟨x,d⟩:=ad
     have:=Nat.eq_of_beq_eq_true h3
     simp only at this
     subst this
     exact ⟨d,he⟩
    ·simp at h3
   ·rintro ⟨h1,h2,d,h3⟩
    refine ⟨⟨?_,fun q hq e=>h2 q hq (Nat.eq_of_beq_eq_true e)⟩,by rw [h3]; simp⟩
    rw [← Bool.not_eq_true]
    exact fun e=>h1 (Nat.eq_of_beq_eq_true e)
  simp only [lGone]
  cases hb:(Nat.beq p.2.1 nilId||M.lb.objs.any (fun q=>Nat.beq q.1 p.1)||!(match look mp0 p.1 with | some ad=>Nat.beq ad.1 p.2.1 | none=>false)) with
  | true=>
   simp only
   rw [ih]
   constructor
   ·rintro ⟨q,h1,h2⟩; exact ⟨q,List.mem_cons_of_mem _ h1,h2⟩
   ·rintro ⟨q,h1,h2,h3,h4,h5⟩
    rcases List.mem_cons.1 h1 with rfl | h1
    ·exfalso
     have:=key.2 ⟨by rw [h2]; exact h3,h4,by rw [h2]; exact h5⟩
     rw [hb] at this; simp at this
    ·exact ⟨q,h1,h2,h3,h4,h5⟩
  | false=>
   simp only [List.mem_cons,ih]
   constructor
   ·rintro (rfl | ⟨q,h1,h2⟩)
    ·obtain ⟨a1,a2,a3⟩:=key.1 hb
     exact ⟨p,.inl rfl,rfl,a1,a2,a3⟩
    ·exact ⟨q,.inr h1,h2⟩
   ·rintro ⟨q,h1,h2,h3⟩
    rcases h1 with rfl | h1
    ·exact .inl h2.symm
    ·exact .inr ⟨q,h1,h2,h3⟩
end
end Go.Am
namespace Go.Am
open Go
def LCallsOK (P:Program) (c:Cfg):Prop:=∀ f M,(f,M)∈c.lcalls→LSound P f M∧GoF P f
section
variable {P:Program} {c:Cfg} {g gf:Gh} {w w':World} {U:Nat→Prop} {sr stf:St} {a:Act} {site:Nat} {o:Oper} {ρ:Type} {r:ρ} {k:Eff→Option ρ}
structure Handed (g:Gh) (U:Nat→Prop) (M:LMng) (hs:List Nat) (mp:Mp):Prop where
 inj:InjM mp
 lt:∀ k a d,look mp k=some (a,d)→k<15
 mem:∀ k a d,look mp k=some (a,d)→a=nilId∨(a∈hs∧U (a / 1024)∧a / 1024≠19)
 all:∀ p∈M.la.objs,∃ a d,look mp p.1=some (a,d)
theorem nmO_par {mp:Mp} {k a d:Nat} (h:k<1000) (hk:look mp k=some (a,d)):nmO mp site k=a:=by
 have:Nat.blt k 1000=true:=by simpa using h
 simp [nmO,this,hk]
theorem nmO_new {mp:Mp} {k:Nat} (h:¬ k<1000):nmO mp site k=site*1024+(k-1000):=by
 have:Nat.blt k 1000=false:=by rw [← Bool.not_eq_true]; intro hh; exact h (by simpa using hh)
 simp [nmO,this]
theorem call_postL (S:Sit P c g w U sr a) (hs:¬ U site) {M:LMng} {hl:List Nat} {st1:St} {mp:Mp} (H:Handed g U M hl mp) {vs:List AVal} (hok:lOk M vs mp=true) {y:M.lb.LT} {vals:List Value} {Uf:Nat→Prop}
  (X:LExit (inL st1 mp (lendGh g M.lb.shB hl) M.lb.shB) w M.lb y vals gf Uf stf w') :
  ∃ g',Post g w U site ⟨match (reflectSlots (nmO mp site) site M.lb.slots y).1.map (·.2) with | [v]=>v | vs=>.tup vs,
   (reflectObjs (nmO mp site) site M.lb.objs (reflectSlots (nmO mp site) site M.lb.slots y).2).1++gone (lGone M mp mp)⟩ (tupV vals) w' g' (U' U site):=by
 unfold lOk at hok
 simp only [Bool.and_eq_true] at hok
 obtain ⟨⟨⟨⟨-,-⟩,ok3⟩,ok4⟩,ok5⟩:=hok
 have ok5:=List.all_eq_true.1 ok5
 have h20:20≤site:=by
  rcases Nat.lt_or_ge site 20 with h | h
  ·exact absurd (S.u20 site h) hs
  ·exact h
 have par5:∀ p∈M.lb.objs,p.1<1000→∃ aid,look mp p.1=some (aid,0)∧aid≠nilId:=by
  intro p hp hlt
  have:=ok5 p hp
  rw [show Nat.blt p.1 1000=true by simpa using hlt] at this
  simp only at this
  split at this
  ·rename_i ad hk
   obtain ⟨aid,d⟩:=ad
   simp only [Bool.and_eq_true,Bool.not_eq_true',Nat.beq_eq] at this
   obtain ⟨t1,rfl⟩:=this
   exact ⟨aid,hk,fun e=>by subst e; simp at t1⟩
  ·simp at this
 have new5:∀ p∈M.lb.objs,¬ p.1<1000→p.1<2000:=by
  intro p hp hlt
  have:=ok5 p hp
  rw [show Nat.blt p.1 1000=false by rw [← Bool.not_eq_true]; intro hh; exact hlt (by simpa using hh)] at this
  simpa [Nat.blt_eq] using this
 obtain ⟨M1,r1,r2,r3,r4⟩:=reifySlots_ok (nm:=nmO mp site) (vr:=site) X.objs X.env M.lb.slots [] _ y X.rd
 obtain ⟨M',k1,k2,k3,k4,k5⟩:=reifyObjs_ok (nm:=nmO mp site) (vr:=site) X.objs M.lb.objs M1 _ _ r3
 have i0:InjM []:=fun _ _ _ _ _ h=>by simp [look] at h
 have hI:InjM M':=k2 (r2 i0)
 have fit:∀ k a d,look M' k=some (a,d)→(∃ q∈M.lb.objs,q.1=k)∧(k<1000→k<15∧a=k*1024∧d=0):=by
  unfold LA.fitX at k3
  split at k3
  ·rename_i hf
   intro k a d hk
   have:=List.all_eq_true.1 hf _ (look_mem hk)
   simp only [Bool.and_eq_true] at this
   obtain ⟨t1,t2⟩:=this
   obtain ⟨q,h1,h2⟩:=List.any_eq_true.1 t1
   refine ⟨⟨q,h1,Nat.eq_of_beq_eq_true h2⟩,fun hlt=>?_⟩
   rw [show Nat.blt k 1000=true by simpa using hlt] at t2
   simp only [Bool.and_eq_true,Nat.beq_eq,Nat.blt_eq] at t2
   exact ⟨t2.1.1,t2.1.2,t2.2⟩
  ·simp at k3
 have per:∀ k a d,look M' k=some (a,d)→k<1000→∃ aid,look mp k=some (aid,0)∧aid≠nilId∧nmO mp site k=aid∧U (aid / 1024)∧aid∈hl∧aid / 1024≠19:=by
  intro k a d hk hlt
  obtain ⟨⟨q,hq,rfl⟩,-⟩:=fit k a d hk
  obtain ⟨aid,h1,h2⟩:=par5 q hq hlt
  obtain ⟨h3,h4,h5⟩:=(H.mem _ _ _ h1).resolve_left h2
  exact ⟨aid,h1,h2,nmO_par hlt h1,h4,h3,h5⟩
 have nw:∀ k a d,look M' k=some (a,d)→¬ k<1000→nmO mp site k=site*1024+(k-1000)∧nmO mp site k / 1024=site∧k<2000:=by
  intro k a d hk hlt
  obtain ⟨⟨q,hq,rfl⟩,-⟩:=fit k a d hk
  have:=new5 q hq hlt
  have e:=nmO_new (site:=site) (mp:=mp) hlt
  exact ⟨e,by rw [e]; omega,this⟩
 have hJ:∀ k1 k2 a1 a2,look M' k1=some a1→look M' k2=some a2→nmO mp site k1=nmO mp site k2→k1=k2:=by
  intro k1 k2 a1 a2 h1 h2 e
  obtain ⟨a1,d1⟩:=a1
  obtain ⟨a2,d2⟩:=a2
  by_cases l1:k1<1000<;>by_cases l2:k2<1000
  ·obtain ⟨x1,y1,z1,e1,-⟩:=per k1 _ _ h1 l1
   obtain ⟨x2,y2,z2,e2,-⟩:=per k2 _ _ h2 l2
   rw [e1,e2] at e
   subst e
   exact H.inj _ _ _ _ _ y1 y2 z1
  ·obtain ⟨x1,y1,z1,e1,u1,-⟩:=per k1 _ _ h1 l1
   obtain ⟨e2,e3,-⟩:=nw k2 _ _ h2 l2
   exfalso
   rw [← e,e1] at e3
   exact hs (e3▸u1)
  ·obtain ⟨x2,y2,z2,e2,u2,-⟩:=per k2 _ _ h2 l2
   obtain ⟨e1,e3,-⟩:=nw k1 _ _ h1 l1
   exfalso
   rw [e,e2] at e3
   exact hs (e3▸u2)
  ·obtain ⟨e1,-,b1⟩:=nw k1 _ _ h1 l1
   obtain ⟨e2,-,b2⟩:=nw k2 _ _ h2 l2
   rw [e1,e2] at e
   omega
 have hlt15:∀ k a d,look mp k=some (a,d)→k<15:=H.lt
 let SH:=M.lb.shB
 let gL:=lendGh g SH hl
 let gI:=inL st1 mp gL SH
 have in_none:∀ b o,g.lab b o=none→gI.lab b o=none:=fun b o h=>inL_none (lend_none h)
 have mine:∀ b o,Mine gI b o→∃ id p,g.lab b o=some (id,p)∧∃ k d,look mp k=some (id,d)∧id≠nilId:=by
  rintro b o ⟨id,p,h1,h2⟩
  obtain ⟨⟨id',p'⟩,hq⟩:=inL_some h1
  refine ⟨id',p',lend_some hq,?_⟩
  by_cases hex:∃ k d,look mp k=some (id',d)∧id'≠nilId
  ·exact hex
  ·exfalso
   have h1:(inL st1 mp gL SH).lab b o=some (id,p):=h1
   rw [inL_other hq hex] at h1
   cases hSH:SH with
   | true=>rw [hSH] at h1; simp at h1; obtain ⟨rfl,-⟩:=h1; exact h2 rfl
   | false=>rw [hSH] at h1; simp at h1
 have other:∀ b o id p,g.lab b o=some (id,p)→(¬ ∃ k d,look mp k=some (id,d)∧id≠nilId)→gI.lab b o=none∨gI.lab b o=some (19*1024,[]):=by
  intro b o id p hg hn
  cases hq:gL.lab b o with
  | none=>exact .inl (inL_none hq)
  | some q'=>
   have:=lend_some hq
   rw [hg] at this
   obtain rfl:=Option.some.inj this
   have e:gI.lab b o=_:=inL_other hq hn
   rw [e]
   cases SH<;>simp
 let gO:=outL g gf stf mp M' site false
 let gH:=outL g gf stf mp M' site true
 have hU:∀ k a d,look M' k=some (a,d)→U' U site (nmO mp site k / 1024):=by
  intro k a d hk
  by_cases hlt:k<1000
  ·obtain ⟨x1,y1,z1,e1,u1,-⟩:=per k _ _ hk hlt
   rw [e1]; exact .inl u1
  ·exact .inr (nw k _ _ hk hlt).2.1
 have hs0:site≠0:=by omega
 have C:Cons stf (nmO mp site) site M' gf gH (U' U site):=by
  refine ⟨fun k a d hk=>⟨hU k a d hk,?_⟩,.inl S.u0,.inr rfl,fun b o h=>outL_hide h,fun k a d b o p hk hne hlb=>outL_new hI hk hne hlb,fun k a d q hk hq=>?_⟩
  ·by_cases hlt:k<1000
   ·obtain ⟨x1,y1,z1,e1,u1,m1,-⟩:=per k _ _ hk hlt
    obtain ⟨-,ff⟩:=fit k a d hk
    obtain ⟨f1,rfl,rfl⟩:=ff hlt
    have hne:k*1024≠nilId:=by unfold nilId; omega
    rw [e1]
    have:gH.hd x1 0 []=g.hd x1 0 []:=outL_old (n:=x1) (ver:=0) (show x1 / 1024≠site from fun e=>hs (e▸u1)) (fun e=>hs0 e.symm) []
    rw [this]
    have hp:=X.par (k*1024) (by omega)
    have hh:=inL_hd (st:=st1) (gL:=gL) (SH:=SH) hlt15 y1 0 []
    rw [if_pos rfl,cid_par (by omega)] at hh
    simp only [hdr,hne,if_false,if_true]
    rw [hp,hh]
    simp [hdr,z1,gL,lendGh]
   ·have:=outL_hd (g:=g) (gf:=gf) (stf:=stf) (hide:=true) hJ hk (ver:=0) (.inl (nw k _ _ hk hlt).2.1) []
    rw [if_pos rfl] at this
    exact this
  ·have:=outL_hd (g:=g) (gf:=gf) (stf:=stf) (hide:=true) hJ hk (ver:=site) (.inr rfl) q
   rw [if_neg hq] at this
   exact this
 have e1:=r4 gH _ (C.mono k1)
 have e2:=k5 gH _ C
 have lab':∀ b o p id,gH.lab b o=some (id,p)→gO.lab b o=some (id,p):=by
  intro b o p id h
  cases hf:gf.lab b o with
  | none=>
   have:gH.lab b o=none:=outL_hide hf
   rw [this] at h; simp at h
  | some q=>
   have:gO.lab b o=gH.lab b o:=by simp only [gO,gH,outL,hf]
   rw [this]; exact h
 have same:SH=true→gO=gH:=by
  intro hS
  have:gO.lab=gH.lab:=by
   funext b o
   cases hf:gf.lab b o with
   | some q=>simp only [gO,gH,outL,hf]
   | none=>
    have h2:gH.lab b o=none:=outL_hide hf
    rw [h2]
    cases hg:g.lab b o with
    | none=>exact outL_none hf hg
    | some q=>
     obtain ⟨id,p⟩:=q
     by_cases hex:∃ k d,look mp k=some (id,d)∧id≠nilId
     ·exact outL_gone hf hg hex
     ·exfalso
      have hgL:gL.lab b o=some (id,p):=by
       show (lendGh g SH hl).lab b o=_
       rw [lend_sh hS]; exact hg
      have hin:gI.lab b o=some (19*1024,[]):=by
       have e:gI.lab b o=_:=inL_other hgL hex
       rw [e,hS]
      have:=X.frn b o (19*1024) [] hin rfl
      rw [hf] at this; simp at this
  show Gh.mk gO.hd gO.lab=Gh.mk gH.hd gH.lab
  rw [this]
  rfl
 have v1:∀ t v,look (reflectSlots (nmO mp site) site M.lb.slots y).1 t=some v→VRel gO w' (U' U site) v ((actOf vals).eval (.tmp t)):=by
  cases hS:SH with
  | true=>rw [same hS]; exact e1
  | false=>
   have hS':M.lb.shB=false:=hS
   unfold LA.shB at hS'
   rw [Bool.or_eq_false_iff] at hS'
   exact reflectSlots_clean (g:=gH) (L':=gO.lab) M.lb.slots y hS'.1 e1
 have o1:∀ id ob,look (reflectObjs (nmO mp site) site M.lb.objs (reflectSlots (nmO mp site) site M.lb.slots y).2).1 id=some (some ob)→U' U site (id / 1024)∧ORel gO w' (U' U site) id ob:=by
  cases hS:SH with
  | true=>rw [same hS]; exact e2
  | false=>
   have hS':M.lb.shB=false:=hS
   unfold LA.shB at hS'
   rw [Bool.or_eq_false_iff] at hS'
   intro id ob h
   obtain ⟨x1,x2⟩:=e2 id ob h
   exact ⟨x1,reflectObjs_clean (g:=gH) (L':=gO.lab) (fun b o p hb=>lab' b o p id hb) M.lb.objs _ hS'.2 h x2⟩
 have hT:∀ id,(look ((reflectObjs (nmO mp site) site M.lb.objs (reflectSlots (nmO mp site) site M.lb.slots y).2).1++gone (lGone M mp mp)) id).isSome=true→id / 1024=site∨∃ k d,look mp k=some (id,d)∧id≠nilId:=by
  intro id h
  rw [look_app] at h
  cases hq:look (reflectObjs (nmO mp site) site M.lb.objs (reflectSlots (nmO mp site) site M.lb.slots y).2).1 id with
  | some oo=>
   obtain ⟨p,hp,rfl,-⟩:=reflectObjs_name _ _ _ _ hq
   by_cases hlt:p.1<1000
   ·obtain ⟨aid,h1,h2⟩:=par5 p hp hlt
    rw [nmO_par hlt h1]
    exact .inr ⟨_,_,h1,h2⟩
   ·rw [nmO_new hlt]
    have:=new5 p hp hlt
    exact .inl (by omega)
  | none=>
   rw [hq,look_gone] at h
   by_cases hm:id∈lGone M mp mp
   ·obtain ⟨p,h1,h2,h3,-,d,hd⟩:=(lGone_mem mp id).1 hm
    exact .inr ⟨_,_,hd,h3⟩
   ·rw [if_neg hm] at h; simp at h
 have hT2:∀ k id d,look mp k=some (id,d)→id≠nilId→(look ((reflectObjs (nmO mp site) site M.lb.objs (reflectSlots (nmO mp site) site M.lb.slots y).2).1++gone (lGone M mp mp)) id).isSome=true:=by
  intro k id d hk hne
  rw [look_app]
  cases hq:look (reflectObjs (nmO mp site) site M.lb.objs (reflectSlots (nmO mp site) site M.lb.slots y).2).1 id with
  | some oo=>rfl
  | none=>
   simp only
   have hm:id∈lGone M mp mp:=by
    refine (lGone_mem mp id).2 ⟨_,look_mem hk,rfl,hne,fun q hq2 e=>?_,d,hk⟩
    have hlt:=hlt15 k id d hk
    simp only at e
    have:=reflectObjs_has (nm:=nmO mp site) (vr:=site) M.lb.objs (reflectSlots (nmO mp site) site M.lb.slots y).2 q hq2
    rw [e,nmO_par (by omega) hk,hq] at this
    simp at this
   rw [look_gone,if_pos hm]; rfl
 have keep:∀ b o id p,g.lab b o=some (id,p)→(¬ ∃ k d,look mp k=some (id,d)∧id≠nilId)→b<w.heap.size→gO.lab b o=some (id,p):=by
  intro b o id p hg hn hb
  rcases other b o id p hg hn with h | h
  ·have hf:gf.lab b o=none:=by
    cases hf:gf.lab b o with
    | none=>rfl
    | some q=>exact absurd h (X.old b o q hb hf)
   exact outL_keep hf hg hn
  ·have hf:=X.frn b o (19*1024) [] h rfl
   refine outL_for hf ?_ hg
   rintro ⟨k,d,hk,hne⟩
   obtain ⟨⟨q,hq,hqk⟩,ff⟩:=fit k _ _ hk
   obtain ⟨aa,dd,h1,h2⟩:=k4 q hq
   rw [hqk,hk] at h1
   simp only [Option.some.injEq,Prod.mk.injEq] at h1
   rcases h2 with h2 | h2
   ·rw [← h1.1] at h2; exact hne h2
   ·rw [← h1.1] at h2
    exact X.nf _ h2 rfl
 refine ⟨gO,⟨⟨fun s h=>.inl h,fun id ver p h1 h2=>outL_old (n:=id) (ver:=ver) (show id / 1024≠site from fun e=>hs (e▸h1)) (show ver≠site from fun e=>hs (e▸h2)) p,fun b o hl' v hv=>?_,fun b o id p hl' hnT=>?_⟩,?_,fun id ob h=>?_,fun s h=>h,fun b o q h=>?_,fun b o q hb h=>?_,?_,fun id h=>?_⟩⟩
 ·obtain ⟨h1,h2⟩:=X.shr b o (in_none b o hl') v hv
  exact ⟨h1,outL_none h2 hl'⟩
 ·have hn:¬ ∃ k d,look mp k=some (id,d)∧id≠nilId:=by
   rintro ⟨k,d,hk,hne⟩
   exact hnT (hT2 k id d hk hne)
  have hb:=S.labs b o _ hl'
  refine ⟨keep b o id p hl' hn hb,Fr.cell X.fr hb (fun hm=>?_)⟩
  obtain ⟨id',p',h1,hex⟩:=mine b o hm
  rw [hl'] at h1
  simp only [Option.some.injEq,Prod.mk.injEq] at h1
  obtain ⟨rfl,rfl⟩:=h1
  exact hn hex
 ·obtain ⟨s1,s2⟩:=slots_range (nm:=nmO mp site) (vr:=site) M.lb.slots 0 y ok3
  have hv:VRels gO w' (U' U site) ((reflectSlots (nmO mp site) site M.lb.slots y).1.map (·.2)) vals:=by
   refine VRels_of (by simp [s2,X.len]) (fun k hk hk'=>?_)
   have h1:=v1 k ((reflectSlots (nmO mp site) site M.lb.slots y).1.map (·.2))[k] (by
    have h0:look (reflectSlots (nmO mp site) site M.lb.slots y).1 k=look (number 0 ((reflectSlots (nmO mp site) site M.lb.slots y).1.map (·.2))) k:=congrArg (fun e=>look e k) s1
    rw [h0,look_number,if_pos (Nat.zero_le _),Nat.sub_zero]
    exact List.getElem?_eq_getElem hk)
   rw [actOf_eval] at h1
   simpa [hk'] using h1
  revert hv
  generalize (reflectSlots (nmO mp site) site M.lb.slots y).1.map (·.2)=rl
  intro hv
  match rl,vals,hv,VRels_len hv with
  | [],[],hv,_=>exact ⟨[],rfl,hv⟩
  | [a1],[x1],hv,_=>
   obtain ⟨x',r',e,h1,-⟩:=hv
   simp only [List.cons.injEq] at e
   rw [e.1]; exact h1
  | a1::a2::rl,x1::x2::xs,hv,_=>exact ⟨_,rfl,hv⟩
 ·replace h:look ((reflectObjs (nmO mp site) site M.lb.objs (reflectSlots (nmO mp site) site M.lb.slots y).2).1++gone (lGone M mp mp)) id=some (some ob):=h
  rw [look_app] at h
  cases hq:look (reflectObjs (nmO mp site) site M.lb.objs (reflectSlots (nmO mp site) site M.lb.slots y).2).1 id with
  | some oo=>
   rw [hq] at h
   simp only [Option.some.injEq] at h
   subst h
   exact o1 id ob hq
  | none=>
   rw [hq] at h
   replace h:look (gone (lGone M mp mp)) id=some (some ob):=h
   rw [look_gone] at h
   split at h<;>simp at h
 ·cases hf:gf.lab b o with
  | some q'=>exact X.labs b o q' hf
  | none=>
   cases hg:g.lab b o with
   | some q'=>exact Nat.lt_of_lt_of_le (S.labs b o q' hg) X.fr.size
   | none=>
    have:gO.lab b o=none:=outL_none hf hg
    rw [this] at h; simp at h
 ·intro hg
  have hin:=in_none b o hg
  have hf:gf.lab b o=none:=by
   cases hf:gf.lab b o with
   | none=>rfl
   | some q'=>exact absurd hin (X.old b o q' hb hf)
  have:gO.lab b o=none:=outL_none hf hg
  rw [this] at h; simp at h
 ·refine X.fr.mono (fun b o hb hm=>?_)
  obtain ⟨id,p,h1,k,d,hk,hne⟩:=mine b o hm
  exact ⟨id,p,h1,((H.mem k id d hk).resolve_left hne).2.2⟩
 ·rcases hT id h with h | ⟨k,d,hk,hne⟩
  ·omega
  ·exact ((H.mem k id d hk).resolve_left hne).2.2
theorem lendSt_obj {st:St} {SH:Bool} {hl:List Nat} {id:Nat} {ob:AObj} (h:(lendSt st SH hl).obj id=some ob):SH=false∧id∉hl∧st.obj id=some ob:=by
 cases SH with
 | true=>exact absurd (show (none:Option AObj)=some ob from h) (by simp)
 | false=>
  replace h:({ st with heap:=gone hl++st.heap } : St).obj id=some ob:=h
  unfold St.obj at h
  simp only [look_app,look_gone] at h
  by_cases hm:id∈hl
  ·simp [hm] at h
  ·simp only [hm,if_false] at h
   exact ⟨rfl,hm,h⟩
theorem evL_sound (S:Sit P c g w U sr a) (hs:¬ U site) {f:Operand} {args:Array Operand} {ts:Array TypeId} (hop:o.op = .call ⟨.value f,args,ts⟩) {fid:Nat} {caps:List AVal} (hf:sr.ev f = .fn fid caps) {M:LMng}
  (hM:LSound P fid M) (hG:GoF P fid) {x:M.la.LTr Mp} (hx:lRead sr M (args.toList.map sr.ev++caps)=some x) (e:evL sr site M x k=some r):∃ eff,k eff=some r∧Does P g w U site o a eff:=by
 have hfv:=S.ev f
 rw [hf] at hfv
 obtain ⟨capv,hfe,hcap⟩:=hfv
 obtain ⟨fn,hfn,hname,hbody⟩:=hG
 unfold lRead at hx
 split at hx
 ·rename_i x' hrd
  split at hx
  ·rename_i hok
   obtain rfl:=Option.some.inj hx
   obtain ⟨y,hy,e⟩:=Option.bind_eq_some_iff.1 e
   refine ⟨_,e,fun next Q hn=>?_⟩
   let vs:=args.toList.map sr.ev++caps
   let l:=args.toList.map a.eval++capv
   have hargs:VRels g w U vs l:=by
    refine VRels_app ?_ hcap
    have:∀ l:List Operand,VRels g w U (l.map sr.ev) (l.map a.eval):=by
     intro l
     induction l with
     | nil=>rfl
     | cons x l ih=>exact ⟨_,_,rfl,S.ev x,ih⟩
    exact this _
   let SH:=M.lb.shB
   let hl:=handed sr M.la vs
   let gL:=lendGh g SH hl
   let st1:=argSt sr M vs
   have hlend:VRels gL w U (lendL (lendSt sr SH hl) (M.la.slots.map (·.2)) vs) l:=by
    refine lendL_rel (g:=g) (g1:=gL) (sr:=lendSt sr SH hl) (fun id ob h=>?_) (fun b o h=>lend_none h) (fun id hid b o p h=>?_) (fun v x h=>lend_vrel h) _ vs l hargs
    ·exact S.objs id ob (lendSt_obj h).2.2
    ·cases ho:(lendSt sr SH hl).obj id with
     | none=>exact absurd ho hid
     | some ob=>
      obtain ⟨h1,h2,-⟩:=lendSt_obj ho
      exact lend_out h1 h2 h
   have hobj:∀ id ob,st1.obj id=some ob→id∈hl∧sr.obj id=some ob:=by
    intro id ob h
    have h0:st1.obj id=if id∈hl then sr.obj id else none:=look_keepH (st:=sr) hl id
    rw [h0] at h
    split at h
    ·rename_i hm; exact ⟨hm,h⟩
    ·simp at h
   have hO:Objs gL w U st1:=by
    intro id ob h
    obtain ⟨h1,h2⟩:=hobj id ob h
    obtain ⟨u,hr⟩:=S.objs id ob h2
    exact ⟨u,lend_orel h1 u hr⟩
   have hE:∀ t v,look st1.env t=some v→VRel gL w U v ((actOf l).eval (.tmp t)):=by
    intro t v h
    have h:look (number 0 (lendL (lendSt sr SH hl) (M.la.slots.map (·.2)) vs)) t=some v:=h
    rw [look_number,if_pos (Nat.zero_le _),Nat.sub_zero] at h
    obtain ⟨h3,h4⟩:=List.getElem?_eq_some_iff.1 h
    obtain ⟨x',h5,h6⟩:=VRels_get hlend t h3
    rw [actOf_eval,List.getD_eq_getElem?_getD,h5,← h4]
    exact h6
   obtain ⟨M1,r1,r2,r3,r4⟩:=reifySlots_ok (nm:=cidOf 20) (vr:=0) hO hE M.la.slots [] _ x' hrd
   obtain ⟨M2,k1,k2,k3,k4,k5⟩:=reifyObjs_ok (nm:=cidOf 20) (vr:=0) hO M.la.objs M1 _ _ r3
   have i0:InjM []:=fun _ _ _ _ _ h=>by simp [look] at h
   have hI:InjM M2:=k2 (r2 i0)
   have fit:(∀ k a d,look M2 k=some (a,d)→(∃ q∈M.la.objs,q.1=k)∧k<15)∧M.la.tail x'=M2:=by
    unfold LA.fitE at k3
    split at k3
    ·rename_i hf
     refine ⟨fun k a d hk=>?_,(Option.some.inj k3).symm⟩
     have:=List.all_eq_true.1 hf _ (look_mem hk)
     simp only [Bool.and_eq_true,Nat.blt_eq] at this
     obtain ⟨q,h1,h2⟩:=List.any_eq_true.1 this.1
     exact ⟨⟨q,h1,Nat.eq_of_beq_eq_true h2⟩,this.2⟩
    ·simp at k3
   obtain ⟨fit,htail⟩:=fit
   have hlt:∀ k a d,look M2 k=some (a,d)→k<15:=fun k a d h=>(fit k a d h).2
   have H:Handed g U M hl M2:=by
    refine ⟨hI,hlt,fun k a d hk=>?_,fun p hp=>?_⟩
    ·obtain ⟨⟨q,hq,rfl⟩,-⟩:=fit k a d hk
     obtain ⟨a',d',h1,h2⟩:=k4 q hq
     rw [hk] at h1
     simp only [Option.some.injEq,Prod.mk.injEq] at h1
     obtain ⟨rfl,rfl⟩:=h1
     rcases h2 with h2 | h2
     ·exact .inl h2
     ·cases ho:st1.obj a with
      | none=>exact absurd ho h2
      | some ob=>
       obtain ⟨h3,h4⟩:=hobj a ob ho
       exact .inr ⟨h3,(S.objs a ob h4).1,S.nf a (by rw [h4]; simp)⟩
    ·obtain ⟨a',d',h1,-⟩:=k4 p hp
     exact ⟨a',d',h1⟩
   let gI:=inL st1 M2 gL SH
   have C:Cons st1 (cidOf 20) 0 M2 gL gI U20:=by
    refine ⟨fun k a d hk=>⟨?_,?_⟩,by show (0:Nat)<20; omega,by show (0:Nat)<20; omega,fun b o h=>inL_none h,fun k a d b o p hk hne hlb=>inL_new hI hk hne hlb,fun k a d q hk hq=>?_⟩
    ·have:=hlt k a d hk
     show cidOf 20 k / 1024<20
     rw [cid_div,if_pos (by omega)]; omega
    ·have:=inL_hd (st:=st1) (gL:=gL) (SH:=SH) hlt hk 0 []
     rw [if_pos rfl] at this; exact this
    ·have:=inL_hd (st:=st1) (gL:=gL) (SH:=SH) hlt hk 0 q
     rw [if_neg hq] at this; exact this
   have c1:=r4 gI _ (C.mono k1)
   have c2:=k5 gI _ C
   have hok':=hok
   unfold lOk at hok'
   simp only [Bool.and_eq_true,Nat.beq_eq] at hok'
   obtain ⟨⟨⟨⟨q1,q2⟩,-⟩,-⟩,-⟩:=hok'
   obtain ⟨s1,s2⟩:=slots_range (nm:=cidOf 20) (vr:=0) M.la.slots 0 x' q1
   have hlen:l.length=M.la.slots.length:=by
    have:=VRels_len hargs
    rw [q2]; exact this
   have hcall:=hM x' y hy gI w l hlen (fun t v h=>?_) (fun id ob h=>?_) (fun b o q h=>?_) (S.gl.mono (Fr.refl _ _) (fun b o _ h=>inL_none (lend_none h)))
   ·have hex:(execOp a.eval o).run P w = .ok (.enter fid (args.toList.map a.eval++capv).toArray) w:=by
     unfold execOp
     rw [hop]
     simp only [resolve,hfe,Deferred.ofValue,invoke,callFunc]
     have hname':¬ fn.name = "runtime.NumGoroutine" :=by simpa using hname
     have hbody':¬ fn.body=none:=by intro hh; rw [hh] at hbody; simp at hbody
     simp [hfn,hname',hbody']
    unfold Oper.wp
    rw [hex,Oper.upon_enter]
    refine Calls.mono hcall (fun en w' h=>?_)
    obtain ⟨vals,gf,Uf,stf,rfl,X⟩:=h
    obtain ⟨g',hp⟩:=call_postL S hs H (vs:=vs) (by rw [← htail]; exact hok) X
    rw [← htail] at hp
    exact hn _ _ _ _ hp
   ·have h:look (reflectSlots (cidOf 20) 0 M.la.slots x').1 t=some v:=h
    have hv:=c1 t v h
    rw [actOf_eval] at hv
    have ht:t<l.length:=by
     rw [s1,look_number,if_pos (Nat.zero_le _),Nat.sub_zero] at h
     have:=(List.getElem?_eq_some_iff.1 h).1
     rw [List.length_map,s2] at this
     omega
    exact ⟨l[t],List.getElem?_eq_getElem ht,by simpa [ht] using hv⟩
   ·have h:(match look (reflectObjs (cidOf 20) 0 M.la.objs (reflectSlots (cidOf 20) 0 M.la.slots x').2).1 id with | some (some o)=>some o | _=>none)=some ob:=h
    split at h
    ·rename_i o' h'
     obtain rfl:=Option.some.inj h
     obtain ⟨p,hp,rfl,-⟩:=reflectObjs_name _ _ _ _ h'
     obtain ⟨a',d',h1,-⟩:=k4 p hp
     have:=hlt _ _ _ h1
     exact ⟨by rw [cid_div,if_pos (by omega)]; exact this,(c2 _ _ h').2⟩
    ·simp at h
   ·obtain ⟨q',hq⟩:=inL_some h
    exact S.labs b o q' (lend_some hq)
  ·simp at hx
 ·simp at hx
theorem evLs_sound (hC:CallsOK P c) (hL:LCallsOK P c) (S:Sit P c g w U sr a) (hs:¬ U site) {f:Operand} {args:Array Operand} {ts:Array TypeId} (hop:o.op = .call ⟨.value f,args,ts⟩) {fid:Nat} {caps:List AVal} (hf:sr.ev f = .fn fid caps) :
  ∀ (l:List (Nat×LMng)),(∀ p∈l,p∈c.lcalls)→evLs c sr site fid (args.toList.map sr.ev++caps) k l=some r→∃ eff,k eff=some r∧Does P g w U site o a eff
 | [],_,e=>evCall_sound hC S hs hop hf e
 | (fid',M)::l,hsub,e=>by
  simp only [evLs] at e
  split at e
  ·exact evLs_sound hC hL S hs hop hf l (fun p hp=>hsub p (List.mem_cons_of_mem _ hp)) e
  ·rename_i hb
   obtain rfl:=Nat.eq_of_beq_eq_true hb
   split at e
   ·rename_i x hx
    obtain ⟨h1,h2⟩:=hL fid' M (hsub _ List.mem_cons_self)
    exact evL_sound S hs hop hf h1 h2 hx e
   ·exact evLs_sound hC hL S hs hop hf l (fun p hp=>hsub p (List.mem_cons_of_mem _ hp)) e
theorem opOK (hC:CallsOK P c) (hL:LCallsOK P c):OpOK P c:=by
 intro ρ r k g w U sr a site o S hs e
 by_cases hcall:∃ f args ts fid caps,o.op = .call ⟨.value f,args,ts⟩∧sr.ev f = .fn fid caps
 ·obtain ⟨f,args,ts,fid,caps,hop,hf⟩:=hcall
  rw [hop] at e
  have e:(match sr.ev f with | .fn f caps=>evLs c sr site f (args.toList.map sr.ev++caps) k c.lcalls | _=>none)=some r:=e
  rw [hf] at e
  exact evLs_sound hC hL S hs hop hf c.lcalls (fun _ h=>h) e
 ·cases hc:isCall o.op with
  | false=>exact evOp_sound S hs hc e
  | true=>
   exfalso
   unfold isCall at hc
   split at hc
   ·rename_i f args ts hop
    rw [hop] at e
    have e:(match sr.ev f with | .fn f caps=>evLs c sr site f (args.toList.map sr.ev++caps) k c.lcalls | _=>none)=some r:=e
    split at e
    ·rename_i fid caps hf
     exact hcall ⟨f,args,ts,fid,caps,hop,hf⟩
    ·simp at e
   ·simp at hc
end
end Go.Am
namespace Go.Am
open Go
end Go.Am
namespace Go.Am
open Go
section
variable {ρ:Type} (k:Eff→Option ρ)
theorem chk_bind {α ρ:Type} (p:Prop) [Decidable p] (x:Option α) (f:α→Option ρ):(chk p x).bind f=chk p (x.bind f):=by unfold chk; split<;>rfl
theorem br_bind {α ρ:Type} (b:Bool) (x y:Option α) (f:α→Option ρ):(br b x y).bind f=br b (x.bind f) (y.bind f):=by cases b<;>rfl
theorem evBin_bind {kd:TK} {yc:Bool} {op:BinOp} {x y:AVal} (k:AVal→Option ρ):evBin kd yc op x y k=(evBin kd yc op x y some).bind k:=by
 unfold evBin
 repeat' (first | rfl | (split; done) | split)
theorem evIndexAddr_bind {n:Nat} {st:St} {x:AVal} {i:Int} (k:AVal→Option ρ):evIndexAddr n st x i k=(evIndexAddr n st x i some).bind k:=by
 unfold evIndexAddr
 repeat' (first | rfl | split)
theorem evStore1_bind (site id own t vr xs tt i j id' ver' i' j' u off len):evStore1 site id own t vr xs tt i j id' ver' i' j' u off len k=(evStore1 site id own t vr xs tt i j id' ver' i' j' u off len some).bind k:=by
 unfold evStore1
 split
 ·rfl
 ·rw [chk_bind]
  congr 1
  split<;>rfl
theorem evStore2_bind (st site size id own t vr xs p tt i j vs):evStore2 st site size id own t vr xs p tt i j vs k=(evStore2 st site size id own t vr xs p tt i j vs some).bind k:=by
 unfold evStore2
 repeat' (first | rfl | split)
theorem evStore3_bind (st site size id t xs bi bj tt i j vs):evStore3 st site size id t xs bi bj tt i j vs k=(evStore3 st site size id t xs bi bj tt i j vs some).bind k:=by
 unfold evStore3
 split
 ·rfl
 ·rw [chk_bind]
  congr 1
  repeat' (first | rfl | split)
theorem evStore_bind (st site size a v):evStore st site size a v k=(evStore st site size a v some).bind k:=by
 unfold evStore
 repeat' (first | rfl | exact evStore1_bind k _ _ _ _ _ _ _ _ _ _ _ _ _ _ _ _ | exact evStore2_bind k _ _ _ _ _ _ _ _ _ _ _ _ _ | exact evStore3_bind k _ _ _ _ _ _ _ _ _ _ _ _ | split)
theorem evAppend1_bind (bsz st site t s x):evAppend1 bsz st site t s x k=(evAppend1 bsz st site t s x some).bind k:=by
 unfold evAppend1
 repeat' (first | rfl | (rw [chk_bind]; rfl) | split)
theorem evAppend2_bind (bsz st site id own t xs x):evAppend2 bsz st site id own t xs x k=(evAppend2 bsz st site id own t xs x some).bind k:=by
 unfold evAppend2
 repeat' (first | rfl | (rw [chk_bind]; rfl) | split)
theorem evAppend3_bind (bsz st site id t xs i j x):evAppend3 bsz st site id t xs i j x k=(evAppend3 bsz st site id t xs i j x some).bind k:=by
 unfold evAppend3
 repeat' (first | rfl | (rw [chk_bind,Option.bind_some]; done) | split)
theorem evAppend_bind (bsz st site ety esz s x):evAppend bsz st site ety esz s x k=(evAppend bsz st site ety esz s x some).bind k:=by
 unfold evAppend
 repeat' (first | rfl | exact evAppend1_bind k _ _ _ _ _ _ | exact evAppend2_bind k _ _ _ _ _ _ _ _ | exact evAppend3_bind k _ _ _ _ _ _ _ _ _ | split)
theorem evAppendF_bind (bsz st ety s x):evAppendF bsz st ety s x k=(evAppendF bsz st ety s x some).bind k:=by
 unfold evAppendF
 repeat' (first | rfl | (rw [chk_bind,Option.bind_some]; done) | split)
theorem evAppendN_bind (bsz st site ety s x):evAppendN bsz st site ety s x k=(evAppendN bsz st site ety s x some).bind k:=by
 unfold evAppendN
 split
 ·split
  ·rw [chk_bind,Option.bind_some]
  ·rfl
 ·rfl
theorem evAppendZ_bind (bsz site ety s x):evAppendZ bsz site ety s x k=(evAppendZ bsz site ety s x some).bind k:=by
 unfold evAppendZ
 split<;>first | rfl | (rw [chk_bind]; rfl)
theorem evCopy1_bind (st id own t vr xs off len x):evCopy1 st id own t vr xs off len x k=(evCopy1 st id own t vr xs off len x some).bind k:=by
 unfold evCopy1
 repeat' (first | rfl | split)
theorem evCopy_bind (esz st d x):evCopy esz st d x k=(evCopy esz st d x some).bind k:=by
 unfold evCopy
 repeat' (first | rfl | exact evCopy1_bind k _ _ _ _ _ _ _ _ _ | split)
theorem evPts_bind (st site args):evPts st site args k=(evPts st site args some).bind k:=by
 unfold evPts
 repeat' (first | rfl | split)
theorem evCall_bind (c st site f args):evCall c st site f args k=(evCall c st site f args some).bind k:=by
 unfold evCall
 split
 ·split
  ·exact evPts_bind k _ _ _
  ·rfl
 ·split
  ·rfl
  ·rename_i m x _ _ _
   cases h:m.m x with
   | none=>rfl
   | some y=>
    simp only [Option.bind_some]
    repeat' (first | rfl | split)
theorem evL_bind (st site M x):evL st site M x k=(evL st site M x some).bind k:=by
 unfold evL
 cases M.m x<;>rfl
theorem evLs_bind (c st site f args):∀ l,evLs c st site f args k l=(evLs c st site f args some l).bind k
 | []=>evCall_bind k c st site f args
 | (g,M)::r=>by
  simp only [evLs]
  split
  ·exact evLs_bind c st site f args r
  ·split
   ·exact evL_bind k _ _ _ _
   ·exact evLs_bind c st site f args r
theorem evSlice_bind (esz st x lo hi):evSlice esz st x lo hi k=(evSlice esz st x lo hi some).bind k:=by
 unfold evSlice
 split
 ·rfl
 ·split
  ·split
   ·rw [chk_bind]
    congr 1
    repeat' (first | rfl | split)
   ·rfl
  ·rfl
theorem evSliceF_bind (ow esz st site x lo hi):evSliceF ow esz st site x lo hi k=(evSliceF ow esz st site x lo hi some).bind k:=by
 unfold evSliceF
 refine (evSlice_bind _ _ _ _ _ _).trans ?_
 conv=>rhs; rw [evSlice_bind]
 rw [Option.bind_assoc]
 congr 1
 funext e
 repeat' (first | rfl | split)
theorem evIdxCases_bind {n:Nat} {st:St} {x:AVal} {i:Int} {ρ:Type} (k:Eff→Option ρ):∀ {m:Nat},evIdxCases n st x i (fun z=>k ⟨z,[]⟩) m=(evIdxCases n st x i (fun z=>some (⟨z,[]⟩:Eff)) m).bind k
 | 0=>rfl
 | m+1=>by
  unfold evIdxCases
  by_cases h:i=Int.ofNat m
  ·simp only [h,decide_true,br]
   rw [evIndexAddr_bind,evIndexAddr_bind (ρ:=Eff)]
   cases evIndexAddr n st x (Int.ofNat m) some<;>rfl
  ·simp only [h,decide_false,br]
   exact evIdxCases_bind k
theorem evOp_bind (c st site o):evOp c st site o k=(evOp c st site o some).bind k:=by
 unfold evOp
 have hv:∀ x:Option AVal,(match x with | some y=>k ⟨y,[]⟩ | none=>none)=(match x with | some y=>some (⟨y,[]⟩:Eff) | none=>none).bind k:=by
  intro x; cases x<;>rfl
 have hb:∀ {kd yc op x y},evBin kd yc op x y (fun z=>k ⟨z,[]⟩)=(evBin kd yc op x y (fun z=>some (⟨z,[]⟩:Eff))).bind k:=by
  intro kd yc op x y
  rw [evBin_bind,evBin_bind (ρ:=Eff)]
  cases evBin kd yc op x y some<;>rfl
 have hi:∀ {n x i},evIndexAddr n st x i (fun z=>k ⟨z,[]⟩)=(evIndexAddr n st x i (fun z=>some (⟨z,[]⟩:Eff))).bind k:=by
  intro n x i
  rw [evIndexAddr_bind,evIndexAddr_bind (ρ:=Eff)]
  cases evIndexAddr n st x i some<;>rfl
 split
 all_goals (try simp only)
 all_goals repeat' (first | rfl | (rw [chk_bind,Option.bind_some]; done) | (rw [br_bind,Option.bind_some,Option.bind_some]; done) | exact hb | exact hi | exact evIdxCases_bind k | exact evStore_bind k _ _ _ _ _ | exact evAppend_bind k _ _ _ _ _ _ _ | exact evAppendZ_bind k _ _ _ _ _ | exact evAppendF_bind k _ _ _ _ _ | exact evAppendN_bind k _ _ _ _ _ _ | exact evSliceF_bind k _ _ _ _ _ _ _ | exact evCall_bind k _ _ _ _ _ | exact evLs_bind k _ _ _ _ _ _ | exact evCopy_bind k _ _ _ _ | exact evSlice_bind k _ _ _ _ _ | split)
end
end Go.Am
namespace Go.Am
open Go
section
variable {c:Cfg} {all:List Oper} {st0:St} {ρ:Type} {r:ρ}
structure Fact (c:Cfg) (all:List Oper) (st0:St) (i:Nat) (es:List EffI) (o:Oper) (e:EffI):Prop where
 dst:e.dst=o.dst
 mask:e.mask=maskOf (es.reverse.map (·.mask)) i o.after.toList
 edges:edgesB i o.after.toList=true
 guse:∀ t∈guardUse all o,t∈e.uses
 act:∃ runs:Bool,(match o.guard with | none=>runs=true | some (gd,want)=>∃ d,dstOf all gd=some d∧((∃ b,(applyE st0 e.mask i.pred es).ev (.tmp d) = .bool b∧runs=(b==want))∨((applyE st0 e.mask i.pred es).ev (.tmp d) = .tup []∧runs=false)))∧
  (match runs with
   | true=>(∀ t∈opTmps o.op.operands.toList,t∈e.uses)∧evOp c (restrict (applyE st0 e.mask i.pred es) (opTmps o.op.operands.toList) e.reads) (st0.nxt+i) o.op some=some e.eff
   | false=>e.eff=⟨.tup [],[]⟩)
inductive Drawn (c:Cfg) (all:List Oper) (st0:St):Nat→List EffI→Prop
 | nil:Drawn c all st0 0 []
 | cons {i:Nat} {es:List EffI} {o:Oper} {e:EffI} (h:Drawn c all st0 i es) (ho:all[i]? = some o) (hf:Fact c all st0 i es o e):Drawn c all st0 (i+1) (e::es)
theorem Drawn.len {i:Nat} {es:List EffI} (h:Drawn c all st0 i es):es.length=i:=by
 induction h with
 | nil=>rfl
 | cons h ho hf ih=>simp [ih]
theorem setBool_id {mask d:Nat} {b:Bool} : ∀ (es:List EffI) (i:Nat),onlyIn mask d i es=true→(applyE st0 mask i es).ev (.tmp d) = .bool b→setBool d b es=es
 | [],i,h1,h2=>rfl
 | e::es,i,h1,h2=>by
  simp only [onlyIn,Bool.and_eq_true] at h1
  obtain ⟨h1,h3⟩:=h1
  simp only [applyE] at h2
  cases hd:e.dst with
  | none=>
   simp only [setBool,hd]
   congr 1
   refine setBool_id es i.pred h3 ?_
   split at h2
   ·simpa [St.ev,St.put,hd] using h2
   ·exact h2
  | some x=>
   simp only [setBool,hd]
   by_cases hx:x=d
   ·subst hx
    simp only [Nat.beq_refl]
    simp only [hd,Nat.beq_refl,Bool.not_true,Bool.or_false] at h1
    rw [h1] at h2
    simp only [St.ev,St.put,hd] at h2
    rw [look_cons,if_pos rfl] at h2
    simp only at h2
    obtain ⟨m,ds,⟨v,os⟩,rs,us⟩:=e
    simp only at h2
    have hd':ds=some x:=hd
    subst hd'
    rw [← h2]
   ·have hb:Nat.beq x d=false:=by rw [← Bool.not_eq_true]; intro h; exact hx (Nat.eq_of_beq_eq_true h)
    rw [hb]
    simp only
    congr 1
    refine setBool_id es i.pred h3 ?_
    split at h2
    ·simp only [St.ev,St.put,hd] at h2
     rw [look_cons,if_neg hx] at h2
     exact h2
    ·exact h2
theorem evDraw_ok:∀ (ops:List Oper) (i:Nat) (es:List EffI) (k:List EffI→Option ρ),Drawn c all st0 i es→all.drop i=ops→evDraw c all st0 ops i es k=some r→∃ es',Drawn c all st0 all.length es'∧k es'=some r
 | [],i,es,k,D,ha,e=>by
  refine ⟨es,?_,e⟩
  have hi:all.length≤i:=by simpa using List.drop_eq_nil_iff.1 ha
  have:i≤all.length:=by
   cases D with
   | nil=>omega
   | cons h ho hf=>have:=(List.getElem?_eq_some_iff.1 ho).1; omega
  have:i=all.length:=by omega
  rw [← this]; exact D
 | o::ops,i,es,k,D,ha,e=>by
  have ho:all[i]? = some o:=by
   have:=congrArg (fun l=>l[0]?) ha
   simpa using this
  have ha':all.drop (i+1)=ops:=by
   have:=congrArg (List.drop 1) ha
   simpa using this
  simp only [evDraw] at e
  split at e
  ·simp at e
  ·rename_i hed
   have run:∀ (hrun:match o.guard with | none=>True | some (gd,want)=>∃ d b,dstOf all gd=some d∧(applyE st0 (maskOf (es.reverse.map (·.mask)) i o.after.toList) i.pred es).ev (.tmp d) = .bool b∧true=(b==want)),
     evOp c (restrict (applyE st0 (maskOf (es.reverse.map (·.mask)) i o.after.toList) i.pred es) (opTmps o.op.operands.toList) (readsOf (applyE st0 (maskOf (es.reverse.map (·.mask)) i o.after.toList) i.pred es) o.op)) (st0.nxt+i) o.op
      (fun e=>evDraw c all st0 ops (i+1) (⟨maskOf (es.reverse.map (·.mask)) i o.after.toList,o.dst,e,readsOf (applyE st0 (maskOf (es.reverse.map (·.mask)) i o.after.toList) i.pred es) o.op,guardUse all o++opTmps o.op.operands.toList⟩::es) k)=some r→
     ∃ es',Drawn c all st0 all.length es'∧k es'=some r:=by
    intro hrun e
    rw [evOp_bind] at e
    obtain ⟨eff,h1,h2⟩:=Option.bind_eq_some_iff.1 e
    refine evDraw_ok ops (i+1) _ k (.cons D ho ⟨rfl,rfl,hed,fun t ht=>List.mem_append_left _ ht,true,?_,fun t ht=>List.mem_append_right _ ht,h1⟩) ha' h2
    cases hg:o.guard with
    | none=>rfl
    | some gw=>
     rw [hg] at hrun
     obtain ⟨d,b,h1,h2,h3⟩:=hrun
     exact ⟨d,h1,.inl ⟨b,h2,h3⟩⟩
   have skip:∀ (hrun:match o.guard with | none=>False | some (gd,want)=>∃ d,dstOf all gd=some d∧((∃ b,(applyE st0 (maskOf (es.reverse.map (·.mask)) i o.after.toList) i.pred es).ev (.tmp d) = .bool b∧false=(b==want))∨(applyE st0 (maskOf (es.reverse.map (·.mask)) i o.after.toList) i.pred es).ev (.tmp d) = .tup [])),
     evDraw c all st0 ops (i+1) (⟨maskOf (es.reverse.map (·.mask)) i o.after.toList,o.dst,⟨.tup [],[]⟩,[],guardUse all o⟩::es) k=some r→
     ∃ es',Drawn c all st0 all.length es'∧k es'=some r:=by
    intro hrun e
    refine evDraw_ok ops (i+1) _ k (.cons D ho ⟨rfl,rfl,hed,fun t ht=>ht,false,?_,rfl⟩) ha' e
    cases hg:o.guard with
    | none=>rw [hg] at hrun; exact hrun.elim
    | some gw=>
     rw [hg] at hrun
     obtain ⟨d,h1,h2⟩:=hrun
     exact ⟨d,h1,h2.imp id (fun h=>⟨h,rfl⟩)⟩
   cases hg:o.guard with
   | none=>
    rw [hg] at e
    exact run (by rw [hg]; trivial) e
   | some gw=>
    obtain ⟨gd,want⟩:=gw
    rw [hg] at e
    simp only at e
    split at e
    ·simp at e
    ·rename_i d hd
     split at e
     ·rename_i b hon hb
      cases b with
      | true=>
       simp only [br] at e
       rw [setBool_id es i.pred hon hb] at e
       cases want with
       | true=>exact run (by rw [hg]; exact ⟨d,true,hd,hb,rfl⟩) e
       | false=>exact skip (by rw [hg]; exact ⟨d,hd,.inl ⟨true,hb,rfl⟩⟩) e
      | false=>
       simp only [br] at e
       rw [setBool_id es i.pred hon hb] at e
       cases want with
       | true=>exact skip (by rw [hg]; exact ⟨d,hd,.inl ⟨false,hb,rfl⟩⟩) e
       | false=>exact run (by rw [hg]; exact ⟨d,false,hd,hb,rfl⟩) e
     ·rename_i hon hb
      exact skip (by rw [hg]; exact ⟨d,hd,.inr hb⟩) e
     ·simp at e
def selL (st0:St) (S:Nat→Bool):List EffI→St
 | []=>st0
 | e::r=>match S r.length with | true=>(selL st0 S r).put e.dst e.eff | false=>selL st0 S r
theorem applyE_sel {mask:Nat} : ∀ (es:List EffI) (i:Nat),es.length=i→applyE st0 mask i.pred es=selL st0 (Nat.testBit mask) es
 | [],i,h=>rfl
 | e::es,i,h=>by
  simp only [List.length_cons] at h
  subst h
  simp only [applyE,selL,Nat.pred_succ]
  rw [applyE_sel es es.length rfl]
  rfl
theorem applyAll_sel {S:Nat→Bool} : ∀ (es:List EffI),(∀ i,i<es.length→S i=true)→applyAll st0 es=selL st0 S es
 | [],_=>rfl
 | e::es,h=>by
  simp only [applyAll,selL,h es.length (by simp)]
  rw [applyAll_sel es (fun i hi=>h i (by simp only [List.length_cons]; omega))]
def atE (es:List EffI) (j:Nat):Option EffI:=es.reverse[j]?
theorem atE_cons (e:EffI) (es:List EffI) (j:Nat):atE (e::es) j=if j<es.length then atE es j else if j=es.length then some e else none:=by
 unfold atE
 simp only [List.reverse_cons,List.getElem?_append,List.length_reverse]
 split
 ·rfl
 ·split
  ·rename_i h; subst h; simp
  ·rw [List.getElem?_eq_none]; simp; omega
theorem put_obj {st:St} {d:Option Nat} {e:Eff} {id:Nat} : (st.put d e).obj id=match look e.objs id with | some x=>x | none=>st.obj id:=by
 unfold St.obj St.put
 simp only [look_app]
 cases look e.objs id with
 | none=>rfl
 | some x=>cases x<;>rfl
theorem put_look {st:St} {d:Option Nat} {e:Eff} {t:Nat} : look (st.put d e).env t=if d=some t then some e.val else look st.env t:=by
 cases d with
 | none=>simp [St.put]
 | some x=>
  simp only [St.put]
  rw [look_cons]
  by_cases h:x=t
  ·subst h; simp
  ·rw [if_neg h,if_neg (by simpa using h)]
theorem sel_env {S1 S2:Nat→Bool} {t:Nat} : ∀ (es:List EffI),(∀ j e,atE es j=some e→S1 j=S2 j∨e.dst≠some t)→look (selL st0 S1 es).env t=look (selL st0 S2 es).env t
 | [],_=>rfl
 | e::es,h=>by
  have ih:=sel_env (S1:=S1) (S2:=S2) (t:=t) es (fun j f hf=>h j f (by
   rw [atE_cons]
   have:j<es.length:=by
    have:=(List.getElem?_eq_some_iff.1 hf).1; simpa using this
   rw [if_pos this]; exact hf))
  have he:=h es.length e (by rw [atE_cons]; simp)
  simp only [selL]
  rcases he with he | he
  ·rw [he]
   cases S2 es.length with
   | true=>simp only [put_look,ih]
   | false=>exact ih
  ·cases S1 es.length<;>cases S2 es.length<;>simp only [put_look,if_neg he,ih]
theorem sel_obj {S1 S2:Nat→Bool} {id:Nat} : ∀ (es:List EffI),(∀ j e,atE es j=some e→S1 j=S2 j∨id∉touched e)→(selL st0 S1 es).obj id=(selL st0 S2 es).obj id
 | [],_=>rfl
 | e::es,h=>by
  have ih:=sel_obj (S1:=S1) (S2:=S2) (id:=id) es (fun j f hf=>h j f (by
   rw [atE_cons]
   have:j<es.length:=by
    have:=(List.getElem?_eq_some_iff.1 hf).1; simpa using this
   rw [if_pos this]; exact hf))
  have he:=h es.length e (by rw [atE_cons]; simp)
  simp only [selL]
  rcases he with he | he
  ·rw [he]
   cases S2 es.length with
   | true=>simp only [put_obj,ih]
   | false=>exact ih
  ·have hn:look e.eff.objs id=none:=look_none he
   cases S1 es.length<;>cases S2 es.length<;>simp only [put_obj,hn,ih]
theorem sel_pre {S:Nat→Bool} : ∀ (fs es:List EffI),(∀ j,es.length≤j→S j=false)→selL st0 S (fs++es)=selL st0 S es
 | [],es,_=>rfl
 | f::fs,es,h=>by
  simp only [List.cons_append,selL]
  rw [h _ (by simp)]
  exact sel_pre fs es h
theorem pairs_go {e:EffI} : ∀ (es:List EffI),pairsOk.go e es.length.pred es=true→∀ j f,atE es j=some f→Nat.testBit e.mask j=true∨pairOk e f=true
 | [],_,j,f,hf=>by simp [atE] at hf
 | g::es,h,j,f,hf=>by
  simp only [List.length_cons,Nat.pred_succ,pairsOk.go,Bool.and_eq_true,Bool.or_eq_true] at h
  rw [atE_cons] at hf
  split at hf
  ·exact pairs_go es h.2 j f hf
  ·split at hf
   ·rename_i hj
    simp only [Option.some.injEq] at hf
    subst hf; subst hj
    exact h.1
   ·simp at hf
theorem pairs_ok:∀ (es:List EffI),pairsOk es.length.pred es=true→∀ j1 j2 f1 f2,j1<j2→atE es j1=some f1→atE es j2=some f2→Nat.testBit f2.mask j1=true∨pairOk f2 f1=true
 | [],_,j1,j2,f1,f2,hj,h1,h2=>by simp [atE] at h1
 | e::es,h,j1,j2,f1,f2,hj,h1,h2=>by
  simp only [List.length_cons,Nat.pred_succ,pairsOk,Bool.and_eq_true] at h
  rw [atE_cons] at h1 h2
  split at h2
  ·rename_i hlt
   rw [if_pos (by omega)] at h1
   exact pairs_ok es h.2 j1 j2 f1 f2 hj h1 h2
  ·split at h2
   ·rename_i he
    simp only [Option.some.injEq] at h2
    subst h2
    rw [if_pos (by omega)] at h1
    exact pairs_go es h.1 j1 f1 h1
   ·simp at h2
structure Apt (a b:EffI):Prop where
 t1:∀ i∈touched a,i∉b.reads
 t2:∀ i∈touched b,i∉a.reads
 t3:∀ i∈touched a,i∉touched b
 d1:∀ t,a.dst=some t→b.dst≠some t
 u1:∀ t,a.dst=some t→t∉b.uses
 u2:∀ t,b.dst=some t→t∉a.uses
theorem disjB_ok {a b:List Nat} (h:disjB a b=true):∀ i∈a,i∉b:=by
 intro i hi hb
 have:=List.all_eq_true.1 h i hi
 rw [any_beq.2 hb] at this
 simp at this
theorem pairOk_ok {a b:EffI} (h:pairOk a b=true):Apt a b:=by
 unfold pairOk at h
 simp only [Bool.and_eq_true] at h
 obtain ⟨⟨⟨⟨⟨h1,h2⟩,h3⟩,h4⟩,h5⟩,h6⟩:=h
 refine ⟨disjB_ok h1,disjB_ok h2,disjB_ok h3,fun t ht hb=>?_,fun t ht hb=>?_,fun t ht hb=>?_⟩
 ·rw [ht,hb] at h4; simp [dstB] at h4
 ·rw [ht] at h5; simp only [usesB] at h5; rw [any_beq.2 hb] at h5; simp at h5
 ·rw [ht] at h6; simp only [usesB] at h6; rw [any_beq.2 hb] at h6; simp at h6
theorem maskOf_bit {masks:List Nat} {i m:Nat} : ∀ (l:List Edge),Nat.testBit (maskOf masks i l) m=true→∃ e∈l,Region.binds .any e=true∧e.on<i∧(m=e.on∨Nat.testBit (masks.getD e.on 0) m=true)
 | [],h=>by simp [maskOf] at h
 | e::l,h=>by
  simp only [maskOf,Nat.testBit_or,Bool.or_eq_true] at h
  rcases h with h | h
  ·split at h
   ·rename_i hb
    simp only [Bool.and_eq_true,Nat.blt_eq] at hb
    rw [show Nat.lor (2 ^ e.on) (masks.getD e.on 0)=2 ^ e.on||| masks.getD e.on 0 from rfl,Nat.testBit_or,Bool.or_eq_true] at h
    refine ⟨e,by simp,hb.1,hb.2,?_⟩
    rcases h with h | h
    ·left
     rw [Nat.testBit_two_pow] at h
     exact (of_decide_eq_true h).symm
    ·exact .inr h
   ·simp at h
  ·obtain ⟨e',h1,h2⟩:=maskOf_bit l h
   exact ⟨e',by simp [h1],h2⟩
theorem edgesB_ok {i:Nat} : ∀ {l:List Edge},edgesB i l=true→∀ e∈l,Region.binds .any e=true→e.on<i
 | [],_,e,he,_=>by simp at he
 | a::l,h,e,he,hb=>by
  simp only [edgesB,Bool.and_eq_true] at h
  rcases List.mem_cons.1 he with rfl | he
  ·have:=h.1
   rw [hb] at this
   simpa using this
  ·exact edgesB_ok h.2 e he hb
theorem Drawn.at {n:Nat} {es:List EffI} (D:Drawn c all st0 n es):∀ i e,atE es i=some e→∃ fs pre o,es=fs++e::pre∧pre.length=i∧all[i]? = some o∧Fact c all st0 i pre o e:=by
 induction D with
 | nil=>intro i e h; simp [atE] at h
 | @cons m es' o e' hD ho hf ih=>
  intro i e h
  have hlen:=hD.len
  rw [atE_cons] at h
  split at h
  ·obtain ⟨fs,pre,o',h1,h2,h3,h4⟩:=ih i e h
   exact ⟨e'::fs,pre,o',by rw [h1]; rfl,h2,h3,h4⟩
  ·split at h
   ·rename_i hi
    simp only [Option.some.injEq] at h
    subst h; subst hi
    rw [hlen]
    exact ⟨[],es',o,rfl,hlen,ho,hf⟩
   ·simp at h
theorem atE_pre {fs pre:List EffI} {e:EffI} {j:Nat} (h:j<pre.length):atE (fs++e::pre) j=atE pre j:=by
 unfold atE
 simp only [List.reverse_append,List.reverse_cons,List.append_assoc]
 rw [List.getElem?_append_left (by simpa using h)]
end
end Go.Am
namespace Go.Am
open Go
section
variable {P:Program} {c:Cfg} {w0:World} {F:Lab} {N:Nat} {g g':Gh} {w w':World} {U U':Nat→Prop} {st:St} {a:Act}
theorem Rel.put_gen (R:Rel w0 F N g U st a w) {site:Nat} {e:Eff} {v:Value} {dst:Option Nat} (hd:∀ x,dst=some x→x<N) (Q:Post g w U site e v w' g' U') {st':St}
  (henv:∀ t,look st'.env t=if dst=some t then some e.val else look st.env t) (hobj:∀ id,st'.obj id=match look e.objs id with | some x=>x | none=>st.obj id) (hu:∀ s,U' s→s<st'.nxt) :
  Rel w0 F N g' U' st' (a.put dst v) w':=by
 have hd':∀ x,dst=some x→x<a.tmps.size:=by rw [R.size]; exact hd
 refine ⟨fun t x h=>?_,fun id ob h=>?_,hu,Q.labs,fun b o id p hb h=>?_,fun b o id p hf h19=>?_,?_,?_,?_,Q.stp.sub _ R.u0,fun s hs=>Q.stp.sub _ (R.u20 s hs),fun id h=>?_⟩
 ·rw [put_eval hd']
  rw [henv] at h
  by_cases hdt:dst=some t
  ·rw [if_pos hdt] at h ⊢
   simp only [Option.some.injEq] at h
   subst h; exact Q.val
  ·rw [if_neg hdt] at h ⊢
   exact Q.stp.vrel _ _ (R.env t x h)
 ·rw [hobj] at h
  cases hl:look e.objs id with
  | some ob'=>
   rw [hl] at h
   simp only at h
   subst h
   exact Q.objs id _ hl
  | none=>
   rw [hl] at h
   obtain ⟨h1,h2⟩:=R.heap id ob h
   exact ⟨Q.stp.sub _ h1,ORel_step Q.stp (by rw [hl]; simp) h1 ob h2⟩
 ·have hb':b<w.heap.size:=Nat.lt_of_lt_of_le hb R.fr.size
  have hne:=Q.old b o _ hb' h
  cases hl:g.lab b o with
  | none=>exact absurd hl hne
  | some q=>
   obtain ⟨id',p'⟩:=q
   cases ht:(look e.objs id').isSome with
   | true=>
    rcases R.old b o id' p' hb hl with h2 | h2
    ·exact absurd h2.1 (Q.nf id' ht)
    ·exact .inr h2
   | false=>
    have:=(Q.stp.own b o id' p' hl (by rw [ht]; simp)).1
    rw [this] at h
    simp only [Option.some.injEq,Prod.mk.injEq] at h
    obtain ⟨rfl,rfl⟩:=h
    exact R.old b o id' p' hb hl
 ·have hl:=R.frn b o id p hf h19
  refine (Q.stp.own b o id p hl (fun ht=>Q.nf id ht h19)).1
 ·refine R.fr.trans' Q.fr (fun b o hb h=>?_)
  obtain ⟨id,p,hl,hn⟩:=h
  rcases R.old b o id p hb hl with h2 | h2
  ·exact absurd h2.1 hn
  ·exact h2
 ·cases dst<;>exact R.defers
 ·cases dst<;>simp [Act.put,R.size]
 ·rw [hobj] at h
  cases hl:look e.objs id with
  | some ob'=>exact Q.nf id (by rw [hl]; rfl)
  | none=>rw [hl] at h; exact R.nf id h
theorem Rel.same (R:Rel w0 F N g U st a w) {st':St} (henv:∀ t,look st'.env t=look st.env t) (hobj:∀ id,st'.obj id=st.obj id) (hu:∀ s,U s→s<st'.nxt):Rel w0 F N g U st' a w:=
 ⟨fun t v h=>R.env t v (by rw [← henv]; exact h),fun id o h=>R.heap id o (by rw [← hobj]; exact h),hu,R.labs,R.old,R.frn,R.fr,R.defers,R.size,R.u0,R.u20,fun id h=>R.nf id (by rw [← hobj]; exact h)⟩
structure Inv (w0:World) (F:Lab) (N:Nat) (g0:Gh) (U0:Nat→Prop) (st0:St) (es:List EffI) (D:Nat→Bool) (g:Gh) (U:Nat→Prop) (a:Act) (w:World):Prop where
 rel:Rel w0 F N g U ⟨(selL st0 D es).env,(selL st0 D es).heap,st0.nxt+es.length,[],[]⟩ a w
 used:∀ s,U s→s<st0.nxt∨∃ i,i<es.length∧D i=true∧s=st0.nxt+i
 clos:∀ i e,atE es i=some e→D i=true→∀ m,Nat.testBit e.mask m=true→m<i∧D m=true
 sub:∀ s,U0 s→U s
 hd:∀ id ver p,U0 (id / 1024)→U0 ver→g.hd id ver p=g0.hd id ver p
theorem look_ne {α:Type} {l:List (Nat×α)} {q:Nat×α} {id:Nat} (hq:q∈l) (he:q.1=id) (h:look l id=none):False:=by
 induction l with
 | nil=>simp at hq
 | cons p l ih=>
  obtain ⟨k,v⟩:=p
  rw [look_cons] at h
  split at h
  ·simp at h
  ·rename_i hne
   rcases List.mem_cons.1 hq with e | e
   ·subst e; exact hne he
   ·exact ih e h
theorem Rel.drawn (R:Rel w0 F N g U st a w):Rel w0 F N g U st a { w with drawn:=w.drawn+1 }:=by
 have hfr:Fr (Mine g) w { w with drawn:=w.drawn+1 }:=⟨rfl,rfl,rfl,Nat.le_refl _,fun _ c _ _ h=>⟨c,h,rfl,fun _ _=>rfl⟩,fun _ _ _=>rfl,fun _ _ h _=>h⟩
 have Q:Post g w U st.nxt ⟨.undef,[]⟩ undef { w with drawn:=w.drawn+1 } g U:=
  ⟨⟨fun s h=>h,fun _ _ _ _ _=>rfl,fun b o hl v hv=>⟨hv,hl⟩,fun b o id p hl _=>⟨hl,rfl,rfl⟩⟩,trivial,fun id o h=>by simp [look] at h,fun s h=>.inl h,R.labs,fun b o q _ h=>by rw [h]; simp,hfr,fun id h=>by simp [look] at h⟩
 exact R.put_gen (dst:=none) (fun x h=>by simp at h) Q (fun t=>rfl) (fun id=>rfl) R.used
theorem sel_skip_env {st0:St} {S:Nat→Bool} {t:Nat} (es:List EffI):∀ (fs:List EffI),(∀ j f,es.length≤j→atE (fs++es) j=some f→S j=false∨f.dst≠some t)→look (selL st0 S (fs++es)).env t=look (selL st0 S es).env t
 | [],_=>rfl
 | f::fs,h=>by
  have ih:=sel_skip_env (st0:=st0) es fs (fun j g hj hg=>h j g hj (by
   rw [List.cons_append,atE_cons]
   have:j<(fs++es).length:=by
    have:=(List.getElem?_eq_some_iff.1 hg).1; simp at this ⊢; omega
   rw [if_pos this]; exact hg))
  have hf:=h (fs++es).length f (by simp) (by rw [List.cons_append,atE_cons]; simp)
  simp only [List.cons_append,selL]
  rcases hf with hf | hf
  ·rw [hf]; exact ih
  ·cases S (fs++es).length<;>simp only [put_look,if_neg hf,ih]
theorem sel_skip_obj {st0:St} {S:Nat→Bool} {id:Nat} (es:List EffI):∀ (fs:List EffI),(∀ j f,es.length≤j→atE (fs++es) j=some f→S j=false∨id∉touched f)→(selL st0 S (fs++es)).obj id=(selL st0 S es).obj id
 | [],_=>rfl
 | f::fs,h=>by
  have ih:=sel_skip_obj (st0:=st0) es fs (fun j g hj hg=>h j g hj (by
   rw [List.cons_append,atE_cons]
   have:j<(fs++es).length:=by
    have:=(List.getElem?_eq_some_iff.1 hg).1; simp at this ⊢; omega
   rw [if_pos this]; exact hg))
  have hf:=h (fs++es).length f (by simp) (by rw [List.cons_append,atE_cons]; simp)
  simp only [List.cons_append,selL]
  rcases hf with hf | hf
  ·rw [hf]; exact ih
  ·have hn:look f.eff.objs id=none:=look_none hf
   cases S (fs++es).length<;>simp only [put_obj,hn,ih]
theorem step_draw (H:OpOK P c) (hc:TysOK P c) (hG:Gl P F w0) {ops:Array Oper} (hN:∀ o∈ops.toList,∀ x,o.dst=some x→x<N) {es:List EffI} (D0:Drawn c ops.toList st ops.toList.length es) (hp:pairsOk es.length.pred es=true)
  {g0:Gh} {U0:Nat→Prop} {D:Nat→Bool} {i:Nat} {o:Oper} (ho:ops.toList[i]? = some o) (hi:D i=false) (hr:∀ e∈o.after.toList,Region.binds .any e=true→D e.on=true)
  (I:Inv w0 F N g0 U0 st es D g U a w) {K:Act→World→Prop} {Q:Exit→Act→World→Prop}
  (hK:∀ a' w' g' U',Inv w0 F N g0 U0 st es (fun j=>D j||j==i) g' U' a' w'→K a' w') :
  if Region.wanted o (yielded ops a.tmps) then o.wp P a w K Q∨(o.asks P a w∧LetsOut Q) else K (a.put o.dst undef) w:=by
 have hlen:=D0.len
 have hilt:i<es.length:=by rw [hlen]; exact (List.getElem?_eq_some_iff.1 ho).1
 obtain ⟨e,he⟩:∃ e,atE es i=some e:=⟨_,List.getElem?_eq_getElem (by simpa using hilt)⟩
 obtain ⟨fs,pre,o',hes,hpre,ho',hf⟩:=D0.at i e he
 rw [ho] at ho'
 obtain rfl:=Option.some.inj ho'
 have hmask:∀ m,Nat.testBit e.mask m=true→m<i∧D m=true:=by
  intro m hm
  rw [hf.mask] at hm
  obtain ⟨ed,h1,h2,h3,h4⟩:=maskOf_bit _ hm
  have hD:=hr ed h1 h2
  rcases h4 with rfl | h4
  ·exact ⟨h3,hD⟩
  ·have hlt:ed.on<pre.length:=by omega
   obtain ⟨f,hfa⟩:∃ f,atE pre ed.on=some f:=⟨_,List.getElem?_eq_getElem (by simpa using hlt)⟩
   have hf2:(pre.reverse.map (·.mask)).getD ed.on 0=f.mask:=by
    rw [List.getD_eq_getElem?_getD,List.getElem?_map]
    unfold atE at hfa
    rw [hfa]; rfl
   rw [hf2] at h4
   have:=I.clos ed.on f (by rw [hes,atE_pre hlt]; exact hfa) hD m h4
   exact ⟨by omega,this.2⟩
 have hapart:∀ j f,atE es j=some f→D j=true→Nat.testBit e.mask j=false→Apt e f∨Apt f e:=by
  intro j f hj hDj hm
  have hne:j≠i:=fun h=>by subst h; rw [hi] at hDj; simp at hDj
  rcases Nat.lt_or_gt_of_ne hne with h | h
  ·rcases pairs_ok es hp j i f e h hj he with h1 | h1
   ·rw [hm] at h1; simp at h1
   ·exact .inl (pairOk_ok h1)
  ·rcases pairs_ok es hp i j e f h he hj with h1 | h1
   ·have:=(I.clos j f hj hDj i h1).2
    rw [hi] at this; simp at this
   ·exact .inr (pairOk_ok h1)
 have hmf:∀ j,pre.length≤j→Nat.testBit e.mask j=false:=by
  intro j hj
  cases h:Nat.testBit e.mask j with
  | false=>rfl
  | true=>have:=(hmask j h).1; omega
 have hsel:applyE st e.mask i.pred pre=selL st (Nat.testBit e.mask) es:=by
  rw [applyE_sel pre i hpre,hes]
  exact (sel_pre (fs++[e]) pre hmf).symm.trans (by rw [List.append_assoc]; rfl)
 have env_eq:∀ t,(t∈e.uses)→look (selL st (Nat.testBit e.mask) es).env t=look (selL st D es).env t:=by
  intro t ht
  refine sel_env es (fun j f hj=>?_)
  cases hm:Nat.testBit e.mask j with
  | true=>exact .inl (hmask j hm).2.symm
  | false=>
   cases hDj:D j with
   | false=>exact .inl rfl
   | true=>
    refine .inr (fun hd=>?_)
    rcases hapart j f hj hDj hm with hq | hq
    ·exact hq.u2 t hd ht
    ·exact hq.u1 t hd ht
 have obj_eq:∀ id,id∈e.reads→(selL st (Nat.testBit e.mask) es).obj id=(selL st D es).obj id:=by
  intro id hid
  refine sel_obj es (fun j f hj=>?_)
  cases hm:Nat.testBit e.mask j with
  | true=>exact .inl (hmask j hm).2.symm
  | false=>
   cases hDj:D j with
   | false=>exact .inl rfl
   | true=>
    refine .inr (fun hd=>?_)
    rcases hapart j f hj hDj hm with hq | hq
    ·exact hq.t2 id hd hid
    ·exact hq.t1 id hd hid
 have later:∀ j f,i<j→atE es j=some f→∀ {t:Nat},((e.dst≠some t→False)→(fun j=>D j||j==i) j=false∨f.dst≠some t):=by
  intro j f hj hat t ht
  cases hDj:D j with
  | false=>exact .inl (by first | (show (D j||j==i)=false; rw [hDj]; simp; omega) | (show (false||j==i)=false; simp; omega) | (simp [hDj]; omega))
  | true=>
   have hm:Nat.testBit e.mask j=false:=hmf j (by omega)
   have ht':e.dst=some t:=Classical.not_not.1 ht
   rcases hapart j f hat hDj hm with hq | hq
   ·exact .inr (hq.d1 t ht')
   ·exact .inr (fun h=>hq.d1 t h ht')
 have hfresh:¬ U (st.nxt+i):=by
  intro h
  rcases I.used _ h with h | ⟨j,h1,h2,h3⟩
  ·omega
  ·have:j=i:=by omega
   subst this; rw [hi] at h2; simp at h2
 have after:∀ v w' g' U',Post g w U (st.nxt+i) e.eff v w' g' U'→K (a.put o.dst v) w':=by
  intro v w' g' U' hpost
  refine hK _ _ g' U' ⟨?_,fun s h=>?_,fun j f hj hDj m hm=>?_,fun s h=>hpost.stp.sub s (I.sub s h),fun id ver p h1 h2=>?_⟩
  ·refine I.rel.put_gen (hN o (by rw [Array.mem_toList_iff]; exact Array.mem_of_getElem? (by rw [← Array.getElem?_toList]; exact ho))) hpost (fun t=>?_) (fun id=>?_) (fun s h=>?_)
   ·by_cases hdt:o.dst=some t
    ·rw [if_pos hdt]
     show look (selL st (fun j=>D j||j==i) es).env t=_
     have hsk:look (selL st (fun j=>D j||j==i) es).env t=look (selL st (fun j=>D j||j==i) (e::pre)).env t:=by
      rw [hes]
      refine sel_skip_env (e::pre) fs (fun j f hj hat=>?_)
      rw [← hes] at hat
      simp only [List.length_cons] at hj
      exact later j f (by omega) hat (fun hd=>hd (by rw [hf.dst]; exact hdt))
     rw [hsk]
     simp only [selL,hpre,beq_self_eq_true,Bool.or_true,put_look]
     rw [if_pos (by rw [hf.dst]; exact hdt)]
    ·rw [if_neg hdt]
     refine sel_env es (fun j f hj=>?_)
     by_cases hji:j=i
     ·subst hji
      rw [he] at hj
      obtain rfl:=Option.some.inj hj
      exact .inr (by rw [hf.dst]; exact hdt)
     ·exact .inl (by simp [hji])
   ·show (selL st (fun j=>D j||j==i) es).obj id=_
    cases hlk:look e.eff.objs id with
    | none=>
     refine sel_obj es (fun j f hj=>?_)
     by_cases hji:j=i
     ·subst hji
      rw [he] at hj
      obtain rfl:=Option.some.inj hj
      refine .inr (fun hm=>?_)
      obtain ⟨q,hq,hqe⟩:=List.mem_map.1 hm
      exact look_ne hq hqe hlk
     ·exact .inl (by simp [hji])
    | some x=>
     have hsk:(selL st (fun j=>D j||j==i) es).obj id=(selL st (fun j=>D j||j==i) (e::pre)).obj id:=by
      rw [hes]
      refine sel_skip_obj (e::pre) fs (fun j f hj hat=>?_)
      rw [← hes] at hat
      simp only [List.length_cons] at hj
      cases hDj:D j with
      | false=>exact .inl (by first | (show (D j||j==i)=false; rw [hDj]; simp; omega) | (show (false||j==i)=false; simp; omega) | (simp [hDj]; omega))
      | true=>
       have hm:Nat.testBit e.mask j=false:=hmf j (by omega)
       have hid:id∈touched e:=List.mem_map.2 ⟨_,look_mem hlk,rfl⟩
       rcases hapart j f hat hDj hm with hq | hq
       ·exact .inr (fun h=>hq.t3 id hid h)
       ·exact .inr (fun h=>hq.t3 id h hid)
     rw [hsk]
     simp only [selL,hpre,beq_self_eq_true,Bool.or_true,put_obj,hlk]
   ·rcases hpost.used s h with h | h
    ·have:=I.rel.used s h; exact this
    ·show s<st.nxt+es.length; omega
  ·rcases hpost.used s h with h | h
   ·rcases I.used s h with h | ⟨j,h1,h2,h3⟩
    ·exact .inl h
    ·exact .inr ⟨j,h1,by simp [h2],h3⟩
   ·exact .inr ⟨i,hilt,by simp,h⟩
  ·by_cases hji:j=i
   ·subst hji
    rw [he] at hj
    obtain rfl:=Option.some.inj hj
    obtain ⟨h1,h2⟩:=hmask m hm
    exact ⟨h1,by simp [h2]⟩
   ·have hDj':D j=true:=by simpa [hji] using hDj
    obtain ⟨h1,h2⟩:=I.clos j f hj hDj' m hm
    exact ⟨h1,by simp [h2]⟩
  ·rw [hpost.stp.hd _ _ _ (I.sub _ h1) (I.sub _ h2),I.hd id ver p h1 h2]
 obtain ⟨runs,hg,hact⟩:=hf.act
 have hwant:Region.wanted o (yielded ops a.tmps)=runs:=by
  cases hgd:o.guard with
  | none=>
   rw [hgd] at hg
   simp only at hg
   rw [hg]
   simp [Region.wanted,hgd]
  | some gw=>
   obtain ⟨gd,want⟩:=gw
   rw [hgd] at hg
   obtain ⟨d,h1,hg⟩:=hg
   rw [hsel] at hg
   have hd:d∈e.uses:=hf.guse d (by simp [guardUse,hgd,h1])
   rcases hg with ⟨b,h2,h3⟩ | ⟨h2,h3⟩
   ·have hv:a.eval (.tmp d) = .bool b:=by
     have h4:look (selL st (Nat.testBit e.mask) es).env d=some (.bool b):=by
      simp only [St.ev] at h2
      split at h2
      ·rename_i v hv; rw [hv,h2]
      ·simp at h2
     rw [env_eq d hd] at h4
     exact I.rel.env d _ h4
    have hy:yielded ops a.tmps gd=some b:=yielded_of h1 hv
    rw [h3]
    simp [Region.wanted,hgd,hy]
   ·have hv:a.eval (.tmp d)=undef:=by
     have h4:look (selL st (Nat.testBit e.mask) es).env d=some (.tup []):=by
      simp only [St.ev] at h2
      split at h2
      ·rename_i v hv; rw [hv,h2]
      ·simp at h2
     rw [env_eq d hd] at h4
     obtain ⟨l,h5,h6⟩:=I.rel.env d _ h4
     obtain rfl:=h6
     exact h5
    have hy:yielded ops a.tmps gd=none:=yielded_undef h1 hv
    rw [h3]
    simp [Region.wanted,hgd,hy]
 rw [hwant]
 cases runs with
 | false=>
  have hact:e.eff=⟨.tup [],[]⟩:=hact
  simp only [Bool.false_eq_true,if_false]
  refine after undef w g (U' U (st.nxt+i)) ?_
  rw [hact]
  exact ⟨⟨fun s h=>.inl h,fun _ _ _ _ _=>rfl,fun b o hl v hv=>⟨hv,hl⟩,fun b o id p hl _=>⟨hl,rfl,rfl⟩⟩,⟨[],rfl,rfl⟩,fun id o h=>by simp [look] at h,fun s h=>h,I.rel.labs,fun b o q _ h=>by rw [h]; simp,.refl _ _,fun id h=>by simp [look] at h⟩
 | true=>
  obtain ⟨hu,hev⟩:=hact
  rw [hsel] at hev
  simp only [if_true]
  have S:Sit P c g w U (restrict (selL st (Nat.testBit e.mask) es) (opTmps o.op.operands.toList) e.reads) a:=by
   refine ⟨hc,fun t v h=>?_,fun id ob h=>?_,I.rel.labs,I.rel.u0,I.rel.u20,fun id h=>?_,I.rel.gl hG⟩
   ·rw [show (restrict (selL st (Nat.testBit e.mask) es) (opTmps o.op.operands.toList) e.reads).env=keepE (selL st (Nat.testBit e.mask) es) (opTmps o.op.operands.toList) from rfl,look_keepE] at h
    split at h
    ·rename_i ht
     rw [env_eq t (hu t ht)] at h
     exact I.rel.env t v h
    ·simp at h
   ·have h':(if id∈e.reads then (selL st (Nat.testBit e.mask) es).obj id else none)=some ob:=by rw [← look_keepH]; exact h
    split at h'
    ·rename_i hid
     rw [obj_eq id hid] at h'
     exact I.rel.heap id ob h'
    ·simp at h'
   ·have h':(if id∈e.reads then (selL st (Nat.testBit e.mask) es).obj id else none)≠none:=by rw [← look_keepH]; exact h
    split at h'
    ·rename_i hid
     rw [obj_eq id hid] at h'
     exact I.rel.nf id h'
    ·exact absurd rfl h'
  obtain ⟨eff,h1,h2⟩:=H S hfresh hev
  obtain rfl:=Option.some.inj h1
  exact .inl (h2 _ _ (fun v w' g' U' hp=>after v w' g' U' hp))
def cnt (D:Nat→Bool):Nat→Nat
 | 0=>0
 | n+1=>cnt D n+(if D n=true then 0 else 1)
theorem cnt_set {D:Nat→Bool} {i:Nat} (hi:D i=false):∀ n,(i<n→cnt (fun j=>D j||j==i) n+1=cnt D n)∧(n≤i→cnt (fun j=>D j||j==i) n=cnt D n)
 | 0=>⟨fun h=>by omega,fun _=>rfl⟩
 | n+1=>by
  obtain ⟨h1,h2⟩:=cnt_set hi n
  refine ⟨fun h=>?_,fun h=>?_⟩
  ·by_cases hn:n=i
   ·subst hn
    have:=h2 (Nat.le_refl _)
    simp only [cnt,this,hi]
    simp
   ·have:=h1 (by omega)
    have hb:(n==i)=false:=by simpa using hn
    simp only [cnt,hb,Bool.or_false]
    omega
  ·have hb:(n==i)=false:=by simp; omega
   have:=h2 (by omega)
   simp only [cnt,this,hb,Bool.or_false]
theorem cnt_zero {D:Nat→Bool} : ∀ n,cnt D n=0→∀ i,i<n→D i=true
 | 0,_,i,h=>by omega
 | n+1,h0,i,h=>by
  simp only [cnt] at h0
  by_cases hn:i=n
  ·subst hn
   cases hD:D i with
   | true=>rfl
   | false=>rw [hD] at h0; simp at h0
  ·exact cnt_zero n (by omega) i (by omega)
theorem cnt_least {D:Nat→Bool} : ∀ n,cnt D n≠0→∃ i,i<n∧D i=false∧∀ j,j<i→D j=true
 | 0,h=>absurd rfl h
 | n+1,h=>by
  by_cases hn:cnt D n=0
  ·refine ⟨n,by omega,?_,cnt_zero n hn⟩
   simp only [cnt,hn] at h
   cases hD:D n with
   | false=>rfl
   | true=>rw [hD] at h; simp at h
  ·obtain ⟨i,h1,h2,h3⟩:=cnt_least n hn
   exact ⟨i,by omega,h2,h3⟩
theorem draw_any (H:OpOK P c) (hc:TysOK P c) (hG:Gl P F w0) {ops:Array Oper} (hN:∀ o∈ops.toList,∀ x,o.dst=some x→x<N) {es:List EffI} (D0:Drawn c ops.toList st ops.toList.length es) (hp:pairsOk es.length.pred es=true)
  {g0:Gh} {U0:Nat→Prop} {Q:Exit→Act→World→Prop}
  (hQ:∀ a' w' g' U' (D:Nat→Bool),(∀ i,i<es.length→D i=true)→Inv w0 F N g0 U0 st es D g' U' a' w'→Q .normal a' w') :
  ∀ (fuel:Nat) (listed:Array Bool) (a:Act) (w:World) (g:Gh) (U:Nat→Prop),listed.size=ops.size→cnt (fun i=>listed.getD i true) ops.size≤fuel→
   Inv w0 F N g0 U0 st es (fun i=>listed.getD i true) g U a w→wpAny P .any ops Q fuel listed a w:=by
 have hlen:=D0.len
 have hes:es.length=ops.size:=by rw [hlen]; simp
 intro fuel
 have ready:∀ (listed:Array Bool) (i:Nat),i∈Region.ready .any ops listed→i<ops.size∧listed.getD i true=false∧∀ o,ops[i]? = some o→∀ e∈o.after.toList,Region.binds .any e=true→listed.getD e.on false=true:=by
  intro listed i h
  unfold Region.ready at h
  obtain ⟨h1,h2⟩:=List.mem_filter.1 h
  simp only [Bool.and_eq_true,Bool.not_eq_true'] at h2
  refine ⟨by simpa using h1,h2.1,fun o ho e he hb=>?_⟩
  have h3:=h2.2
  rw [ho] at h3
  simp only [Option.map_some,Option.getD_some] at h3
  have:=(Array.all_eq_true'.1 h3) e (by simpa using he)
  simpa [hb] using this
 have least:∀ (listed:Array Bool),listed.size=ops.size→Region.ready .any ops listed=[]→∀ i,i<ops.size→listed.getD i true=true:=by
  intro listed hs hr
  refine cnt_zero ops.size ?_
  by_cases h0:cnt (fun i=>listed.getD i true) ops.size=0
  ·exact h0
  ·exfalso
   obtain ⟨i,h1,h2,h3⟩:=cnt_least _ h0
   have hin:i∈Region.ready .any ops listed:=by
    unfold Region.ready
    refine List.mem_filter.2 ⟨by simpa using h1,?_⟩
    obtain ⟨o,ho⟩:∃ o,ops[i]? = some o:=⟨_,Array.getElem?_eq_getElem h1⟩
    have ho':ops.toList[i]? = some o:=by rw [Array.getElem?_toList]; exact ho
    obtain ⟨e,he⟩:∃ e,atE es i=some e:=⟨_,List.getElem?_eq_getElem (by simpa [hes] using h1)⟩
    obtain ⟨fs,pre,o',-,-,ho2,hf⟩:=D0.at i e he
    rw [ho'] at ho2
    obtain rfl:=Option.some.inj ho2
    simp only [h2,Bool.not_false,Bool.true_and,ho,Option.map_some,Option.getD_some]
    refine Array.all_eq_true'.2 (fun ed hed=>?_)
    cases hb:Region.binds .any ed with
    | false=>rfl
    | true=>
     have hlt:=edgesB_ok hf.edges ed (by simpa using hed) hb
     have:=h3 ed.on hlt
     simp only [Bool.not_true,Bool.false_or]
     have hlt2:ed.on<listed.size:=by omega
     simpa [Array.getD_eq_getD_getElem?,Array.getElem?_eq_getElem hlt2] using this
   rw [hr] at hin
   simp at hin
 induction fuel with
 | zero=>
  intro listed a w g U hs hcn I
  have hall:=cnt_zero ops.size (Nat.le_zero.1 hcn)
  refine ⟨?_,hQ a w g U _ (fun i hi=>hall i (by omega)) I⟩
  cases hr:Region.ready .any ops listed with
  | nil=>rfl
  | cons i l=>
   obtain ⟨h1,h2,-⟩:=ready listed i (by rw [hr]; simp)
   rw [hall i h1] at h2
   simp at h2
 | succ fuel ih=>
  intro listed a w g U hs hcn I
  refine ⟨fun hr=>hQ a w g U _ (fun i hi=>least listed hs hr i (by omega)) I,fun i hi=>?_⟩
  obtain ⟨h1,h2,h3⟩:=ready listed i hi
  obtain ⟨o,ho⟩:∃ o,ops[i]? = some o:=⟨_,Array.getElem?_eq_getElem h1⟩
  unfold wpOp
  rw [ho]
  simp only
  have hset:∀ j,(listed.setIfInBounds i true).getD j true=(listed.getD j true||j==i):=by
   intro j
   simp only [Array.getD_eq_getD_getElem?,Array.getElem?_setIfInBounds]
   by_cases hji:i=j
   ·subst hji
    rw [if_pos rfl]
    simp [hs,h1]
   ·rw [if_neg hji]
    have:(j==i)=false:=by simp; exact fun e=>hji e.symm
    rw [this,Bool.or_false]
  have ho':ops.toList[i]? = some o:=by rw [Array.getElem?_toList]; exact ho
  refine step_draw H hc hG hN D0 hp ho' h2 (fun e he hb=>?_) I (fun a' w' g' U' I'=>ih _ a' w' g' U' (by simp [hs]) ?_ ?_)
  ·have hf:=h3 o ho e he hb
   simp only [Array.getD_eq_getD_getElem?] at hf ⊢
   cases hx:listed[e.on]? with
   | none=>rfl
   | some b=>rw [hx] at hf; exact hf
  ·have:=(cnt_set (D:=fun j=>listed.getD j true) h2 ops.size).1 h1
   have e:(fun j=>(listed.setIfInBounds i true).getD j true)=(fun j=>listed.getD j true||j==i):=funext hset
   rw [e]; omega
  ·have e:(fun j=>(listed.setIfInBounds i true).getD j true)=(fun j=>listed.getD j true||j==i):=funext hset
   rw [e]; exact I'
theorem ext_all {g0:Gh} {U0:Nat→Prop} (hsub:∀ s,U0 s→U s) (hhd:∀ id ver p,U0 (id / 1024)→U0 ver→g.hd id ver p=g0.hd id ver p) (h0:U0 0):∀ (es:List EffI),Ext g0 U0 st g U (applyAll st es)
 | []=>⟨hsub,Nat.le_refl _,⟨[],rfl,fun _ _=>.inr rfl⟩,⟨[],rfl,fun _ _=>.inr ⟨rfl,fun ver p h1 h2=>hhd _ _ _ h1 h2⟩⟩,fun i _ h=>hhd _ _ _ h h0⟩
 | e::es=>by
  obtain ⟨x1,x2,⟨l,x3,x4⟩,⟨m,x5,x6⟩,x7⟩:=ext_all hsub hhd h0 es
  refine ⟨hsub,Nat.le_succ_of_le x2,⟨(match e.dst with | some x=>[x] | none=>[])++l,?_,fun t ht=>?_⟩,⟨touched e++m,?_,fun id hid=>?_⟩,x7⟩
  ·show (match e.dst with | some d=>d::(applyAll st es).et | none=>(applyAll st es).et)=_
   rw [x3]
   cases e.dst<;>rfl
  ·simp only [List.mem_append,not_or] at ht
   show look ((applyAll st es).put e.dst e.eff).env t=none∨look ((applyAll st es).put e.dst e.eff).env t=_
   rw [put_look,if_neg]
   ·exact x4 t ht.2
   ·intro hd
    rw [hd] at ht
    simp at ht
  ·show touched e++(applyAll st es).ht=_
   rw [x5,List.append_assoc]
  ·simp only [List.mem_append,not_or] at hid
   show ((applyAll st es).put e.dst e.eff).obj id=none∨(((applyAll st es).put e.dst e.eff).obj id=_∧_)
   rw [put_obj,look_none hid.1]
   exact x6 id hid.2
theorem applyAll_nxt:∀ es:List EffI,(applyAll st es).nxt=st.nxt+es.length
 | []=>rfl
 | e::es=>by
  show (applyAll st es).nxt+1=_
  rw [applyAll_nxt es]
  simp only [List.length_cons]; omega
theorem regAny (hm:P.follows .mixedOrders=true) (H:OpOK P c) (hc:TysOK P c) {ρ:Type} {r:ρ} {w0:World} {F:Lab} {N:Nat} (id:Nat) (ops:Array Oper) (st:St) (a:Act) (w:World) (g:Gh) (U:Nat→Prop)
  (k:St→Option ρ) (Q:Exit→Act→World→Prop) (hN:∀ o∈ops.toList,∀ x,o.dst=some x→x<N) (hG:Gl P F w0) (R:Rel w0 F N g U st a w) (e:evAny c ops st k=some r)
  (hQ:∀ st' a' w' g' U',Rel w0 F N g' U' st' a' w'→Ext g U st g' U' st'→k st'=some r→Q .normal a' w'):(Code.region id ops true).wp P Q a w:=by
 have e:evDraw c ops.toList st ops.toList 0 [] (fun es=>match pairsOk (ops.toList.length-1) es with | true=>k (applyAll st es) | false=>none)=some r:=e
 obtain ⟨es,D0,e⟩:=evDraw_ok ops.toList 0 [] _ .nil rfl e
 have hlen:=D0.len
 split at e
 ·rename_i hp
  have hp:pairsOk es.length.pred es=true:=by rw [hlen]; exact hp
  have Rd:Rel w0 F N g U st a { w with drawn:=w.drawn+1 }:=R.drawn
  refine wp_region_any hm (draw_any (w0:=w0) (F:=F) (N:=N) H hc hG hN D0 hp (g0:=g) (U0:=U) (fun a' w' g' U' D hD I=>?_) ops.size _ a _ g U (by simp) ?_ ⟨?_,fun s h=>.inl (R.used s h),fun i f hf hi=>?_,fun s h=>h,fun _ _ _ _ _=>rfl⟩)
  ·have hall:=applyAll_sel (st0:=st) es hD
   refine hQ (applyAll st es) a' w' g' U' (I.rel.same (fun t=>by rw [hall]) (fun id=>by rw [hall]; rfl) (fun s hs=>?_)) (ext_all I.sub I.hd R.u0 es) e
   rw [applyAll_nxt]
   exact I.rel.used s hs
  ·have:∀ (D:Nat→Bool) n,cnt D n≤n:=by
    intro D n
    induction n with
    | zero=>exact Nat.le_refl _
    | succ n ih=>simp only [cnt]; split<;>omega
   exact this _ _
  ·have hnone:∀ es':List EffI,es'.length≤ops.size→selL st (fun i=>(Array.replicate ops.size false).getD i true) es'=st:=by
    intro es'
    induction es' with
    | nil=>intro _; rfl
    | cons f es' ih=>
     intro hl
     simp only [List.length_cons] at hl
     have hlt:es'.length<ops.size:=by omega
     have hb:(Array.replicate ops.size false).getD es'.length true=false:=by
      simp [Array.getD_eq_getD_getElem?,hlt]
     simp only [selL,hb]
     exact ih (by omega)
   have hst:=hnone es (by rw [hlen]; simp)
   refine Rd.same (fun t=>by rw [hst]) (fun id=>by rw [hst]; rfl) (fun s hs=>?_)
   have:=R.used s hs
   show s<st.nxt+es.length
   omega
  ·exfalso
   have hlt:i<ops.size:=by
    have:=(List.getElem?_eq_some_iff.1 hf).1
    simp only [List.length_reverse,hlen] at this
    simpa using this
   have hb:(Array.replicate ops.size false).getD i true=false:=by
    simp [Array.getD_eq_getD_getElem?,hlt]
   rw [hb] at hi; simp at hi
 ·simp at e
theorem regOK (hm:P.follows .mixedOrders=true) (H:OpOK P c) (hc:TysOK P c) (h0:mapT c=none:=by rfl):RegOK P c:=by
 intro ρ r w0 F N id ops draw st a w g U k Q hN hG R e hQ
 cases draw with
 | false=>exact wp_region_list (evOps_sound H hc hG hN ops.toList st a w g U k (fun o h=>h) R e hQ)
 | true=>
  have e:(match mapT c with | none=>evAny c ops st k | some T=>match mapForm ops.toList with | none=>evAny c ops st k | some mf=>match mapOK T ops.toList mf with | true=>evMap c mf ops.toList st k | false=>none)=some r:=e
  rw [h0] at e
  exact regAny hm H hc id ops st a w g U k Q hN hG R e hQ
end
end Go.Am
namespace Go.Am
open Go
def zero1:AVal→Value→Bool
 | .int k n,.int l m=>ikB k l&&(n==m)
 | .bool b,.bool c=>b==c
 | .str [],.string s=>s.data.toList.isEmpty
 | .err true,.nilIface=>true
 | .nil,.slice none 0 0=>true
 | .nilp,.pointer none=>true
 | .nilfn,.nilFunc=>true
 | .undef,_=>true
 | _,_=>false
def zeroB:List AVal→List Value→Bool
 | [],vs=>vs.isEmpty
 | a::as,vs=>match vs with
  | []=>false
  | v::vs=>zero1 a v&&zeroB as vs
theorem zero1_ok {g:Gh} {w:World} {U:Nat→Prop} {a:AVal} {v:Value} (h:zero1 a v=true):VRel g w U a v:=by
 unfold zero1 at h
 split at h
 ·simp only [Bool.and_eq_true,beq_iff_eq] at h
  obtain ⟨h1,rfl⟩:=h
  obtain rfl:=ikB_eq h1
  rfl
 ·simp only [beq_iff_eq] at h; subst h; rfl
 ·rename_i d
  show Value.string d = .string ⟨([]:List UInt8).toArray⟩
  obtain ⟨⟨l⟩⟩:=d
  cases l with
  | nil=>rfl
  | cons a l=>simp at h
 ·rfl
 ·rfl
 ·rfl
 ·rfl
 ·trivial
 ·simp at h
theorem zeroB_ok {g:Gh} {w:World} {U:Nat→Prop} : ∀ {as:List AVal} {vs:List Value},zeroB as vs=true→VRels g w U as vs
 | [],vs,h=>by
  cases vs with
  | nil=>rfl
  | cons v vs=>simp [zeroB] at h
 | a::as,vs,h=>by
  cases vs with
  | nil=>simp [zeroB] at h
  | cons v vs=>
   simp only [zeroB,Bool.and_eq_true] at h
   exact ⟨v,vs,rfl,zero1_ok h.1,zeroB_ok h.2⟩
def fieldEqB:List Field→List (Nat×Nat)→Bool
 | [],l=>l.isEmpty
 | f::fs,l=>match l with
  | []=>false
  | p::l=>Nat.beq f.offset p.1&&Nat.beq f.type p.2&&fieldEqB fs l
theorem fieldEqB_ok:∀ {fs:List Field} {l:List (Nat×Nat)},fieldEqB fs l=true→fs.map (fun f=>(f.offset,f.type))=l
 | [],l,h=>by cases l with | nil=>rfl | cons=>simp [fieldEqB] at h
 | f::fs,l,h=>by
  cases l with
  | nil=>simp [fieldEqB] at h
  | cons p l=>
   simp only [fieldEqB,Bool.and_eq_true] at h
   obtain ⟨⟨h1,h2⟩,h3⟩:=h
   rw [List.map_cons,fieldEqB_ok h3,Nat.eq_of_beq_eq_true h1,Nat.eq_of_beq_eq_true h2]
def descB (k:TK) (elem:Nat) (fields:List (Nat×Nat)) (d:TypeDesc):Bool:=match k,d with
 | .int k,.int l=>ikB k l
 | .str,.string=>true
 | .bool,.bool=>true
 | .iface,.interface _=>true
 | .slice,.slice e=>Nat.beq e elem
 | .struct,.struct fs=>fieldEqB fs.toList fields
 | .other,_=>true
 | _,_=>false
def zeroEqB:List AVal→List AVal→Bool
 | [],l=>l.isEmpty
 | a::as,l=>match l with
  | []=>false
  | b::bs=>(match a,b with
   | .int k n,.int l m=>ikB k l&&(n==m)
   | .bool b,.bool c=>b==c
   | .str [],.str []=>true
   | .err a,.err b=>a==b
   | .nil,.nil=>true
   | _,_=>false)&&zeroEqB as bs
theorem zeroEqB_ok:∀ {as bs:List AVal},zeroEqB as bs=true→as=bs
 | [],l,h=>by cases l with | nil=>rfl | cons=>simp [zeroEqB] at h
 | a::as,l,h=>by
  cases l with
  | nil=>simp [zeroEqB] at h
  | cons b bs=>
   simp only [zeroEqB,Bool.and_eq_true] at h
   rw [zeroEqB_ok h.2]
   have h:=h.1
   congr 1
   split at h
   ·simp only [Bool.and_eq_true,beq_iff_eq] at h
    rw [ikB_eq h.1,h.2]
   ·simp only [beq_iff_eq] at h; rw [h]
   ·rfl
   ·simp only [beq_iff_eq] at h; rw [h]
   ·rfl
   ·simp at h
def eqB (P:Program):Nat→List Field→Bool
 | _,[]=>true
 | n,f::fs=>Nat.beq f.offset n&&!(f.name== "_")&&(match P.underlying f.type with | some (.int _)=>true | _=>false)&&eqB P (n+1) fs
theorem eqB_ok {P:Program} : ∀ (fs:List Field) (m:Nat),eqB P m fs=true→∀ (n:Nat) (f:Field),fs[n]? = some f→f.offset=m+n∧f.name≠ "_" ∧∃ kk,P.underlying f.type=some (.int kk)
 | [],m,h,n,f,hf=>by simp at hf
 | g::fs,m,h,n,f,hf=>by
  simp only [eqB,Bool.and_eq_true] at h
  obtain ⟨⟨⟨h1,h2⟩,h3⟩,h4⟩:=h
  cases n with
  | zero=>
   simp only [List.getElem?_cons_zero,Option.some.injEq] at hf
   subst hf
   refine ⟨Nat.eq_of_beq_eq_true h1,by simpa using h2,?_⟩
   split at h3
   ·rename_i k hk; exact ⟨k,hk⟩
   ·simp at h3
  | succ n=>
   obtain ⟨a1,a2⟩:=eqB_ok fs (m+1) h4 n f (by simpa using hf)
   exact ⟨by omega,a2⟩
def tokB (P:Program) (t:Nat) (i:TInfo):Bool:=
 (match P.info? t with
  | some ti=>Nat.beq ti.size i.size&&Nat.beq ti.bytes i.bytes&&(match ti.zero with | some z=>Nat.beq z.cells.size i.size&&zeroB i.zero z.cells.toList | none=>false)
  | none=>false)&&
 (match i.ty with | some T=>zeroEqB i.zero (zcells T)&&Nat.beq i.size T.size | none=>true)&&
 (match P.underlying t with
  | some d=>descB i.kind i.elem i.fields d&&(i.agg==(match d with | .struct _=>true | .array _ _=>true | _=>false))
  | none=>false)&&
 (match i.eq with
  | false=>true
  | true=>!(P.stoodInHeld t)&&!(P.eqGuardType P.depth t)&&(match P.underlying t with | some (.struct fs)=>Nat.beq fs.size i.fields.length&&eqB P 0 fs.toList | _=>false))
theorem tokB_ok {P:Program} {t:Nat} {i:TInfo} (h:tokB P t i=true):TOK P t i:=by
 unfold tokB at h
 simp only [Bool.and_eq_true] at h
 obtain ⟨⟨⟨h1,h2⟩,h3⟩,h4⟩:=h
 refine ⟨?_,fun T hT=>?_,?_,fun he=>?_⟩
 ·split at h1
  ·rename_i ti hti
   simp only [Bool.and_eq_true] at h1
   obtain ⟨⟨a1,a2⟩,a3⟩:=h1
   split at a3
   ·rename_i z hz
    simp only [Bool.and_eq_true] at a3
    exact ⟨ti,hti,Nat.eq_of_beq_eq_true a1,Nat.eq_of_beq_eq_true a2,z,hz,Nat.eq_of_beq_eq_true a3.1,fun g w U=>zeroB_ok a3.2⟩
   ·simp at a3
  ·simp at h1
 ·rw [hT] at h2
  simp only [Bool.and_eq_true] at h2
  exact ⟨zeroEqB_ok h2.1,Nat.eq_of_beq_eq_true h2.2⟩
 ·split at h3
  ·rename_i d hd
   simp only [Bool.and_eq_true,beq_iff_eq] at h3
   refine ⟨d,hd,?_,h3.2⟩
   have h3:=h3.1
   revert h3
   cases i.kind<;>cases d<;>intro h3<;>simp only [descB] at h3<;>first
    | exact absurd h3 Bool.false_ne_true
    | trivial
    | (rw [ikB_eq h3])
    | (rw [Nat.eq_of_beq_eq_true h3])
    | exact ⟨_,rfl⟩
    | exact ⟨_,rfl,fieldEqB_ok h3⟩
  ·simp at h3
 ·rw [he] at h4
  simp only [Bool.and_eq_true,Bool.not_eq_true'] at h4
  obtain ⟨⟨a1,a2⟩,a3⟩:=h4
  split at a3
  ·rename_i fs hfs
   simp only [Bool.and_eq_true] at a3
   refine ⟨a1,a2,fs,hfs,Nat.eq_of_beq_eq_true a3.1,fun n f hf=>?_⟩
   obtain ⟨b1,b2⟩:=eqB_ok fs.toList 0 a3.2 n f hf
   exact ⟨by omega,b2⟩
  ·simp at a3
theorem tysOK {P:Program} {c:Cfg} (h:(c.tys.all fun p=>tokB P p.1 p.2)=true):TysOK P c:=by
 intro t i hl
 exact tokB_ok (List.all_eq_true.1 h _ (look_mem hl))
end Go.Am
namespace Go.Am
open Go Go.WideShapes Go.RowKit
def fieldsB (P:Program) (f:TypeId→Ty→Bool):List Field→Nat→Ty→Bool
 | [],_,_=>false
 | [x],off,T=>Nat.beq x.offset off&&f x.type T&&Nat.beq (P.cellsOf x.type) T.size
 | x::y::l,off,T=>match T with
  | .pair a b=>Nat.beq x.offset off&&f x.type a&&Nat.beq (P.cellsOf x.type) a.size&&fieldsB P f (y::l) (off+a.size) b
  | _=>false
def tyB (P:Program):Nat→TypeId→Ty→Bool
 | 0,_,_=>false
 | n+1,t,.int k=>match P.underlying t with | some (.int l)=>ikB k l | _=>false
 | n+1,t,.bool=>match P.underlying t with | some .bool=>true | _=>false
 | n+1,t,.str=>match P.underlying t with | some .string=>true | _=>false
 | n+1,t,.sl u=>match P.underlying t with | some (.slice e)=>tyB P n e u&&Nat.beq (P.cellsOf e) u.size | _=>false
 | n+1,t,.pair a b=>match P.underlying t with | some (.struct fs)=>fieldsB P (tyB P n) fs.toList 0 (.pair a b)&&Nat.beq (P.cellsOf t) (Ty.pair a b).size | _=>false
 | _+1,_,_=>false
def InR:(t:Ty)→t.T→Prop
 | .int k,n=>(Lit.int k n).wf=true
 | .bool,_=>True
 | .str,s=>(s:List UInt8).length≤maxLen
 | .err,_=>True
 | .pair a b,x=>InR a x.1∧InR b x.2
 | .sl t,xs=>let ys:List t.T:=xs; ys.length≤maxLen∧∀ x∈ys,InR t x
 | .osl _,_=>True
section
variable {H:Type} {enc:TypeId×Value→H} {P:Program} {w:World} {held:Bool} {g:Gh}
abbrev L0:Lab:=fun _ _=>none
theorem add_add' (a:Addr) (i k:Nat):a.add (i+k)=(a.add i).add k:=by
 unfold Addr.add
 by_cases hi:i=0
 ·subst hi; simp
 ·by_cases hk:k=0
  ·subst hk; simp [hi]
  ·simp [hi,hk,Nat.add_assoc]
theorem choose_list {α:Type} (n:Nat) (p:Nat→α→Prop) (h:∀ i,i<n→∃ x,p i x):∃ xs:List α,xs.length=n∧∀ i (hi:i<xs.length),p i xs[i]:=by
 induction n with
 | zero=>exact ⟨[],rfl,fun i hi=>by simp at hi⟩
 | succ n ih=>
  obtain ⟨xs,h1,h2⟩:=ih (fun i hi=>h i (by omega))
  obtain ⟨x,hx⟩:=h n (by omega)
  refine ⟨xs++[x],by simp [h1],fun i hi=>?_⟩
  by_cases hlt:i<xs.length
  ·rw [List.getElem_append_left hlt]; exact h2 i hlt
  ·have:i=n:=by simp at hi; omega
   subst this
   rw [List.getElem_append_right (by omega)]
   simpa [h1] using hx
theorem fields_ok {f:TypeId→Ty→Bool} {n:Nat} {cs:List Value} (hf:∀ t T cs' x,f t T=true→DataW.trod enc P w 0 (fun _=>true) held n t cs'=some x→
   ∃ d:T.T,cs'.length=T.size∧(∀ q i j,OwS g L0 w false none1 T q i j d (fun k=>cs'[k]?))∧InR T d) :
  ∀ (fs:List Field) (off:Nat) (T:Ty) (xs:List (DataW H×List MemPlace)),fieldsB P f fs off T=true→off+T.size≤cs.length→
   (∀ (i:Nat) (fd:Field),fs[i]? = some fd→∃ x,DataW.trod enc P w 0 (fun _=>true) held n fd.type ((cs.drop fd.offset).take (P.cellsOf fd.type))=some x)→
   ∃ d:T.T,(∀ q i j,OwS g L0 w false none1 T q i j d (fun k=>cs[off+k]?))∧InR T d
 | [],off,T,xs,h,hl,hx=>by simp [fieldsB] at h
 | [fd],off,T,xs,h,hl,hx=>by
  simp only [fieldsB,Bool.and_eq_true] at h
  obtain ⟨⟨h1,h2⟩,h3⟩:=h
  obtain ⟨x,hx⟩:=hx 0 fd rfl
  obtain ⟨d,a1,a2,a3⟩:=hf _ _ _ _ h2 hx
  refine ⟨d,fun q i j=>OwS_cells T q i j d _ _ (fun k hk=>?_) (a2 q i j),a3⟩
  rw [List.getElem?_take,Nat.eq_of_beq_eq_true h3,if_pos hk,List.getElem?_drop,Nat.eq_of_beq_eq_true h1]
 | fd::fe::fs,off,T,xs,h,hl,hx=>by
  cases T with
  | pair a b=>
   simp only [fieldsB,Bool.and_eq_true] at h
   obtain ⟨⟨⟨h1,h2⟩,h3⟩,h4⟩:=h
   simp only [Ty.size] at hl
   obtain ⟨x,hx0⟩:=hx 0 fd rfl
   obtain ⟨d,a1,a2,a3⟩:=hf _ _ _ _ h2 hx0
   obtain ⟨d2,b1,b2⟩:=fields_ok hf (fe::fs) (off+a.size) b [] h4 (by omega) (fun i fd' hi=>hx (i+1) fd' (by simpa using hi))
   refine ⟨(d,d2),fun q i j=>⟨OwS_cells a q i j d _ _ (fun k hk=>?_) (a2 q i j),OwS_cells b q i _ d2 _ _ (fun k hk=>?_) (b1 q i (j+a.size))⟩,a3,b2⟩
   ·rw [List.getElem?_take,Nat.eq_of_beq_eq_true h3,if_pos hk,List.getElem?_drop,Nat.eq_of_beq_eq_true h1]
   ·rw [Nat.add_assoc]
  | _=>simp [fieldsB] at h
theorem read_arg:∀ (m:Nat) (t:TypeId) (T:Ty),tyB P m t T=true→∀ (n:Nat) (cs:List Value) (x:DataW H×List MemPlace),DataW.trod enc P w 0 (fun _=>true) held n t cs=some x→
  ∃ d:T.T,cs.length=T.size∧(∀ q i j,OwS g L0 w false none1 T q i j d (fun k=>cs[k]?))∧InR T d
 | 0,t,T,h=>by simp [tyB] at h
 | m+1,t,.int k,h=>by
  simp only [tyB] at h
  split at h
  ·rename_i l hu
   obtain rfl:=ikB_eq h
   intro n cs x hx
   obtain ⟨v,rfl,rfl,hw⟩:=DataW.trod_int hu hx
   exact ⟨v,rfl,fun _ _ _=>rfl,hw⟩
  ·simp at h
 | m+1,t,.bool,h=>by
  simp only [tyB] at h
  split at h
  ·rename_i hu
   intro n cs x hx
   obtain ⟨v,rfl,rfl⟩:=DataW.trod_bool hu hx
   exact ⟨v,rfl,fun _ _ _=>rfl,trivial⟩
  ·simp at h
 | m+1,t,.str,h=>by
  simp only [tyB] at h
  split at h
  ·rename_i hu
   intro n cs x hx
   obtain ⟨v,rfl,rfl,hw⟩:=DataW.trod_string hu hx
   refine ⟨v.data.toList,rfl,fun _ _ _=>?_,by simpa [InR] using hw⟩
   obtain ⟨⟨l⟩⟩:=v
   rfl
  ·simp at h
 | m+1,t,.sl u,h=>by
  simp only [tyB] at h
  split at h
  ·rename_i e hu
   simp only [Bool.and_eq_true] at h
   obtain ⟨h1,h2⟩:=h
   have h2:=Nat.eq_of_beq_eq_true h2
   intro n cs x hx
   rcases DataW.trod_slice hu hx with ⟨rfl,-⟩ | ⟨a,len,cap,elems,rest,n',rfl,rfl,rfl,hb,hl,hm,hlen,hel,-⟩
   ·exact ⟨([]:List u.T),rfl,fun _ _ _=>⟨_,rfl,none,0,0,rfl,rfl,Nat.le_refl _,fun _=>rfl,fun h=>absurd rfl h⟩,Nat.zero_le _,fun x hx=>absurd hx (by simp)⟩
   ·have each:∀ i,i<len→∃ d:u.T,(∀ k,k<u.size→∃ v,w.cell? (a.add (i*u.size+k))=some v)∧(∀ q i' j,OwS g L0 w false none1 u q i' j d (fun k=>w.cell? (a.add (i*u.size+k))))∧InR u d:=by
     intro i hi
     have hx:=hel i hi
     have hlt:i<elems.length:=by omega
     rw [List.getElem?_eq_getElem hlt,h2] at hx
     obtain ⟨cs',hc,ht⟩:=Option.bind_eq_some_iff.1 hx
     obtain ⟨-,c1,c2⟩:=World.cells?_some hc
     obtain ⟨d,d1,d2,d3⟩:=read_arg m e u h1 n' cs' _ ht
     have hcell:∀ k,k<u.size→w.cell? (a.add (i*u.size+k))=cs'[k]?:=fun k hk=>by
      rw [← c2 k hk]
      congr 1
      exact add_add' a _ _
     refine ⟨d,fun k hk=>?_,fun q i' j=>OwS_cells u q i' j d _ _ (fun k hk=>hcell k hk) (d2 q i' j),d3⟩
     rw [hcell k hk]
     exact ⟨_,List.getElem?_eq_getElem (by omega)⟩
    obtain ⟨ds,e1,e2⟩:=choose_list len _ each
    refine ⟨ds,rfl,fun _ _ _=>⟨_,rfl,some a,len,cap,rfl,e1.symm,hl,by simp,fun hne=>?_⟩,by show ds.length≤maxLen; omega,fun x hx=>?_⟩
    ·have hpos:0<ds.length:=List.length_pos_iff.2 hne
     have hspot:a.spot=none:=by
      obtain ⟨v,hv⟩:=(e2 0 hpos).1 0 u.size_pos
      unfold World.cell? at hv
      split at hv
      ·split at hv
       ·simp at hv
       ·rename_i hs; simpa [Addr.add] using hs
      ·simp at hv
     have ha:∀ k,a.add k=ad a.block (a.off+k):=fun k=>by
      obtain ⟨b,o,s⟩:=a
      simp only at hspot
      subst hspot
      exact Addr.add_lit _ _ _
     have ha0:a=ad a.block a.off:=by
      obtain ⟨b,o,s⟩:=a
      simp only at hspot
      subst hspot
      rfl
     refine ⟨a.block,a.off,by rw [← ha0],fun i hi=>?_⟩
     refine OwS_sh (g:=g) (L:=L0) (σ:=none1) u [] 0 0 _ a.block (a.off+i*u.size) (fun _ _=>rfl) ?_
     refine OwS_cells u [] 0 0 _ _ _ (fun k hk=>?_) ((e2 i hi).2.1 [] 0 0)
     rw [ha,Nat.add_assoc]
    ·obtain ⟨i,hi,rfl⟩:=List.getElem_of_mem hx
     exact (e2 i hi).2.2
  ·simp at h
 | m+1,t,.pair a b,h=>by
  simp only [tyB] at h
  split at h
  ·rename_i fs hu
   simp only [Bool.and_eq_true] at h
   obtain ⟨h1,h2⟩:=h
   intro n cs x hx
   obtain ⟨xs,n',rfl,rfl,hl,hlen,hel⟩:=DataW.trod_struct hu hx
   have hl2:cs.length=(Ty.pair a b).size:=by rw [hl,Nat.eq_of_beq_eq_true h2]
   obtain ⟨d,d1,d2⟩:=fields_ok (g:=g) (cs:=cs) (fun t T cs' x hb hx=>read_arg m t T hb n' cs' x hx) fs.toList 0 (.pair a b) [] h1 (by omega) (fun i fd hi=>by
    have hi':fs[i]? = some fd:=by simpa using hi
    have:=hel i fd hi'
    have hlt:i<xs.length:=by
     have:=(Array.getElem?_eq_some_iff.1 hi').1
     omega
    exact ⟨xs[i],by rw [this,List.getElem?_eq_getElem hlt]⟩)
   exact ⟨d,hl2,fun q i j=>OwS_cells (.pair a b) q i j d _ _ (fun k hk=>by rw [Nat.zero_add]) (d1 q i j),d2⟩
  ·simp at h
 | m+1,t,.err,h=>by simp [tyB] at h
 | m+1,t,.osl u,h=>by simp [tyB] at h
theorem read_val {m : Nat} {t : TypeId} {T : Ty} (hT : tyB P m t T = true) {v : Value} {d : DataW H} {ps : List MemPlace} {W0 : World} {base : Nat} (hok : Value.okWide P W0 .any base t v) (h : DataW.Trod enc P w 0 (fun _ => true) held t v d ps) (U : Nat → Prop) :
    ∃ x : T.T, VRel ⟨fun _ _ _ => nilHd, L0⟩ w U (shut T (flat shH T x 0)) v ∧ InR T x := by
  obtain ⟨n, h⟩ := h
  obtain ⟨x, h1, h2, h3⟩ := read_arg (g := ⟨fun _ _ _ => nilHd, L0⟩) m t T hT n _ _ h
  refine ⟨x, VRel_shut (f := fun k => v.cells.toList[k]?) ?_ (flat_len _ _ _ _) (flat_rd (fun _ _ h => h) T [] 0 0 0 x _ (h2 [] 0 0)), h3⟩
  cases T with
  | pair a b =>
    have hsz : 2 ≤ (Ty.pair a b).size := by
      have := a.size_pos; have := b.size_pos; simp [Ty.size]; omega
    cases v with
    | agg cs =>
      exact ⟨cs.toList, by simp, h1, rfl⟩
    | _ => simp only [Value.cells, List.size_toArray, Array.toList, List.length_singleton] at h1; omega
  | _ =>
    have hna : ∀ cs, v ≠ .agg cs := by
      cases m with
      | zero => simp [tyB] at hT
      | succ m =>
        simp only [tyB] at hT
        first
          | exact absurd hT Bool.false_ne_true
          | (split at hT
             · rename_i hu
               first
                 | (obtain ⟨_, rfl⟩ := okWide_int hu hok; intro cs h; simp at h; done)
                 | (obtain ⟨_, rfl⟩ := okWide_bool hu hok; intro cs h; simp at h; done)
                 | (obtain ⟨_, rfl⟩ := okWide_string hu hok; intro cs h; simp at h; done)
                 | (obtain ⟨_, _, _, rfl⟩ := okWide_slice hu hok; intro cs h; simp at h; done)
             · simp at hT)
    cases v with
    | agg cs => exact absurd rfl (hna cs)
    | _ => rfl
def CallsL (P:Program):List (Nat×Mng)→Prop
 | []=>True
 | (k,m)::l=>(Sound P (fidOf k) m∧GoF P (fidOf k))∧CallsL P l
theorem CallsOK.of {c:Cfg} (h:CallsL P c.calls) (hp:PtsAll P c:=by exact Go.Am.ptsAll_none rfl):CallsOK P c:=by
 refine ⟨?_,hp⟩
 intro f m hm
 revert h hm
 generalize c.calls=l
 intro h hm
 induction l with
 | nil=>simp at hm
 | cons p l ih=>
  rcases List.mem_cons.1 hm with e | e
  ·rw [← e] at h; exact h.1
  ·exact ih h.2 e
def LCallsL (P:Program):List (Nat×LMng)→Prop
 | []=>True
 | p::l=>(LSound P p.1 p.2∧GoF P p.1)∧LCallsL P l
theorem LCallsOK.of {c:Cfg} (h:LCallsL P c.lcalls):LCallsOK P c:=by
 intro f m hm
 revert h hm
 generalize c.lcalls=l
 intro h hm
 induction l with
 | nil=>simp at hm
 | cons p l ih=>
  rcases List.mem_cons.1 hm with e | e
  ·rw [← e] at h; exact h.1
  ·exact ih h.2 e
def InRs:(ps:List PK)→PTs ps→Prop
 | [],_=>True
 | .val t::ps,x=>InR t x.1∧InRs ps x.2
 | _::_,_=>False
def psB (P:Program):List TypeId→List PK→Bool
 | [],[]=>true
 | t::ts,.val T::ps=>tyB P 20 t T&&psB P ts ps
 | _,_=>false
theorem read_all:∀ (ts:List TypeId) (ps:List PK) (vs:List Value) (ds:List (DataW H)) (p:List MemPlace) (i:Nat),psB P ts ps=true→DataW.TrodAll enc P w 0 (fun _=>true) held ts vs ds p→
  (∀ (j:Nat) t v,ts[j]? = some t→vs[j]? = some v→∃ W0 base,Value.okWide P W0 .any base t v)→
  ∃ x:PTs ps,VRels ⟨fun _ _ _=>nilHd,L0⟩ w U20 ((entry i ps x).1.map (·.2)) vs∧InRs ps x∧(entry i ps x).2=[]
 | [],ps,vs,ds,p,i,hb,h,hok=>by
  cases ps with
  | cons q ps=>simp [psB] at hb
  | nil=>
   cases vs with
   | nil=>exact ⟨(),rfl,trivial,rfl⟩
   | cons v vs=>exact absurd h (by cases ds<;>simp [DataW.TrodAll])
 | t::ts,ps,vs,ds,p,i,hb,h,hok=>by
  cases ps with
  | nil=>simp [psB] at hb
  | cons q ps=>
   cases q with
   | val T=>
    simp only [psB,Bool.and_eq_true] at hb
    cases vs with
    | nil=>exact absurd h (by cases ds<;>simp [DataW.TrodAll])
    | cons v vs=>
     cases ds with
     | nil=>exact absurd h (by simp [DataW.TrodAll])
     | cons d ds=>
      obtain ⟨p1,q1,h1,h2,-⟩:=h
      obtain ⟨W0,base,hok0⟩:=hok 0 t v rfl rfl
      obtain ⟨x,x1,x2⟩:=read_val hb.1 hok0 h1 U20
      obtain ⟨y,y1,y2,y3⟩:=read_all ts ps vs ds q1 (i+1) hb.2 h2 (fun j t v a b=>hok (j+1) t v (by simpa using a) (by simpa using b))
      exact ⟨(x,y),⟨v,vs,rfl,x1,y1⟩,⟨x2,y2⟩,y3⟩
   | _=>simp [psB] at hb
theorem law_calls {f:FuncId} {ps:List PK} {F:Nat→PTs ps→Option (OTs (RK.tys [RK.val .bool]++PK.outs ps))} (hS:∀ n,Sound P f ⟨ps,[.val .bool],F n⟩) (hok:mOk ps [.val .bool]=true)
  (hlaw:∀ x,InRs ps x→∃ n y,F n x=some y∧(resVals 20 0 [RK.val .bool] (PK.outs ps) y).1=[.bool true])
  {ts:List TypeId} {vs:List Value} {ds:List (DataW H)} {p:List MemPlace} (hT:psB P ts ps=true) (h:DataW.TrodAll enc P w 0 (fun _=>true) held ts vs ds p)
  (hw:∀ (j:Nat) t v,ts[j]? = some t→vs[j]? = some v→∃ W0 base,Value.okWide P W0 .any base t v) (hG:Gl P L0 w) :
  Calls P f vs.toArray w fun e w'=>e = .returned (.bool true)∧Below w.heap.size w w':=by
 obtain ⟨x,x1,x2,x3⟩:=read_all ts ps vs ds p 0 hT h hw
 obtain ⟨n,y,y1,y2⟩:=hlaw x x2
 refine Calls.mono (hS n x y y1 hok 20 (Nat.le_refl _) ⟨fun _ _ _=>nilHd,L0⟩ w vs ⟨x1,fun id o h=>?_,fun b o q h=>by simp [L0] at h⟩ hG) (fun e w' h=>?_)
 ·have h:look (entry 0 ps x).2 id=some (some o):=h
  rw [x3] at h
  simp [look] at h
 ·obtain ⟨v,g',rfl,E⟩:=h
  have hv:=E.val
  rw [y2] at hv
  obtain rfl:v = .bool true:=hv
  exact ⟨rfl,E.fr.os,E.fr.tape,E.fr.output,E.fr.size,fun k hk=>E.fr.block k hk (fun o ⟨id,p,h,_⟩=>by simp [L0] at h)⟩
end
end Go.Am
namespace Go.Am
open Go
theorem chk_true {ρ:Type} {p:Prop} [Decidable p] {x:Option ρ} (h:p):chk p x=x:=by simp [chk,h]
theorem br_true {ρ:Type} {x y:Option ρ} : br true x y=x:=rfl
theorem br_false {ρ:Type} {x y:Option ρ} : br false x y=y:=rfl
theorem br_if {ρ:Type} {b:Bool} {x y:Option ρ} : br b x y=if b=true then x else y:=by cases b<;>rfl
theorem iter_inv {α ρ:Type} {F:(α→Option ρ)→α→Option ρ} (I:α→Prop) (μ:α→Nat) (Q:α→Option ρ→Prop)
  (step:∀ ih x,I x→(∀ y,I y→μ y<μ x→Q y (ih y))→Q x (F ih x)):∀ n x,I x→μ x<n→Q x (iter n F x)
 | 0,x,_,h=>absurd h (Nat.not_lt_zero _)
 | n+1,x,hx,h=>step (iter n F) x hx (fun y hy hm=>iter_inv I μ Q step n y hy (by omega))
theorem iter_up {σ ρ:Type} {F:(Int×σ→Option ρ)→Int×σ→Option ρ} (len:Nat) (P:Nat→σ→Option ρ→Prop)
  (hE:∀ ih s,P len s (F ih ((len:Int),s))) (hS:∀ ih (i:Nat) s,i<len→(∀ s',P (i+1) s' (ih (((i+1:Nat):Int),s')))→P i s (F ih ((i:Int),s))) :
  ∀ n (i:Nat) s,i≤len→len<n+i→P i s (iter n F ((i:Int),s))
 | 0,i,s,hi,h=>by omega
 | n+1,i,s,hi,h=>by
  show P i s (F (iter n F) ((i:Int),s))
  rcases Nat.lt_or_eq_of_le hi with hlt | he
  ·exact hS _ i s hlt (fun s'=>iter_up len P hE hS n (i+1) s' (by omega) (by omega))
  ·subst he; exact hE _ s
theorem w64_id {n:Int} (h1 : -9223372036854775808≤n) (h2:n<9223372036854775808):w64 n=n:=by
 unfold w64; omega
theorem w64_succ {i:Nat} (h:i<4611686018427387904):w64 ((i:Int)+1)=((i+1:Nat):Int):=by
 rw [w64_id]<;>omega
theorem getD_lt {α:Type} {xs:List α} {i:Nat} (h:i<xs.length) (z:α):xs.getD i z=xs[i]:=by simp [h]
theorem all_loop {α:Type} (a:List α) (ok:α→Bool) {F:(Int×Unit→Option (Bool×Unit))→Int×Unit→Option (Bool×Unit)}
  (hF:∀ ih (i:Nat) (hi:i<a.length),F ih ((i:Int),())=if ok a[i]=true then ih (((i+1:Nat):Int),()) else some (false,()))
  (hE:∀ ih,F ih ((a.length:Int),())=some (true,())) {n:Nat} (hn:a.length<n):iter n F (0,())=some (a.all ok,()):=by
 have:=iter_up (F:=F) a.length (fun i _ o=>o=some ((a.drop i).all ok,())) (fun ih s=>by rw [hE]; simp) (fun ih i s hi h=>by
  rw [hF ih i hi]
  have hd:a.drop i=a[i]::a.drop (i+1):=List.drop_eq_getElem_cons hi
  rw [hd,List.all_cons]
  split
  ·rename_i hk; rw [h ()]; simp [hk]
  ·rename_i hk; simp [hk]) n 0 () (Nat.zero_le _) (by omega)
 simpa using this
theorem index_loop {α:Type} (a:List α) (p:α→Bool) {F:(Int×Unit→Option (Int×Unit))→Int×Unit→Option (Int×Unit)}
  (hF:∀ ih (i:Nat) (hi:i<a.length),F ih ((i:Int),())=if p a[i]=true then some ((i:Int),()) else ih (((i+1:Nat):Int),()))
  (hE:∀ ih,F ih ((a.length:Int),())=some (-1,())) {n:Nat} (hn:a.length<n):∃ r:Int,iter n F (0,())=some (r,())∧decide (0≤r)=a.any p:=by
 have:=iter_up (F:=F) a.length (fun i _ o=>∃ r:Int,o=some (r,())∧decide (0≤r)=(a.drop i).any p) (fun ih s=>by rw [hE]; exact ⟨-1,rfl,by simp⟩) (fun ih i s hi h=>by
  rw [hF ih i hi]
  have hd:a.drop i=a[i]::a.drop (i+1):=List.drop_eq_getElem_cons hi
  rw [hd,List.any_cons]
  split
  ·rename_i hk; exact ⟨i,rfl,by simp [hk]⟩
  ·rename_i hk
   obtain ⟨r,h1,h2⟩:=h ()
   exact ⟨r,h1,by rw [h2]; simp [hk]⟩) n 0 () (Nat.zero_le _) (by omega)
 simpa using this
end Go.Am
namespace Go.Am
open Go
theorem iter_upG {α σ ρ:Type} {F:(α→Option ρ)→α→Option ρ} (st:Nat→σ→α) (len:Nat) (P:Nat→σ→Option ρ→Prop)
  (hE:∀ ih s,P len s (F ih (st len s))) (hS:∀ ih (i:Nat) s,i<len→(∀ s',P (i+1) s' (ih (st (i+1) s')))→P i s (F ih (st i s))) :
  ∀ n (i:Nat) s,i≤len→len<n+i→P i s (iter n F (st i s))
 | 0,i,s,hi,h=>by omega
 | n+1,i,s,hi,h=>by
  show P i s (F (iter n F) (st i s))
  rcases Nat.lt_or_eq_of_le hi with hlt | he
  ·exact hS _ i s hlt (fun s'=>iter_upG st len P hE hS n (i+1) s' (by omega) (by omega))
  ·subst he; exact hE _ s
theorem from_succ {ok:Nat→Bool} {i len:Nat} (hok:ok i=true):(∀ j,i+1≤j→j<len→ok j=true)↔(∀ j,i≤j→j<len→ok j=true):=by
 constructor
 ·intro hh j a b
  rcases Nat.eq_or_lt_of_le a with e | e
  ·subst e; exact hok
  ·exact hh j e b
 ·intro hh j a b; exact hh j (by omega) b
theorem chk_loop {ρ:Type} (len:Nat) (ok:Nat→Bool) (bad good:Option ρ) {F:(Int×Unit→Option ρ)→Int×Unit→Option ρ}
  (hF:∀ ih (i:Nat) (hi:i<len),F ih ((i:Int),())=if ok i=true then ih (((i+1:Nat):Int),()) else bad)
  (hE:∀ ih,F ih ((len:Int),())=good) {n:Nat} (hn:len<n) :
  ((∀ i,i<len→ok i=true)→iter n F (0,())=good)∧(¬ (∀ i,i<len→ok i=true)→iter n F (0,())=bad):=by
 have:=iter_upG (F:=F) (fun i (s:Unit)=>((i:Int),())) len
  (fun i s o=>((∀ j,i≤j→j<len→ok j=true)→o=good)∧(¬ (∀ j,i≤j→j<len→ok j=true)→o=bad))
  (fun ih s=>by rw [hE ih]; exact ⟨fun _=>rfl,fun hn=>absurd (fun j h1 h2=>by omega) hn⟩)
  (fun ih i s hi h=>by
   rw [hF ih i hi]
   by_cases hok:ok i=true
   ·rw [if_pos hok]
    have h2:=h ()
    rw [from_succ hok] at h2
    exact h2
   ·rw [if_neg hok]
    exact ⟨fun hh=>absurd (hh i (Nat.le_refl _) hi) hok,fun _=>rfl⟩)
  n 0 () (Nat.zero_le _) (by omega)
 simpa using this
end Go.Am
namespace Go.Am
open Go
theorem cut_inr {α ρ:Type} (y:α) (f:α→Option ρ):cut (some (.inr y)) f=f y:=rfl
theorem cut_inl {α ρ:Type} (r:ρ) (f:α→Option ρ):cut (some (.inl r)) f=some r:=rfl
def W {α:Type} (m:Option α) (Q:α→Prop):Prop:=∃ x,m=some x∧Q x
section
variable {α β ρ:Type} {Q:α→Prop}
theorem W_some {x:α} : W (some x) Q↔Q x:=⟨fun ⟨y,e,h⟩=>by cases e; exact h,fun h=>⟨x,rfl,h⟩⟩
theorem W_bind {m:Option β} {f:β→Option α} : W (m.bind f) Q↔W m (fun x=>W (f x) Q):=by
 cases m with
 | none=>simp [W]
 | some x=>simp [W]
theorem W_br {b:Bool} {x y:Option α} : W (br b x y) Q↔((b=true→W x Q)∧(b=false→W y Q)):=by cases b<;>simp [br]
theorem W_brd {p:Prop} [Decidable p] {x y:Option α} : W (br (decide p) x y) Q↔((p→W x Q)∧(¬ p→W y Q)):=by rw [W_br]; simp
theorem W_brn {b:Bool} {x y:Option α} : W (br (!b) x y) Q↔((b=false→W x Q)∧(b=true→W y Q)):=by cases b<;>simp [br]
theorem W_cut {m:Option (Sum α β)} {f:β→Option α} : W (cut m f) Q↔W m (fun s=>match s with | .inl r=>Q r | .inr y=>W (f y) Q):=by
 cases m with
 | none=>simp [W,cut]
 | some s=>cases s<;>simp [W,cut]
theorem W_and {m:Option α} {P:α→Prop} (h:W m P) (h':∀ x,P x→Q x):W m Q:=let ⟨x,e,p⟩:=h; ⟨x,e,h' x p⟩
theorem W_eq {m:Option α} {v:α} : W m (fun x=>x=v)↔m=some v:=⟨fun ⟨x,e,h⟩=>by rw [e,h],fun h=>⟨v,h,rfl⟩⟩
theorem W_iter {γ:Type} {F:(γ→Option α)→γ→Option α} (I:γ→Prop) (μ:γ→Nat)
  (step:∀ ih x,I x→(∀ y,I y→μ y<μ x→W (ih y) Q)→W (F ih x) Q) {n:Nat} {x:γ} (hx:I x) (hn:μ x<n):W (iter n F x) Q:=
 iter_inv I μ (fun _ o=>W o Q) step n x hx hn
theorem W_up {γ σ:Type} {F:(γ→Option α)→γ→Option α} (st:Nat→σ→γ) (len:Nat) (I:Nat→σ→Prop) {n:Nat} {x:γ} {s0:σ} (hx:x=st 0 s0) (h0:I 0 s0) (hn:len<n)
  (hE:∀ ih s,I len s→W (F ih (st len s)) Q) (hS:∀ ih (i:Nat) s,i<len→I i s→(∀ s',I (i+1) s'→W (ih (st (i+1) s')) Q)→W (F ih (st i s)) Q):W (iter n F x) Q:=by
 subst hx
 exact iter_upG (F:=F) st len (fun i s o=>I i s→W o Q) (fun ih s h=>hE ih s h) (fun ih i s hi hh h=>hS ih i s hi h (fun s' h'=>hh s' h')) n 0 s0 (Nat.zero_le _) (by omega) h0
theorem W_dec {m:Option (Bool×Unit)} {P:Prop} [Decidable P] (h:W m (fun r=>(r.1=true↔P))):m=some (decide P,()):=by
 obtain ⟨⟨b,⟨⟩⟩,e,h⟩:=h
 rw [e]
 congr 2
 by_cases hp:P
 ·simp [hp] at h ⊢; exact h
 ·simp [hp] at h ⊢; exact h
end
theorem len_le_of_sub {α:Type} [BEq α] [LawfulBEq α]:∀ {l m:List α},l.Nodup→(∀ x∈l,x∈m)→l.length≤m.length
 | [],m,_,_=>Nat.zero_le _
 | a::l,m,h,hs=>by
  obtain ⟨h1,h2⟩:=List.nodup_cons.1 h
  have ha:a∈m:=hs a (by simp)
  have:=len_le_of_sub (m:=m.erase a) h2 (fun x hx=>by
   rw [List.mem_erase_of_ne (by intro e; subst e; exact h1 hx)]
   exact hs x (by simp [hx]))
  rw [List.length_erase_of_mem ha] at this
  have:0<m.length:=List.length_pos_of_mem ha
  simp only [List.length_cons]; omega
theorem perm_of_sub {α:Type} [BEq α] [LawfulBEq α]:∀ {l m:List α},l.Nodup→(∀ x∈l,x∈m)→m.length≤l.length→l.Perm m
 | [],m,_,_,h=>by
  have:m=[]:=List.eq_nil_of_length_eq_zero (by simpa using h)
  subst this; exact .refl _
 | a::l,m,h,hs,hl=>by
  obtain ⟨h1,h2⟩:=List.nodup_cons.1 h
  have ha:a∈m:=hs a (by simp)
  have:=perm_of_sub (m:=m.erase a) h2 (fun x hx=>by
   rw [List.mem_erase_of_ne (by intro e; subst e; exact h1 hx)]
   exact hs x (by simp [hx])) (by rw [List.length_erase_of_mem ha]; simp at hl; omega)
  exact (this.cons a).trans (List.perm_cons_erase ha).symm
theorem count_of_nodup {α:Type} [BEq α] [LawfulBEq α]:∀ {l:List α},l.Nodup→∀ {a:α},a∈l→l.count a=1
 | [],_,a,h=>by simp at h
 | b::l,h,a,ha=>by
  obtain ⟨h1,h2⟩:=List.nodup_cons.1 h
  by_cases hab:b=a
  ·subst hab
   rw [List.count_cons_self,List.count_eq_zero.2 h1]
  ·rw [List.count_cons_of_ne hab]
   rcases List.mem_cons.1 ha with e | e
   ·exact absurd e.symm hab
   ·exact count_of_nodup h2 e
theorem fills {α:Type} [BEq α] [LawfulBEq α] {l m:List α} (hm:m.Nodup) (hs:∀ x∈l,x∈m):(∀ q∈m,l.count q=1)↔(l.Nodup∧m.length≤l.length):=by
 constructor
 ·intro h
  have hp:l.Perm m:=List.perm_iff_count.2 (fun a=>by
   by_cases ha:a∈m
   ·rw [h a ha,count_of_nodup hm ha]
   ·rw [List.count_eq_zero.2 ha,List.count_eq_zero.2 (fun hl=>ha (hs a hl))])
  exact ⟨hp.nodup_iff.2 hm,by rw [hp.length_eq]; exact Nat.le_refl _⟩
 ·rintro ⟨h1,h2⟩ q hq
  exact count_of_nodup h1 ((perm_of_sub h1 hs h2).mem_iff.2 hq)
end Go.Am
namespace Go.Am
open Go
section
variable {α β ρ:Type} {Q:α→Prop}
theorem W_cut_of {m:Option (Sum α β)} {f:β→Option α} (y:β) (h:m=some (.inr y)) (h':W (f y) Q):W (cut m f) Q:=by subst h; exact h'
theorem W_cut_ret {m:Option (Sum α β)} {f:β→Option α} (r:α) (h:m=some (.inl r)) (h':Q r):W (cut m f) Q:=by subst h; exact ⟨r,rfl,h'⟩
theorem br_no {p:Prop} [Decidable p] (h:¬ p) {x y:Option α} : br (decide p) x y=y:=by simp [h,br]
theorem br_yes {p:Prop} [Decidable p] (h:p) {x y:Option α} : br (decide p) x y=x:=by simp [h,br]
theorem br_nif {b:Bool} {x y:Option α} : br (!b) x y=if b=true then y else x:=by cases b<;>rfl
theorem W_chkloop {F:(Int×Unit→Option α)→Int×Unit→Option α} (len:Nat) (ok:Nat→Bool) {bad good:Option α}
  (hF:∀ ih (i:Nat) (hi:i<len),F ih ((i:Int),())=if ok i=true then ih (((i+1:Nat):Int),()) else bad) (hE:∀ ih,F ih ((len:Int),())=good) {n:Nat} (hn:len<n)
  (hg:(∀ i,i<len→ok i=true)→W good Q) (hb:∀ i,i<len→ok i=false→W bad Q):W (iter n F (0,())) Q:=by
 obtain ⟨h1,h2⟩:=chk_loop len ok bad good hF hE hn
 by_cases h:∀ i,i<len→ok i=true
 ·rw [h1 h]; exact hg h
 ·rw [h2 h]
  simp only [Classical.not_forall,Bool.not_eq_true] at h
  obtain ⟨i,hi,h⟩:=h
  exact hb i hi h
def onlyIx (f:β→Bool) (ls:List β):Int:=if ls.countP f=0 then -1 else if ls.countP f=1 then (ls.findIdx f:Int) else -2
theorem take_succ_count {f:β→Bool} {ls:List β} {i:Nat} (hi:i<ls.length):(ls.take (i+1)).countP f=(ls.take i).countP f+(if f ls[i]=true then 1 else 0):=by
 rw [List.take_succ_eq_append_getElem hi,List.countP_append,List.countP_singleton]
theorem findIdx_first {f:β→Bool} {ls:List β} {i:Nat} (hi:i<ls.length) (h0:(ls.take i).countP f=0) (hf:f ls[i]=true):ls.findIdx f=i:=by
 refine (List.findIdx_eq hi).2 ⟨hf,fun j hj=>?_⟩
 rw [List.countP_eq_zero] at h0
 have:=h0 (ls[j]'(by omega)) (by
  rw [List.mem_take_iff_getElem]
  exact ⟨j,by omega,rfl⟩)
 simpa using this
theorem only_loop (ls:List β) (f:β→Bool) {F:(Int×(Int×Unit)→Option (Int×Unit))→Int×(Int×Unit)→Option (Int×Unit)}
  (hF:∀ ih (i:Nat) (hi:i<ls.length) (at':Int),F ih (at',((i:Int),()))=if f ls[i]=true then (if 0≤at' then some (-2,()) else ih ((i:Int),(((i+1:Nat):Int),()))) else ih (at',(((i+1:Nat):Int),())))
  (hE:∀ ih at',F ih (at',((ls.length:Int),()))=some (at',())) {n:Nat} (hn:ls.length<n):iter n F (-1,(0,()))=some (onlyIx f ls,()):=by
 refine W_eq.1 (W_up (fun i (s:Int)=>(s,((i:Int),()))) ls.length (fun i s=>((ls.take i).countP f=0∧s = -1)∨((ls.take i).countP f=1∧s=(ls.findIdx f:Int))) rfl (.inl ⟨by simp,rfl⟩) hn
  (fun ih s hI=>?_) (fun ih i s hi hI hS=>?_))
 ·simp only [List.take_length] at hI
  rw [hE,W_some]
  unfold onlyIx
  rcases hI with ⟨h1,h2⟩ | ⟨h1,h2⟩
  ·rw [if_pos h1,h2]
  ·rw [if_neg (by omega),if_pos h1,h2]
 ·rw [hF ih i hi s]
  have hc:=take_succ_count (f:=f) hi
  by_cases hf:f ls[i]=true
  ·rw [if_pos hf] at hc ⊢
   rcases hI with ⟨h1,h2⟩ | ⟨h1,h2⟩
   ·rw [if_neg (by omega)]
    exact hS _ (.inr ⟨by omega,by rw [findIdx_first hi h1 hf]⟩)
   ·rw [if_pos (by omega),W_some]
    have:(ls.take (i+1)).countP f≤ls.countP f:=List.Sublist.countP_le (List.take_sublist _ _)
    unfold onlyIx
    rw [if_neg (by omega),if_neg (by omega)]
  ·rw [if_neg hf] at hc ⊢
   exact hS _ (by rw [hc]; exact hI)
end
end Go.Am
