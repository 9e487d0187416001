/- The abstract machine is right: rows that are made, appended to and written. No condition. -/
import Derived.Test.YtfoamipegmbcgaaGreatDoorAmA
import Derived.Lib.AppendZerosOnto
set_option linter.unusedVariables false
set_option linter.unusedSimpArgs false
namespace Go.Am
open Go
theorem JN (off:Nat):∀ (vs:List Value) (n:Nat) (arr:Array Value),(vs.zipIdx n).foldl (fun (cs:Array Value) (p:Value×Nat)=>cs.setIfInBounds (off+p.2) p.1) arr=(vs.zipIdx n).foldl (fun (cs:Array Value) (p:Value×Nat)=>cs.setIfInBounds (off+p.2) p.1) arr∧
  ((vs.zipIdx n).foldl (fun (cs:Array Value) (p:Value×Nat)=>cs.setIfInBounds (off+p.2) p.1) arr).size=arr.size∧
  ∀ k,((vs.zipIdx n).foldl (fun (cs:Array Value) (p:Value×Nat)=>cs.setIfInBounds (off+p.2) p.1) arr)[k]? = if off+n≤k∧k<off+n+vs.length∧k<arr.size then vs[k-(off+n)]? else arr[k]?
 | [],n,arr=>⟨rfl,rfl,fun k=>by simp; omega⟩
 | v::vs,n,arr=>by
  obtain ⟨-,h1,h2⟩:=JN off vs (n+1) (arr.setIfInBounds (off+n) v)
  refine ⟨rfl,by simp only [List.zipIdx_cons,List.foldl_cons]; rw [h1]; simp,fun k=>?_⟩
  simp only [List.zipIdx_cons,List.foldl_cons]
  rw [h2 k]
  simp only [Array.size_setIfInBounds,Array.getElem?_setIfInBounds]
  by_cases hk:off+n=k
  ·subst hk
   rw [if_neg (by omega),if_pos rfl]
   by_cases ao:off+n<arr.size
   ·rw [if_pos ao,if_pos (by simp; omega)]; simp
   ·rw [if_neg ao,if_neg (by omega)]; simp [Array.getElem?_eq_none (Nat.le_of_not_lt ao)]
  ·rw [if_neg hk]
   by_cases bV:off+(n+1)≤k∧k<off+(n+1)+vs.length∧k<arr.size
   ·rw [if_pos bV,if_pos (by simp; omega)]
    rw [show k-(off+n)=(k-(off+(n+1)))+1 by omega]; simp
   ·rw [if_neg bV,if_neg (by simp; omega)]
section
variable {P:Program} {c:aP} {g:Gh} {w w':World} {U:Nat→Prop} {sr:St} {a:Act} {site:Nat} {o:Oper} {ρ:Type} {r:ρ} {k:bR→Option ρ} {arr:Array Value} {e:TypeId}
theorem Fm (S:cB P c g w U sr a) (pl:Nat→Option (Nat×Nat)):∀ (ps:List (Nat×Operand)) (zs cs:List af) (arr:Array Value),bK g w U zs arr.toList→
  o7 pl (ps.map fun p=>(p.1,sr.ev p.2)) zs=some cs→∃ tV,Instr.fill pl arr (ps.map fun p=>(p.1,a.eval p.2))=some tV∧bK g w U cs tV.toList
 | [],zs,cs,arr,hz,h=>by
  simp only [List.map_nil,o7,Option.some.injEq] at h
  subst h
  exact ⟨arr,rfl,hz⟩
 | (i,x)::ps,zs,cs,arr,hz,h=>by
  simp only [List.map_cons,o7] at h
  split at h
  ·rename_i off size dL
   split at h
   ·rename_i hb
    simp only [Bool.and_eq_true,Nat.ble_eq] at hb
    obtain ⟨⟨g_,cS⟩,tW⟩:=hb
    have g_:=Nat.eq_of_beq_eq_true g_
    obtain ⟨hv,-⟩:=wC (S.ev x) cS
    have hl:=ka hv
    have tX:=ka hz
    have aX:(a.eval x).cells.size=size:=by rw [← g_,← hl]; simp
    simp only [Instr.fill,dL,List.map_cons,aX,ne_eq,not_true_eq_false,decide_false,Bool.false_or,decide_eq_true_eq]
    rw [if_neg (by simp at tX; omega)]
    have JO:(a.eval x).cells.zipIdx.foldl (fun (cs:Array Value) (p:Value×Nat)=>cs.setIfInBounds (off+p.2) p.1) arr=((a.eval x).cells.toList.zipIdx 0).foldl (fun (cs:Array Value) (p:Value×Nat)=>cs.setIfInBounds (off+p.2) p.1) arr:=by
     rw [← Array.foldl_toList]; simp
    obtain ⟨-,f1,f2⟩:=JN off (a.eval x).cells.toList 0 arr
    refine Fm S pl ps _ cs _ ?_ h
    refine rM ?_ ?_
    ·rw [nR,← tX]
     simp only [Array.length_toList]
     exact JO▸f1
    ·intro m h1 h2
     rw [nR] at h1
     have g1:=CR zs off (sr.ev x).cells m (by omega)
     rw [List.getElem?_eq_getElem (by rw [nR]; exact h1)] at g1
     have g2:=f2 m
     rw [← JO] at g2
     have g3:=List.getElem?_eq_getElem h2
     simp only [Array.getElem?_toList] at g3
     have g4:=g3.symm.trans g2
     simp only [Nat.add_zero,Array.length_toList] at g4 tX
     by_cases bV:off≤m∧m<off+(sr.ev x).cells.length
     ·rw [if_pos bV] at g1
      rw [if_pos (by simp only [Array.length_toList] at hl; omega)] at g4
      obtain ⟨y,h3,h4⟩:=jF hv (m-off) (by omega)
      rw [h3] at g4
      rw [List.getElem?_eq_getElem (by omega)] at g1
      rw [Option.some.inj g1,Option.some.inj g4]
      exact h4
     ·rw [if_neg bV] at g1
      rw [if_neg (by simp only [Array.length_toList] at hl; omega)] at g4
      obtain ⟨y,h3,h4⟩:=jF hz m h1
      rw [Array.getElem?_toList] at h3
      rw [h3] at g4
      rw [List.getElem?_eq_getElem h1] at g1
      rw [Option.some.inj g1,Option.some.inj g4]
      exact h4
   ·simp at h
  ·simp at h
theorem Qm (S:cB P c g w U sr a) {t:Nat} {parts:Array (Nat×Operand)} {cs:List af} (hk:(c.ti t).kind = .struct) (hf:(c.ti t).fields.all (fun f=>Nat.blt 0 (c.ti f.2).size)=true)
  (h:o7 (x_ c (c.ti t)) (parts.toList.map fun p=>(p.1,sr.ev p.2)) (c.ti t).zero=some cs) :
  Ok P g w U (.agg cs) (Instr.build t (parts.map fun (i,x)=>(i,a.eval x))):=by
 have hT:=yh S.aV hk (by simp)
 obtain ⟨z,hz,hr,hv,ti,lf,rQ,-⟩:=wF hT
 obtain ⟨d,h1,h2,-⟩:=hT.desc
 rw [hk] at h2
 obtain ⟨fs,rfl,h3⟩:=h2
 obtain ⟨tV,h4,h5⟩:=Fm S (x_ c (c.ti t)) parts.toList _ cs z.cells (hv g w U) h
 have eM:∀ f∈fs.toList,0<(c.ti f.type).size:=by
  intro f Fo
  have l7:(f.offset,f.type)∈(c.ti t).fields:=by rw [← h3]; exact List.mem_map_of_mem Fo
  have:=List.all_eq_true.1 hf _ l7
  simpa [Nat.blt_eq] using this
 have hm:∀ (l:List Field),(∀ f∈l,0<(c.ti f.type).size)→l.mapM (fun f=>(P.info? f.type).map fun i=>(f.offset,i.size))=some (l.map fun f=>(f.offset,(c.ti f.type).size)):=by
  intro l
  induction l with
  | nil=>intro _; rfl
  | cons f l ih=>
   intro hl
   obtain ⟨i,e1,e2,-⟩:=(kZ S.aV (.inl (hl f (by simp)))).info
   simp [List.mapM_cons,e1,e2,ih (fun f hf=>hl f (by simp [hf]))]
 have dL:(fun (n:Nat)=>(fs.toList.map fun f=>(f.offset,(c.ti f.type).size))[n]?)=x_ c (c.ti t):=by
  funext n
  unfold x_
  rw [← h3]
  simp only [List.getElem?_map,Array.getElem?_toList]
  cases fs[n]?<;>rfl
 have hb:P.built t (parts.map fun (i,x)=>(i,a.eval x)).toList=some tV:=by
  unfold Program.built
  rw [lf,h1]
  simp only [rQ,hm fs.toList eM]
  have e1:(fun (n:Nat)=>(fs.toList.map fun f=>(f.offset,(c.ti f.type).size)).toArray[n]?)=x_ c (c.ti t):=by
   rw [← dL]; funext n; simp
  rw [e1,← h4]
  simp
 exact ⟨.agg tV,run_build w t _ _ hb,tV.toList,by simp,h5⟩
theorem Fp (n:Nat) (cs:List af):(rE n cs).length=n*cs.length:=by simp [rE]
theorem Qn (n:Nat) (cs:List af):∀ k,k<n*cs.length→(rE n cs)[k]? = cs[k % cs.length]?:=by
 induction n with
 | zero=>intro k hk; omega
 | succ n ih=>
  intro k hk
  have e:rE (n+1) cs=cs++rE n cs:=by simp [rE,List.replicate_succ]
  rw [e]
  by_cases ao:k<cs.length
  ·rw [List.getElem?_append_left ao,Nat.mod_eq_of_lt ao]
  ·rw [List.getElem?_append_right (by omega),ih (k-cs.length) (by rw [Nat.add_mul] at hk; omega)]
   rw [← Nat.mod_eq_sub_mod (by omega)]
theorem Qo {n:Nat} {zs:List af} {z:Array Value} (h:bK g w U zs z.toList) (hp:0<zs.length) :
  bK g w U (rE n zs) ((Array.range (n*zs.length)).map (z[· % z.size]!)).toList:=by
 have hl:=ka h
 simp only [Array.length_toList] at hl
 refine rM (by simp [Fp]) (fun k h1 h2=>?_)
 have h3:=Qn n zs k (by rw [Fp] at h1; exact h1)
 have hm:k % zs.length<zs.length:=Nat.mod_lt _ hp
 obtain ⟨y,h4,h5⟩:=jF h (k % zs.length) hm
 rw [List.getElem?_eq_getElem h1,List.getElem?_eq_getElem hm] at h3
 rw [Option.some.inj h3]
 have h6:z[k % z.size]! = y:=by
  rw [hl]
  simp only [Array.getElem?_toList] at h4
  rw [getElem!_def,h4]
 simp only [Array.toList_map,Array.toList_range,List.getElem_map,List.getElem_range]
 rw [h6]; exact h5
theorem Qp (S:cB P c g w U sr a) (hs:¬ U site) {t len:Nat} {parts:Array (Nat×Operand)} {cs:List af} (hk:(c.ti t).kind = .slice) (he:0<(c.ti (c.ti t).elem).size)
  (hlen:len*(c.ti (c.ti t).elem).size≤100000)
  (h:o7 (fun n=>some (n*(c.ti (c.ti t).elem).size,(c.ti (c.ti t).elem).size)) (parts.toList.map fun p=>(p.1,sr.ev p.2)) (rE len (c.ti (c.ti t).elem).zero)=some cs) :
  ∃ v w' g' U',(Instr.buildSlice t len (parts.map fun (i,x)=>(i,a.eval x))).run P w = .ok v w'∧
   cR g w U site ⟨.dW (site*1024) 0 len (c.ti (c.ti t).elem).size,[(site*1024,some (.cells [] cs))]⟩ v w' g' U':=by
 have hd:=o8 S.aV hk
 have hT:=kZ S.aV (.inl he)
 obtain ⟨z,hz,hr,hv,-⟩:=wF hT
 have tX:(c.ti (c.ti t).elem).zero.length=(c.ti (c.ti t).elem).size:=by
  have:=ka (hv g w U); rw [← this,← hz]; simp
 have Fq:=Qo (n:=len) (z:=z.cells) (hv g w U) (by omega)
 rw [tX] at Fq
 obtain ⟨tV,h4,h5⟩:=Fm S _ parts.toList _ cs _ Fq h
 have eg:cs.length=len*(c.ti (c.ti t).elem).size:=by
  have:∀ (ps:List (Nat×af)) (zs cs:List af),o7 (fun n=>some (n*(c.ti (c.ti t).elem).size,(c.ti (c.ti t).elem).size)) ps zs=some cs→cs.length=zs.length:=by
   intro ps
   induction ps with
   | nil=>intro zs cs h; simp [o7] at h; rw [h]
   | cons p ps ih=>
    intro zs cs h
    simp only [o7] at h
    split at h
    ·rw [ih _ _ h,nR]
    ·simp at h
  rw [this _ _ _ h,Fp,tX]
 have B:=At w tV (c.ti t).elem
 obtain ⟨g',U',hp⟩:=yt S hs B h5 (x:=.dW (site*1024) 0 len (c.ti (c.ti t).elem).size) (v:=.slice (some (ad w.heap.size 0)) len len)
  (fun g' hg=>⟨.inr (iw site),.inl S.u0,_,_,rfl,Nat.le_refl _,by rw [hg]; simp [eg],_,_,by rw [hg],by simp⟩)
 refine ⟨_,_,g',U',?_,hp⟩
 have JP:(parts.map fun (i,x)=>(i,a.eval x)).toList=parts.toList.map fun p=>(p.1,a.eval p.2):=by simp
 by_cases h0:len*(c.ti (c.ti t).elem).size=0
 ·have Qq:((Array.range (len*(c.ti (c.ti t).elem).size)).map (z.cells[· % z.cells.size]!)) = #[]:=by rw [h0]; simp [Array.range_zero']
  rw [Qq] at h4
  have av:¬ (len*(c.ti (c.ti t).elem).size>2 ^ 24):=by omega
  simp only [Instr.buildSlice,Sem.run_bind,run_underlying hd,tQ hT,Result.andThen_ok,Sem.run_ite,av,if_false,h0,if_true,Sem.run_pure,JP]
  simp [h4,newRow,Array.range_zero']
 ·have av:¬ (len*(c.ti (c.ti t).elem).size>2 ^ 24):=by omega
  simp only [Instr.buildSlice,Sem.run_bind,run_underlying hd,tQ hT,Result.andThen_ok,Sem.run_ite,av,if_false,h0,Sem.run_pure,hr,JP]
  simp [h4,newRow]
end
end Go.Am
namespace Go.Am
open Go
open Classical in
noncomputable def gJ (D:Nat→Path→Prop) (N:Nat) (σ:Src) (Rt:Nat→Nat→Prop) (l:bt):bt:=fun b o=>
 if Rt b o then some (N,[]) else match l b o with
  | none=>none
  | some (id,p)=>if D id p then (if h:∃ q hd,σ q=some (id,p,hd) then some (N,h.choose) else none) else some (id,p)
section
variable {D:Nat→Path→Prop} {N:Nat} {σ:Src} {Rt:Nat→Nat→Prop} {l:bt} {b o:Nat}
theorem Qr (h:Rt b o):gJ D N σ Rt l b o=some (N,[]):=by simp [gJ,h]
theorem yu (h:l b o=none) (hr:¬ Rt b o):gJ D N σ Rt l b o=none:=by simp [gJ,h,hr]
theorem JQ {id:Nat} {p:Path} (h:l b o=some (id,p)) (hr:¬ Rt b o) (hd:¬ D id p):gJ D N σ Rt l b o=some (id,p):=by simp [gJ,h,hr,hd]
theorem Qs {id:Nat} {p q:Path} {hh:Hd} (h:l b o=some (id,p)) (hr:¬ Rt b o) (hd:D id p) (dS:σ q=some (id,p,hh)) (hi:∀ q' h',σ q'=some (id,p,h')→q'=q) :
  gJ D N σ Rt l b o=some (N,q):=by
 have hex:∃ q hd,σ q=some (id,p,hd):=⟨q,hh,dS⟩
 simp only [gJ,hr,if_false,h,hd,if_true,hex,dif_pos]
 obtain ⟨h',hc⟩:=hex.choose_spec
 rw [hi _ _ hc]
theorem JR {id:Nat} {p:Path} (h:l b o=some (id,p)) (hr:¬ Rt b o) (hd:D id p) (dS:∀ q h',σ q≠some (id,p,h')):gJ D N σ Rt l b o=none:=by
 have hex:¬ ∃ q hd,σ q=some (id,p,hd):=fun ⟨q,hh,e⟩=>dS q hh e
 simp only [gJ,hr,if_false,h,hd,if_true,hex,dif_neg,not_false_eq_true]
theorem Qt {q:Nat×Path} (h:gJ D N σ Rt l b o=some q):Rt b o∨l b o≠none:=by
 by_cases hr:Rt b o
 ·exact .inl hr
 ·refine .inr (fun hn=>?_)
  rw [yu hn hr] at h; simp at h
end
section
variable {P:Program} {c:aP} {g:Gh} {L:bt} {w w':World} {U:Nat→Prop} {sr:St} {a:Act} {site:Nat} {o:Oper} {ρ:Type} {r:ρ} {k:bR→Option ρ} {D:Nat→Path→Prop} {N:Nat} {σ:Src} {Rt:Nat→Nat→Prop} {R H:Nat→Path→Hd}
theorem qj {l:bt} {b o:Nat} {q:Nat×Path} (h:(gj g site R H (gJ D N σ Rt l)).lab b o=some q):Rt b o∨l b o≠none:=Qt h
theorem Av {T:Nat→Prop} (hs:¬ U site) (h1:∀ b o,g.lab b o=none→∀ v,w.cell? (ad b o)=some v→w'.cell? (ad b o)=some v∧¬ Rt b o)
  (h2:∀ b o id p,g.lab b o=some (id,p)→¬ T id→¬ D id p∧¬ Rt b o∧w'.cell? (ad b o)=w.cell? (ad b o)∧w'.frozen? (ad b o)=w.frozen? (ad b o)) :
  du T g w U (gj g site R H (gJ D N σ Rt g.lab)) w' (U' U site):=by
 refine ⟨fun s h=>.inl h,fun id ver p a1 a2=>Fk hs a1 a2,fun b o hn v hv=>?_,fun b o id p h hT=>?_⟩
 ·obtain ⟨a1,a2⟩:=h1 b o hn v hv
  exact ⟨a1,yu hn a2⟩
 ·obtain ⟨a1,a2,a3,a4⟩:=h2 b o id p h hT
  exact ⟨JQ h a2 a1,a3,a4⟩
theorem Aw {own:Bool} {t:Ty} {xs:List t.T} {h0:Hd} (g':Gh) (hg:g'=gj g site R H (gJ D N σ Rt g.lab)) (l8:g'.hd N 0 []=h0)
  (hH:∀ q id p h,σ q=some (id,p,h)→H N q=h) (Qu:∀ q,q≠[]→σ q=none→H N q=c8)
  (tY:∀ q id p h,σ q=some (id,p,h)→D id p∧(∀ q' h',σ q'=some (id,p,h')→q'=q)∧∀ b o,g.lab b o=some (id,p)→¬ Rt b o∧w'.cell? (ad b o)=w.cell? (ad b o)∧w'.frozen? (ad b o)=w.frozen? (ad b o))
  (hL:∀ b o,L b o=none→∀ v,w.cell? (ad b o)=some v→w'.cell? (ad b o)=some v∧gJ D N σ Rt g.lab b o=none)
  (hlen:h0.len=xs.length) (eK:h0.len≤h0.cap) (qk:h0.addr=none→h0.cap=0)
  (gk:∀ b o,h0.addr=some (b,o)→∀ k,k<h0.cap*t.size→Rt b (o+k)∧(w'.cell? (ad b (o+k))).isSome=true∧w'.frozen? (ad b (o+k))=false)
  (hx:∀ b o,h0.addr=some (b,o)→∀ k (hk:k<xs.length),ca g L w own σ t [] k 0 xs[k] (fun d=>w'.cell? (ad b (o+k*t.size+d)))) :
  dC g' w' own N 0 site t b9 [] xs:=by
 subst hg
 unfold dC
 rw [l8]
 refine ⟨hlen,eK,qk,fun b o hb=>⟨fun k hk=>?_,fun k hk=>?_⟩⟩
 ·obtain ⟨a1,a2,a3⟩:=gk b o hb k hk
  exact ⟨Qr a1,a2,a3⟩
 ·have Rn:Ren g L w (gj g site R H (gJ D N σ Rt g.lab)) w' σ N site:=by
   refine ⟨fun q id p h e=>?_,fun q hq e=>?_,fun q id p h b o e hl=>?_,fun b o hl v hv=>hL b o hl v hv⟩
   ·rw [Fl]; exact hH q id p h e
   ·rw [Fl]; exact Qu q hq e
   ·obtain ⟨a1,a2,a3⟩:=tY q id p h e
    obtain ⟨a4,a5,a6⟩:=a3 b o hl
    exact ⟨Qs hl a4 a1 e a2,a5,a6⟩
  exact wv Rn t [] k 0 _ _ b (o+k*t.size) (fun d hd=>rfl) (hx b o hb k hk)
theorem CT {own:Bool} {g0:Gh} {w0:World} {U0:Nat→Prop} : ∀ (t:Ty) (q:Path) (i j:Nat) (l:List Value) (f:Nat→Option Value),bK g0 w0 U0 (wm t) l→(∀ k,k<t.size→f k=l[k]?)→ca g L w own bC t q i j t.zero f
 | .int k,q,i,j,l,f,h,hf=>by obtain ⟨x,r,rfl,rfl,rfl⟩:=h; exact (hf 0 (by simp [Ty.size])).trans rfl
 | .bool,q,i,j,l,f,h,hf=>by obtain ⟨x,r,rfl,rfl,rfl⟩:=h; exact (hf 0 (by simp [Ty.size])).trans rfl
 | .str,q,i,j,l,f,h,hf=>by obtain ⟨x,r,rfl,rfl,rfl⟩:=h; exact (hf 0 (by simp [Ty.size])).trans rfl
 | .err,q,i,j,l,f,h,hf=>by obtain ⟨x,r,rfl,h1,rfl⟩:=h; exact ⟨x,(hf 0 (by simp [Ty.size])).trans rfl,h1⟩
 | .bh t,q,i,j,l,f,h,hf=>by
  obtain ⟨x,r,rfl,rfl,rfl⟩:=h
  exact ⟨_,(hf 0 (by simp [Ty.size])).trans rfl,⟨none,0,0,rfl,rfl,Nat.le_refl _,fun _=>rfl,fun hn=>absurd rfl hn⟩,⟨fun _=>⟨0,0,rfl⟩,fun _=>rfl⟩⟩
 | .sl t,q,i,j,l,f,h,hf=>by
  obtain ⟨x,r,rfl,rfl,rfl⟩:=h
  have h0:=(hf 0 (by simp [Ty.size])).trans rfl
  cases own with
  | true=>exact .inr ⟨rfl,h0,rfl⟩
  | false=>exact ⟨_,h0,none,0,0,rfl,rfl,Nat.le_refl _,fun _=>rfl,fun hn=>absurd rfl hn⟩
 | .pair s t,q,i,j,l,f,h,hf=>by
  have tX:∀ t:Ty,(wm t).length=t.size:=by
   intro t
   induction t with
   | pair a b ia ib=>simp [wm,Ty.size,ia,ib]
   | _=>rfl
  have Qv:∀ (xs ys:List af) (l:List Value),bK g0 w0 U0 (xs++ys) l→bK g0 w0 U0 xs (l.take xs.length)∧bK g0 w0 U0 ys (l.drop xs.length):=by
   intro xs
   induction xs with
   | nil=>intro ys l h; exact ⟨rfl,h⟩
   | cons x xs ih=>
    intro ys l h
    obtain ⟨y,r,rfl,h1,h2⟩:=h
    obtain ⟨h3,h4⟩:=ih ys r h2
    exact ⟨⟨y,_,rfl,h1,h3⟩,h4⟩
  obtain ⟨h1,h2⟩:=Qv _ _ _ h
  rw [tX] at h1 h2
  refine ⟨CT s q i j _ f h1 (fun k hk=>?_),CT t q i (j+s.size) _ _ h2 (fun k hk=>?_)⟩
  ·rw [hf k (by simp [Ty.size]; omega),List.getElem?_take,if_pos hk]
  ·rw [hf _ (by simp [Ty.size]; omega),List.getElem?_drop]
theorem Qw {ow:Bool} (S:cB P c g w U sr a) (hs:¬ U site) {t:Nat} {e:Ty} {kl kc:IntKind} {n:Int} (hk:(c.ti t).kind = .slice) (he:(c.ti (c.ti t).elem).ty=some e) (hb:0<(c.ti (c.ti t).elem).bytes)
  (hn:0≤n∧n*((c.ti (c.ti t).elem).bytes:Int)≤(aW:Int)) :
  ∃ v w' g' U',(Instr.makeSlice t (.int kl n) (.int kc n)).run P w = .ok v w'∧
   cR g w U site ⟨.own (site*1024) 0 [] e,[(site*1024,some (.row ow e site (List.replicate n.toNat e.zero)))]⟩ v w' g' U':=by
 have h0:site≠0:=by rintro rfl; exact hs S.u0
 have hd:=o8 S.aV hk
 have hT:kz P (c.ti t).elem (c.ti (c.ti t).elem):=by
  unfold aP.ti at he ⊢
  generalize (match look c.aV t with | some i=>i | none=>(⟨false,0,0,[],.other,0,none,[],false⟩:j5)).elem=x at he ⊢
  cases e2:look c.aV x with
  | none=>rw [e2] at he; simp at he
  | some i=>exact S.aV x i e2
 obtain ⟨l_,gG⟩:=hT.ty e he
 obtain ⟨z,hz,hr,hv,ti,lf,rQ,eN,qm⟩:=wF hT
 have fM:=e.size_pos
 have mX:z.cells.size=e.size:=by rw [hz,gG]
 have JT:(aW:Int)=140737488355328:=rfl
 have hle:n*1≤n*((c.ti (c.ti t).elem).bytes:Int):=Int.mul_le_mul_of_nonneg_left (by omega) hn.1
 have cx:=run_make (P:=P) w t (c.ti t).elem ti z hd lf rQ kl kc n n hn.1 (Int.le_refl _) (by
  rw [qm]
  have:((c.ti (c.ti t).elem).bytes:Int)*n=n*((c.ti (c.ti t).elem).bytes:Int):=Int.mul_comm _ _
  omega) (by omega)
 have B:=At w (madeCells z.cells (n.toNat*ti.size)) (c.ti t).elem
 have aX:ti.size=e.size:=by rw [eN,gG]
 rw [aX] at cx B
 refine ⟨_,_,gj g site (fun _ _=>⟨some (w.heap.size,0),n.toNat,n.toNat⟩) (fun _ _=>c8) (gJ (fun _ _=>False) (site*1024) bC (fun b o=>b=w.heap.size∧o<n.toNat*e.size) g.lab),U' U site,cx,?_⟩
 have Ax:∀ b o,g.lab b o=none→∀ v,w.cell? (ad b o)=some v→(w.alloc (.cells (madeCells z.cells (n.toNat*e.size)) (c.ti t).elem)).cell? (ad b o)=some v∧¬ (b=w.heap.size∧o<n.toNat*e.size):=by
  intro b o hl v hv
  have:=wD hv
  exact ⟨by rw [B.bP (by omega)]; exact hv,by omega⟩
 have cI:∀ {T:Nat→Prop},du T g w U (gj g site (fun _ _=>⟨some (w.heap.size,0),n.toNat,n.toNat⟩) (fun _ _=>c8) (gJ (fun _ _=>False) (site*1024) bC (fun b o=>b=w.heap.size∧o<n.toNat*e.size) g.lab)) (w.alloc (.cells (madeCells z.cells (n.toNat*e.size)) (c.ti t).elem)) (U' U site):=
  Av hs Ax (fun b o id p h _=>by
   have:=S.bB _ _ _ h
   exact ⟨fun h=>h,by omega,B.bP (by omega) o,B.Au (by omega) o⟩)
 refine ⟨cI,⟨.inr (iw site),.inl S.u0,.inl S.u0,trivial,fun _=>rfl,?_⟩,fun id ob aY=>?_,fun s h=>h,fun b o q h=>?_,fun b o q hb h=>?_,B.fr _,fun id h=>by rw [yp h,iw]; rintro rfl; exact hs S.wk⟩
 ·rw [qi h0]; rfl
 ·simp only [look] at aY
  split at aY
  ·rename_i hb
   obtain rfl:=Nat.eq_of_beq_eq_true hb
   simp only [Option.some.injEq] at aY
   subst aY
   refine ⟨.inr (iw site),.inl S.u0,.inr rfl,?_⟩
   refine Aw (w:=w) (L:=g.lab) (h0:=⟨some (w.heap.size,0),n.toNat,n.toNat⟩) _ rfl (qi h0 _) (fun q id p h e=>by simp [bC] at e) (fun q hq e=>rfl) (fun q id p h e=>by simp [bC] at e) (fun b o hl v hv=>?_) (by simp) (Nat.le_refl _) (by simp) (fun b o hb k hk=>?_) (fun b o hb k hk=>?_)
   ·obtain ⟨a1,a2⟩:=Ax b o hl v hv
    exact ⟨a1,yu hl a2⟩
   ·simp only [Option.some.injEq,Prod.mk.injEq] at hb
    obtain ⟨rfl,rfl⟩:=hb
    refine ⟨⟨rfl,by simpa using hk⟩,?_,B.CS _⟩
    rw [B.new,Array.getElem?_eq_getElem (by rw [size_madeCells]; simpa using hk)]; rfl
   ·simp only [Option.some.injEq,Prod.mk.injEq] at hb
    obtain ⟨rfl,rfl⟩:=hb
    simp only [List.length_replicate] at hk
    rw [List.getElem_replicate]
    have qn:=hv g w U
    rw [l_] at qn
    refine CT e [] k 0 z.cells.toList _ qn (fun d hd=>?_)
    have ao:k*e.size+d<n.toNat*e.size:=by
     have:(k+1)*e.size≤n.toNat*e.size:=Nat.mul_le_mul_right _ hk
     rw [Nat.add_mul] at this; omega
    rw [B.new]
    simp only [madeCells,Array.getElem?_map,Nat.zero_add]
    rw [Array.getElem?_range,if_pos ao]
    simp only [Option.map_some]
    rw [mX,show (k*e.size+d) % e.size=d by rw [Nat.mul_comm,Nat.mul_add_mod,Nat.mod_eq_of_lt hd]]
    rw [getElem!_def,Array.getElem?_toList]
    have:d<z.cells.size:=by omega
    rw [Array.getElem?_eq_getElem this]
  ·simp [look] at aY
 ·rw [B.size]
  rcases qj h with ⟨rfl,-⟩ | h
  ·omega
  ·cases h2:g.lab b o with
   | none=>exact absurd h2 h
   | some q=>have:=S.bB _ _ _ h2; omega
 ·rcases qj h with ⟨rfl,-⟩ | h
  ·omega
  ·exact h
end
end Go.Am
namespace Go.Am
open Go
inductive Qx (P:Program) (w:World) (size:Nat) (e:TypeId) (h:Hd) (olds news:List Value) (m:Nat) (s:Sem Value):Prop
 | room (b o:Nat) (ha:h.addr=some (b,o)) (hr:h.len+m≤h.cap) (hs:s.run P w = .ok (.slice (some (ad b o)) (h.len+m) h.cap) (w.setCells b (o+h.len*size) news))
 | nil (ha:h.addr=none) (hm:m=0) (hl:h.len=0) (hs:s.run P w = .ok (.slice none 0 0) w)
 | grow (cap:Nat) (arr:Array Value) (w':World) (B:iL w w' arr e) (hc:h.len+m≤cap) (ha:arr.size=cap*size) (hl:∃ rest,arr.toList=olds++news++rest) (hs:s.run P w = .ok (.slice (some (ad w.heap.size 0)) (h.len+m) cap) w')
theorem Fs {P:Program} {w:World} {size m xc:Nat} {xa:Option Addr} {news:List Value} (hl:news.length=m*size) (hx:0<m→∃ b o,xa=some (ad b o)∧∀ j u,news[j]? = some u→w.cell? (ad b (o+j))=some u) :
  (Builtin.firstCells size m (.slice xa m xc)).run P w = .ok news.toArray w:=by
 rcases Nat.eq_zero_or_pos m with rfl | hm
 ·have:news=[]:=List.eq_nil_of_length_eq_zero (by simpa using hl)
  subst this
  cases xa<;>simp [Builtin.firstCells,loadCells,loadCellsFrom]
 ·obtain ⟨b,o,rfl,hj⟩:=hx hm
  exact run_firstCells_some w size m (ad b o) m xc news hl (fun j v hv=>by rw [Addr.add_lit]; exact hj j v hv)
theorem JU {P:Program} {w:World} {t ty e:TypeId} {i:TypeInfo} {z:Value} (ht:P.underlying t=some (.slice e)) (hi:P.info? e=some i) (hz:i.zero=some z) (mX:z.cells.size=i.size) (iM:0<i.bytes)
  {h:Hd} {olds news:List Value} {xa:Option Addr} {m xc:Nat} (hc:h.len≤h.cap) (hn:h.addr=none→h.cap=0) (pa:olds.length=h.len*i.size)
  (ho:∀ b o,h.addr=some (b,o)→(∀ j u,olds[j]? = some u→w.cell? (ad b (o+j))=some u)∧∀ k,k<h.cap*i.size→(w.cell? (ad b (o+k))).isSome=true∧w.frozen? (ad b (o+k))=false)
  (hl:news.length=m*i.size) (hx:0<m→∃ b o,xa=some (ad b o)∧∀ j u,news[j]? = some u→w.cell? (ad b (o+j))=some u) (h1:∀ u∈news,u.oneCell'=true) (l9:(h.len+m)*i.bytes≤aW) :
  Qx P w i.size e h olds news m (Builtin.append_ #[t,t] ty #[h.val,.slice xa m xc]):=by
 have JT:aW=140737488355328:=rfl
 have hle:(h.len+m)*1≤(h.len+m)*i.bytes:=Nat.mul_le_mul_left _ iM
 have hf:=Fs (P:=P) (xc:=xc) hl hx
 have CU:(Builtin.firstCells i.size m (.slice xa m xc)).run P w.drew = .ok news.toArray w.drew:=Fs hl hx
 by_cases wG:h.len+m≤h.cap
 ·cases ha:h.addr with
  | none=>
   have eK:=hn ha
   have hm:m=0:=by omega
   have hlen:h.len=0:=by omega
   refine .nil ha hm hlen ?_
   have hv:h.val = .slice none 0 0:=by simp [Hd.val,ha,hlen,eK]
   subst hm
   have av:news=[]:=List.eq_nil_of_length_eq_zero (by simpa using hl)
   subst av
   rw [hv]
   simp [Builtin.append_,run_underlying ht,sizeOf,typeInfo,hi,Builtin.lenOf,hf]
  | some a=>
   obtain ⟨b,o⟩:=a
   refine .room b o ha wG ?_
   have hv:h.val = .slice (some (ad b o)) h.len h.cap:=by simp [Hd.val,ha]
   obtain ⟨-,gk⟩:=ho b o ha
   have Qy:h.len*i.size+news.length≤h.cap*i.size:=by rw [hl,← Nat.add_mul]; exact Nat.mul_le_mul_right _ wG
   have cI:=run_storeCells_cells (P:=P) b (o+h.len*i.size) news 0 w (fun j hj=>by rw [Nat.add_zero,Nat.add_assoc]; exact (gk _ (by omega)).1) (fun j hj=>by rw [Nat.add_zero,Nat.add_assoc]; exact (gk _ (by omega)).2) h1
   rw [hv]
   simp [Builtin.append_,run_underlying ht,sizeOf,typeInfo,hi,Builtin.lenOf,wG,hf,Addr.add_lit]
   simp at cI
   rw [cI]
   rfl
 ·have hm:0<m:=by omega
  have Qz:Builtin.nextslicecap (h.len+m) h.cap≤2*(h.len+m):=nextslicecap_le (by omega)
  have JV:Builtin.nextslicecap (h.len+m) h.cap*i.bytes≤281474976710656:=by
   have:Builtin.nextslicecap (h.len+m) h.cap*i.bytes≤(2*(h.len+m))*i.bytes:=Nat.mul_le_mul_right _ Qz
   rw [Nat.mul_assoc] at this
   omega
  have yv:=grownCap_ge w (h.len+m) h.cap e
  have mT:(Builtin.firstCells i.size h.len h.val).run P w.drew = .ok olds.toArray w.drew:=by
   refine Fs pa (fun hp=>?_)
   cases ha:h.addr with
   | none=>have:=hn ha; omega
   | some a=>obtain ⟨b,o⟩:=a; exact ⟨b,o,by simp,(ho b o ha).1⟩
  refine .grow (grownCap w (h.len+m) h.cap e) (olds.toArray++(news.toArray++Builtin.zeroCells z.cells (grownCap w (h.len+m) h.cap e-(h.len+m)))) _ (JM w _ e) yv ?_ ⟨_,by simp; rfl⟩ ?_
  ·simp only [Array.size_append,List.size_toArray,size_zeroCells,mX,pa,hl]
   rw [← Nat.add_assoc,← Nat.add_mul,← Nat.add_mul]
   congr 1; omega
  ·have kF:¬ (h.len+m≤h.cap):=wG
   have QA:¬ (9223372036854775807<((h.len:Int)+(m:Int))):=by omega
   have QB:¬ (281474976710656<Builtin.nextslicecap (h.len+m) h.cap*i.bytes):=by omega
   have hv:h.val = .slice (h.addr.map fun p=>ad p.1 p.2) h.len h.cap:=rfl
   rw [hv] at mT ⊢
   simp [Builtin.append_,run_underlying ht,sizeOf,typeInfo,zeroValue,hi,hz,Builtin.lenOf,kF,QA,QB,Question.forced,CU,mT,newRow,grownCap]
end Go.Am
namespace Go.Am
open Go
section
variable {P:Program} {c:aP} {g:Gh} {L:bt} {w w':World} {U:Nat→Prop} {sr:St} {a:Act} {site:Nat} {o:Oper} {ρ:Type} {r:ρ} {k:bR→Option ρ} {σ:Src}
theorem CV {own:Bool} : ∀ (t:Ty) (q:Path) (i j:Nat) (x:t.T) (f:Nat→Option Value),ca g L w own σ t q i j x f→∀ k,k<t.size→∃ v,f k=some v∧v.oneCell'=true
 | .int _,q,i,j,x,f,h,k,hk=>by
  have:k=0:=by simp [Ty.size] at hk; exact hk
  subst this; exact ⟨_,h,rfl⟩
 | .bool,q,i,j,x,f,h,k,hk=>by
  have:k=0:=by simp [Ty.size] at hk; exact hk
  subst this; exact ⟨_,h,rfl⟩
 | .str,q,i,j,x,f,h,k,hk=>by
  have:k=0:=by simp [Ty.size] at hk; exact hk
  subst this; exact ⟨_,h,rfl⟩
 | .err,q,i,j,x,f,h,k,hk=>by
  have:k=0:=by simp [Ty.size] at hk; exact hk
  subst this
  obtain ⟨v,h1,h2⟩:=h
  refine ⟨v,h1,?_⟩
  rcases wo h2 with ⟨-,rfl⟩ | ⟨-,ti,x,rfl⟩<;>rfl
 | .bh _,q,i,j,x,f,h,k,hk=>by
  have:k=0:=by simp [Ty.size] at hk; exact hk
  subst this
  obtain ⟨v,h1,⟨_,_,_,rfl,-⟩,-⟩:=h
  exact ⟨_,h1,rfl⟩
 | .sl _,q,i,j,x,f,h,k,hk=>by
  have:k=0:=by simp [Ty.size] at hk; exact hk
  subst this
  cases own with
  | false=>obtain ⟨v,h1,_,_,_,rfl,-⟩:=h; exact ⟨_,h1,rfl⟩
  | true=>
   rcases h with ⟨_,_,_,-,h1,-⟩ | ⟨-,h1,-⟩
   ·exact ⟨_,h1,rfl⟩
   ·exact ⟨_,h1,rfl⟩
 | .pair s t,q,i,j,x,f,h,k,hk=>by
  by_cases hs:k<s.size
  ·exact CV s q i j x.1 f h.1 k hs
  ·obtain ⟨v,h1,h2⟩:=CV t q i (j+s.size) x.2 _ h.2 (k-s.size) (by simp [Ty.size] at hk; omega)
   exact ⟨v,by rw [show s.size+(k-s.size)=k by omega] at h1; exact h1,h2⟩
theorem CW {own:Bool} {lab:bt} : ∀ (t:Ty) (q:Path) (i j:Nat) (x:t.T) (b o:Nat),t.plain=true→Sh lab w t x b o→ca g L w own bC t q i j x (fun d=>w.cell? (ad b (o+d)))
 | .int _,q,i,j,x,b,o,hp,h=>h.1
 | .bool,q,i,j,x,b,o,hp,h=>h.1
 | .str,q,i,j,x,b,o,hp,h=>h.1
 | .err,q,i,j,x,b,o,hp,h=>h.1
 | .bh _,q,i,j,x,b,o,hp,h=>by simp [Ty.plain] at hp
 | .sl _,q,i,j,x,b,o,hp,h=>by simp [Ty.plain] at hp
 | .pair s t,q,i,j,x,b,o,hp,h=>by
  simp only [Ty.plain,Bool.and_eq_true] at hp
  refine ⟨CW s q i j x.1 b o hp.1 h.1,?_⟩
  have:ca g L w own bC t q i (j+s.size) x.2 (fun d=>w.cell? (ad b (o+s.size+d))):=CW t q i (j+s.size) x.2 b (o+s.size) hp.2 h.2
  simpa [Nat.add_assoc] using this
theorem CX {own qg:Bool} {id vr:Nat} {p:Path} : ∀ (t:Ty) (q:Path) (i j i' j':Nat) (x:t.T) (b o:Nat),t.plain=true→cQ g w qg id vr t b9 p i' j' x b o→ca g L w own bC t q i j x (fun d=>w.cell? (ad b (o+d)))
 | .int _,q,i,j,i',j',x,b,o,hp,h=>h
 | .bool,q,i,j,i',j',x,b,o,hp,h=>h
 | .str,q,i,j,i',j',x,b,o,hp,h=>h
 | .err,q,i,j,i',j',x,b,o,hp,h=>h
 | .bh _,q,i,j,i',j',x,b,o,hp,h=>by simp [Ty.plain] at hp
 | .sl _,q,i,j,i',j',x,b,o,hp,h=>by simp [Ty.plain] at hp
 | .pair s t,q,i,j,i',j',x,b,o,hp,h=>by
  simp only [Ty.plain,Bool.and_eq_true] at hp
  refine ⟨CX s q i j i' j' x.1 b o hp.1 h.1,?_⟩
  have:ca g L w own bC t q i (j+s.size) x.2 (fun d=>w.cell? (ad b (o+s.size+d))):=CX t q i (j+s.size) i' (j'+s.size) x.2 b (o+s.size) hp.2 h.2
  simpa [Nat.add_assoc] using this
theorem CY {lab:bt} (hL:∀ b o,lab b o=none→L b o=none):∀ (t:Ty) (q:Path) (i j:Nat) (x:t.T) (b o:Nat),Sh lab w t x b o→ca g L w false bC t q i j x (fun d=>w.cell? (ad b (o+d)))
 | .int _,q,i,j,x,b,o,h=>h.1
 | .bool,q,i,j,x,b,o,h=>h.1
 | .str,q,i,j,x,b,o,h=>h.1
 | .err,q,i,j,x,b,o,h=>h.1
 | .bh t,q,i,j,x,b,o,h=>by
  obtain ⟨⟨v,h1,h2,h3⟩,-⟩:=h
  exact ⟨v,h1,fK (eF (fun b o hl v hv=>⟨hv,hL b o hl⟩) t) h2,h3⟩
 | .sl t,q,i,j,x,b,o,h=>by
  obtain ⟨⟨v,h1,h2⟩,-⟩:=h
  exact ⟨v,h1,fK (eF (fun b o hl v hv=>⟨hv,hL b o hl⟩) t) h2⟩
 | .pair s t,q,i,j,x,b,o,h=>by
  refine ⟨CY hL s q i j x.1 b o h.1,?_⟩
  have:ca g L w false bC t q i (j+s.size) x.2 (fun d=>w.cell? (ad b (o+s.size+d))):=CY hL t q i (j+s.size) x.2 b (o+s.size) h.2
  simpa [Nat.add_assoc] using this
structure rR (g:Gh) (L:bt) (w:World) (own:Bool) (t:Ty) (i0:Nat) (vx:Value) (ys:List t.T) (v:List Nat) (σ:Src):Prop where
 sl:∃ xa xc,vx = .slice xa ys.length xc∧(0<ys.length→∃ b o,xa=some (ad b o)∧∀ k (hk:k<ys.length),ca g L w own σ t [] (i0+k) 0 ys[k] (fun d=>w.cell? (ad b (o+k*t.size+d))))
 kD:CN [] i0 ys.length σ
 tk:Tk v σ
theorem JW (hO:dR g w U sr) {x:af} {vx:Value} (hx:ay g w U x vx) {u:Ty} {xs:List u.T} (e:sr.list x=some ⟨u,xs⟩) :
  ∃ xa xc,vx = .slice xa xs.length xc∧(0<xs.length→∃ b o,xa=some (ad b o)∧∀ k (hk:k<xs.length),(Sh g.lab w u xs[k] b (o+k*u.size)∨∃ qg id vr p k',cQ g w qg id vr u b9 p k' 0 xs[k] b (o+k*u.size))):=by
 unfold St.list at e
 split at e
 ·simp only [Option.some.injEq] at e
  obtain ⟨rfl,e⟩:=Sigma.mk.inj e
  obtain rfl:=eq_of_heq e
  obtain ⟨a,len,cap,rfl,rfl,h2,h3,h4⟩:=hx
  refine ⟨a,cap,rfl,fun hp=>?_⟩
  obtain ⟨b,o,rfl,h5⟩:=h4 (List.ne_nil_of_length_pos hp)
  exact ⟨b,o,rfl,fun k hk=>.inl (h5 k hk)⟩
 ·simp only [Option.some.injEq] at e
  obtain ⟨rfl,e⟩:=Sigma.mk.inj e
  obtain rfl:=eq_of_heq e
  obtain ⟨⟨a,len,cap,rfl,rfl,h2,h3,h4⟩,-⟩:=hx
  refine ⟨a,cap,rfl,fun hp=>?_⟩
  obtain ⟨b,o,rfl,h5⟩:=h4 (List.ne_nil_of_length_pos hp)
  exact ⟨b,o,rfl,fun k hk=>.inl (h5 k hk)⟩
 ·rename_i id ver p tt
  obtain ⟨h1,h2,h3,h4,h5,rfl⟩:=hx
  obtain ⟨own,t,vr,kY,-,-,⟨r1,r2,r3,r4⟩,-⟩:=wq hO h5 h4 e
  refine ⟨_,_,by unfold Hd.val; rw [r1],fun hp=>?_⟩
  cases ha:(g.hd id ver p).addr with
  | none=>have:=r3 ha; omega
  | some q=>
   obtain ⟨b,o⟩:=q
   exact ⟨b,o,by simp,fun k hk=>.inr ⟨_,_,_,_,_,(r4 b o ha).2 k hk⟩⟩
 ·rename_i id ver p tt off len
  split at e
  ·rename_i u' ys hr
   split at e
   ·rename_i hb
    obtain rfl:=Ty.eq_of_beq hb
    simp only [Option.some.injEq] at e
    obtain ⟨rfl,e⟩:=Sigma.mk.inj e
    obtain rfl:=eq_of_heq e
    obtain ⟨h1,h2,h3,h4,h5,a,cp,rfl,h6,h7,h8,h9,wu⟩:=hx
    obtain ⟨own,t,vr,kY,-,-,⟨r1,r2,r3,r4⟩,-⟩:=wq hO h5 h4 hr
    have hlen:((ys.drop off).take len).length=len:=by simp; omega
    refine ⟨a,cp,by rw [hlen],fun hp=>?_⟩
    obtain ⟨b,o,ha,rfl⟩:=h9 (by omega)
    refine ⟨b,o+off*tt.size,rfl,fun k hk=>.inr ⟨own,id,vr,p,off+k,?_⟩⟩
    have:=(r4 b o ha).2 (off+k) (by omega)
    simp only [List.getElem_take,List.getElem_drop]
    rw [Nat.add_assoc,← Nat.add_mul]
    exact this
   ·simp at e
  ·simp at e
 ·simp at e
theorem Ft (hL:∀ b o,g.lab b o=none→L b o=none) {id vr:Nat} {p:Path} : ∀ (t:Ty) (q:Path) (i j i' j':Nat) (x:t.T) (b o:Nat),cQ g w false id vr t b9 p i' j' x b o→ca g L w false bC t q i j x (fun d=>w.cell? (ad b (o+d)))
 | .int _,q,i,j,i',j',x,b,o,h=>h
 | .bool,q,i,j,i',j',x,b,o,h=>h
 | .str,q,i,j,i',j',x,b,o,h=>h
 | .err,q,i,j,i',j',x,b,o,h=>h
 | .bh t,q,i,j,i',j',x,b,o,h=>by
  obtain ⟨v,h1,h2,h3⟩:=h
  exact ⟨v,h1,fK (eF (fun b o hl v hv=>⟨hv,hL b o hl⟩) t) h2,h3⟩
 | .sl t,q,i,j,i',j',x,b,o,h=>by
  obtain ⟨v,h1,h2⟩:=h
  exact ⟨v,h1,fK (eF (fun b o hl v hv=>⟨hv,hL b o hl⟩) t) h2⟩
 | .pair s t,q,i,j,i',j',x,b,o,h=>by
  refine ⟨Ft hL s q i j i' j' x.1 b o h.1,?_⟩
  have:ca g L w false bC t q i (j+s.size) x.2 (fun d=>w.cell? (ad b (o+s.size+d))):=Ft hL t q i (j+s.size) i' (j'+s.size) x.2 b (o+s.size) h.2
  simpa [Nat.add_assoc] using this
theorem QC (hO:dR g w U sr) {x:af} {vx:Value} (hx:ay g w U x vx) {t:Ty} {ys:List t.T} (e:sr.zV t x=some ys) :
  ∃ xa xc,vx = .slice xa ys.length xc∧(0<ys.length→∃ b o,xa=some (ad b o)∧∀ k (hk:k<ys.length),∃ id vr p k',cQ g w false id vr t b9 p k' 0 ys[k] b (o+k*t.size)):=by
 unfold St.zV at e
 split at e
 ·rename_i id ver tt off len
  split at e
  ·rename_i u0 vr0 kY ho
   split at e
   ·rename_i u xs hl
    obtain ⟨rfl,e⟩:=kC e
    obtain rfl:=eq_of_heq e
    unfold St.list at hl
    simp only at hl
    split at hl
    ·rename_i u' zs hr
     split at hl
     ·rename_i hb
      obtain rfl:=Ty.eq_of_beq hb
      simp only [Option.some.injEq] at hl
      obtain ⟨rfl,hl⟩:=Sigma.mk.inj hl
      obtain rfl:=eq_of_heq hl
      obtain ⟨h1,h2,h3,h4,h5,a,cp,rfl,h6,h7,h8,h9,wu⟩:=hx
      obtain ⟨own,t,vr,xs1,fL,-,⟨r1,r2,r3,r4⟩,-⟩:=wq hO h5 h4 hr
      have rO:own=false:=by
       rw [ho] at fL
       simp only [Option.some.injEq,cK.row.injEq] at fL
       exact fL.1.symm
      subst rO
      have hlen:((zs.drop off).take len).length=len:=by simp; omega
      refine ⟨a,cp,by rw [hlen],fun hp=>?_⟩
      obtain ⟨b,o,ha,rfl⟩:=h9 (by omega)
      refine ⟨b,o+off*tt.size,rfl,fun k hk=>⟨id,vr,[],off+k,?_⟩⟩
      have:=(r4 b o ha).2 (off+k) (by omega)
      simp only [List.getElem_take,List.getElem_drop]
      rw [Nat.add_assoc,← Nat.add_mul]
      exact this
     ·simp at hl
    ·simp at hl
   ·simp at e
  ·simp at e
 ·simp at e
theorem yw (hO:dR g w U sr) (hL:∀ b o,g.lab b o=none→L b o=none) {own:Bool} {t:Ty} {x:af} {vx:Value} (hx:ay g w U x vx) {ys:List t.T} {v:List Nat} (i0:Nat)
  (eY:own=false→∀ id∈v,∀ b o p,g.lab b o=some (id,p)→L b o=none) (e:sr.tail own t x=some (ys,v)) :
  (∀ id∈v,sr.obj id≠none)∧∃ σ,rR g L w own t i0 vx ys v σ:=by
 have QD:∀ {u:Ty} {xs:List u.T},t.plain=true→sr.list x=some ⟨u,xs⟩→Ty.cast (.sl u) (.sl t) xs=some ys→v=[]→(∀ id∈v,sr.obj id≠none)∧∃ σ,rR g L w own t i0 vx ys v σ:=by
  intro u xs hp hl Fu hv
  subst hv
  obtain ⟨rfl,Fu⟩:=kC Fu
  obtain rfl:=eq_of_heq Fu
  obtain ⟨xa,xc,h1,h2⟩:=JW hO hx hl
  refine ⟨by simp,bC,⟨xa,xc,h1,fun fM=>?_⟩,fun p hp=>absurd rfl hp,.none⟩
  obtain ⟨b,o,h3,h4⟩:=h2 fM
  refine ⟨b,o,h3,fun k hk=>?_⟩
  rcases h4 k hk with h5 | ⟨qg,id,vr,p,k',h5⟩
  ·exact CW _ [] _ 0 _ b _ hp h5
  ·exact CX _ [] _ 0 _ _ _ b _ hp h5
 have JX:∀ {xs:List t.T} {r:List af},take sr own 50 (.sl t) [x]=some (xs,r,v)→xs=ys→(∀ id∈v,sr.obj id≠none)∧∃ σ,rR g L w own t i0 vx ys v σ:=by
  intro xs r he iK
  subst iK
  cases x with
  | nil=>
   simp only [take] at he
   obtain ⟨rfl,rfl,rfl⟩:=gF he
   obtain rfl:=hx
   exact ⟨by simp,bC,⟨none,0,rfl,fun hp=>absurd hp (by simp)⟩,fun p hp=>absurd rfl hp,.none⟩
  | sh u zs=>
   cases own with
   | true=>simp [take] at he
   | false=>
    simp only [take] at he
    split at he
    ·rename_i ys hz
     obtain ⟨rfl,rfl,rfl⟩:=gF he
     obtain ⟨rfl,hz⟩:=kC hz
     obtain rfl:=eq_of_heq hz
     obtain ⟨a,len,cap,rfl,rfl,h2,h3,h4⟩:=hx
     refine ⟨by simp,bC,⟨a,cap,rfl,fun hp=>?_⟩,fun p hp=>absurd rfl hp,.none⟩
     obtain ⟨b,o,rfl,h5⟩:=h4 (List.ne_nil_of_length_pos hp)
     exact ⟨b,o,rfl,fun k hk=>CY hL _ _ _ _ _ _ _ (h5 k hk)⟩
    ·simp at he
  | dW id off len sz=>
   cases off with
   | succ off=>simp [take] at he
   | zero=>
    simp only [take] at he
    split at he
    ·rename_i ro c_ ho
     split at he
     ·rename_i hb
      rw [Bool.and_eq_true] at hb
      obtain ⟨g_,cS⟩:=hb
      obtain rfl:=Nat.eq_of_beq_eq_true g_
      have cS:=Nat.eq_of_beq_eq_true cS
      split at he
      ·rename_i ys u' e'
       obtain ⟨rfl,rfl,rfl⟩:=gF he
       obtain ⟨-,-,a,cc,rfl,wz,eg,b,o,ha,jc⟩:=hx
       obtain ⟨b',o',hh,cn,k_⟩:=tT hO ho
       have jc:=jc (.inr rfl)
       rw [hh] at ha eg
       simp only [Option.some.injEq,Prod.mk.injEq] at ha
       obtain ⟨rfl,rfl⟩:=ha
       simp only [Nat.zero_add,Nat.zero_mul,Nat.add_zero] at eg jc
       have fM:=t.size_pos
       obtain rfl:cc=len:=Nat.eq_of_mul_eq_mul_right fM (by rw [eg,cS])
       subst jc
       obtain ⟨b1,b2,wA,T⟩:=(yn hO hL own 49).2 t cc c_ ys u' _ [] i0 k_ e' (fun ho id hi=>eY ho id (List.mem_cons_of_mem _ hi))
       refine ⟨fun aq hi=>?_,wA,⟨some (ad b' o'),cc,by rw [T.len],fun hp=>⟨b',o',rfl,fun k hk=>?_⟩⟩,?_,?_,?_⟩
       ·rcases List.mem_cons.1 hi with rfl | hi
        ·rw [ho]; simp
        ·exact b1 _ hi
       ·have:=T.ow k hk
        simpa [Nat.add_assoc] using this
       ·rw [T.len]; exact T.kD
       ·intro p aq p' h he
        exact List.mem_cons_of_mem _ (T.tk.ids _ _ _ _ he)
       ·intro hn
        exact T.tk.inj (List.nodup_cons.1 hn).2
      ·simp at he
     ·simp at he
    ·simp at he
  | own id ver p tt=>
   cases p with
   | cons q p=>simp [take] at he
   | nil=>
    simp only [take] at he
    split at he
    ·rename_i o u' vr ja ho
     split at he
     ·simp at he
     ·rename_i rO
      split at he
      ·rename_i ys hz
       obtain ⟨rfl,rfl,rfl⟩:=gF he
       obtain ⟨rfl,hz⟩:=kC hz
       obtain rfl:=eq_of_heq hz
       obtain ⟨-,-,-,-,mV,rfl⟩:=hx
       obtain rfl:=mV rfl
       obtain ⟨-,-,-,hR⟩:=hO id _ ho
       obtain ⟨r1,r2,r3,r4⟩:=hR
       have rS:0<ja.length→∃ b o,(g.hd id 0 []).addr=some (b,o):=by
        intro hp
        cases ha:(g.hd id 0 []).addr with
        | none=>have:=r3 ha; omega
        | some q=>exact ⟨_,_,rfl⟩
       cases own with
       | true=>
        have fL:o=true:=by cases o<;>simp_all
        subst fL
        let σ:Src:=fun p=>match p with | []=>none | (k',j)::s=>if i0≤k'∧k'<i0+ja.length then some (id,(k'-i0,j)::s,g.hd id vr ((k'-i0,j)::s)) else none
        refine ⟨by simp [ho],σ,⟨_,_,by unfold Hd.val; rw [r1],fun hp=>?_⟩,?_,?_,?_⟩
        ·obtain ⟨b,o,ha⟩:=rS hp
         obtain ⟨r5,r6⟩:=r4 b o ha
         refine ⟨b,o,by simp [ha],fun k hk=>lX hL u' [] [] k 0 (i0+k) 0 _ b _ (fun _ d s hd=>?_) (r6 k hk)⟩
         simp only [List.nil_append,σ]
         rw [if_pos (by omega)]
         have:i0+k-i0=k:=by omega
         rw [this]
        ·intro p hp
         cases p with
         | nil=>simp [σ] at hp
         | cons q s=>
          obtain ⟨k',j⟩:=q
          simp only [σ] at hp
          split at hp
          ·rename_i hk; exact ⟨k'-i0,j,s,by omega,by simp; omega⟩
          ·simp at hp
        ·intro p aq p' h e1
         cases p with
         | nil=>simp [σ] at e1
         | cons q s=>
          simp only [σ] at e1
          split at e1
          ·simp at e1; simp [e1.1]
          ·simp at e1
        ·intro _ p1 p2 aq p' h1 h2 e1 e2
         cases p1 with
         | nil=>simp [σ] at e1
         | cons q1 s1=>
          cases p2 with
          | nil=>simp [σ] at e2
          | cons q2 s2=>
           obtain ⟨k1,j1⟩:=q1
           obtain ⟨k2,j2⟩:=q2
           simp only [σ] at e1 e2
           split at e1
           ·split at e2
            ·simp only [Option.some.injEq,Prod.mk.injEq] at e1 e2
             have e3:=e1.2.1.trans e2.2.1.symm
             simp at e3
             obtain ⟨⟨e4,rfl⟩,rfl⟩:=e3
             have:k1=k2:=by omega
             subst this; rfl
            ·simp at e2
           ·simp at e1
       | false=>
        have hd:=eY rfl id (by simp)
        refine ⟨by simp [ho],bC,⟨_,_,by unfold Hd.val; rw [r1],fun hp=>?_⟩,fun p hp=>absurd rfl hp,.none⟩
        obtain ⟨b,o,ha⟩:=rS hp
        obtain ⟨r5,r6⟩:=r4 b o ha
        refine ⟨b,o,by simp [ha],fun k hk=>CY (lab:=L) (fun _ _ h=>h) _ _ _ _ _ b _ (wx hL hd u' _ k 0 _ b _ (fun d fx=>?_) (r6 k hk))⟩
        have hle:(k+1)*u'.size≤(g.hd id 0 []).cap*u'.size:=Nat.mul_le_mul_right _ (by omega)
        rw [Nat.add_mul] at hle
        obtain ⟨a1,-,-⟩:=r5 (k*u'.size+d) (by omega)
        exact ⟨_,by rw [Nat.add_assoc]; exact a1⟩
      ·simp at he
    ·simp at he
  | _=>simp [take] at he
 have JY:(match t.plain with
  | true=>match sr.list x with
   | some ⟨u,xs⟩=>match Ty.cast (.sl u) (.sl t) xs with | some ys=>some (ys,[]) | none=>none
   | none=>none
  | false=>ER own (sr.zV t x) (match take sr own 50 (.sl t) [x] with | some (xs,_,u)=>some (xs,u) | none=>none))=some (ys,v)→(∀ id∈v,sr.obj id≠none)∧∃ σ,rR g L w own t i0 vx ys v σ:=by
  intro e
  split at e
  ·rename_i hp
   split at e
   ·rename_i u xs hl
    split at e
    ·rename_i zs hz
     simp only [Option.some.injEq,Prod.mk.injEq] at e
     obtain ⟨rfl,rfl⟩:=e
     exact QD hp hl hz rfl
    ·simp at e
   ·simp at e
  ·have hT:(match take sr own 50 (.sl t) [x] with | some (xs,_,u)=>some (xs,u) | none=>none)=some (ys,v)→(∀ id∈v,sr.obj id≠none)∧∃ σ,rR g L w own t i0 vx ys v σ:=by
    intro e
    split at e
    ·rename_i xs r u he
     have e:=Prod.mk.inj (Option.some.inj e)
     obtain ⟨h1,rfl⟩:=e
     exact JX he h1
    ·simp at e
   cases Fv:sr.zV t x with
   | none=>
    rw [Fv] at e
    exact hT (by unfold ER at e; cases own<;>exact e)
   | some zs=>
    rw [Fv] at e
    cases own with
    | true=>exact hT e
    | false=>
     have e:some (zs,([]:List Nat))=some (ys,v):=e
     have e:=Prod.mk.inj (Option.some.inj e)
     obtain ⟨rfl,rfl⟩:=e
     obtain ⟨xa,xc,h1,h2⟩:=QC hO hx Fv
     refine ⟨by simp,bC,⟨xa,xc,h1,fun fM=>?_⟩,fun p hp=>absurd rfl hp,.none⟩
     obtain ⟨b,o,h3,h4⟩:=h2 fM
     refine ⟨b,o,h3,fun k hk=>?_⟩
     obtain ⟨id,vr,p,k',h5⟩:=h4 k hk
     exact Ft hL _ [] _ 0 _ _ _ b _ h5
 cases x with
 | nil=>
  simp only [St.tail,Option.some.injEq,Prod.mk.injEq] at e
  obtain ⟨rfl,rfl⟩:=e
  obtain rfl:=hx
  exact ⟨by simp,bC,⟨none,0,rfl,fun hp=>absurd hp (by simp)⟩,fun p hp=>absurd rfl hp,.none⟩
 | dW id off len sz=>
  cases off with
  | zero=>
   simp only [St.tail] at e
   split at e
   ·rename_i xs r u he
    have e:=Prod.mk.inj (Option.some.inj e)
    obtain ⟨h1,rfl⟩:=e
    exact JX he h1
   ·simp at e
  | succ off=>exact JY e
 | _=>exact JY e
end
end Go.Am
namespace Go.Am
open Go
def lh (w:World) (b o n:Nat):List Value:=(List.range n).map fun k=>(w.cell? (ad b (o+k))).getD undef
section
variable {P:Program} {c:aP} {g:Gh} {L:bt} {w w':World} {U:Nat→Prop} {sr:St} {a:Act} {site:Nat} {o:Oper} {ρ:Type} {r:ρ} {k:bR→Option ρ} {σ:Src}
theorem Fw {b o n:Nat} {k:Nat} {v:Value} (h:(lh w b o n)[k]? = some v) (hs:(w.cell? (ad b (o+k))).isSome=true):w.cell? (ad b (o+k))=some v∧k<n:=by
 simp only [lh,List.getElem?_map] at h
 obtain ⟨j,h1,h2⟩:=Option.map_eq_some_iff.1 h
 have h3:=List.getElem?_eq_some_iff.1 h1
 obtain ⟨h4,h5⟩:=h3
 simp at h4 h5
 subst h5
 obtain ⟨u,hu⟩:=Option.isSome_iff_exists.1 hs
 rw [hu] at h2 ⊢
 simp at h2; subst h2
 exact ⟨rfl,h4⟩
theorem CZ {σ τ:Src} : ∀ (t:Ty) (q:Path) (i j:Nat) (x:t.T) (f:Nat→Option Value),ca g L w false σ t q i j x f→ca g L w false τ t q i j x f
 | .int _,_,_,_,_,_,h=>h
 | .bool,_,_,_,_,_,h=>h
 | .str,_,_,_,_,_,h=>h
 | .err,_,_,_,_,_,h=>h
 | .bh _,_,_,_,_,_,h=>h
 | .sl _,_,_,_,_,_,h=>h
 | .pair s t,q,i,j,x,f,h=>⟨CZ s q i j x.1 f h.1,CZ t q i (j+s.size) x.2 _ h.2⟩
theorem JZ {own:Bool} {u:Ty} {xs:List u.T} {i0 b o:Nat} (h:∀ k (hk:k<xs.length),ca g L w own σ u [] (i0+k) 0 xs[k] (fun d=>w.cell? (ad b (o+k*u.size+d)))) :
  ∀ j,j<xs.length*u.size→∃ v,w.cell? (ad b (o+j))=some v∧v.oneCell'=true:=by
 intro j hj
 have hp:=u.size_pos
 have hk:j / u.size<xs.length:=by rw [Nat.div_lt_iff_lt_mul hp]; exact hj
 obtain ⟨v,h1,h2⟩:=CV u [] _ 0 _ _ (h (j / u.size) hk) (j % u.size) (Nat.mod_lt _ hp)
 refine ⟨v,?_,h2⟩
 have:o+j / u.size*u.size+j % u.size=o+j:=by rw [Nat.add_assoc,Nat.mul_comm,Nat.div_add_mod]
 rwa [this] at h1
structure Fx (g:Gh) (w:World) (U:Nat→Prop) (site:Nat) (own:Bool) (u:Ty) (zs:List u.T) (D:Nat→Path→Prop) (Ho:Nat→Path→Hd) (v:Value) (w':World) (g':Gh):Prop where
 val:v=(g'.hd (site*1024) 0 []).val
 row:dC g' w' own (site*1024) 0 site u b9 [] zs
 gh:∀ T:Nat→Prop,(∀ id p,D id p→T id)→du T g w U g' w' (U' U site)
 fH:∀ b o id p,g.lab b o=some (id,p)→¬ D id p→g'.lab b o=some (id,p)∧w'.cell? (ad b o)=w.cell? (ad b o)∧w'.frozen? (ad b o)=w.frozen? (ad b o)
 C_:∀ id p,id≠site*1024→g'.hd id site p=Ho id p
 bB:∀ b o q,g'.lab b o=some q→b<w'.heap.size
 bP:∀ b o q,b<w.heap.size→g'.lab b o=some q→g.lab b o≠none
 fr:Fr (qf g) w w'
theorem C0 (S:cB P c g w U sr a) (hs:¬ U site) {t ty:Nat} (hk:(c.ti t).kind = .slice) (iM:0<(c.ti (c.ti t).elem).bytes) {u:Ty} (aX:(c.ti (c.ti t).elem).size=u.size) {own:Bool} {h:Hd} {xs ys:List u.T} {vx:Value} {v:List Nat} {σ0 dn:Src}
  {Do:Nat→Path→Prop} (Ho:Nat→Path→Hd)
  (hlen:h.len=xs.length) (eK:h.len≤h.cap) (qk:h.addr=none→h.cap=0)
  (gk:∀ b o,h.addr=some (b,o)→∀ k,k<h.cap*u.size→(w.cell? (ad b (o+k))).isSome=true∧w.frozen? (ad b (o+k))=false∧∃ id p,g.lab b (o+k)=some (id,p)∧Do id p∧∀ q h',σ0 q≠some (id,p,h'))
  (hold:∀ b o,h.addr=some (b,o)→∀ k (hk:k<xs.length),ca g L w own σ0 u [] k 0 xs[k] (fun d=>w.cell? (ad b (o+k*u.size+d))))
  (lj:∀ q id p h',σ0 q=some (id,p,h')→Do id p) (QE:∀ q q' id p h1 h2,σ0 q=some (id,p,h1)→σ0 q'=some (id,p,h2)→q=q') (J_:CN [] 0 xs.length σ0)
  (hT:rR g L w own u xs.length vx ys v dn) (yx:∀ id∈v,∀ p,¬ Do id p) (dw:v.Nodup) (yy:own=false→(∀ q,σ0 q=none)∧∀ q,dn q=none)
  (yz:∀ b o,L b o=none→g.lab b o=none∨(own=false∧∃ id p,g.lab b o=some (id,p)∧id∈v))
  (l9:(xs.length+ys.length)*(c.ti (c.ti t).elem).bytes≤aW) (pb:∀ id p,Do id p→id / 1024≠19) :
  ∃ v' w' g',(Builtin.append_ #[t,t] ty #[h.val,vx]).run P w = .ok v' w'∧Fx g w U site own u (xs++ys) (fun id p=>Do id p∨id∈v) Ho v' w' g':=by
 have h0:site≠0:=by rintro rfl; exact hs S.u0
 have hd:=o8 S.aV hk
 have hp:=u.size_pos
 have yA:=kZ S.aV (t:=(c.ti t).elem) (.inl (by omega))
 obtain ⟨z,hz,hr,hv,ti,lf,rQ,eN,qm⟩:=wF yA
 have wH:ti.size=u.size:=by rw [eN,aX]
 obtain ⟨xa,xc,rfl,yB⟩:=hT.sl
 obtain ⟨news,mY,yg,CJ⟩:∃ news:List Value,news.length=ys.length*u.size∧(0<ys.length→∃ b o,xa=some (ad b o)∧(∀ j u',news[j]? = some u'→w.cell? (ad b (o+j))=some u')∧∀ k (hk:k<ys.length),ca g L w own dn u [] (xs.length+k) 0 ys[k] (fun d=>w.cell? (ad b (o+k*u.size+d))))∧∀ y∈news,y.oneCell'=true:=by
  rcases Nat.eq_zero_or_pos ys.length with hy | hy
  ·exact ⟨[],by simp [hy],fun h=>by omega,by simp⟩
  ·obtain ⟨b,o,e1,e2⟩:=yB hy
   have e3:=JZ e2
   refine ⟨lh w b o (ys.length*u.size),by simp [lh],fun _=>⟨b,o,e1,fun j u' hj=>?_,e2⟩,fun y hy=>?_⟩
   ·have ao:j<ys.length*u.size:=by
     have:=(List.getElem?_eq_some_iff.1 hj).1
     simpa [lh] using this
    obtain ⟨v,hv,-⟩:=e3 j ao
    exact (Fw hj (by rw [hv]; rfl)).1
   ·obtain ⟨j,hj,hy⟩:=List.mem_iff_getElem.1 hy
    simp only [lh,List.length_map,List.length_range] at hj
    obtain ⟨v,hv,h1⟩:=e3 j hj
    simp only [lh,List.getElem_map,List.getElem_range,hv,Option.getD_some] at hy
    rw [← hy]; exact h1
 obtain ⟨olds,pa,fy⟩:∃ olds:List Value,olds.length=h.len*u.size∧∀ b o,h.addr=some (b,o)→∀ j u',olds[j]? = some u'→w.cell? (ad b (o+j))=some u':=by
  cases ha:h.addr with
  | none=>have:=qk ha; exact ⟨[],by rw [show h.len=0 by omega]; simp,by simp⟩
  | some q=>
   obtain ⟨b,o⟩:=q
   refine ⟨lh w b o (h.len*u.size),by simp [lh],fun b' o' hb j u' hj=>?_⟩
   simp only [Option.some.injEq,Prod.mk.injEq] at hb
   obtain ⟨rfl,rfl⟩:=hb
   have ao:j<h.len*u.size:=by
    have:=(List.getElem?_eq_some_iff.1 hj).1
    simpa [lh] using this
   have hle:h.len*u.size≤h.cap*u.size:=Nat.mul_le_mul_right _ eK
   exact (Fw hj (gk b o ha j (by omega)).1).1
 have Ay:=JU (P:=P) (w:=w) (ty:=ty) (h:=h) (olds:=olds) (news:=news) (xa:=xa) (m:=ys.length) (xc:=xc) hd lf rQ (by rw [hz,eN]) (by rw [qm]; exact iM) eK qk (by rw [wH]; exact pa)
  (fun b o hb=>⟨fy b o hb,fun k hk=>by rw [wH] at hk; exact ⟨(gk b o hb k hk).1,(gk b o hb k hk).2.1⟩⟩) (by rw [wH]; exact mY) (fun hy=>let ⟨b,o,e1,e2,_⟩:=yg hy; ⟨b,o,e1,e2⟩) CJ (by rw [hlen,qm]; exact l9)
 rw [wH] at Ay
 have dS:∀ q id p h',fk σ0 dn q=some (id,p,h')→(Do id p∨id∈v)∧∀ q' tZ,fk σ0 dn q'=some (id,p,tZ)→q'=q:=by
  intro q id p h' e
  rcases nO e with e | ⟨-,e⟩
  ·refine ⟨.inl (lj _ _ _ _ e),fun q' tZ e'=>?_⟩
   rcases nO e' with e' | ⟨-,e'⟩
   ·exact QE _ _ _ _ _ _ e' e
   ·exact absurd (lj _ _ _ _ e) (yx _ (hT.tk.ids _ _ _ _ e') _)
  ·refine ⟨.inr (hT.tk.ids _ _ _ _ e),fun q' tZ e'=>?_⟩
   rcases nO e' with e' | ⟨-,e'⟩
   ·exact absurd (lj _ _ _ _ e') (yx _ (hT.tk.ids _ _ _ _ e) _)
   ·exact hT.tk.inj dw _ _ _ _ _ _ e' e
 have l8:∀ b o,h.addr=some (b,o)→∀ k,k<h.cap*u.size→∃ id p,g.lab b (o+k)=some (id,p)∧Do id p∧∀ q h',fk σ0 dn q≠some (id,p,h'):=by
  intro b o hb k hk
  obtain ⟨-,-,id,p,e1,e2,e3⟩:=gk b o hb k hk
  refine ⟨id,p,e1,e2,fun q h' e=>?_⟩
  rcases nO e with e | ⟨-,e⟩
  ·exact e3 _ _ e
  ·exact yx _ (hT.tk.ids _ _ _ _ e) _ e2
 have qo:∀ k d s,k<xs.length→fk σ0 dn ((k,d)::s)=σ0 ((k,d)::s):=by
  intro k d s hk
  unfold fk
  split
  ·rename_i x hx; exact hx.symm
  ·rename_i hx
   rw [hx]
   cases e:dn ((k,d)::s) with
   | none=>rfl
   | some y=>
    obtain ⟨k',d',s',-,he⟩:=hT.kD _ (by rw [e]; simp)
    simp at he; omega
 have C1:∀ k d s,fk σ0 dn ((xs.length+k,d)::s)=dn ((xs.length+k,d)::s):=by
  intro k d s
  unfold fk
  split
  ·rename_i y hx
   obtain ⟨k',d',s',bL,he⟩:=J_ _ (by rw [hx]; simp)
   simp at he; omega
  ·rfl
 have av:fk σ0 dn []=none:=by
  cases e:fk σ0 dn [] with
  | none=>rfl
  | some y=>
   rcases nO e with e | ⟨-,e⟩
   ·obtain ⟨_,_,_,_,he⟩:=J_ _ (by rw [e]; simp)
    simp at he
   ·obtain ⟨_,_,_,_,he⟩:=hT.kD _ (by rw [e]; simp)
    simp at he
 let D:Nat→Path→Prop:=fun id p=>Do id p∨id∈v
 let H:Nat→Path→Hd:=fun id p=>if id=site*1024 then (match fk σ0 dn p with | some (_,_,h)=>h | none=>c8) else Ho id p
 have fin:∀ (h':Hd) (Rt:Nat→Nat→Prop) (w':World),h'.len=xs.length+ys.length→h'.len≤h'.cap→(h'.addr=none→h'.cap=0)→
   (∀ b o,Rt b o→b<w'.heap.size∧(b<w.heap.size→g.lab b o≠none))→w.heap.size≤w'.heap.size→Fr (qf g) w w'→
   (∀ b o,g.lab b o=none→∀ v,w.cell? (ad b o)=some v→w'.cell? (ad b o)=some v∧¬ Rt b o)→
   (∀ b o id p,g.lab b o=some (id,p)→(¬ Do id p∨∃ q tZ,fk σ0 dn q=some (id,p,tZ))→¬ Rt b o∧w'.cell? (ad b o)=w.cell? (ad b o)∧w'.frozen? (ad b o)=w.frozen? (ad b o))→
   (∀ b o,h'.addr=some (b,o)→(∀ k,k<h'.cap*u.size→Rt b (o+k)∧(w'.cell? (ad b (o+k))).isSome=true∧w'.frozen? (ad b (o+k))=false)∧
    (∀ k,k<xs.length*u.size→∀ b0 o0,h.addr=some (b0,o0)→w'.cell? (ad b (o+k))=w.cell? (ad b0 (o0+k)))∧
    (∀ k,k<ys.length*u.size→w'.cell? (ad b (o+xs.length*u.size+k))=news[k]?))→
   Fx g w U site own u (xs++ys) D Ho h'.val w' (gj g site (fun _ _=>h') H (gJ D (site*1024) (fk σ0 dn) Rt g.lab)):=by
  intro h' Rt w' a1 a2 a3 a4 a5 a6 a7 a8 a9
  refine ⟨by rw [qi h0],?_,fun T QF=>?_,fun b o id p e rT=>?_,fun id p QG=>?_,fun b o q e=>?_,fun b o q hb e=>?_,a6⟩
  ·refine Aw (w:=w) (L:=L) (h0:=h') _ rfl (qi h0 _) (fun q id p hh e=>?_) (fun q hq e=>?_) (fun q id p hh e=>?_) (fun b o hl v hv=>?_) (by rw [a1]; simp) a2 a3 (fun b o hb=>(a9 b o hb).1) (fun b o hb k hk=>?_)
   ·simp only [H,if_true]; rw [e]
   ·simp only [H,if_true]; rw [e]
   ·exact ⟨(dS _ _ _ _ e).1,(dS _ _ _ _ e).2,fun b o hl=>a8 b o id p hl (.inr ⟨_,_,e⟩)⟩
   ·rcases yz b o hl with jH | ⟨Fy,id,p,jH,hid⟩
    ·obtain ⟨b1,b2⟩:=a7 b o jH v hv
     exact ⟨b1,yu jH b2⟩
    ·obtain ⟨b1,b2,b3⟩:=a8 b o id p jH (.inl (yx id hid p))
     refine ⟨by rw [b2]; exact hv,JR jH b1 (.inr hid) (fun q hh e=>?_)⟩
     obtain ⟨f0,f1⟩:=yy Fy
     rcases nO e with e | ⟨-,e⟩
     ·rw [f0] at e; simp at e
     ·rw [f1] at e; simp at e
   ·obtain ⟨b1,b2,b3⟩:=a9 b o hb
    by_cases C2:k<xs.length
    ·rw [List.getElem_append_left C2]
     have rS:∃ b0 o0,h.addr=some (b0,o0):=by
      cases ha:h.addr with
      | none=>have:=qk ha; omega
      | some q=>exact ⟨_,_,rfl⟩
     obtain ⟨b0,o0,ha⟩:=rS
     refine mU u [] k 0 _ _ (fun d s hd=>by simpa using qo k (0+d) s C2) (gi u [] k 0 _ _ _ (fun d hd=>?_) (hold b0 o0 ha k C2))
     have hle:(k+1)*u.size≤xs.length*u.size:=Nat.mul_le_mul_right _ C2
     rw [Nat.add_mul] at hle
     rw [Nat.add_assoc,b2 (k*u.size+d) (by omega) b0 o0 ha,Nat.add_assoc]
    ·rw [List.getElem_append_right (by omega)]
     have J0:k-xs.length<ys.length:=by simp at hk; omega
     obtain ⟨bx,ox,e1,e2,e3⟩:=yg (by omega)
     have e4:=e3 (k-xs.length) J0
     rw [show xs.length+(k-xs.length)=k by omega] at e4
     refine mU u [] k 0 _ _ (fun d s hd=>by
      have:=C1 (k-xs.length) (0+d) s
      rw [show xs.length+(k-xs.length)=k by omega] at this
      simpa using this) (gi u [] k 0 _ _ _ (fun d hd=>?_) e4)
     have hle:(k-xs.length+1)*u.size≤ys.length*u.size:=Nat.mul_le_mul_right _ J0
     rw [Nat.add_mul] at hle
     have hmul:k*u.size=xs.length*u.size+(k-xs.length)*u.size:=by rw [← Nat.add_mul]; congr 1; omega
     have b4:=b3 ((k-xs.length)*u.size+d) (by omega)
     have ao:(k-xs.length)*u.size+d<news.length:=by rw [mY]; omega
     rw [show o+k*u.size+d=o+xs.length*u.size+((k-xs.length)*u.size+d) by omega,b4,List.getElem?_eq_getElem ao]
     have:=e2 _ _ (List.getElem?_eq_getElem ao)
     rw [show ox+(k-xs.length)*u.size+d=ox+((k-xs.length)*u.size+d) by omega]
     exact this.symm
  ·refine Av hs a7 (fun b o id p e qh=>?_)
   have rT:¬ D id p:=fun hD=>qh (QF id p hD)
   obtain ⟨c1,c2,c3⟩:=a8 b o id p e (.inl (fun Fz=>rT (.inl Fz)))
   exact ⟨rT,c1,c2,c3⟩
  ·obtain ⟨c1,c2,c3⟩:=a8 b o id p e (.inl (fun Fz=>rT (.inl Fz)))
   exact ⟨JQ e c1 rT,c2,c3⟩
  ·rw [Fl]; simp [H,QG]
  ·rcases qj e with e | e
   ·exact (a4 b o e).1
   ·cases e2:g.lab b o with
    | none=>exact absurd e2 e
    | some q=>have:=S.bB _ _ _ e2; omega
  ·rcases qj e with e | e
   ·exact (a4 b o e).2 hb
   ·exact e
 rcases Ay with ⟨b,o,ha,wG,cx⟩ | ⟨ha,hm,hl0,cx⟩ | ⟨cap,arr,w',B,nS,J1,⟨rest,Az⟩,cx⟩
 ·
  have bV:∀ b' o',(b'=b∧o≤o'∧o'<o+h.cap*u.size)→∃ id p,g.lab b' o'=some (id,p)∧Do id p∧∀ q h',fk σ0 dn q≠some (id,p,h'):=by
   rintro b' o' ⟨rfl,h1,h2⟩
   have:=l8 b' o ha (o'-o) (by omega)
   rwa [show o+(o'-o)=o' by omega] at this
  have Qy:h.len*u.size+news.length≤h.cap*u.size:=by rw [mY,← Nat.add_mul]; exact Nat.mul_le_mul_right _ wG
  have fU:∀ b' o',¬ (b'=b∧o+h.len*u.size≤o'∧o'<o+h.len*u.size+news.length)→(w.setCells b (o+h.len*u.size) news).cell? (ad b' o')=w.cell? (ad b' o'):=by
   intro b' o' hn
   refine World.cell?_setCells_out b news _ w _ (fun hb _=>?_)
   simp only at hb ⊢
   rcases Nat.lt_or_ge o' (o+h.len*u.size) with h1 | h1
   ·exact .inl h1
   ·rcases Nat.lt_or_ge o' (o+h.len*u.size+news.length) with h2 | h2
    ·exact absurd ⟨hb,h1,h2⟩ hn
    ·exact .inr h2
  have yC:Fr (qf g) w (w.setCells b (o+h.len*u.size) news):=by
   refine rP b news _ w (fun k hk=>?_)
   obtain ⟨id,p,e,e1,-⟩:=bV b (o+h.len*u.size+k) ⟨rfl,by omega,by omega⟩
   exact ⟨id,p,e,pb id p e1⟩
  have rU:=fin ⟨some (b,o),h.len+ys.length,h.cap⟩ (fun b' o'=>b'=b∧o≤o'∧o'<o+h.cap*u.size) _ (by rw [hlen]) wG (by simp)
   (fun b' o' hR=>by
    obtain ⟨id,p,e,-⟩:=bV b' o' hR
    exact ⟨Nat.lt_of_lt_of_le (S.bB _ _ _ e) yC.size,fun _=>by rw [e]; simp⟩) yC.size yC
   (fun b' o' hl v hv=>by
    have AA:¬ (b'=b∧o≤o'∧o'<o+h.cap*u.size):=fun hR=>by
     obtain ⟨id,p,e,-⟩:=bV b' o' hR
     rw [e] at hl; simp at hl
    exact ⟨by rw [fU b' o' (fun hh=>AA ⟨hh.1,by omega,by omega⟩)]; exact hv,AA⟩)
   (fun b' o' id p hl hD=>by
    have AA:¬ (b'=b∧o≤o'∧o'<o+h.cap*u.size):=fun hR=>by
     obtain ⟨aq,p',e,e1,e2⟩:=bV b' o' hR
     rw [e] at hl
     simp only [Option.some.injEq,Prod.mk.injEq] at hl
     obtain ⟨rfl,rfl⟩:=hl
     rcases hD with hD | ⟨q,tZ,e3⟩
     ·exact hD e1
     ·exact e2 _ _ e3
    exact ⟨AA,fU b' o' (fun hh=>AA ⟨hh.1,by omega,by omega⟩),World.frozen?_setCells b news _ w _⟩)
   (fun b' o' hb=>by
    simp only [Option.some.injEq,Prod.mk.injEq] at hb
    obtain ⟨rfl,rfl⟩:=hb
    have J2:∀ m,m<news.length→(w.cell? (ad b (o+h.len*u.size+m))).isSome=true:=by
     intro m hm
     rw [Nat.add_assoc]; exact (gk b o ha _ (by omega)).1
    refine ⟨fun k hk=>⟨⟨rfl,by omega,by simpa using hk⟩,?_,?_⟩,fun k hk b0 o0 AB=>?_,fun k hk=>?_⟩
    ·by_cases hr:o+h.len*u.size≤o+k∧o+k<o+h.len*u.size+news.length
     ·have:=World.cell?_setCells_in b news (o+h.len*u.size) w J2 (k-h.len*u.size) (by omega)
      rw [show o+h.len*u.size+(k-h.len*u.size)=o+k by omega] at this
      rw [this]; rfl
     ·rw [fU b (o+k) (fun hh=>hr hh.2)]
      exact (gk b o ha k (by simpa using hk)).1
    ·rw [World.frozen?_setCells]
     exact (gk b o ha k (by simpa using hk)).2.1
    ·rw [ha] at AB
     simp only [Option.some.injEq,Prod.mk.injEq] at AB
     obtain ⟨rfl,rfl⟩:=AB
     exact fU b (o+k) (fun hh=>by rw [hlen] at hh; omega)
    ·rw [← hlen]
     have:=World.cell?_setCells_in b news (o+h.len*u.size) w J2 k (by omega)
     rw [this,List.getElem?_eq_getElem])
  exact ⟨_,_,_,cx,rU⟩
 ·
  have yj:xs.length=0:=by omega
  have rU:=fin c8 (fun _ _=>False) w (by simp [c8,yj,hm]) (Nat.le_refl _) (fun _=>rfl) (fun _ _ h=>h.elim) (Nat.le_refl _) (.refl _ _) (fun b o _ v hv=>⟨hv,fun h=>h⟩) (fun _ _ _ _ _ _=>⟨fun h=>h,rfl,rfl⟩) (fun b o hb=>by simp [c8] at hb)
  exact ⟨_,_,_,cx,rU⟩
 ·
  have J3:∀ b' o',b'<w.heap.size→w'.cell? (ad b' o')=w.cell? (ad b' o'):=fun b' o' hb=>B.bP (by omega) o'
  have rU:=fin ⟨some (w.heap.size,0),h.len+ys.length,cap⟩ (fun b' o'=>b'=w.heap.size∧o'<cap*u.size) w' (by rw [hlen]) nS (by simp)
   (fun b' o' hR=>⟨by rw [B.size,hR.1]; omega,fun ao=>by omega⟩) (by rw [B.size]; omega) (B.fr _)
   (fun b' o' hl v hv=>by
    have:=wD hv
    exact ⟨by rw [J3 _ _ this]; exact hv,by omega⟩)
   (fun b' o' id p hl hD=>by
    have:=S.bB _ _ _ hl
    exact ⟨by omega,J3 _ _ this,B.Au (by omega) o'⟩)
   (fun b' o' hb=>by
    simp only [Option.some.injEq,Prod.mk.injEq] at hb
    obtain ⟨rfl,rfl⟩:=hb
    have hle:(xs.length+ys.length)*u.size≤cap*u.size:=Nat.mul_le_mul_right _ (by rw [← hlen]; exact nS)
    rw [Nat.add_mul] at hle
    have k9:∀ k,w'.cell? (ad w.heap.size (0+k))=(olds++news++rest)[k]?:=by
     intro k
     rw [B.new,Nat.zero_add,← Az]; simp
    refine ⟨fun k hk=>⟨⟨rfl,by simpa using hk⟩,?_,B.CS _⟩,fun k hk b0 o0 AB=>?_,fun k hk=>?_⟩
    ·rw [B.new,Nat.zero_add,Array.getElem?_eq_getElem (by rw [J1]; simpa using hk)]; rfl
    ·have FA:k<olds.length:=by rw [pa,hlen]; exact hk
     rw [k9,List.getElem?_append_left (by simp; omega),List.getElem?_append_left FA]
     have:=fy b0 o0 AB k _ (List.getElem?_eq_getElem FA)
     rw [this,List.getElem?_eq_getElem FA]
    ·have hkn:k<news.length:=by rw [mY]; exact hk
     have aac:olds.length=xs.length*u.size:=by rw [pa,hlen]
     have h1:=k9 (xs.length*u.size+k)
     rw [← Nat.add_assoc] at h1
     rw [h1,List.getElem?_append_left (by simp; omega),List.getElem?_append_right (by omega)]
     congr 1; omega)
  exact ⟨_,_,_,cx,rU⟩
end
end Go.Am
namespace Go.Am
open Go
theorem jI:∀ (l:List Nat) (id:Nat),look (gone l) id=if id∈l then some none else none
 | [],id=>by simp [gone,look]
 | i::l,id=>by
  have ih:=jI l id
  simp only [gone,List.map_cons,look] at ih ⊢
  split
  ·rename_i h
   obtain rfl:=Nat.eq_of_beq_eq_true h
   simp
  ·rename_i h
   have av:¬ id=i:=by rintro rfl; simp at h
   rw [ih]
   simp [av]
theorem cT {α:Type} (i:Nat) (x:α) (l:List (Nat×α)) (id:Nat):look ((i,x)::l) id=if i=id then some x else look l id:=by
 simp only [look]
 by_cases h:i=id
 ·subst h; simp
 ·rw [if_neg h]
  have:Nat.beq i id=false:=by
   cases hb:Nat.beq i id with
   | false=>rfl
   | true=>exact absurd (Nat.eq_of_beq_eq_true hb) h
  rw [this]
section
variable {P:Program} {c:aP} {g:Gh} {L:bt} {w w':World} {U:Nat→Prop} {sr:St} {a:Act} {site:Nat} {o:Oper} {ρ:Type} {r:ρ} {k:bR→Option ρ} {σ:Src}
theorem C3 {g':Gh} (S:cB P c g w U sr a) (hs:¬ U site) {own:Bool} {u:Ty} {zs:List u.T} {D:Nat→Path→Prop} {Ho:Nat→Path→Hd} {v:Value} {l:List (Nat×Option cK)}
  (A:Fx g w U site own u zs D Ho v w' g') (hD:∀ id p,D id p→(look l id).isSome=true) (hl:∀ id ob,look l id=some (some ob)→U (id / 1024)∧dQ g' w' (U' U site) id ob) (pb:∀ id,(look l id).isSome=true→id / 1024≠19) :
  cR g w U site ⟨.own (site*1024) 0 [] u,(site*1024,some (.row own u site zs))::l⟩ v w' g' (U' U site):=by
 refine ⟨A.gh _ (fun id p h=>?_),⟨.inr (iw site),.inl S.u0,.inl S.u0,trivial,fun _=>rfl,A.val⟩,fun id ob aY=>?_,fun s h=>h,A.bB,A.bP,A.fr,fun id h=>?_⟩
 ·rw [cT]; split
  ·rfl
  ·exact hD id p h
 ·rw [cT] at aY
  split at aY
  ·rename_i h; subst h
   simp only [Option.some.injEq] at aY
   subst aY
   exact ⟨.inr (iw site),.inl S.u0,.inr rfl,A.row⟩
  ·obtain ⟨h1,h2⟩:=hl id ob aY
   exact ⟨.inl h1,h2⟩
 ·rw [cT] at h
  split at h
  ·rename_i he; rw [← he,iw]; rintro rfl; exact hs S.wk
  ·exact pb id h
def t_ (l:bt) (v:List Nat):bt:=fun b o=>match l b o with
 | some (id,p)=>if id∈v then none else some (id,p)
 | none=>none
theorem J4 {l:bt} {v:List Nat} {b o:Nat} (h:l b o=none):t_ l v b o=none:=by simp [t_,h]
theorem J5 {l:bt} {v:List Nat} {b o id:Nat} {p:Path} (h:l b o=some (id,p)) (hi:id∈v):t_ l v b o=none:=by simp [t_,h,hi]
theorem J6 {l:bt} {v:List Nat} {b o:Nat} (h:t_ l v b o=none):l b o=none∨∃ id p,l b o=some (id,p)∧id∈v:=by
 unfold t_ at h
 split at h
 ·rename_i id p e
  split at h
  ·rename_i hi; exact .inr ⟨id,p,e,hi⟩
  ·simp at h
 ·rename_i e; exact .inl e
theorem QH {own:Bool} {t:Ty} {i0:Nat} {vx:Value} {ys:List t.T} {v:List Nat} (h:own=false) (T:rR g L w own t i0 vx ys v σ):rR g L w own t i0 vx ys v bC:=by
 subst h
 obtain ⟨⟨xa,xc,h1,h2⟩,-,-⟩:=T
 refine ⟨⟨xa,xc,h1,fun hp=>?_⟩,fun p hp=>absurd rfl hp,.none⟩
 obtain ⟨b,o,h3,h4⟩:=h2 hp
 exact ⟨b,o,h3,fun k hk=>CZ _ _ _ _ _ _ (h4 k hk)⟩
theorem J7 (S:cB P c g w U sr a) (hs:¬ U site) {t ty:Nat} (hk:(c.ti t).kind = .slice) (iM:0<(c.ti (c.ti t).elem).bytes) {u:Ty} (aX:(c.ti (c.ti t).elem).size=u.size) {id:Nat} {own:Bool} {vr:Nat} {kY xs:List u.T} {x:af} {vs vx:Value} {off len:Nat}
  (ho:sr.obj id=some (.row own u vr kY)) (yj:xs=(kY.drop off).take len) (hx:ay g w U x vx) {h:Hd} (hv:vs=h.val) (hlen:h.len=len) (pa:off+len≤kY.length) (eK:h.len≤h.cap) (qk:h.addr=none→h.cap=0)
  (rS:0<h.cap→∀ b o,h.addr=some (b,o)→∃ o0,(g.hd id 0 []).addr=some (b,o0)∧o=o0+off*u.size) (hc:off+h.cap=(g.hd id 0 []).cap)
  (e:vW (c.ti (c.ti t).elem).bytes sr site id own u xs x k=some r) :
  ∃ aT,k aT=some r∧∃ v' w' g' U',(Builtin.append_ #[t,t] ty #[vs,vx]).run P w = .ok v' w'∧cR g w U site aT v' w' g' U':=by
 subst hv
 unfold vW at e
 split at e
 case h_2=>simp at e
 rename_i ys v rV
 split at e
 case h_2=>simp at e
 rename_i dw
 rw [tS,List.nodup_cons] at dw
 unfold ab at e
 split at e
 case isFalse=>simp at e
 rename_i l9
 obtain ⟨hU,jb,kA,r1,r2,r3,r4⟩:=S.aE id _ ho
 have yD:xs.length=len:=by rw [yj]; simp; omega
 let L:bt:=if own=true then g.lab else t_ g.lab v
 have hL:∀ b o,g.lab b o=none→L b o=none:=by
  intro b o hb
  simp only [L]; split
  ·exact hb
  ·exact J4 hb
 obtain ⟨yE,dn,T⟩:=yw (L:=L) S.aE hL hx xs.length (fun hf aq hi b o p hb=>by simp only [L,hf]; exact J5 hb hi) rV
 obtain ⟨dn,T,yy⟩:∃ dn,rR g L w own u xs.length vx ys v dn∧(own=false→∀ q,dn q=none):=by
  cases own with
  | true=>exact ⟨dn,T,by simp⟩
  | false=>exact ⟨bC,QH rfl T,fun _ _=>rfl⟩
 let σ0:Src:=if own=true then (fun p=>match p with | []=>none | (k',j)::s=>if k'<xs.length then some (id,(k'+off,j)::s,g.hd id vr ((k'+off,j)::s)) else none) else bC
 have lj:∀ q aq p h',σ0 q=some (aq,p,h')→aq=id∧∃ k' j s,q=(k',j)::s∧k'<xs.length∧p=(k'+off,j)::s:=by
  intro q aq p h' e
  simp only [σ0] at e
  split at e
  ·cases q with
   | nil=>simp at e
   | cons a q=>
    obtain ⟨k',j⟩:=a
    simp only at e
    split at e
    ·rename_i bL
     simp only [Option.some.injEq,Prod.mk.injEq] at e
     exact ⟨e.1.symm,k',j,q,rfl,bL,e.2.1.symm⟩
    ·simp at e
  ·simp [bC] at e
 obtain ⟨v',w',g',cx,A⟩:=C0 (L:=L) (own:=own) (ty:=ty) (σ0:=σ0) S hs hk iM aX (Do:=fun aq _=>aq=id) (fun aq p=>g.hd aq vr p) (h:=h) (xs:=xs) (by rw [hlen,yD]) eK qk
  (fun b o hb k' bL=>by
   obtain ⟨o0,h1,rfl⟩:=rS (by cases nS:h.cap with | zero=>rw [nS] at bL; simp at bL | succ n=>omega) b o hb
   obtain ⟨r5,r6⟩:=r4 b o0 h1
   have hle:off*u.size+h.cap*u.size=(g.hd id 0 []).cap*u.size:=by rw [← hc,Nat.add_mul]
   obtain ⟨a1,a2,a3⟩:=r5 (off*u.size+k') (by omega)
   rw [← Nat.add_assoc] at a1 a2 a3
   refine ⟨a2,a3,id,[],a1,rfl,fun q h' e=>?_⟩
   obtain ⟨-,k2,j,s,-,-,hp⟩:=lj _ _ _ _ e
   simp at hp)
  (fun b o hb k' bL=>by
   obtain ⟨o0,h1,rfl⟩:=rS (by omega) b o hb
   obtain ⟨r5,r6⟩:=r4 b o0 h1
   have h6:=r6 (off+k') (by omega)
   have QI:xs[k']=kY[off+k']:=by subst yj; simp
   rw [QI]
   rw [Nat.add_mul,← Nat.add_assoc] at h6
   cases own with
   | true=>
    refine lX hL u [] [] (off+k') 0 k' 0 _ b _ (fun _ d s hd=>?_) h6
    simp only [σ0,if_true,List.nil_append]
    rw [if_pos bL,Nat.add_comm k' off]
   | false=>exact lX hL u [] [] (off+k') 0 k' 0 _ b _ (fun hf=>by simp at hf) h6)
  (fun q aq p h' e=>(lj _ _ _ _ e).1) (fun q q' aq p h1 h2 e1 e2=>by
   obtain ⟨-,k1,j1,s1,rfl,-,ua⟩:=lj _ _ _ _ e1
   obtain ⟨-,k2,j2,s2,rfl,-,jJ⟩:=lj _ _ _ _ e2
   rw [ua] at jJ
   simp at jJ
   obtain ⟨⟨h3,rfl⟩,rfl⟩:=jJ
   have:k1=k2:=by omega
   subst this; rfl)
  (fun p hp=>by
   cases e:σ0 p with
   | none=>exact absurd e hp
   | some y=>
    obtain ⟨aq,p',h'⟩:=y
    obtain ⟨-,k1,j1,s1,rfl,rW,-⟩:=lj _ _ _ _ e
    exact ⟨k1,j1,s1,rW,by simp⟩)
  T (fun aq hi p he=>dw.1 (he▸hi)) dw.2 (fun hf=>⟨fun q=>by simp [σ0,hf,bC],yy hf⟩)
  (fun b o hb=>by
   simp only [L] at hb
   split at hb
   ·exact .inl hb
   ·rename_i hf
    rcases J6 hb with hb | hb
    ·exact .inl hb
    ·exact .inr ⟨by simpa using hf,hb⟩) l9 (fun aq p h=>by rw [h]; exact S.nf id (by rw [ho]; simp))
 refine ⟨_,e,v',w',g',_,cx,C3 S hs A (fun aq p hD=>?_) (fun aq ob aY=>?_) (fun aq h=>by
  rw [jI] at h
  split at h
  ·rename_i hm
   rcases List.mem_cons.1 hm with rfl | hm
   ·exact S.nf _ (by rw [ho]; simp)
   ·exact S.nf _ (yE _ hm)
  ·simp at h)⟩
 ·rw [jI,if_pos]
  ·rfl
  ·rcases hD with rfl | hD
   ·simp
   ·exact List.mem_cons_of_mem _ hD
 ·rw [jI] at aY
  split at aY<;>simp at aY
theorem J8 (S:cB P c g w U sr a) (hs:¬ U site) {t ty:Nat} (hk:(c.ti t).kind = .slice) (iM:0<(c.ti (c.ti t).elem).bytes) {u:Ty} (aX:(c.ti (c.ti t).elem).size=u.size) {s x:af} {vs vx:Value}
  (hx:ay g w U x vx) (dD:ay g w U s vs) (QJ:s = .nil∨∃ id off len sz,s = .dW id off len sz) (e:vV (c.ti (c.ti t).elem).bytes sr site u s x k=some r) :
  ∃ aT,k aT=some r∧∃ v' w' g' U',(Builtin.append_ #[t,t] ty #[vs,vx]).run P w = .ok v' w'∧cR g w U site aT v' w' g' U':=by
 unfold vV at e
 split at e
 case h_2=>simp at e
 rename_i xs rr us eN
 split at e
 case h_2=>simp at e
 rename_i ys v rV
 split at e
 case h_2=>simp at e
 rename_i dw
 rw [tS,List.nodup_append] at dw
 obtain ⟨FB,QK,yx⟩:=dw
 unfold ab at e
 split at e
 case isFalse=>simp at e
 rename_i l9
 obtain ⟨yE,dn,T⟩:=yw (L:=g.lab) S.aE (fun _ _ h=>h) hx (List.length (α:=u.T) xs) (fun hf=>by simp at hf) rV
 obtain ⟨AD,-⟩:=(yn (L:=g.lab) S.aE (fun _ _ h=>h) true 50).1 (.sl u) [s] xs rr us (fun _=>some vs) [] 0 0 (fun k hk=>by
  have:k=0:=by simp at hk; exact hk
  subst this; exact ⟨vs,rfl,dD⟩) eN (fun hf=>by simp at hf)
 have fin:∀ (h:Hd) (σ0:Src),vs=h.val→h.len=List.length (α:=u.T) xs→h.len≤h.cap→(h.addr=none→h.cap=0)→
   (∀ b o,h.addr=some (b,o)→∀ k,k<h.cap*u.size→(w.cell? (ad b (o+k))).isSome=true∧w.frozen? (ad b (o+k))=false∧∃ id p,g.lab b (o+k)=some (id,p)∧id∈us∧∀ q h',σ0 q≠some (id,p,h'))→
   (∀ b o,h.addr=some (b,o)→∀ k (hk:k<List.length (α:=u.T) xs),ca g g.lab w true σ0 u [] k 0 (List.get (α:=u.T) xs ⟨k,hk⟩) (fun d=>w.cell? (ad b (o+k*u.size+d))))→
   (∀ q id p h',σ0 q=some (id,p,h')→id∈us)→(∀ q q' id p h1 h2,σ0 q=some (id,p,h1)→σ0 q'=some (id,p,h2)→q=q')→CN [] 0 (List.length (α:=u.T) xs) σ0→
   ∃ aT,k aT=some r∧∃ v' w' g' U',(Builtin.append_ #[t,t] ty #[vs,vx]).run P w = .ok v' w'∧cR g w U site aT v' w' g' U':=by
  intro h σ0 hv h1 h2 h3 h4 h5 h6 h7 h8
  subst hv
  obtain ⟨v',w',g',cx,A⟩:=C0 (L:=g.lab) (own:=true) (ty:=ty) (σ0:=σ0) S hs hk iM aX (Do:=fun aq _=>aq∈us) (fun _ _=>c8) (h:=h) (xs:=xs) h1 h2 h3 h4 h5 h6 h7 h8 T
   (fun id hi p hu=>yx _ hu _ hi rfl) QK (fun hf=>by simp at hf) (fun b o hb=>.inl hb) l9 (fun id p h=>S.nf id (AD id h))
  refine ⟨_,e,v',w',g',_,cx,C3 S hs A (fun aq p hD=>?_) (fun aq ob aY=>?_) (fun aq h=>by
   rw [jI] at h
   split at h
   ·rename_i hm
    rcases List.mem_append.1 hm with hm | hm
    ·exact S.nf _ (AD _ hm)
    ·exact S.nf _ (yE _ hm)
   ·simp at h)⟩
  ·rw [jI,if_pos]
   ·rfl
   ·rcases hD with hD | hD
    ·exact List.mem_append_left _ hD
    ·exact List.mem_append_right _ hD
  ·rw [jI] at aY
   split at aY<;>simp at aY
 rcases QJ with rfl | ⟨id,off,len,sz,rfl⟩
 ·simp only [take] at eN
  obtain ⟨h1,-,h2⟩:=gF eN
  have h1:xs=([]:List u.T):=h1.symm
  subst h1 h2
  refine fin c8 bC (by rw [show vs=_ from dD]; rfl) rfl (Nat.le_refl _) (fun _=>rfl) (fun b o hb=>by simp [c8] at hb) (fun b o hb=>by simp [c8] at hb) (fun q id p h' e=>by simp [bC] at e) (fun q q' id p h1 h2 e=>by simp [bC] at e) (fun p hp=>absurd rfl hp)
 ·cases off with
  | succ off=>simp [take] at eN
  | zero=>
   simp only [take] at eN
   split at eN
   ·rename_i ro c_ ho
    split at eN
    ·rename_i hb
     rw [Bool.and_eq_true] at hb
     obtain ⟨g_,cS⟩:=hb
     obtain rfl:=Nat.eq_of_beq_eq_true g_
     have cS:=Nat.eq_of_beq_eq_true cS
     split at eN
     ·rename_i ja u' e'
      obtain ⟨h1,-,h2⟩:=gF eN
      have h1:xs=ja:=h1.symm
      subst h1 h2
      obtain ⟨-,-,a0,cc,rfl,wz,eg,b,o,ha,jc⟩:=dD
      obtain ⟨b',o',hh,cn,k_⟩:=tT S.aE ho
      have jc:=jc (.inr rfl)
      rw [hh] at ha eg
      simp only [Option.some.injEq,Prod.mk.injEq] at ha
      obtain ⟨rfl,rfl⟩:=ha
      simp only [Nat.zero_add,Nat.zero_mul,Nat.add_zero] at eg jc
      have fM:=u.size_pos
      obtain rfl:cc=len:=Nat.eq_of_mul_eq_mul_right fM (by rw [eg,cS])
      subst jc
      obtain ⟨QL,QM⟩:=List.nodup_cons.1 FB
      obtain ⟨b1,b2,wA,T'⟩:=(yn S.aE (fun _ _ h=>h) true 49).2 u cc c_ xs u' _ [] 0 k_ e' (fun hf=>by simp at hf)
      refine fin ⟨some (b',o'),cc,cc⟩ wA (by simp [Hd.val]) T'.len.symm (Nat.le_refl _) (by simp) (fun b o hb k' bL=>?_) (fun b o hb k' bL=>?_) (fun q aq p h' e=>List.mem_cons_of_mem _ (T'.tk.ids _ _ _ _ e)) (fun q q' aq p h1 h2 e1 e2=>T'.tk.inj QM _ _ _ _ _ _ e1 e2) (by rw [T'.len]; exact T'.kD)
      ·simp only [Option.some.injEq,Prod.mk.injEq] at hb
       obtain ⟨rfl,rfl⟩:=hb
       have FC:k'<c_.length:=by rw [← cS]; exact bL
       obtain ⟨y,hy,-⟩:=k_ k' FC
       have hy:w.cell? (ad b' (o'+k'))=some y:=hy
       refine ⟨by rw [hy]; rfl,(cn k' FC).2,id,[],(cn k' FC).1,by simp,fun q h' e=>QL (T'.tk.ids _ _ _ _ e)⟩
      ·simp only [Option.some.injEq,Prod.mk.injEq] at hb
       obtain ⟨rfl,rfl⟩:=hb
       have:=T'.ow k' bL
       rw [Nat.zero_add] at this
       exact gi u [] k' 0 _ _ _ (fun d hd=>by
        show w.cell? _=w.cell? (ad b' (o'+(k'*u.size+d)))
        rw [Nat.add_assoc]) this
     ·simp at eN
    ·simp at eN
   ·simp at eN
theorem C4 {g':Gh} {id vr V:Nat} {hole:Path} (hh:∀ p,p≠[]→¬ hole <+: p→g'.hd id V p=g.hd id vr p)
  (cn:∀ b o p,g.lab b o=some (id,p)→¬ hole <+: p→g'.lab b o=some (id,p)∧w'.cell? (ad b o)=w.cell? (ad b o)∧w'.frozen? (ad b o)=w.frozen? (ad b o))
  (wI:∀ b o,g.lab b o=none→∀ v,w.cell? (ad b o)=some v→w'.cell? (ad b o)=some v∧g'.lab b o=none):∀ (t:Ty) (sk:Nat→Nat→Bool) (p:Path) (i j:Nat) (x:t.T) (b o:Nat),
  (∀ k,k<t.size→w'.cell? (ad b (o+k))=w.cell? (ad b (o+k)))→(∀ d,d<t.size→sk i (j+d)=true∨∀ s,¬ hole <+: p++(i,j+d)::s)→cQ g w true id vr t b9 p i j x b o→cQ g' w' true id V t sk p i j x b o
 | .int _,sk,p,i,j,x,b,o,hc,hp,h=>by have:=hc 0 (by simp [Ty.size]); exact this.trans h
 | .bool,sk,p,i,j,x,b,o,hc,hp,h=>by have:=hc 0 (by simp [Ty.size]); exact this.trans h
 | .str,sk,p,i,j,x,b,o,hc,hp,h=>by have:=hc 0 (by simp [Ty.size]); exact this.trans h
 | .err,sk,p,i,j,x,b,o,hc,hp,h=>by
  obtain ⟨v,h1,h2⟩:=h
  exact ⟨v,(hc 0 (by simp [Ty.size])).trans h1,h2⟩
 | .bh t,sk,p,i,j,x,b,o,hc,hp,h=>by
  obtain ⟨v,h1,h2,h3⟩:=h
  exact ⟨v,(hc 0 (by simp [Ty.size])).trans h1,fK (eF wI t) h2,h3⟩
 | .pair s t,sk,p,i,j,x,b,o,hc,hp,h=>by
  refine ⟨C4 hh cn wI s sk p i j x.1 b o (fun k hk=>hc k (by simp [Ty.size]; omega)) (fun d hd=>hp d (by simp [Ty.size]; omega)) h.1,
   C4 hh cn wI t sk p i (j+s.size) x.2 b (o+s.size) (fun k hk=>?_) (fun d hd=>?_) h.2⟩
  ·rw [Nat.add_assoc]; exact hc _ (by simp [Ty.size]; omega)
  ·rw [Nat.add_assoc]; exact hp _ (by simp [Ty.size]; omega)
 | .sl t,sk,p,i,j,xs,b,o,hc,hp,h=>by
  have h0:=hc 0 (by simp [Ty.size])
  rw [Nat.add_zero] at h0
  rcases hp 0 (by simp [Ty.size]) with fl | hn
  ·exact .inl fl
  ·simp only [Nat.add_zero] at hn
   rcases h with h | ⟨h1,r1,r2,r3,r4⟩
   ·simp [b9] at h
   ·have hd:=hh (p++[(i,j)]) (by simp) (hn [])
    refine .inr ⟨by rw [hd,h0,h1],?_⟩
    rw [hd]
    refine ⟨r1,r2,r3,fun b o hb=>?_⟩
    obtain ⟨r5,r6⟩:=r4 b o hb
    refine ⟨fun k hk=>?_,fun k hk=>?_⟩
    ·obtain ⟨a1,a2,a3⟩:=r5 k hk
     obtain ⟨b1,b2,b3⟩:=cn _ _ _ a1 (hn [])
     exact ⟨b1,by rw [b2]; exact a2,by rw [b3]; exact a3⟩
    ·refine C4 hh cn wI t _ _ k 0 _ b _ (fun d hd=>?_) (fun d hd=>.inr (fun s=>?_)) (r6 k hk)
     ·have hle:(k+1)*t.size≤(g.hd id vr (p++[(i,j)])).cap*t.size:=Nat.mul_le_mul_right _ (by omega)
      rw [Nat.add_mul] at hle
      obtain ⟨a1,-,-⟩:=r5 (k*t.size+d) (by omega)
      rw [← Nat.add_assoc] at a1
      exact (cn _ _ _ a1 (hn [])).2.1
     ·have:=hn ((k,0+d)::s)
      simpa using this
theorem QN (S:cB P c g w U sr a) (hs:¬ U site) {t ty:Nat} (hk:(c.ti t).kind = .slice) (iM:0<(c.ti (c.ti t).elem).bytes) {id:Nat} {u0:Ty} {vr:Nat} {kY:List u0.T} {i j:Nat} {x:af} {vx:Value}
  (ho:sr.obj id=some (.row true u0 vr kY)) (hx:ay g w U x vx) (hi:i<kY.length) (aX:∀ u zs,iI u0 (el u0 kY i) j=some ⟨u,zs⟩→(c.ti (c.ti t).elem).size=u.size)
  (e:xQ (c.ti (c.ti t).elem).bytes sr site id u0 kY i j x k=some r) :
  ∃ aT,k aT=some r∧∃ v' w' g' U',(Builtin.append_ #[t,t] ty #[(g.hd id vr [(i,j)]).val,vx]).run P w = .ok v' w'∧cR g w U site aT v' w' g' U':=by
 unfold xQ at e
 split at e
 case h_2=>simp at e
 rename_i u xs iJ
 split at e
 case h_2=>simp at e
 rename_i ys v rV
 split at e
 case h_2=>simp at e
 rename_i dw
 rw [tS,List.nodup_cons] at dw
 unfold ab at e
 split at e
 case isFalse=>simp at e
 rename_i l9
 obtain ⟨hU,jb,kA,r1,r2,r3,r4⟩:=S.aE id _ ho
 obtain ⟨yE,dn,T⟩:=yw (L:=g.lab) S.aE (fun _ _ h=>h) hx xs.length (fun hf=>by simp at hf) rV
 have rS:∃ b o,(g.hd id 0 []).addr=some (b,o):=by
  cases ha:(g.hd id 0 []).addr with
  | none=>have:=r3 ha; omega
  | some q=>exact ⟨_,_,rfl⟩
 obtain ⟨b0,o0,C5⟩:=rS
 obtain ⟨r5,r6⟩:=r4 b0 o0 C5
 have h6:=r6 i hi
 rw [← rL hi] at h6
 obtain ⟨kE,⟨q1,q2,q3,q4⟩,QO⟩:=Aj u0 [] i 0 _ b0 _ j u xs h6 iJ
 simp only [Nat.zero_add,List.nil_append] at kE q1 q2 q3 q4
 let σ0:Src:=fun p=>match p with | []=>none | (k',j')::s=>if k'<xs.length then some (id,(i,j)::(k',j')::s,g.hd id vr ((i,j)::(k',j')::s)) else none
 have lj:∀ q aq p h',σ0 q=some (aq,p,h')→aq=id∧∃ k' j' s,q=(k',j')::s∧k'<xs.length∧p=(i,j)::(k',j')::s:=by
  intro q aq p h' e
  cases q with
  | nil=>simp [σ0] at e
  | cons a q=>
   obtain ⟨k',j'⟩:=a
   simp only [σ0] at e
   split at e
   ·rename_i bL
    simp only [Option.some.injEq,Prod.mk.injEq] at e
    exact ⟨e.1.symm,k',j',q,rfl,bL,e.2.1.symm⟩
   ·simp at e
 obtain ⟨v',w',g',cx,A⟩:=C0 (L:=g.lab) (own:=true) (ty:=ty) (σ0:=σ0) S hs hk iM (aX u xs iJ) (Do:=fun aq p=>aq=id∧[(i,j)] <+: p) (fun aq p=>g.hd aq vr p) (h:=g.hd id vr [(i,j)]) (xs:=xs) q1 q2 q3
  (fun b o hb k' bL=>by
   obtain ⟨q5,q6⟩:=q4 b o hb
   obtain ⟨a1,a2,a3⟩:=q5 k' bL
   refine ⟨a2,a3,id,[(i,j)],a1,⟨rfl,List.prefix_refl _⟩,fun q h' e=>?_⟩
   obtain ⟨-,k2,j2,s,-,-,hp⟩:=lj _ _ _ _ e
   simp at hp)
  (fun b o hb k' bL=>by
   obtain ⟨q5,q6⟩:=q4 b o hb
   refine lX (fun _ _ h=>h) u [(i,j)] [] k' 0 k' 0 _ b _ (fun _ d s hd=>?_) (q6 k' bL)
   simp only [σ0,List.nil_append,List.cons_append]
   rw [if_pos bL])
  (fun q aq p h' e=>by
   obtain ⟨h1,k2,j2,s,-,-,hp⟩:=lj _ _ _ _ e
   refine ⟨h1,?_⟩
   rw [hp]; exact ⟨(k2,j2)::s,rfl⟩) (fun q q' aq p h1 h2 e1 e2=>by
   obtain ⟨-,k1,j1,s1,rfl,-,ua⟩:=lj _ _ _ _ e1
   obtain ⟨-,k2,j2,s2,rfl,-,jJ⟩:=lj _ _ _ _ e2
   rw [ua] at jJ
   simp at jJ
   obtain ⟨⟨rfl,rfl⟩,rfl⟩:=jJ
   rfl)
  (fun p hp=>by
   cases e:σ0 p with
   | none=>exact absurd e hp
   | some y=>
    obtain ⟨aq,p',h'⟩:=y
    obtain ⟨-,k1,j1,s1,rfl,rW,-⟩:=lj _ _ _ _ e
    exact ⟨k1,j1,s1,rW,by simp⟩)
  T (fun aq hi p he=>dw.1 (he.1▸hi)) dw.2 (fun hf=>by simp at hf) (fun b o hb=>.inl hb) l9 (fun aq p h=>by rw [h.1]; exact S.nf id (by rw [ho]; simp))
 have QP:id≠site*1024:=by rintro rfl; rw [iw] at hU; exact hs hU
 refine ⟨_,e,v',w',g',_,cx,C3 S hs A (fun aq p hD=>?_) (fun aq ob aY=>?_) (fun aq h=>by
  rw [cT] at h
  split at h
  ·rename_i he; rw [← he]; exact S.nf _ (by rw [ho]; simp)
  ·rw [jI] at h
   split at h
   ·rename_i hm; exact S.nf _ (yE _ hm)
   ·simp at h)⟩
 ·rw [cT]
  split
  ·rfl
  ·rename_i av
   rw [jI,if_pos]
   ·rfl
   ·rcases hD with ⟨rfl,-⟩ | hD
    ·exact absurd rfl av
    ·exact hD
 ·rw [cT] at aY
  split at aY
  ·rename_i he
   subst he
   simp only [Option.some.injEq] at aY
   subst aY
   refine ⟨hU,.inl jb,.inr rfl,?_⟩
   have J9:=A.gh (fun aq=>aq=id∨aq∈v) (fun aq p hD=>by
    rcases hD with ⟨rfl,-⟩ | hD
    ·exact .inl rfl
    ·exact .inr hD)
   have rT:∀ p,¬ [(i,j)] <+: p→¬ ((id=id∧[(i,j)] <+: p)∨id∈v):=by
    rintro p hp (⟨-,h⟩ | h)
    ·exact hp h
    ·exact dw.1 h
   have l8:g'.hd id 0 []=g.hd id 0 []:=J9.hd id 0 [] hU jb
   have qk:¬ [(i,j)] <+: ([]:Path):=by simp
   unfold dC
   rw [l8]
   refine ⟨r1,r2,r3,fun b o hb=>?_⟩
   rw [C5] at hb
   simp only [Option.some.injEq,Prod.mk.injEq] at hb
   obtain ⟨rfl,rfl⟩:=hb
   refine ⟨fun k' bL=>?_,fun k' bL=>?_⟩
   ·obtain ⟨a1,a2,a3⟩:=r5 k' bL
    obtain ⟨c1,c2,c3⟩:=A.fH _ _ _ _ a1 (rT [] qk)
    exact ⟨c1,by rw [c2]; exact a2,by rw [c3]; exact a3⟩
   ·refine C4 (hole:=[(i,j)]) (fun p hp hn=>A.C_ id p QP) (fun b o p hl hn=>A.fH _ _ _ _ hl (rT p hn)) J9.shr u0 _ [] k' 0 _ _ _ (fun d hd=>?_) (fun d hd=>?_) (r6 k' bL)
    ·have hle:(k'+1)*u0.size≤(g.hd id 0 []).cap*u0.size:=Nat.mul_le_mul_right _ (by omega)
     rw [Nat.add_mul] at hle
     obtain ⟨a1,-,-⟩:=r5 (k'*u0.size+d) (by omega)
     rw [← Nat.add_assoc] at a1
     exact (A.fH _ _ _ _ a1 (rT [] qk)).2.1
    ·by_cases FD:k'=i∧0+d=j
     ·left; simp [FD.1,FD.2]
     ·right
      intro s nT
      simp only [List.nil_append] at nT
      have:=List.cons_prefix_cons.1 nT
      simp at this
      exact FD ⟨this.1.symm,by omega⟩
  ·rw [jI] at aY
   split at aY<;>simp at aY
theorem QQ (S:cB P c g w U sr a) (hs:¬ U site) {t ty:Nat} (hk:(c.ti t).kind = .slice) (iM:0<(c.ti (c.ti t).elem).bytes) {s x:af} {vs vx:Value} (dD:ay g w U s vs) (hx:ay g w U x vx)
  (e:xR (c.ti (c.ti t).elem).bytes sr site (c.ti (c.ti t).elem).ty (c.ti (c.ti t).elem).size s x k=some r) :
  ∃ aT,k aT=some r∧∃ v' w' g' U',(Builtin.append_ #[t,t] ty #[vs,vx]).run P w = .ok v' w'∧cR g w U site aT v' w' g' U':=by
 unfold xR at e
 split at e
 ·simp at e
 rename_i aX
 cases s with
 | nil=>
  simp only at e aX
  split at e
  ·rename_i u hu
   rw [hu] at aX
   exact J8 S hs hk iM (Nat.eq_of_beq_eq_true aX) hx dD (.inl rfl) e
  ·simp at e
 | dW id off len sz=>
  simp only at e aX
  split at e
  ·rename_i u hu
   rw [hu] at aX
   exact J8 S hs hk iM (Nat.eq_of_beq_eq_true aX) hx dD (.inr ⟨_,_,_,_,rfl⟩) e
  ·simp at e
 | own id ver p tt=>
  simp only at e aX
  have aX:=Nat.eq_of_beq_eq_true aX
  split at e
  ·rename_i own u vr xs ho
   obtain ⟨h1,h2,h3,h4,h5,rfl⟩:=dD
   obtain ⟨hU,jb,kA,r1,r2,r3,r4⟩:=S.aE id _ ho
   cases p with
   | nil=>
    obtain rfl:=h5 rfl
    have QR:(c.ti (c.ti t).elem).size=u.size:=by rw [aX]; simp [St.oZ,St.rowAt,ho]
    exact J7 S hs hk iM QR ho (off:=0) (len:=xs.length) (by simp) hx rfl r1 (by omega) r2 r3 (fun _ b o hb=>⟨o,hb,by simp⟩) (by simp) e
   | cons q p=>
    obtain ⟨i,j⟩:=q
    cases p with
    | cons q p=>simp at e
    | nil=>
     simp only at e
     split at e
     ·simp at e
     ·rename_i hb
      rw [Bool.and_eq_true] at hb
      obtain ⟨rfl,hb⟩:=hb
      obtain rfl:=Nat.eq_of_beq_eq_true hb
      have hi:i<xs.length:=by
       have:=h4.1
       rw [show ir ([]:Path) ver=0 from rfl,r1] at this
       exact this
      exact QN S hs hk iM ho hx hi (fun u' zs hc=>by rw [aX]; simp [St.oZ,St.rowAt,ho,place,hc]) e
  ·simp at e
 | dV id ver p tt off len=>
  cases p with
  | cons q p=>simp at e
  | nil=>
   simp only at e aX
   have QS:(c.ti (c.ti t).elem).size=tt.size:=Nat.eq_of_beq_eq_true aX
   split at e
   ·rename_i own u vr xs ho
    split at e
    ·rename_i hb
     obtain rfl:=Ty.eq_of_beq hb
     obtain ⟨h1,h2,h3,h4,h5,a0,cp,rfl,h6,h7,h8,h9,q,rfl⟩:=dD
     obtain rfl:=h5 rfl
     obtain ⟨hU,jb,kA,r1,r2,r3,r4⟩:=S.aE id _ ho
     refine J7 S hs hk iM QS ho (off:=off) (len:=len) rfl hx (h:=⟨q,len,cp⟩) rfl rfl (by omega) h7 (fun hq=>?_) (fun hc b o hb=>?_) h6 e
     ·rcases Nat.eq_zero_or_pos cp with hz | hz
      ·exact hz
      ·obtain ⟨b,o,-,hh⟩:=h9 hz
       have hq:q=none:=hq
       rw [hq] at hh; simp at hh
     ·obtain ⟨b',o',iv,gE⟩:=h9 hc
      have hb:q=some (b,o):=hb
      subst hb
      simp only [Option.map_some,Option.some.injEq,Addr.mk.injEq] at gE
      exact ⟨o',by rw [iv,gE.1],gE.2.1⟩
    ·simp at e
   ·simp at e
 | _=>simp at e
end
end Go.Am
namespace Go.Am
open Go
section
variable {P:Program} {c:aP} {g:Gh} {L:bt} {w w':World} {U:Nat→Prop} {sr:St} {a:Act} {site:Nat} {o:Oper} {ρ:Type} {r:ρ} {k:bR→Option ρ} {σ:Src}
structure Ka (id i:Nat) (u:List Nat) (σ:Src):Prop where
 ids:∀ p aq p' h,σ p=some (aq,p',h)→(aq=id∧∃ d s,p'=(i,d)::s)∨aq∈u
 inj:(id::u).Nodup→∀ p1 p2 aq p' h1 h2,σ p1=some (aq,p',h1)→σ p2=some (aq,p',h2)→p1=p2
theorem FE (S:cB P c g w U sr a) (hs:¬ U site) {t0:Nat} (ht:0<(c.ti t0).size) {id:Nat} {i j:Nat} {x:af} {own:Bool} {t:Ty} {vr:Nat} {xs:List t.T} {sk:Nat→Nat→Bool} {y:t.T} {used:List Nat} {v:Value} {σe:Src} {b o:Nat}
  (hx:ay g w U x v) (hlen:x.cells.length=(c.ti t0).size) (bb:gV x.cells=true) (hU:U (id / 1024)) (pb:id / 1024≠19) (FB:∀ id∈used,id / 1024≠19)
  (hR:dC g w own id 0 vr t sk [] xs) (fl:∀ k' j',sk k' j'=true→k'=i) (ha:(g.hd id 0 []).addr=some (b,o)) (hi:i<xs.length) (hj:j+(c.ti t0).size≤t.size)
  (hL:∀ b o,g.lab b o=none→L b o=none) (yz:∀ b o,L b o=none→g.lab b o=none∨(own=false∧∃ id p,g.lab b o=some (id,p)∧id∈used)) (dw:(id::used).Nodup) (rX:own=false→∀ q,σe q=none)
  (hE:ca g L w own σe t [] i 0 y (fun k=>if j≤k∧k<j+v.cells.toList.length then v.cells.toList[k-j]? else w.cell? (ad b (o+i*t.size+k))))
  (hP:Ka id i used σe) (hD:∀ p,σe p≠none→∃ d s,p=(i,d)::s) :
  ∃ w' g' U',(Instr.storeAt t0 (.pointer (some (ad b (o+i*t.size+j)))) v).run P w = .ok () w'∧cR g w U site ⟨.undef,(id,some (.row own t site (xs.set i y)))::gone used⟩ undef w' g' U':=by
 obtain ⟨dD,h1⟩:=wC hx bb
 have aX:v.cells.toList.length=(c.ti t0).size:=by rw [ka dD,hlen]
 have h0:site≠0:=by rintro rfl; exact hs S.u0
 obtain ⟨r1,r2,r3,r4⟩:=hR
 obtain ⟨r5,r6⟩:=r4 b o ha
 have eK:(i+1)*t.size≤(g.hd id 0 []).cap*t.size:=Nat.mul_le_mul_right _ (by omega)
 rw [Nat.add_mul] at eK
 have hl:∀ k,k<v.cells.toList.length→g.lab b (o+i*t.size+j+k)=some (id,[]):=by
  intro k hk
  have:=(r5 (i*t.size+(j+k)) (by omega)).1
  rw [show o+i*t.size+j+k=o+(i*t.size+(j+k)) by omega]
  exact this
 have K:=CQ (w:=w) hl
 have AE:id∉used:=(List.nodup_cons.1 dw).1
 have yE:id / 1024≠site:=fun e=>hs (e▸hU)
 let σ:Src:=fun p=>match p with
  | []=>none
  | (k',d)::s=>if k'=i then σe ((k',d)::s) else if own=true then some (id,(k',d)::s,g.hd id vr ((k',d)::s)) else none
 have dS:∀ q aq p h,σ q=some (aq,p,h)→(σe q=some (aq,p,h)∧∃ d s,q=(i,d)::s)∨(aq=id∧p=q∧∃ k' d s,q=(k',d)::s∧k'≠i):=by
  intro q aq p h e
  cases q with
  | nil=>simp [σ] at e
  | cons q s=>
   obtain ⟨k',d⟩:=q
   simp only [σ] at e
   split at e
   ·rename_i hk; subst hk; exact .inl ⟨e,_,_,rfl⟩
   ·rename_i hk
    split at e
    ·simp only [Option.some.injEq,Prod.mk.injEq] at e
     exact .inr ⟨e.1.symm,e.2.1.symm,_,_,_,rfl,hk⟩
    ·simp at e
 let D:Nat→Path→Prop:=fun aq p=>(aq=id∧p≠[])∨aq∈used
 let Rt:Nat→Nat→Prop:=fun b o=>g.lab b o=some (id,[])
 have tY:∀ q aq p h,σ q=some (aq,p,h)→D aq p:=by
  intro q aq p h e
  rcases dS _ _ _ _ e with ⟨e1,-⟩ | ⟨rfl,rfl,k',d,s,rfl,-⟩
  ·rcases hP.ids _ _ _ _ e1 with ⟨h2,d,s,rfl⟩ | h2
   ·exact .inl ⟨h2,by simp⟩
   ·exact .inr h2
  ·exact .inl ⟨rfl,by simp⟩
 have QT:∀ q aq p h,σ q=some (aq,p,h)→∀ q' h',σ q'=some (aq,p,h')→q'=q:=by
  intro q aq p h e q' h' e'
  rcases dS _ _ _ _ e with ⟨e1,d1,s1,nU⟩ | ⟨QU,ua,k1,d1,s1,nU,rW⟩<;>rcases dS _ _ _ _ e' with ⟨e2,d2,s2,ix⟩ | ⟨QV,jJ,k2,d2,s2,ix,rY⟩
  ·exact hP.inj dw _ _ _ _ _ _ e2 e1
  ·rcases hP.ids _ _ _ _ e1 with ⟨h2,d,s,h3⟩ | h2
   ·rw [jJ,ix] at h3; simp at h3; exact absurd h3.1.1 rY
   ·exact absurd (QV▸h2) AE
  ·rcases hP.ids _ _ _ _ e2 with ⟨h2,d,s,h3⟩ | h2
   ·rw [ua,nU] at h3; simp at h3; exact absurd h3.1.1 rW
   ·exact absurd (QU▸h2) AE
  ·rw [← jJ,ua]
 have fU:∀ b' o',g.lab b' o'≠some (id,[])→(w.setCells b (o+i*t.size+j) v.cells.toList).cell? (ad b' o')=w.cell? (ad b' o'):=by
  intro b' o' hn
  refine World.cell?_setCells_out b _ _ w _ (fun hb _=>?_)
  simp only at hb ⊢
  subst hb
  rcases Nat.lt_or_ge o' (o+i*t.size+j) with h | h
  ·exact .inl h
  ·rcases Nat.lt_or_ge o' (o+i*t.size+j+v.cells.toList.length) with h' | h'
   ·have:=hl (o'-(o+i*t.size+j)) (by omega)
    rw [show o+i*t.size+j+(o'-(o+i*t.size+j))=o' by omega] at this
    exact absurd this hn
   ·exact .inr h'
 have yC:Fr (qf g) w (w.setCells b (o+i*t.size+j) v.cells.toList):=rP b _ _ w (fun k hk=>⟨id,[],hl k hk,pb⟩)
 let g':=gj g site (fun _ _=>c8) (fun aq p=>if aq=id then (match σ p with | some (_,_,h)=>h | none=>c8) else c8) (gJ D id σ Rt g.lab)
 have l8:g'.hd id 0 []=g.hd id 0 []:=Fk hs hU S.u0
 have cI:∀ {T:Nat→Prop},T id→(∀ aq∈used,T aq)→du T g w U g' (w.setCells b (o+i*t.size+j) v.cells.toList) (U' U site):=by
  intro T QW AF
  refine Av hs (fun b' o' hn v' qn=>⟨by rw [fU b' o' (by rw [hn]; simp)]; exact qn,fun hr=>by have hr:g.lab b' o'=some (id,[]):=hr; rw [hn] at hr; simp at hr⟩) (fun b' o' aq p e qh=>?_)
  have av:aq≠id:=fun he=>qh (he▸QW)
  refine ⟨fun QX=>?_,fun hr=>?_,fU b' o' (by rw [e]; simp [av]),World.frozen?_setCells b _ _ w _⟩
  ·rcases QX with ⟨h2,-⟩ | h2
   ·exact av h2
   ·exact qh (AF _ h2)
  ·have hr:g.lab b' o'=some (id,[]):=hr
   rw [e] at hr; simp at hr; exact av hr.1
 refine ⟨_,g',U' U site,Fg (kZ S.aV (.inl ht)) (by simpa using aX) (fun k hk=>?_) h1,cI (by simp [cT]) (fun aq mW=>?_),trivial,fun aq ob aY=>?_,fun s h=>h,fun b' o' q h=>?_,fun b' o' q hb h=>?_,yC,fun aq h=>?_⟩
 ·obtain ⟨h2,h3,h4⟩:=r5 (i*t.size+(j+k)) (by omega)
  rw [show o+i*t.size+j+k=o+(i*t.size+(j+k)) by omega]
  exact ⟨h3,h4⟩
 ·rw [cT]; split
  ·rfl
  ·rw [jI,if_pos mW]; rfl
 ·rw [cT] at aY
  split at aY
  ·rename_i he
   subst he
   simp only [Option.some.injEq] at aY
   subst aY
   refine ⟨.inl hU,.inl S.u0,.inr rfl,?_⟩
   refine Aw (w:=w) (L:=L) (h0:=g.hd id 0 []) g' rfl l8 (fun q aq p h e=>by simp [e]) (fun q hq e=>by simp [e]) (fun q aq p h e=>⟨tY _ _ _ _ e,QT _ _ _ _ e,fun b' o' cw=>?_⟩) (fun b' o' cw v' qn=>?_) (by rw [List.length_set]; exact r1) r2 r3 (fun b' o' cw k hk=>?_) (fun b' o' cw k hk=>?_)
   ·have av:g.lab b' o'≠some (id,[]):=by
     rw [cw]
     intro he
     simp only [Option.some.injEq,Prod.mk.injEq] at he
     rcases tY _ _ _ _ e with ⟨-,h2⟩ | h2
     ·exact h2 he.2
     ·exact AE (he.1▸h2)
    exact ⟨av,fU b' o' av,World.frozen?_setCells b _ _ w _⟩
   ·rcases yz b' o' cw with hn | ⟨Fy,aq,p,hn,l7⟩
    ·have av:g.lab b' o'≠some (id,[]):=by rw [hn]; simp
     exact ⟨by rw [fU b' o' av]; exact qn,yu hn av⟩
    ·have av:g.lab b' o'≠some (id,[]):=by
      rw [hn]; intro he
      simp only [Option.some.injEq,Prod.mk.injEq] at he
      exact AE (he.1▸l7)
     refine ⟨by rw [fU b' o' av]; exact qn,JR hn av (.inr l7) (fun q h' e=>?_)⟩
     rcases dS _ _ _ _ e with ⟨e1,-⟩ | ⟨h2,-⟩
     ·rw [rX Fy] at e1; simp at e1
     ·exact AE (h2▸l7)
   ·rw [ha] at cw
    simp only [Option.some.injEq,Prod.mk.injEq] at cw
    obtain ⟨rfl,rfl⟩:=cw
    obtain ⟨a1,a2,a3⟩:=r5 k hk
    exact ⟨a1,K.Aq _ _ a2,by rw [K.frozen]; exact a3⟩
   ·rw [ha] at cw
    simp only [Option.some.injEq,Prod.mk.injEq] at cw
    obtain ⟨rfl,rfl⟩:=cw
    rw [List.length_set] at hk
    by_cases nQ:i=k
    ·subst nQ
     rw [List.getElem_set_self]
     refine mU t [] i 0 _ _ (fun d s hd=>by simp [σ]) (gi t [] i 0 _ _ _ (fun d hd=>?_) hE)
     by_cases bV:j≤d∧d<j+v.cells.toList.length
     ·rw [if_pos bV]
      have:=World.cell?_setCells_in b v.cells.toList (o+i*t.size+j) w (fun m hm=>by
       have:=(r5 (i*t.size+(j+m)) (by omega)).2.1
       rw [show o+i*t.size+j+m=o+(i*t.size+(j+m)) by omega]
       exact this) (d-j) (by omega)
      rw [show o+i*t.size+j+(d-j)=o+i*t.size+d by omega] at this
      rw [this,List.getElem?_eq_getElem]
     ·rw [if_neg bV]
      refine World.cell?_setCells_out b _ _ w _ (fun _ _=>?_)
      simp only; omega
    ·rw [List.getElem_set_ne nQ]
     have h6:=r6 k hk
     have QY:cQ g w own id vr t b9 [] k 0 xs[k] b (o+k*t.size):=by
      have:∀ (t:Ty) (j:Nat) (x:t.T) (b o:Nat),cQ g w own id vr t sk [] k j x b o→cQ g w own id vr t b9 [] k j x b o:=by
       intro t
       induction t with
       | pair s t FF FG=>intro j x b o h; exact ⟨FF _ _ _ _ h.1,FG _ _ _ _ h.2⟩
       | sl t _=>
        intro j x b o h
        cases own with
        | false=>exact h
        | true=>
         rcases h with h | h
         ·exact absurd (fl _ _ h).symm nQ
         ·exact .inr h
       | _=>intro j x b o h; exact h
      exact this t 0 _ _ _ h6
     refine gi t [] k 0 _ _ _ (fun d hd=>?_) (lX (σ:=σ) hL t [] [] k 0 k 0 _ b _ (fun rO d s hd=>?_) QY)
     ·refine World.cell?_setCells_out b _ _ w _ (fun _ _=>?_)
      simp only
      rcases Nat.lt_or_gt_of_ne nQ with h | h
      ·have:(i+1)*t.size≤k*t.size:=Nat.mul_le_mul_right _ h
       rw [Nat.add_mul] at this; omega
      ·have:(k+1)*t.size≤i*t.size:=Nat.mul_le_mul_right _ h
       rw [Nat.add_mul] at this; omega
     ·simp only [σ,List.nil_append]
      rw [if_neg (fun e=>nQ e.symm),if_pos rO]
  ·rw [jI] at aY
   split at aY<;>simp at aY
 ·have:=yC.size
  rcases qj h with h | h
  ·have h:g.lab b' o'=some (id,[]):=h
   have:=S.bB _ _ _ h; omega
  ·cases e:g.lab b' o' with
   | none=>exact absurd e h
   | some q=>have:=S.bB _ _ _ e; omega
 ·rcases qj h with h | h
  ·have h:g.lab b' o'=some (id,[]):=h
   rw [h]; simp
  ·exact h
 ·rw [cT] at h
  split at h
  ·rename_i he; rw [← he]; exact pb
  ·rw [jI] at h
   split at h
   ·rename_i hm; exact FB _ hm
   ·simp at h
end
end Go.Am
namespace Go.Am
open Go
structure mZ (id i:Nat) (u:List Nat) (σ:Src):Prop where
 ids:∀ p aq p' h,σ p=some (aq,p',h)→(aq=id∧p'=p∧∃ d s,p=(i,d)::s)∨aq∈u
 inj:(id::u).Nodup→∀ p1 p2 aq p' h1 h2,σ p1=some (aq,p',h1)→σ p2=some (aq,p',h2)→p1=p2
theorem mZ.put {id i:Nat} {u:List Nat} {σ:Src} (h:mZ id i u σ):Ka id i u σ:=by
 refine ⟨fun p aq p' hh e=>?_,h.inj⟩
 rcases h.ids _ _ _ _ e with ⟨h1,rfl,h2⟩ | h1
 ·exact .inl ⟨h1,h2⟩
 ·exact .inr h1
theorem mZ.or {id i:Nat} {u v:List Nat} {σ τ:Src} (h1:mZ id i u σ) (h2:mZ id i v τ):mZ id i (u++v) (fk σ τ):=by
 constructor
 ·intro p aq p' h e
  rcases nO e with e | ⟨-,e⟩
  ·rcases h1.ids _ _ _ _ e with h | h
   ·exact .inl h
   ·exact .inr (List.mem_append_left _ h)
  ·rcases h2.ids _ _ _ _ e with h | h
   ·exact .inl h
   ·exact .inr (List.mem_append_right _ h)
 ·intro hn p1 p2 aq p' ha hb e1 e2
  obtain ⟨n0,n⟩:=List.nodup_cons.1 hn
  obtain ⟨n1,n2,n3⟩:=List.nodup_append.1 n
  have hu:id∉u:=fun h=>n0 (List.mem_append_left _ h)
  have hv:id∉v:=fun h=>n0 (List.mem_append_right _ h)
  have mixed:∀ {q1 q2:Path} {g1 g2:Hd},σ q1=some (aq,p',g1)→τ q2=some (aq,p',g2)→q1=q2:=by
   intro q1 q2 g1 g2 f1 f2
   rcases h1.ids _ _ _ _ f1 with ⟨a1,a2,-⟩ | a1<;>rcases h2.ids _ _ _ _ f2 with ⟨b1,b2,-⟩ | b1
   ·rw [← a2,b2]
   ·exact absurd (a1▸b1) hv
   ·exact absurd (b1▸a1) hu
   ·exact absurd rfl (n3 _ a1 _ b1)
  rcases nO e1 with e1 | ⟨-,e1⟩<;>rcases nO e2 with e2 | ⟨-,e2⟩
  ·exact h1.inj (List.nodup_cons.2 ⟨hu,n1⟩) _ _ _ _ _ _ e1 e2
  ·exact mixed e1 e2
  ·exact (mixed e2 e1).symm
  ·exact h2.inj (List.nodup_cons.2 ⟨hv,n2⟩) _ _ _ _ _ _ e1 e2
theorem mZ.none {id i:Nat} {u:List Nat} : mZ id i u bC:=⟨fun _ _ _ _ h=>by simp [bC] at h,fun _ _ _ _ _ _ _ h=>by simp [bC] at h⟩
def rZ (g:Gh) (id vr:Nat) (i j:Nat):Src:=fun p=>(strip [(i,j)] p).map fun s=>(id,(i,j)::s,g.hd id vr ((i,j)::s))
theorem C6 {g:Gh} {id vr i j:Nat} {p:Path} {x:Nat×Path×Hd} (h:rZ g id vr i j p=some x):∃ s,p=(i,j)::s∧x=(id,(i,j)::s,g.hd id vr ((i,j)::s)):=by
 simp only [rZ,Option.map_eq_some_iff] at h
 obtain ⟨s,h1,rfl⟩:=h
 exact ⟨s,by simpa using Ap h1,rfl⟩
theorem QZ {g:Gh} {id vr i j:Nat} {s:Path} : rZ g id vr i j ((i,j)::s)=some (id,(i,j)::s,g.hd id vr ((i,j)::s)):=by
 have:=Fe [(i,j)] s
 simp only [List.cons_append,List.nil_append] at this
 simp [rZ,this]
theorem mZ.rZ {g:Gh} {id vr i j:Nat} {u:List Nat} : mZ id i u (rZ g id vr i j):=by
 refine ⟨fun p aq p' h e=>?_,fun _ p1 p2 aq p' h1 h2 e1 e2=>?_⟩
 ·obtain ⟨s,rfl,h⟩:=C6 e
  simp at h
  exact .inl ⟨h.1,h.2.1,j,s,rfl⟩
 ·obtain ⟨s1,rfl,h1⟩:=C6 e1
  obtain ⟨s2,rfl,h2⟩:=C6 e2
  simp at h1 h2
  rw [← h1.2.1,h2.2.1]
section
variable {P:Program} {c:aP} {g:Gh} {L:bt} {w w':World} {U:Nat→Prop} {sr:St} {a:Act} {site:Nat} {o:Oper} {ρ:Type} {r:ρ} {k:bR→Option ρ} {σ:Src}
theorem Q_ (hO:dR g w U sr) (hL:∀ b o,g.lab b o=none→L b o=none) {own:Bool} {id vr lo i:Nat} {vs:List af} {f:Nat→Option Value} (hv:eL g w U vs f) {sk:Nat→Nat→Bool} : ∀ (d:Nat) (t:Ty) (j:Nat) (x y:t.T) (u:List Nat) (cZ:Bool) (b o:Nat),
  jA sr own d t x j lo vs=some (y,u,cZ)→(own=false→∀ id∈u,∀ b o p,g.lab b o=some (id,p)→L b o=none)→(∀ dd,dd<t.size→sk i (j+dd)=true→lo≤j+dd∧j+dd<lo+vs.length)→
  cQ g w own id vr t sk [] i j x b o→(∀ id∈u,sr.obj id≠none)∧∃ σ,ca g L w own σ t [] i j y (fun k=>if lo≤j+k∧j+k<lo+vs.length then f (j+k-lo) else w.cell? (ad b (o+k)))∧Fc [] i j t.size σ∧mZ id i u σ:=by
 have leaf:∀ (B:Bool) (d:Nat) (t:Ty) (j:Nat) (x y:t.T) (u:List Nat) (cZ:Bool) (b o:Nat),t.size=1→
   (match Nat.ble lo j&&Nat.blt j (lo+vs.length) with
   | false=>some (x,[],false)
   | true=>match vs.drop (j-lo) with
    | v::_=>match take sr own d t [v] with
     | some (y,_,u)=>some (y,u,B)
     | none=>none
    | []=>none)=some (y,u,cZ)→(own=false→∀ id∈u,∀ b o p,g.lab b o=some (id,p)→L b o=none)→(∀ dd,dd<t.size→sk i (j+dd)=true→lo≤j+dd∧j+dd<lo+vs.length)→
   cQ g w own id vr t sk [] i j x b o→(sk i j=false→cQ g w own id vr t sk [] i j x b o→cQ g w own id vr t b9 [] i j x b o)→
   (∀ id∈u,sr.obj id≠none)∧∃ σ,ca g L w own σ t [] i j y (fun k=>if lo≤j+k∧j+k<lo+vs.length then f (j+k-lo) else w.cell? (ad b (o+k)))∧Fc [] i j t.size σ∧mZ id i u σ:=by
  intro B d t j x y u cZ b o h1 e eY fl h kf
  split at e
  ·rename_i hb
   obtain ⟨rfl,rfl,-⟩:=gF e
   have cw:¬ (lo≤j∧j<lo+vs.length):=by
    intro hc
    have:(Nat.ble lo j&&Nat.blt j (lo+vs.length))=true:=by simp [Nat.blt_eq]; omega
    rw [this] at hb; exact absurd hb (by simp)
   have Q0:sk i j=false:=by
    cases hq:sk i j with
    | false=>rfl
    | true=>exact absurd (fl 0 (by omega) hq) cw
   have h':=kf Q0 h
   refine ⟨by simp,?_⟩
   have gk:∀ k,k<t.size→(if lo≤j+k∧j+k<lo+vs.length then f (j+k-lo) else w.cell? (ad b (o+k)))=w.cell? (ad b (o+k)):=by
    intro k hk
    have:k=0:=by omega
    subst this
    rw [if_neg (by simpa using cw)]
   cases own with
   | true=>
    refine ⟨rZ g id vr i j,gi t [] i j _ _ _ gk (lX hL t [] [] i j i j _ b o (fun _ dd s AG=>?_) h'),?_,.rZ⟩
    ·have:dd=0:=by omega
     subst this
     simp only [List.nil_append,Nat.add_zero]
     exact QZ
    ·intro p hp
     cases e:rZ g id vr i j p with
     | none=>exact absurd e hp
     | some z=>
      obtain ⟨s,rfl,-⟩:=C6 e
      exact ⟨0,s,by omega,by simp⟩
   | false=>
    exact ⟨bC,gi t [] i j _ _ _ gk (lX hL t [] [] i j i j _ b o (fun hf=>by simp at hf) h'),fun p hp=>absurd rfl hp,.none⟩
  ·rename_i hb
   simp only [Bool.and_eq_true,Nat.ble_eq,Nat.blt_eq] at hb
   split at e
   ·rename_i v rr hd
    split at e
    ·rename_i y' r' u' ht
     obtain ⟨rfl,rfl,-⟩:=gF e
     have ao:j-lo<vs.length:=by omega
     have kb:vs[j-lo]=v:=by
      have:=congrArg (fun l=>l[0]?) hd
      simpa [List.getElem?_eq_getElem ao] using this
     have hV:eL g w U [v] (fun k=>f (j-lo+k)):=by
      intro k hk
      have:k=0:=by simp at hk; exact hk
      subst this
      obtain ⟨z,l_,gG⟩:=hv (j-lo) ao
      rw [kb] at gG
      exact ⟨z,l_,gG⟩
     obtain ⟨c1,c2,c3,σ,T⟩:=(yn hO hL own d).1 t [v] y' r' u' _ [] i j hV ht eY
     refine ⟨c1,σ,gi t [] i j _ _ _ (fun k hk=>?_) T.ow,T.kD,fun p aq p' h e=>.inr (T.tk.ids _ _ _ _ e),fun hn=>T.tk.inj (List.nodup_cons.1 hn).2⟩
     have:k=0:=by omega
     subst this
     rw [if_pos (by omega)]
     congr 1
    ·simp at e
   ·simp at e
 intro d
 induction d with
 | zero=>intro t j x y u cZ b o e; cases t<;>simp [jA] at e
 | succ d ih=>
  intro t j x y u cZ b o e eY fl h
  cases t with
  | pair s t=>
   simp only [jA] at e
   split at e
   ·rename_i y1 u1 h1 e1
    split at e
    ·rename_i y2 u2 h2 e2
     obtain ⟨hy,hu,hh⟩:=gF e
     subst hy hu
     obtain ⟨b1,dn,c1,d1,p1⟩:=ih s j x.1 y1 u1 h1 b o e1 (fun ho id hi=>eY ho id (List.mem_append_left _ hi)) (fun dd AG=>fl dd (by simp [Ty.size]; omega)) h.1
     obtain ⟨b2,rN,c2,d2,p2⟩:=ih t (j+s.size) x.2 y2 u2 h2 b (o+s.size) e2 (fun ho id hi=>eY ho id (List.mem_append_right _ hi)) (fun dd AG hq=>by
      have:=fl (s.size+dd) (by simp [Ty.size]; omega) (by rw [← Nat.add_assoc]; exact hq)
      rw [← Nat.add_assoc] at this; exact this) h.2
     refine ⟨?_,fk dn rN,⟨?_,?_⟩,?_,p1.or p2⟩
     ·intro aq hi
      rcases List.mem_append.1 hi with hi | hi
      ·exact b1 aq hi
      ·exact b2 aq hi
     ·refine mU s [] i j y1 _ (fun dd ss AG=>?_) c1
      unfold fk
      split
      ·rename_i y hy; exact hy.symm
      ·rename_i hy
       rw [hy]
       cases h2:rN ([]++(i,j+dd)::ss) with
       | none=>rfl
       | some y=>
        obtain ⟨d',s',fx,he⟩:=d2 _ (by rw [h2]; simp)
        simp at he; omega
     ·refine mU t [] i (j+s.size) y2 _ (fun dd ss AG=>?_) (gi t [] i _ y2 _ _ (fun k hk=>?_) c2)
      ·unfold fk
       split
       ·rename_i y hy
        obtain ⟨d',s',fx,he⟩:=d1 _ (by rw [hy]; simp)
        simp at he; omega
       ·rfl
      ·simp only [Nat.add_assoc]
     ·intro p hp
      unfold fk at hp
      cases h1:dn p with
      | some y=>
       obtain ⟨d',s',fx,he⟩:=d1 p (by rw [h1]; simp)
       exact ⟨d',s',by simp only [Ty.size]; omega,he⟩
      | none=>
       rw [h1] at hp
       obtain ⟨d',s',fx,he⟩:=d2 p hp
       exact ⟨s.size+d',s',by simp only [Ty.size]; omega,by rw [he,Nat.add_assoc]⟩
    ·simp at e
   ·simp at e
  | sl t=>
   refine leaf true d (.sl t) j x y u cZ b o rfl e eY fl h (fun hf h=>?_)
   cases own with
   | false=>exact h
   | true=>
    rcases h with h | h
    ·rw [hf] at h; simp at h
    ·exact .inr h
  | bh t=>exact leaf true d (.bh t) j x y u cZ b o rfl e eY fl h (fun hf h=>h)
  | int k=>exact leaf false d (.int k) j x y u cZ b o rfl e eY fl h (fun hf h=>h)
  | bool=>exact leaf false d .bool j x y u cZ b o rfl e eY fl h (fun hf h=>h)
  | str=>exact leaf false d .str j x y u cZ b o rfl e eY fl h (fun hf h=>h)
  | err=>exact leaf false d .err j x y u cZ b o rfl e eY fl h (fun hf h=>h)
theorem Q1 {x:af} {v:Value} (hx:ay g w U x v) (bb:gV x.cells=true):eL g w U x.cells (fun k=>v.cells.toList[k]?):=by
 obtain ⟨dD,-⟩:=wC hx bb
 intro k hk
 obtain ⟨z,h2,h3⟩:=jF dD k hk
 exact ⟨z,h2,h3⟩
theorem Kb (S:cB P c g w U sr a) (hs:¬ U site) {t0:Nat} (ht:0<(c.ti t0).size) {id:Nat} {i j:Nat} {x:af} {own:Bool} {t:Ty} {vr:Nat} {xs:List t.T} {sk:Nat→Nat→Bool} {y:t.T} {used:List Nat} {cZ:Bool} {va v:Value}
  (ha:ay g w U (.dI id 0 [] t i j) va) (hx:ay g w U x v) (hlen:x.cells.length=(c.ti t0).size) (bb:gV x.cells=true)
  (hR:dC g w own id 0 vr t sk [] xs) (fl:∀ k' j',sk k' j'=true→k'=i∧j≤j'∧j'<j+(c.ti t0).size) (hj:j+(c.ti t0).size≤t.size)
  (he:jA sr own 50 t (el t xs i) 0 j x.cells=some (y,used,cZ)) (dw:(id::used).Nodup) (pb:id / 1024≠19) :
  ∃ w' g' U',(Instr.storeAt t0 va v).run P w = .ok () w'∧cR g w U site ⟨.undef,(id,some (.row own t site (xs.set i y)))::gone used⟩ undef w' g' U':=by
 obtain ⟨hU,-,jb,-,-,hi,b,o,hb,rfl⟩:=ha
 have AH:=hR
 obtain ⟨r1,r2,r3,r4⟩:=AH
 rw [r1] at hi
 obtain ⟨r5,r6⟩:=r4 b o hb
 have h6:=r6 i hi
 rw [← rL hi] at h6
 let L:bt:=if own=true then g.lab else t_ g.lab used
 have hL:∀ b o,g.lab b o=none→L b o=none:=by
  intro b o hb
  simp only [L]; split
  ·exact hb
  ·exact J4 hb
 obtain ⟨AD,σ,c1,d1,p1⟩:=Q_ (L:=L) S.aE hL (Q1 hx bb) 50 t 0 _ y used cZ b _ he (fun hf aq mW b o p hb=>by simp only [L,hf]; exact J5 hb mW)
  (fun dd AG hq=>by have:=(fl _ _ hq).2; rw [hlen]; exact this) h6
 obtain ⟨dD,-⟩:=wC hx bb
 have eg:v.cells.toList.length=x.cells.length:=ka dD
 have c2:ca g L w own σ t [] i 0 y (fun k=>if j≤k∧k<j+v.cells.toList.length then v.cells.toList[k-j]? else w.cell? (ad b (o+i*t.size+k))):=by
  refine gi t [] i 0 y _ _ (fun k hk=>?_) c1
  simp only [Nat.zero_add,eg]
 have yz:∀ b o,L b o=none→g.lab b o=none∨(own=false∧∃ id p,g.lab b o=some (id,p)∧id∈used):=by
  intro b o hb
  simp only [L] at hb
  split at hb
  ·exact .inl hb
  ·rename_i hf
   rcases J6 hb with hb | hb
   ·exact .inl hb
   ·exact .inr ⟨by simpa using hf,hb⟩
 have hD:∀ p,σ p≠none→∃ d s,p=(i,d)::s:=by
  intro p hp
  obtain ⟨d,s,-,he⟩:=d1 p hp
  exact ⟨_,_,by simpa using he⟩
 cases own with
 | true=>exact FE (L:=L) (σe:=σ) S hs ht hx hlen bb hU pb (fun aq h=>S.nf _ (AD _ h)) hR (fun k' j' h=>(fl k' j' h).1) hb hi hj hL yz dw (fun hf=>by simp at hf) c2 p1.put hD
 | false=>exact FE (L:=L) (σe:=bC) S hs ht hx hlen bb hU pb (fun aq h=>S.nf _ (AD _ h)) hR (fun k' j' h=>(fl k' j' h).1) hb hi hj hL yz dw (fun _ _=>rfl) (CZ _ _ _ _ _ _ c2) mZ.none.put (fun p hp=>absurd rfl hp)
theorem Kc (S:cB P c g w U sr a) (hs:¬ U site) {t0:Nat} (ht:0<(c.ti t0).size) {id ver:Nat} {p:Path} {tt:Ty} {i j:Nat} {x:af} {own:Bool} {t:Ty} {vr:Nat} {xs:List t.T} {va v:Value}
  (ha:ay g w U (.dI id ver p tt i j) va) (hx:ay g w U x v) (hlen:x.cells.length=(c.ti t0).size) (bb:gV x.cells=true)
  (ho:sr.obj id=some (.row own t vr xs)) (hp:p=[]∨(own=true∧ver=vr)) (e:vU sr site (c.ti t0).size id own t vr xs p tt i j x.cells k=some r) :
  ∃ aT,k aT=some r∧∃ w' g' U',(Instr.storeAt t0 va v).run P w = .ok () w'∧cR g w U site aT undef w' g' U':=by
 unfold vU at e
 split at e
 case h_2=>simp at e
 rename_i u ys dL
 split at e
 case h_2=>simp at e
 rename_i y used cZ he
 split at he
 case h_2=>simp at he
 rename_i hb
 rw [Bool.and_eq_true] at hb
 obtain rfl:=Ty.eq_of_beq hb.1
 have hj:=Nat.le_of_ble_eq_true hb.2
 split at e
 case h_2=>simp at e
 rename_i ja jG
 split at e
 case h_2=>simp at e
 rename_i dw
 rw [Bool.and_eq_true,tS] at dw
 cases cZ with
 | false=>
  have hu:used=[]:=List.isEmpty_iff.1 dw.2
  subst hu
  obtain ⟨w',h1,h2⟩:=Qg (site:=site) S ht ha hx hlen bb ho hp dL rfl hj he jG
  exact ⟨_,e,w',g,U,h1,h2⟩
 | true=>
  have o9:p=[]:=List.isEmpty_iff.1 dw.2
  subst o9
  simp only [place,Option.some.injEq] at dL
  obtain ⟨rfl,dL⟩:=Sigma.mk.inj dL
  obtain rfl:=eq_of_heq dL
  simp only [tH] at jG
  obtain ⟨-,jG⟩:=kC jG
  obtain rfl:=eq_of_heq jG
  have mV:ver=0:=ha.2.2.2.2.1 rfl
  subst mV
  obtain ⟨-,-,-,hR⟩:=S.aE id _ ho
  obtain ⟨w',g',U',h1,h2⟩:=Kb S hs ht ha hx hlen bb hR (fun k' j' h=>by simp [b9] at h) hj he dw.1 (S.nf _ (by rw [ho]; simp))
  exact ⟨_,e,w',g',U',h1,h2⟩
theorem Q2 (S:cB P c g w U sr a) (hs:¬ U site) {t0:Nat} {id ver:Nat} {tt:Ty} {i j bi bj:Nat} {x:af} {t:Ty} {vr:Nat} {xs:List t.T} {va v:Value}
  (ha:ay g w U (.dI id ver [] tt i j) va) (hx:ay g w U x v) (hlen:x.cells.length=(c.ti t0).size) (bb:gV x.cells=true)
  (ho:sr.obj id=some (.kS t vr xs bi bj)) (e:xO sr site (c.ti t0).size id t xs bi bj tt i j x.cells k=some r) :
  ∃ aT,k aT=some r∧∃ w' g' U',(Instr.storeAt t0 va v).run P w = .ok () w'∧cR g w U site aT undef w' g' U':=by
 unfold xO at e
 split at e
 ·simp at e
 rename_i hb
 simp only [Bool.and_eq_true,Nat.ble_eq,Nat.blt_eq] at hb
 obtain ⟨⟨⟨g_,cS⟩,hj⟩,ht⟩:=hb
 obtain rfl:=Nat.eq_of_beq_eq_true g_
 obtain rfl:=Ty.eq_of_beq cS
 unfold ab at e
 split at e
 case isFalse=>simp at e
 rename_i Q3
 subst Q3
 split at e
 case h_2=>simp at e
 rename_i y used cZ he
 split at e
 case h_2=>simp at e
 rename_i dw
 rw [tS] at dw
 have mV:ver=0:=ha.2.2.2.2.1 rfl
 subst mV
 obtain ⟨-,-,-,hR⟩:=S.aE id _ ho
 obtain ⟨w',g',U',h1,h2⟩:=Kb S hs ht ha hx hlen bb hR (fun k' j' h=>by
  simp only [Bool.and_eq_true] at h
  have e1:=Nat.eq_of_beq_eq_true h.1
  have e2:=Nat.eq_of_beq_eq_true h.2
  omega) hj he dw (S.nf _ (by rw [ho]; simp))
 exact ⟨_,e,w',g',U',h1,h2⟩
end
end Go.Am
namespace Go.Am
open Go
section
variable {P:Program} {c:aP} {g:Gh} {L:bt} {w w':World} {U:Nat→Prop} {sr:St} {a:Act} {site:Nat} {o:Oper} {ρ:Type} {r:ρ} {k:bR→Option ρ} {σ:Src}
def pd (g:Gh) (id vr i jm off len:Nat) (h:Hd):Src:=fun p=>match p with
 | []=>none
 | (i1,j1)::s=>if i1=i then (if j1=jm then (match s with
   | []=>some (id,[(i,jm)],h)
   | (k,j2)::s'=>if k<len then some (id,(i,jm)::(k+off,j2)::s',g.hd id vr ((i,jm)::(k+off,j2)::s')) else none)
  else some (id,(i,j1)::s,g.hd id vr ((i,j1)::s))) else none
theorem C7 {g:Gh} {id vr i jm off len:Nat} {h:Hd} {p:Path} {aq:Nat} {p':Path} {h':Hd} (e:pd g id vr i jm off len h p=some (aq,p',h')) :
  aq=id∧∃ d s,p'=(i,d)::s∧p=(i,d)::p.tail∧((d≠jm∧p.tail=s)∨(d=jm∧((s=[]∧p.tail=[])∨∃ k j2 s',s=(k+off,j2)::s'∧p.tail=(k,j2)::s'))):=by
 cases p with
 | nil=>simp [pd] at e
 | cons p0 s=>
  obtain ⟨i1,j1⟩:=p0
  simp only [pd] at e
  split at e
  ·rename_i hi
   subst hi
   split at e
   ·rename_i hj
    subst hj
    split at e
    ·simp only [Option.some.injEq,Prod.mk.injEq] at e
     exact ⟨e.1.symm,j1,[],e.2.1.symm,rfl,.inr ⟨rfl,.inl ⟨rfl,rfl⟩⟩⟩
    ·split at e
     ·simp only [Option.some.injEq,Prod.mk.injEq] at e
      exact ⟨e.1.symm,j1,_,e.2.1.symm,rfl,.inr ⟨rfl,.inr ⟨_,_,_,rfl,rfl⟩⟩⟩
     ·simp at e
   ·rename_i hj
    simp only [Option.some.injEq,Prod.mk.injEq] at e
    exact ⟨e.1.symm,j1,s,e.2.1.symm,rfl,.inl ⟨hj,rfl⟩⟩
  ·simp at e
theorem Q4 (s t:Ty) (x:(Ty.pair s t).T) (m:Nat):iI (.pair s t) x m=(match Nat.blt m s.size with | true=>iI s x.1 m | false=>iI t x.2 (m-s.size)):=rfl
theorem FH (hL:∀ b o,g.lab b o=none→L b o=none) {id vr i jm off len:Nat} {h:Hd} {u:Ty}
  (ke:∀ ys:List u.T,dC g w true id vr vr u b9 [(i,jm)] ys→yf w g.lab u.size (id,[(i,jm)]) h (fun k x b o=>ca g L w true (pd g id vr i jm off len h) u [(i,jm)] k 0 x (fun d=>w.cell? (ad b (o+d)))) ((ys.drop off).take len)) :
  ∀ (t:Ty) (j0 m:Nat) (x y:t.T) (b o:Nat) (ys:List u.T),j0+m=jm→iI t x m=some ⟨u,ys⟩→oY t x m (fun _ zs=>some ((zs.drop off).take len))=some y→cQ g w true id vr t b9 [] i j0 x b o→
  ca g L w true (pd g id vr i jm off len h) t [] i j0 y (fun k=>if k=m then some h.val else w.cell? (ad b (o+k)))
 | .pair s t,j0,m,x,y,b,o,ys,hj,hc,e,hx=>by
  rw [Q4] at hc
  rw [JE] at e
  have Kd:∀ (t':Ty) (j1:Nat) (x':t'.T) (b o:Nat),(∀ d,d<t'.size→j1+d≠jm)→cQ g w true id vr t' b9 [] i j1 x' b o→ca g L w true (pd g id vr i jm off len h) t' [] i j1 x' (fun k=>w.cell? (ad b (o+k))):=by
   intro t' j1 x' b o av h'
   refine lX hL t' [] [] i j1 i j1 x' b o (fun _ d s hd=>?_) h'
   simp only [List.nil_append,pd]
   rw [if_pos trivial,if_neg (av d hd)]
  split at hc
  ·rename_i hb
   rw [hb] at e
   have hb:m<s.size:=by simpa [Nat.blt_eq] using hb
   simp only at e
   split at e
   ·rename_i y1 e1
    obtain rfl:=Option.some.inj e
    refine ⟨FH hL ke s j0 m x.1 y1 b o ys hj hc e1 hx.1,?_⟩
    have:=Kd t (j0+s.size) x.2 b (o+s.size) (fun d hd=>by omega) hx.2
    refine gi t [] i _ _ _ _ (fun k hk=>?_) this
    change (if s.size+k=m then some h.val else w.cell? (ad b (o+(s.size+k))))=_
    rw [if_neg (by omega),Nat.add_assoc]
   ·simp at e
  ·rename_i hb
   rw [hb] at e
   have hb:¬ m<s.size:=by
    intro ao
    have:Nat.blt m s.size=true:=by simpa [Nat.blt_eq] using ao
    rw [this] at hb; exact absurd hb (by simp)
   simp only at e
   split at e
   ·rename_i y1 e1
    obtain rfl:=Option.some.inj e
    refine ⟨?_,?_⟩
    ·have:=Kd s j0 x.1 b o (fun d hd=>by omega) hx.1
     refine gi s [] i _ _ _ _ (fun k hk=>?_) this
     change (if k=m then some h.val else w.cell? (ad b (o+k)))=_
     rw [if_neg (by omega)]
    ·have:=FH hL ke t (j0+s.size) (m-s.size) x.2 y1 b (o+s.size) ys (by omega) hc e1 hx.2
     refine gi t [] i _ _ _ _ (fun k hk=>?_) this
     change (if s.size+k=m then some h.val else w.cell? (ad b (o+(s.size+k))))=_
     by_cases bL:k=m-s.size
     ·rw [if_pos (by omega),if_pos bL]
     ·rw [if_neg (by omega),if_neg bL,Nat.add_assoc]
   ·simp at e
 | .sl t,j0,m,x,y,b,o,ys,hj,hc,e,hx=>by
  cases m with
  | succ m=>rw [JG] at e; simp at e
  | zero=>
   rw [JF] at e
   have hc:some (⟨t,x⟩:(u:Ty)×List u.T)=some ⟨u,ys⟩:=hc
   simp only [Option.some.injEq] at hc
   obtain ⟨rfl,hc⟩:=Sigma.mk.inj hc
   obtain rfl:=eq_of_heq hc
   have e:((List.drop off (x:List t.T)).take len)=y:=Option.some.inj e
   rw [Nat.add_zero] at hj
   subst hj
   subst e
   rcases hx with hx | ⟨-,hx⟩
   ·simp [b9] at hx
   ·exact .inl ⟨id,[(i,j0)],h,by simp [pd],by simp,ke x hx⟩
 | .int _,_,m,_,_,_,_,_,_,_,e,_=>by cases m<;>(have e:none=some _:=e; simp at e)
 | .bool,_,m,_,_,_,_,_,_,_,e,_=>by cases m<;>(have e:none=some _:=e; simp at e)
 | .str,_,m,_,_,_,_,_,_,_,e,_=>by cases m<;>(have e:none=some _:=e; simp at e)
 | .err,_,m,_,_,_,_,_,_,_,e,_=>by cases m<;>(have e:none=some _:=e; simp at e)
 | .bh _,_,m,_,_,_,_,_,_,_,e,_=>by cases m<;>(have e:none=some _:=e; simp at e)
theorem Q5 (S:cB P c g w U sr a) (hs:¬ U site) {t0:Nat} (ht:0<(c.ti t0).size) {id ver:Nat} {tt:Ty} {i j aq kx i' j':Nat} {u:Ty} {off len:Nat} {own:Bool} {t:Ty} {vr:Nat} {xs:List t.T} {va v:Value}
  (ha:ay g w U (.dI id ver [] tt i j) va) (hx:ay g w U (.dV aq kx [(i',j')] u off len) v) (hlen:(1:Nat)=(c.ti t0).size)
  (ho:sr.obj id=some (.row own t vr xs)) (e:xN site id own t vr xs tt i j aq kx i' j' u off len k=some r) :
  ∃ aT,k aT=some r∧∃ w' g' U',(Instr.storeAt t0 va v).run P w = .ok () w'∧cR g w U site aT undef w' g' U':=by
 unfold xN at e
 split at e
 ·simp at e
 rename_i hb
 simp only [Bool.and_eq_true] at hb
 obtain ⟨⟨⟨⟨⟨rfl,g_⟩,cS⟩,tW⟩,Q6⟩,C8⟩:=hb
 obtain rfl:=Nat.eq_of_beq_eq_true g_
 obtain rfl:=Nat.eq_of_beq_eq_true cS
 obtain rfl:=Nat.eq_of_beq_eq_true tW
 obtain rfl:=Ty.eq_of_beq Q6
 unfold ab at e
 split at e
 case isFalse=>simp at e
 rename_i Q7
 subst Q7
 split at e
 case h_2=>simp at e
 rename_i y jG
 cases iJ:iI tt (el tt xs i) j with
 | none=>rw [iJ] at C8; simp at C8
 | some q=>
  obtain ⟨u',ys⟩:=q
  rw [iJ] at C8
  obtain rfl:=Ty.eq_of_beq C8
  obtain ⟨hU,-,jb,-,mV,hi,b,o,hb,rfl⟩:=ha
  obtain rfl:=mV rfl
  have qp:=hx
  obtain ⟨-,-,-,bV,-,a0,cp,rfl,h6,h7,h8,h9,q,rfl⟩:=hx
  obtain ⟨-,-,kA,hR⟩:=S.aE id _ ho
  have AH:=hR
  obtain ⟨r1,r2,r3,r4⟩:=AH
  rw [r1] at hi
  obtain ⟨r5,r6⟩:=r4 b o hb
  have FI:=r6 i hi
  rw [← rL hi] at FI
  obtain ⟨-,-,QO⟩:=Aj tt [] i 0 _ b _ j u ys FI iJ
  have tY:=FH (L:=g.lab) (g:=g) (w:=w) (id:=id) (vr:=kx) (i:=i) (jm:=j) (off:=off) (len:=len) (h:=⟨q,len,cp⟩) (u:=u) (fun _ _ h=>h) (fun zs hz=>by
   obtain ⟨z1,z2,z3,z4⟩:=hz
   rw [z1] at h8
   refine ⟨by simp; omega,h7,fun hn=>?_,fun b' o' FJ=>?_⟩
   ·rcases Nat.eq_zero_or_pos cp with hz | hz
    ·exact hz
    ·obtain ⟨b1,o1,-,hh⟩:=h9 hz
     have hn:q=none:=hn
     rw [hn] at hh; simp at hh
   ·have FJ:q=some (b',o'):=FJ
    subst FJ
    rcases Nat.eq_zero_or_pos cp with hz | hz
    ·exact ⟨fun k hk=>by have hk:k<cp*u.size:=hk; rw [hz] at hk; simp at hk,fun k hk=>by simp at hk; omega⟩
    ·obtain ⟨b1,o1,iv,gE⟩:=h9 hz
     simp only [Option.map_some,Option.some.injEq,Addr.mk.injEq] at gE
     obtain ⟨rfl,rfl,-⟩:=gE
     obtain ⟨z5,z6⟩:=z4 b' o1 iv
     have hle:off*u.size+cp*u.size=(g.hd id kx [(i,j)]).cap*u.size:=by rw [← h6,Nat.add_mul]
     refine ⟨fun k hk=>?_,fun k hk=>?_⟩
     ·have hk:k<cp*u.size:=hk
      have:=z5 (off*u.size+k) (by omega)
      rwa [← Nat.add_assoc] at this
     ·simp only [List.length_take,List.length_drop] at hk
      have An:=z6 (off+k) (by omega)
      simp only [List.getElem_take,List.getElem_drop]
      rw [Nat.add_mul,← Nat.add_assoc] at An
      refine lX (fun _ _ h=>h) u [(i,j)] [(i,j)] (off+k) 0 k 0 _ b' _ (fun _ d s hd=>?_) An
      simp only [List.cons_append,List.nil_append,pd]
      rw [if_pos trivial,if_pos trivial,if_pos (by omega),Nat.add_comm k off]) tt 0 j _ y b _ ys (by omega) iJ jG FI
  have r_:(⟨q,len,cp⟩:Hd).val = .slice (q.map fun p=>ad p.1 p.2) len cp:=rfl
  have gk:(Value.slice (q.map fun p=>ad p.1 p.2) len cp).cells.toList=[(⟨q,len,cp⟩:Hd).val]:=rfl
  obtain ⟨w',g',U',h1,h2⟩:=FE (L:=g.lab) (site:=site) (own:=true) (used:=[]) (t:=tt) (xs:=xs) (y:=y) (j:=j) (σe:=pd g id kx i j off len ⟨q,len,cp⟩) S hs ht (x:=.dV id kx [(i,j)] u off len) qp (by simpa [af.cells] using hlen) rfl hU (S.nf _ (by rw [ho]; simp)) (fun _ h=>by simp at h) hR (fun k' j' h=>by simp [b9] at h) hb hi (by omega) (fun _ _ h=>h) (fun b o h=>.inl h) (by simp) (fun hf=>by simp at hf)
   (by
    refine gi tt [] i 0 y _ _ (fun k hk=>?_) tY
    rw [gk]
    by_cases Ke:k=j
    ·subst Ke; simp
    ·rw [if_neg (by simp; omega),if_neg Ke])
   ⟨fun p aq p' h e=>by
    left
    obtain ⟨h1,d,s,h2,-⟩:=C7 e
    exact ⟨h1,d,s,h2⟩,fun _ p1 p2 aq p' h1 h2 e1 e2=>by
    obtain ⟨-,d1,s1,a1,b1,c1⟩:=C7 e1
    obtain ⟨-,d2,s2,a2,b2,c2⟩:=C7 e2
    rw [a1] at a2
    simp only [List.cons.injEq,Prod.mk.injEq,true_and] at a2
    obtain ⟨rfl,rfl⟩:=a2
    have ht:p1.tail=p2.tail:=by
     rcases c1 with ⟨c3,t1⟩ | ⟨FK,c1⟩<;>rcases c2 with ⟨c4,t2⟩ | ⟨lk,c2⟩
     ·rw [t1,t2]
     ·exact absurd lk c3
     ·exact absurd FK c4
     ·rcases c1 with ⟨h3,t1⟩ | ⟨k1,j1,s1',h3,t1⟩<;>rcases c2 with ⟨h4,t2⟩ | ⟨k2,j2,s2',h4,t2⟩
      ·rw [t1,t2]
      ·rw [h3] at h4; simp at h4
      ·rw [h3] at h4; simp at h4
      ·rw [h3] at h4
       simp only [List.cons.injEq,Prod.mk.injEq] at h4
       obtain ⟨⟨h5,rfl⟩,rfl⟩:=h4
       have:k1=k2:=by omega
       subst this
       rw [t1,t2]
    rw [b1,b2,ht]⟩ (fun p hp=>by
    cases e:pd g id kx i j off len ⟨q,len,cp⟩ p with
    | none=>exact absurd e hp
    | some z=>
     obtain ⟨aq,p',h'⟩:=z
     obtain ⟨-,d,s,-,h2,-⟩:=C7 e
     exact ⟨_,_,h2⟩)
  exact ⟨_,e,w',g',U',h1,h2⟩
theorem Q8 (S:cB P c g w U sr a) (hs:¬ U site) {t0:Nat} (ht:0<(c.ti t0).size) {ad x:af} {va v:Value} (ha:ay g w U ad va) (hx:ay g w U x v) (e:xP sr site (c.ti t0).size ad x k=some r) :
  ∃ aT,k aT=some r∧∃ w' g' U',(Instr.storeAt t0 va v).run P w = .ok () w'∧cR g w U site aT undef w' g' U':=by
 unfold xP at e
 split at e
 ·simp at e
 rename_i hb
 rw [Bool.and_eq_true] at hb
 have hlen:=Nat.eq_of_beq_eq_true hb.1
 have bb:=hb.2
 cases ad with
 | aJ id j=>
  simp only at e
  split at e
  ·rename_i ro cs ho
   split at e
   ·simp at e
   ·split at e
    ·rename_i hj
     obtain ⟨w',h1,h2⟩:=Qe (site:=site) S ht ha hx hlen bb ho (Nat.le_of_ble_eq_true hj)
     exact ⟨_,e,w',g,U,h1,h2⟩
    ·simp at e
  ·simp at e
 | dI id ver p tt i j=>
  simp only at e
  split at e
  ·rename_i own t vr xs ho
   cases p with
   | nil=>
    simp only at e
    split at e
    ·rename_i aq kx i' j' u off len
     exact Q5 S hs ht ha hx (by simpa [af.cells] using hlen) ho e
    ·exact Kc S hs ht ha hx hlen bb ho (.inl rfl) e
   | cons q p=>
    simp only at e
    split at e
    ·simp at e
    ·rename_i cS
     rw [Bool.and_eq_true] at cS
     exact Kc S hs ht ha hx hlen bb ho (.inr ⟨cS.1,Nat.eq_of_beq_eq_true cS.2⟩) e
  ·rename_i t vr xs bi bj ho
   cases p with
   | nil=>exact Q2 S hs ha hx hlen bb ho e
   | cons q p=>simp at e
  ·simp at e
 | _=>simp at e
end
end Go.Am
namespace Go.Am
open Go
section
variable {P:Program} {c:aP} {g:Gh} {L:bt} {w w':World} {U:Nat→Prop} {sr:St} {a:Act} {site:Nat} {o:Oper} {ρ:Type} {r:ρ} {k:bR→Option ρ}
theorem FL {own qg:Bool} {id vr:Nat} {σ:Src} : ∀ (t:Ty) (q:Path) (i j:Nat) (x:t.T) (f:Nat→Option Value) (sk:Nat→Nat→Bool) (p:Path) (i' j':Nat) (b o:Nat),t.plain=true→
  (∀ k,k<t.size→w'.cell? (ad b (o+k))=f k)→ca g L w qg σ t q i j x f→cQ g w' own id vr t sk p i' j' x b o
 | .int _,q,i,j,x,f,sk,p,i',j',b,o,hp,hc,h=>by have h0:=hc 0 (by simp [Ty.size]); exact h0.trans h
 | .bool,q,i,j,x,f,sk,p,i',j',b,o,hp,hc,h=>by have h0:=hc 0 (by simp [Ty.size]); exact h0.trans h
 | .str,q,i,j,x,f,sk,p,i',j',b,o,hp,hc,h=>by have h0:=hc 0 (by simp [Ty.size]); exact h0.trans h
 | .err,q,i,j,x,f,sk,p,i',j',b,o,hp,hc,h=>by
  have h0:=hc 0 (by simp [Ty.size])
  obtain ⟨v,h1,h2⟩:=h
  exact ⟨v,h0.trans h1,h2⟩
 | .bh _,q,i,j,x,f,sk,p,i',j',b,o,hp,hc,h=>by simp [Ty.plain] at hp
 | .sl _,q,i,j,x,f,sk,p,i',j',b,o,hp,hc,h=>by simp [Ty.plain] at hp
 | .pair s t,q,i,j,x,f,sk,p,i',j',b,o,hp,hc,h=>by
  simp only [Ty.plain,Bool.and_eq_true] at hp
  refine ⟨FL s q i j x.1 f sk p i' j' b o hp.1 (fun k hk=>hc k (by simp [Ty.size]; omega)) h.1,FL t q i (j+s.size) x.2 _ sk p i' (j'+s.size) b (o+s.size) hp.2 (fun k hk=>?_) h.2⟩
  have:=hc (s.size+k) (by simp [Ty.size]; omega)
  rwa [← Nat.add_assoc] at this
theorem Q9 {t ty e:TypeId} {i:TypeInfo} (ht:P.underlying t=some (.slice e)) (hi:P.info? e=some i) {da xa:Option Addr} {dl dc m xl xc:Nat} (hm:min xl dl=m) {news:List Value} {ts:Array TypeId} (eN:ts[0]? = some t)
  (hl:news.length=m*i.size) (hx:0<m→∃ b o,xa=some (ad b o)∧∀ j u,news[j]? = some u→w.cell? (ad b (o+j))=some u)
  (h1:∀ u∈news,u.oneCell'=true) {b o:Nat} (hd:0<m→da=some (ad b o)) (fx:∃ q:Option (Nat×Nat),da=q.map fun p=>ad p.1 p.2)
  (hc:∀ j,j<news.length→(w.cell? (ad b (o+j))).isSome=true∧w.frozen? (ad b (o+j))=false) :
  (Builtin.copy_ ts ty #[.slice da dl dc,.slice xa xl xc]).run P w = .ok (.int .i64 (m:Int)) (w.setCells b o news):=by
 have hf:(Builtin.firstCells i.size m (.slice xa xl xc)).run P w = .ok news.toArray w:=by
  rcases Nat.eq_zero_or_pos m with rfl | hp
  ·have:news=[]:=List.eq_nil_of_length_eq_zero (by simpa using hl)
   subst this
   cases xa<;>simp [Builtin.firstCells,loadCells,loadCellsFrom]
  ·obtain ⟨b',o',rfl,hj⟩:=hx hp
   exact run_firstCells_some w i.size m (ad b' o') xl xc news hl (fun j v hv=>by rw [Addr.add_lit]; exact hj j v hv)
 have cI:=run_storeCells_cells (P:=P) b o news 0 w (fun j hj=>by rw [Nat.add_zero]; exact (hc j hj).1) (fun j hj=>by rw [Nat.add_zero]; exact (hc j hj).2) h1
 rw [Nat.add_zero] at cI
 have FM:Nat.min xl dl=m:=hm
 rcases Nat.eq_zero_or_pos m with rfl | hp
 ·have:news=[]:=List.eq_nil_of_length_eq_zero (by simpa using hl)
  subst this
  obtain ⟨q,rfl⟩:=fx
  cases q with
  | none=>simp [Builtin.copy_,eN,run_underlying ht,Builtin.lenOf,sizeOf,typeInfo,hi,FM,hf,goInt,World.setCells]
  | some q=>
   have Ra:(storeCells (ad q.1 q.2) ([]:List Value)).run P w = .ok () w:=rfl
   simp [Builtin.copy_,eN,run_underlying ht,Builtin.lenOf,sizeOf,typeInfo,hi,FM,hf,goInt,World.setCells,Ra]
 ·rw [hd hp]
  simp [Builtin.copy_,eN,run_underlying ht,Builtin.lenOf,sizeOf,typeInfo,hi,FM,hf,goInt,cI]
theorem Kf (S:cB P c g w U sr a) {t0 ty:Nat} (hk:(c.ti t0).kind = .slice) {id off len:Nat} {own:Bool} {t:Ty} {vr:Nat} {xs:List t.T} {x:af} {da:Option Addr} {dc:Nat} {vx:Value} {ts:Array TypeId} (eN:ts[0]? = some t0)
  (ma:0<(c.ti (c.ti t0).elem).size) (aX:(c.ti (c.ti t0).elem).size=t.size) (ho:sr.obj id=some (.row own t vr xs)) (hx:ay g w U x vx) (hlen:off+len≤xs.length)
  (hd:0<len→∃ b o,(g.hd id 0 []).addr=some (b,o)∧da=some (ad b (o+off*t.size))) (fx:∃ q:Option (Nat×Nat),da=q.map fun p=>ad p.1 p.2)
  (e:v_ sr id own t vr xs off len x k=some r):∃ aT,k aT=some r∧∃ v w',(Builtin.copy_ ts ty #[.slice da len dc,vx]).run P w = .ok v w'∧cR g w U site aT v w' g U:=by
 unfold v_ at e
 cases hp:t.plain with
 | false=>rw [hp] at e; simp at e
 | true=>
 rw [hp] at e
 cases FN:sr.list x with
 | none=>rw [FN] at e; simp at e
 | some uy=>
 rw [FN] at e
 obtain ⟨u,ys⟩:=uy
 simp only at e
 cases hz:Ty.cast (.sl u) (.sl t) ys with
 | none=>rw [hz] at e; simp at e
 | some zs=>
 rw [hz] at e
 simp only at e
 obtain ⟨rfl,hz⟩:=kC hz
 obtain rfl:=eq_of_heq hz
 refine ⟨_,e,?_⟩
 obtain ⟨hU,jb,kA,hR⟩:=S.aE id _ ho
 obtain ⟨xa,xc,rfl,AI⟩:=JW S.aE hx FN
 have AH:=hR
 obtain ⟨r1,r2,r3,r4⟩:=AH
 have fM:=u.size_pos
 have hT:=kZ S.aV (.inl ma)
 obtain ⟨ti,hi,Rb,-⟩:=hT.info
 obtain ⟨m,hm⟩:∃ m,min ys.length len=m:=⟨_,rfl⟩
 obtain ⟨b,o',hb⟩:∃ b o',0<len→(g.hd id 0 []).addr=some (b,o')∧da=some (ad b (o'+off*u.size)):=by
  rcases Nat.eq_zero_or_pos len with h | h
  ·exact ⟨0,0,fun hp=>by omega⟩
  ·obtain ⟨b,o',h1,h2⟩:=hd h; exact ⟨b,o',fun _=>⟨h1,h2⟩⟩
 obtain ⟨f,hf⟩:∃ f:Nat→Nat→Option Value,(∀ k (hk:k<ys.length),ca g g.lab w own bC u [] k 0 ys[k] (f k))∧(0<m→∃ b1 o1,xa=some (ad b1 o1)∧∀ k d,f k d=w.cell? (ad b1 (o1+k*u.size+d))):=by
  rcases Nat.eq_zero_or_pos ys.length with h | h
  ·exact ⟨fun _ _=>none,fun k hk=>by omega,fun h2=>by omega⟩
  ·obtain ⟨b1,o1,h2,h3⟩:=AI h
   refine ⟨fun k d=>w.cell? (ad b1 (o1+k*u.size+d)),fun k hk=>?_,fun _=>⟨b1,o1,h2,fun _ _=>rfl⟩⟩
   rcases h3 k hk with h5 | ⟨qg,id,vr,p,k',h5⟩
   ·exact CW _ [] _ 0 _ b1 _ hp h5
   ·exact CX _ [] _ 0 _ _ _ b1 _ hp h5
 obtain ⟨yy,AJ⟩:=hf
 let news:List Value:=(List.range (m*u.size)).map fun j=>(f (j / u.size) (j % u.size)).getD undef
 have mY:news.length=m*u.size:=by simp [news]
 have Rc:m≤ys.length:=by omega
 have hml:m≤len:=by omega
 have Re:∀ j,j<m*u.size→j / u.size<m:=fun j hj=>by rw [Nat.div_lt_iff_lt_mul fM]; exact hj
 have tR:∀ j,j<m*u.size→∃ v,f (j / u.size) (j % u.size)=some v∧v.oneCell'=true:=fun j hj=>
  CV u [] _ 0 _ _ (yy (j / u.size) (Nat.lt_of_lt_of_le (Re j hj) Rc)) (j % u.size) (Nat.mod_lt _ fM)
 have FO:∀ j,j<m*u.size→news[j]? = f (j / u.size) (j % u.size):=by
  intro j hj
  obtain ⟨v,h1,-⟩:=tR j hj
  simp [news,List.getElem?_map,List.getElem?_range hj,h1]
 have tY:0<m→∃ b o,xa=some (ad b o)∧∀ j u,news[j]? = some u→w.cell? (ad b (o+j))=some u:=by
  intro h
  obtain ⟨b1,o1,h2,h3⟩:=AJ h
  refine ⟨b1,o1,h2,fun j v hj=>?_⟩
  have Kg:=(List.getElem?_eq_some_iff.1 hj).1
  rw [mY] at Kg
  rw [FO j Kg,h3] at hj
  rw [← hj,Nat.add_assoc,Nat.mul_comm,Nat.div_add_mod]
 have AK:∀ v∈news,v.oneCell'=true:=by
  intro v hv
  obtain ⟨j,hj,rfl⟩:=List.mem_iff_getElem.1 hv
  obtain ⟨z,h1,h2⟩:=tR j (by omega)
  have h3:=FO j (by omega)
  rw [List.getElem?_eq_getElem hj,h1] at h3
  rw [Option.some.inj h3]; exact h2
 have Rf:(off+m)*u.size≤(g.hd id 0 []).cap*u.size:=Nat.mul_le_mul_right _ (by omega)
 rw [Nat.add_mul] at Rf
 have ke:∀ j,j<news.length→g.lab b (o'+off*u.size+j)=some (id,[])∧(w.cell? (ad b (o'+off*u.size+j))).isSome=true∧w.frozen? (ad b (o'+off*u.size+j))=false:=by
  intro j hj
  have AL:0<m:=by
   rcases Nat.eq_zero_or_pos m with h | h
   ·rw [mY,h] at hj; simp at hj
   ·exact h
  have:=(r4 b o' (hb (by omega)).1).1 (off*u.size+j) (by omega)
  rw [Nat.add_assoc]; exact this
 have cx:=Q9 (P:=P) (w:=w) (ty:=ty) (xl:=ys.length) (dl:=len) (dc:=dc) (xc:=xc) (o8 S.aV hk) hi hm eN (by rw [mY,Rb,aX]) tY AK (b:=b) (o:=o'+off*u.size) (fun h=>(hb (by omega)).2) fx
  (fun j hj=>(ke j hj).2)
 have hl:∀ j,j<news.length→g.lab b (o'+off*u.size+j)=some (id,[]):=fun j hj=>(ke j hj).1
 have K:=CQ (w:=w) hl
 have cI:∀ {T:Nat→Prop},T id→du T g w U g (w.setCells b (o'+off*u.size) news) U:=fun hT=>Fh hT hl
 refine ⟨_,_,cx,cI (by simp [look]),?_,fun aq o2 e2=>?_,fun s hs=>.inl hs,fun b' o2 q h=>?_,fun b o q hb h=>by rw [h]; simp,?_,?_⟩
 ·show Value.int .i64 (m:Int) = .int .i64 _
  rw [hm]
 ·simp only [look] at e2
  split at e2
  ·rename_i tU
   obtain rfl:=Nat.eq_of_beq_eq_true tU
   simp only [Option.some.injEq] at e2
   obtain rfl:=e2
   refine ⟨hU,jb,kA,?_⟩
   have yD:(xs.take off++(ys.take len++xs.drop (off+min ys.length len))).length=xs.length:=by simp; omega
   refine ⟨by rw [yD]; exact r1,r2,r3,fun b2 o2 cS=>?_⟩
   obtain ⟨r5,r6⟩:=r4 b2 o2 cS
   refine ⟨fun k hk=>?_,fun k hk=>?_⟩
   ·obtain ⟨a1,a2,a3⟩:=r5 k hk
    exact ⟨a1,K.Aq _ _ a2,by rw [K.frozen]; exact a3⟩
   ·rw [yD] at hk
    by_cases bV:off≤k∧k<off+m
    ·have wJ:=(hb (by omega)).1
     rw [cS] at wJ
     simp only [Option.some.injEq,Prod.mk.injEq] at wJ
     obtain ⟨rfl,rfl⟩:=wJ
     have k9:(xs.take off++(ys.take len++xs.drop (off+min ys.length len)))[k]'(by rw [yD]; exact hk)=ys[k-off]'(by omega):=by
      rw [List.getElem_append_right (by simp; omega),List.getElem_append_left (by simp; omega),List.getElem_take]
      congr 1; simp; omega
     rw [k9]
     refine FL u [] (k-off) 0 _ _ _ _ _ _ _ _ hp (fun d lk=>?_) (yy (k-off) (by omega))
     have hj:(k-off)*u.size+d<m*u.size:=by
      have:(k-off+1)*u.size≤m*u.size:=Nat.mul_le_mul_right _ (by omega)
      rw [Nat.add_mul] at this; omega
     have Rg:o2+k*u.size+d=o2+off*u.size+((k-off)*u.size+d):=by
      have:k*u.size=off*u.size+(k-off)*u.size:=by rw [← Nat.add_mul]; congr 1; omega
      omega
     have h5:=World.cell?_setCells_in b2 news (o2+off*u.size) w (fun j hj=>(ke j hj).2.1) ((k-off)*u.size+d) (by omega)
     rw [Rg]
     refine Eq.trans h5 ?_
     have h6:=FO _ hj
     rw [List.getElem?_eq_getElem (by omega)] at h6
     rw [h6]
     congr 1
     ·rw [Nat.add_comm,Nat.add_mul_div_right _ _ fM,Nat.div_eq_of_lt lk,Nat.zero_add]
     ·rw [Nat.add_comm,Nat.add_mul_mod_self_right,Nat.mod_eq_of_lt lk]
    ·have k9:(xs.take off++(ys.take len++xs.drop (off+min ys.length len)))[k]'(by rw [yD]; exact hk)=xs[k]:=by
      by_cases h7:k<off
      ·rw [List.getElem_append_left (by simp; omega),List.getElem_take]
      ·rw [List.getElem_append_right (by simp; omega),List.getElem_append_right (by simp; omega),List.getElem_drop]
       congr 1; simp; omega
     rw [k9]
     refine lY K u _ _ k 0 _ b2 _ (fun d lk=>?_) (fun d s lk=>by intro he; have:=congrArg List.length he; simp at this) (r6 k hk)
     refine World.cell?_setCells_out b _ _ w _ (fun Kh _=>?_)
     simp only at Kh ⊢
     subst Kh
     rw [mY]
     rcases Nat.eq_zero_or_pos m with AL | AL
     ·rw [AL]; omega
     have wJ:=(hb (by omega)).1
     rw [cS] at wJ
     simp only [Option.some.injEq,Prod.mk.injEq] at wJ
     obtain ⟨-,rfl⟩:=wJ
     rcases Nat.lt_or_ge k off with h | h
     ·have:(k+1)*u.size≤off*u.size:=Nat.mul_le_mul_right _ h
      rw [Nat.add_mul] at this; omega
     ·have:(off+m)*u.size≤k*u.size:=Nat.mul_le_mul_right _ (by omega)
      rw [Nat.add_mul] at this; omega
  ·simp [look] at e2
 ·have:=S.bB b' o2 q h
  have hs:=(rP (F:=fun _ _=>True) b news (o'+off*u.size) w (fun _ _=>trivial)).size
  exact Nat.lt_of_lt_of_le this hs
 ·exact rP b _ _ w (fun k hk=>⟨id,[],hl k hk,S.nf id (by rw [ho]; simp)⟩)
 ·exact fun aq h=>by rw [yp h]; exact S.nf id (by rw [ho]; simp)
theorem Rh (S:cB P c g w U sr a) {t0 ty:Nat} (hk:(c.ti t0).kind = .slice) (ma:0<(c.ti (c.ti t0).elem).size) {d x:af} {vd vx:Value} {ts:Array TypeId} (eN:ts[0]? = some t0) (hd:ay g w U d vd) (hx:ay g w U x vx)
  (e:xY (c.ti (c.ti t0).elem).size sr d x k=some r):∃ aT,k aT=some r∧∃ v w',(Builtin.copy_ ts ty #[vd,vx]).run P w = .ok v w'∧cR g w U site aT v w' g U:=by
 unfold xY at e
 split at e
 ·rename_i id ver tt
  split at e
  ·rename_i own t vr xs ho
   split at e
   ·rename_i hb
    obtain ⟨hU,E7,jb,bV,o9,rfl⟩:=hd
    obtain rfl:=o9 rfl
    obtain ⟨-,-,-,r1,r2,r3,r4⟩:=S.aE id _ ho
    unfold Hd.val
    rw [r1]
    refine Kf S hk eN ma (Nat.eq_of_beq_eq_true hb) ho hx (by omega) (fun hp=>?_) ⟨_,rfl⟩ e
    cases ha:(g.hd id 0 []).addr with
    | none=>have:=r3 ha; omega
    | some q=>obtain ⟨b,o'⟩:=q; exact ⟨b,o',rfl,by simp⟩
   ·simp at e
  ·simp at e
 ·rename_i id ver tt off len
  split at e
  ·rename_i own t vr xs ho
   split at e
   ·rename_i hb
    rw [Bool.and_eq_true] at hb
    obtain rfl:=Ty.eq_of_beq hb.2
    obtain ⟨hU,E7,jb,bV,o9,da,dc,rfl,h6,h7,h8,h9,wu⟩:=hd
    obtain rfl:=o9 rfl
    obtain ⟨-,-,-,r1,r2,r3,r4⟩:=S.aE id _ ho
    exact Kf S hk eN ma (Nat.eq_of_beq_eq_true hb.1) ho hx (by omega) (fun hp=>h9 (by omega)) wu e
   ·simp at e
  ·simp at e
 ·simp at e
end
end Go.Am
namespace Go.Am
open Go
section
variable {P:Program} {c:aP} {g:Gh} {L:bt} {w w':World} {U:Nat→Prop} {sr:St} {a:Act} {site:Nat} {o:Oper} {ρ:Type} {r:ρ} {k:bR→Option ρ}
theorem Ki (zero:Array Value) (n i:Nat) (h:i<n*zero.size):(Builtin.zeroCells zero n)[i]? = some zero[i % zero.size]!:=by
 simp [Builtin.zeroCells,h]
theorem Ri (S:cB P c g w U sr a) (hs:¬ U site) {t u ty:Nat} {e:Ty} {kk kn:IntKind} {n:Int} (hk:(c.ti t).kind = .slice) (hu:(c.ti u).kind = .int kn) (he:(c.ti (c.ti t).elem).ty=some e) (hb:0<(c.ti (c.ti t).elem).bytes)
  (hn:0<n∧n*((c.ti (c.ti t).elem).bytes:Int)≤(aW:Int)) :
  ∃ v w' g' U',(Builtin.append_ #[t,u] ty #[.slice none 0 0,.int kk n]).run P w = .ok v w'∧
   cR g w U site ⟨.own (site*1024) 0 [] e,[(site*1024,some (.row true e site (List.replicate n.toNat e.zero)))]⟩ v w' g' U':=by
 have h0:site≠0:=by rintro rfl; exact hs S.u0
 have hd:=o8 S.aV hk
 have hT:kz P (c.ti t).elem (c.ti (c.ti t).elem):=by
  unfold aP.ti at he ⊢
  generalize (match look c.aV t with | some i=>i | none=>(⟨false,0,0,[],.other,0,none,[],false⟩:j5)).elem=x at he ⊢
  cases e2:look c.aV x with
  | none=>rw [e2] at he; simp at he
  | some i=>exact S.aV x i e2
 obtain ⟨l_,gG⟩:=hT.ty e he
 obtain ⟨z,hz,hr,hv,ti,lf,rQ,eN,qm⟩:=wF hT
 have fM:=e.size_pos
 have mX:z.cells.size=e.size:=by rw [hz,gG]
 have JT:(aW:Int)=140737488355328:=rfl
 obtain ⟨m,rfl⟩:∃ m:Nat,n=(m:Int):=⟨n.toNat,by omega⟩
 have AL:0<m:=by omega
 have hmb:m*(c.ti (c.ti t).elem).bytes≤140737488355328:=by
  have h2:((m*(c.ti (c.ti t).elem).bytes:Nat):Int)≤140737488355328:=by
   rw [Int.natCast_mul]; exact hn.2
  omega
 have hle:m≤m*(c.ti (c.ti t).elem).bytes:=Nat.le_mul_of_pos_right _ hb
 have Rj:Builtin.nextslicecap m 0=m:=by
  unfold Builtin.nextslicecap
  rw [if_pos (by omega)]
 have Rk:=CL S.aV hu
 have aX:ti.size=e.size:=by rw [eN,gG]
 have cx:=Lib.run_append_grow_zeros (P:=P) w t u ty (c.ti t).elem ti z kk kn hd Rk lf rQ none 0 0 [] (run_firstCells_none w.drew ti.size 0 0 0) m AL (by omega) (by omega) (by omega) (by rw [qm]; omega) (by rw [Nat.zero_add,Rj,qm]; omega)
 simp only [Nat.zero_add] at cx
 have yv:=grownCap_ge w m 0 (c.ti t).elem
 generalize grownCap w m 0 (c.ti t).elem=cp at cx yv
 have B:=JM w (([]:List Value).toArray++Builtin.zeroCells z.cells m++Builtin.zeroCells z.cells (cp-m)) (c.ti t).elem
 have Az:∀ i,i<cp*e.size→(([]:List Value).toArray++Builtin.zeroCells z.cells m++Builtin.zeroCells z.cells (cp-m))[i]? = some z.cells[i % z.cells.size]!:=by
  intro i hi
  have Rl:(Builtin.zeroCells z.cells m).size=m*e.size:=by simp [Builtin.zeroCells,mX]
  rw [Array.getElem?_append,Array.getElem?_append]
  simp only [List.size_toArray,List.length_nil,Nat.not_lt_zero,if_false,Nat.sub_zero,Array.size_append,Nat.zero_add,Rl]
  by_cases h1:i<m*e.size
  ·rw [if_pos h1,Ki _ _ _ (by rw [mX]; exact h1)]
  ·rw [if_neg h1]
   have h2:(cp-m)*e.size=cp*e.size-m*e.size:=Nat.sub_mul _ _ _
   rw [Ki _ _ _ (by rw [mX]; omega)]
   have:(i-m*e.size) % z.cells.size=i % z.cells.size:=by
    rw [mX]
    have:i=(i-m*e.size)+m*e.size:=by omega
    conv=>rhs; rw [this]
    rw [Nat.add_mul_mod_self_right]
   rw [this]
 refine ⟨_,_,gj g site (fun _ _=>⟨some (w.heap.size,0),m,cp⟩) (fun _ _=>c8) (gJ (fun _ _=>False) (site*1024) bC (fun b o=>b=w.heap.size∧o<cp*e.size) g.lab),U' U site,cx,?_⟩
 generalize (([]:List Value).toArray++Builtin.zeroCells z.cells m++Builtin.zeroCells z.cells (cp-m))=arr at B Az cx ⊢
 have Ax:∀ b o,g.lab b o=none→∀ v,w.cell? (ad b o)=some v→(w.drew.alloc (.cells arr (c.ti t).elem)).cell? (ad b o)=some v∧¬ (b=w.heap.size∧o<cp*e.size):=by
  intro b o hl v hv
  have:=wD hv
  exact ⟨by rw [B.bP (by omega)]; exact hv,by omega⟩
 have cI:∀ {T:Nat→Prop},du T g w U (gj g site (fun _ _=>⟨some (w.heap.size,0),m,cp⟩) (fun _ _=>c8) (gJ (fun _ _=>False) (site*1024) bC (fun b o=>b=w.heap.size∧o<cp*e.size) g.lab)) (w.drew.alloc (.cells arr (c.ti t).elem)) (U' U site):=
  Av hs Ax (fun b o id p h _=>by
   have:=S.bB _ _ _ h
   exact ⟨fun h=>h,by omega,B.bP (by omega) o,B.Au (by omega) o⟩)
 refine ⟨cI,⟨.inr (iw site),.inl S.u0,.inl S.u0,trivial,fun _=>rfl,?_⟩,fun id ob aY=>?_,fun s h=>h,fun b o q h=>?_,fun b o q hb h=>?_,B.fr _,fun id h=>by rw [yp h,iw]; rintro rfl; exact hs S.wk⟩
 ·rw [qi h0]; rfl
 ·simp only [look] at aY
  split at aY
  ·rename_i hb
   obtain rfl:=Nat.eq_of_beq_eq_true hb
   simp only [Option.some.injEq] at aY
   subst aY
   refine ⟨.inr (iw site),.inl S.u0,.inr rfl,?_⟩
   refine Aw (w:=w) (L:=g.lab) (h0:=⟨some (w.heap.size,0),m,cp⟩) _ rfl (qi h0 _) (fun q id p h e=>by simp [bC] at e) (fun q hq e=>rfl) (fun q id p h e=>by simp [bC] at e) (fun b o hl v hv=>?_) (by simp) yv (by simp) (fun b o hb k hk=>?_) (fun b o hb k hk=>?_)
   ·obtain ⟨a1,a2⟩:=Ax b o hl v hv
    exact ⟨a1,yu hl a2⟩
   ·simp only [Option.some.injEq,Prod.mk.injEq] at hb
    obtain ⟨rfl,rfl⟩:=hb
    refine ⟨⟨rfl,by simpa using hk⟩,?_,B.CS _⟩
    rw [B.new,Az _ (by simpa using hk)]; rfl
   ·simp only [Option.some.injEq,Prod.mk.injEq] at hb
    obtain ⟨rfl,rfl⟩:=hb
    simp only [List.length_replicate] at hk
    have hk:k<m:=by omega
    rw [List.getElem_replicate]
    have qn:=hv g w U
    rw [l_] at qn
    refine CT e [] k 0 z.cells.toList _ qn (fun d hd=>?_)
    have ao:k*e.size+d<cp*e.size:=by
     have:(k+1)*e.size≤cp*e.size:=Nat.mul_le_mul_right _ (by omega)
     rw [Nat.add_mul] at this; omega
    rw [B.new]
    simp only [Nat.zero_add]
    rw [Az _ ao]
    rw [mX,show (k*e.size+d) % e.size=d by rw [Nat.mul_comm,Nat.mul_add_mod,Nat.mod_eq_of_lt hd]]
    rw [getElem!_def,Array.getElem?_toList]
    have:d<z.cells.size:=by omega
    rw [Array.getElem?_eq_getElem this]
  ·simp [look] at aY
 ·rw [B.size]
  rcases qj h with ⟨rfl,-⟩ | h
  ·omega
  ·cases h2:g.lab b o with
   | none=>exact absurd h2 h
   | some q=>have:=S.bB _ _ _ h2; omega
 ·rcases qj h with ⟨rfl,-⟩ | h
  ·omega
  ·exact h
end
end Go.Am
namespace Go.Am
open Go
section
variable {P:Program} {c:aP} {g:Gh} {L:bt} {w w':World} {U:Nat→Prop} {sr:St} {a:Act} {site:Nat} {o:Oper} {ρ:Type} {r:ρ} {k:bR→Option ρ}
theorem Rm (S:cB P c g w U sr a) {t ty:Nat} (hk:(c.ti t).kind = .slice) (iM:0<(c.ti (c.ti t).elem).bytes) {s x:af} {vs vx:Value} (dD:ay g w U s vs) (hx:ay g w U x vx)
  (e:xS (c.ti (c.ti t).elem).bytes sr (c.ti (c.ti t).elem).ty s x k=some r) :
  ∃ aT,k aT=some r∧∃ v' w' g' U',(Builtin.append_ #[t,t] ty #[vs,vx]).run P w = .ok v' w'∧cR g w U site aT v' w' g' U':=by
 unfold xS at e
 split at e
 case h_2=>simp at e
 rename_i id sz u hu
 split at e
 case h_2=>simp at e
 rename_i ro ho
 split at e
 case h_2=>simp at e
 rename_i ys aX rV
 obtain rfl:=Nat.eq_of_beq_eq_true aX
 unfold ab at e
 split at e
 case isFalse=>simp at e
 rename_i l9
 refine ⟨_,e,?_⟩
 obtain ⟨-,-,a0,cc,rfl,wz,eg,b,o,ha,jc⟩:=dD
 obtain ⟨b',o',hh,-,-⟩:=tT S.aE ho
 have AM:=jc (.inr rfl)
 clear jc
 rw [hh] at ha eg
 simp only [Option.some.injEq,Prod.mk.injEq] at ha
 obtain ⟨rfl,rfl⟩:=ha
 have fM:=u.size_pos
 simp only [Nat.zero_add,Nat.zero_mul,Nat.add_zero,List.length_nil] at eg AM
 obtain rfl:cc=0:=by
  rcases Nat.mul_eq_zero.1 eg with h | h
  ·exact h
  ·omega
 subst AM
 obtain ⟨-,dn,hT⟩:=yw (L:=g.lab) S.aE (fun _ _ h=>h) hx 0 (fun _ id hi=>by simp at hi) rV
 obtain ⟨xa,xc,rfl,yB⟩:=hT.sl
 have yA:kz P (c.ti t).elem (c.ti (c.ti t).elem):=by
  have he:=hu
  unfold aP.ti at he ⊢
  generalize (match look c.aV t with | some i=>i | none=>(⟨false,0,0,[],.other,0,none,[],false⟩:j5)).elem=x at he ⊢
  cases e2:look c.aV x with
  | none=>rw [e2] at he; simp at he
  | some i=>exact S.aV x i e2
 obtain ⟨l_,gG⟩:=yA.ty u hu
 have hd:=o8 S.aV hk
 obtain ⟨z,hz,hr,hv,ti,lf,rQ,eN,qm⟩:=wF yA
 have wH:ti.size=u.size:=by rw [eN,gG]
 obtain ⟨news,mY,yg,CJ⟩:∃ news:List Value,news.length=ys.length*u.size∧(0<ys.length→∃ b o,xa=some (ad b o)∧(∀ j u',news[j]? = some u'→w.cell? (ad b (o+j))=some u')∧∀ k (hk:k<ys.length),ca g g.lab w false dn u [] (0+k) 0 ys[k] (fun d=>w.cell? (ad b (o+k*u.size+d))))∧∀ y∈news,y.oneCell'=true:=by
  rcases Nat.eq_zero_or_pos ys.length with hy | hy
  ·exact ⟨[],by simp [hy],fun h=>by omega,by simp⟩
  ·obtain ⟨b,o,e1,e2⟩:=yB hy
   have e3:=JZ e2
   refine ⟨lh w b o (ys.length*u.size),by simp [lh],fun _=>⟨b,o,e1,fun j u' hj=>?_,e2⟩,fun y hy=>?_⟩
   ·have ao:j<ys.length*u.size:=by
     have:=(List.getElem?_eq_some_iff.1 hj).1
     simpa [lh] using this
    obtain ⟨v,hv,-⟩:=e3 j ao
    exact (Fw hj (by rw [hv]; rfl)).1
   ·obtain ⟨j,hj,hy⟩:=List.mem_iff_getElem.1 hy
    simp only [lh,List.length_map,List.length_range] at hj
    obtain ⟨v,hv,h1⟩:=e3 j hj
    simp only [lh,List.getElem_map,List.getElem_range,hv,Option.getD_some] at hy
    rw [← hy]; exact h1
 have Ay:=JU (P:=P) (w:=w) (ty:=ty) (h:=⟨some (b',o'),0,0⟩) (olds:=[]) (news:=news) (xa:=xa) (m:=ys.length) (xc:=xc) hd lf rQ (by rw [hz,eN]) (by rw [qm]; exact iM) (Nat.le_refl _) (by simp) (by simp)
  (fun b o hb=>⟨by simp,fun k hk=>by simp at hk⟩) (by rw [wH]; exact mY) (fun hy=>let ⟨b,o,e1,e2,_⟩:=yg hy; ⟨b,o,e1,e2⟩) CJ (by rw [qm]; simpa using l9)
 rw [wH] at Ay
 rcases Ay with ⟨b,o,ha,hr,hs⟩ | ⟨ha,hm,hl,hs⟩ | ⟨cap,arr,w',B,hc,J1,hl,hs⟩
 ·have C9:ys.length=0:=by
   have hr:0+ys.length≤0:=hr
   omega
  have hy:ys=[]:=List.eq_nil_of_length_eq_zero C9
  have Ro:news=[]:=List.eq_nil_of_length_eq_zero (by rw [mY,C9]; simp)
  subst Ro
  refine ⟨_,_,g,U,hs,.same S.bB ⟨⟨some (ad b o),0,0,by simp [C9],by simp [C9],Nat.le_refl _,by simp,fun h=>by simp [hy] at h⟩,by simp⟩⟩
 ·simp at ha
 ·obtain ⟨rest,hl⟩:=hl
  have k9:∀ j v,news[j]? = some v→w'.cell? (ad w.heap.size j)=some v:=by
   intro j v hj
   rw [B.new]
   have:arr[j]? = arr.toList[j]?:=by simp
   rw [this,hl,List.nil_append,List.getElem?_append_left (List.getElem?_eq_some_iff.1 hj).1]; exact hj
  have yF:∀ o,g.lab w.heap.size o=none:=fun o=>by
   cases h:g.lab w.heap.size o with
   | none=>rfl
   | some q=>have:=S.bB _ _ _ h; omega
  have cI:∀ {T:Nat→Prop},du T g w U g w' U:=⟨fun _ h=>h,fun _ _ _ _ _=>rfl,fun b o hn v hv=>⟨by rw [B.bP (Nat.ne_of_lt (wD hv))]; exact hv,hn⟩,fun b o id p h _=>⟨h,B.bP (Nat.ne_of_lt (S.bB _ _ _ h)) o,B.Au (Nat.ne_of_lt (S.bB _ _ _ h)) o⟩⟩
  have wI:∀ b o,g.lab b o=none→∀ v,w.cell? (ad b o)=some v→w'.cell? (ad b o)=some v∧g.lab b o=none:=(cI (T:=fun _=>False)).shr
  have Rp:∀ (t:Ty) (q:Path) (i j:Nat) (x:t.T) (f:Nat→Option Value) (o:Nat),(∀ d v,d<t.size→f d=some v→w'.cell? (ad w.heap.size (o+d))=some v)→ca g g.lab w false dn t q i j x f→Sh g.lab w' t x w.heap.size o:=by
   intro t
   induction t with
   | int kk=>intro q i j x f o hf h; exact ⟨hf 0 _ (by simp [Ty.size]) h,yF _⟩
   | bool=>intro q i j x f o hf h; exact ⟨hf 0 _ (by simp [Ty.size]) h,yF _⟩
   | str=>intro q i j x f o hf h; exact ⟨hf 0 _ (by simp [Ty.size]) h,yF _⟩
   | err=>intro q i j x f o hf h; obtain ⟨v,h1,h2⟩:=h; exact ⟨⟨v,hf 0 _ (by simp [Ty.size]) h1,h2⟩,yF _⟩
   | pair s t FF FG=>
    intro q i j x f o hf h
    refine ⟨FF q i j x.1 f o (fun d v hd hv=>hf d v (by simp [Ty.size]; omega) hv) h.1,FG q i _ x.2 _ (o+s.size) (fun d v hd hv=>?_) h.2⟩
    rw [Nat.add_assoc]; exact hf _ v (by simp [Ty.size]; omega) hv
   | sl t ih=>intro q i j x f o hf h; obtain ⟨v,h1,h2⟩:=h; exact ⟨⟨v,hf 0 _ (by simp [Ty.size]) h1,fK (eF wI t) h2⟩,yF _⟩
   | bh t ih=>intro q i j x f o hf h; obtain ⟨v,h1,h2,h3⟩:=h; exact ⟨⟨v,hf 0 _ (by simp [Ty.size]) h1,fK (eF wI t) h2,h3⟩,yF _⟩
  refine ⟨_,_,g,U,hs,cI,⟨⟨some (ad w.heap.size 0),_,cap,rfl,by simp,hc,by simp,fun av=>⟨w.heap.size,0,rfl,fun i hi=>?_⟩⟩,by simp⟩,fun id ob aY=>by simp [look] at aY,fun s h=>.inl h,fun b o q h=>by have:=S.bB _ _ _ h; rw [B.size]; omega,fun b o q hb h=>by rw [h]; simp,B.fr _,fun id h=>by simp [look] at h⟩
  have hi:i<ys.length:=hi
  obtain ⟨b,o,e1,e2,e3⟩:=yg (by omega)
  refine Rp u [] (0+i) 0 _ _ _ (fun d v hd hv=>?_) (e3 i hi)
  have ao:i*u.size+d<news.length:=by
   rw [mY]
   have:(i+1)*u.size≤ys.length*u.size:=Nat.mul_le_mul_right _ (by omega)
   rw [Nat.add_mul] at this; omega
  rw [Nat.zero_add]
  refine k9 _ v ?_
  rw [List.getElem?_eq_getElem ao]
  have:=e2 (i*u.size+d) _ (List.getElem?_eq_getElem ao)
  have hv:w.cell? (ad b (o+i*u.size+d))=some v:=hv
  rw [Nat.add_assoc,this] at hv
  exact hv
theorem Rq (S:cB P c g w U sr a) (hs:¬ U site) {t ty:Nat} (hk:(c.ti t).kind = .slice) (iM:0<(c.ti (c.ti t).elem).bytes) {s x:af} {vs vx:Value} (dD:ay g w U s vs) (hx:ay g w U x vx)
  (e:xT (c.ti (c.ti t).elem).bytes sr site (c.ti (c.ti t).elem).ty s x k=some r) :
  ∃ aT,k aT=some r∧∃ v' w' g' U',(Builtin.append_ #[t,t] ty #[vs,vx]).run P w = .ok v' w'∧cR g w U site aT v' w' g' U':=by
 unfold xT at e
 split at e
 case h_2=>simp at e
 rename_i u hu
 split at e
 case h_2=>simp at e
 rename_i ys hb rV
 unfold ab at e
 split at e
 case isFalse=>simp at e
 rename_i l9
 refine ⟨_,e,?_⟩
 have yA:kz P (c.ti t).elem (c.ti (c.ti t).elem):=by
  have he:=hu
  unfold aP.ti at he ⊢
  generalize (match look c.aV t with | some i=>i | none=>(⟨false,0,0,[],.other,0,none,[],false⟩:j5)).elem=x at he ⊢
  cases e2:look c.aV x with
  | none=>rw [e2] at he; simp at he
  | some i=>exact S.aV x i e2
 obtain ⟨-,gG⟩:=yA.ty u hu
 obtain ⟨-,dn,hT⟩:=yw (L:=g.lab) S.aE (fun _ _ h=>h) hx (List.length ([]:List u.T)) (fun _ id hi=>by simp at hi) rV
 have Rr:∀ q,dn q=none:=fun q=>by
  cases h:dn q with
  | none=>rfl
  | some y=>obtain ⟨id,p,h'⟩:=y; have:=hT.tk.ids _ _ _ _ h; simp at this
 have fin:∀ (h:Hd),vs=h.val→h.len=0→h.cap=0→∃ v' w' g' U',(Builtin.append_ #[t,t] ty #[vs,vx]).run P w = .ok v' w'∧cR g w U site ⟨.own (site*1024) 0 [] u,[(site*1024,some (.row false u site ys))]⟩ v' w' g' U':=by
  intro h hv h1 h2
  subst hv
  obtain ⟨v',w',g',cx,A⟩:=C0 (L:=g.lab) (own:=false) (ty:=ty) (σ0:=bC) S hs hk iM gG (Do:=fun _ _=>False) (fun _ _=>c8) (h:=h) (xs:=[]) h1 (by omega) (fun _=>h2)
   (fun b o hb k hk=>by rw [h2] at hk; simp at hk) (fun b o hb k hk=>by simp at hk) (fun q id p h' e=>by simp [bC] at e) (fun q q' id p h1 h2 e=>by simp [bC] at e) (fun p hp=>absurd rfl hp) hT
   (fun id hi p hu=>hu) (by simp) (fun _=>⟨fun q=>rfl,Rr⟩) (fun b o hb=>.inl hb) (by simpa using l9) (fun id p h=>h.elim)
  exact ⟨v',w',g',_,cx,C3 S hs A (fun aq p hD=>by rcases hD with hD | hD; exact hD.elim; simp at hD) (fun aq ob aY=>by simp [look] at aY) (fun aq h=>by simp [look] at h)⟩
 split at hb
 ·exact fin c8 (by rw [show vs=_ from dD]; rfl) rfl rfl
 ·rename_i id sz
  split at hb
  ·rename_i ro ho
   obtain rfl:=Nat.eq_of_beq_eq_true hb
   obtain ⟨-,-,a0,cc,rfl,wz,eg,b,o,ha,jc⟩:=dD
   obtain ⟨b',o',hh,-,-⟩:=tT S.aE ho
   have AM:=jc (.inr rfl)
   clear jc
   rw [hh] at ha eg
   simp only [Option.some.injEq,Prod.mk.injEq] at ha
   obtain ⟨rfl,rfl⟩:=ha
   have fM:=u.size_pos
   simp only [Nat.zero_add,Nat.zero_mul,Nat.add_zero,List.length_nil] at eg AM
   obtain rfl:cc=0:=by
    rcases Nat.mul_eq_zero.1 eg with h | h
    ·exact h
    ·omega
   subst AM
   exact fin ⟨some (b',o'),0,0⟩ (by simp [Hd.val]) rfl rfl
  ·simp at hb
 ·simp at hb
theorem Kj {ow:Bool} (S:cB P c g w U sr a) (hs:¬ U site) {t:Nat} {x:af} {v:Value} {lo hi:Option Operand} (hk:(c.ti t).kind = .slice) (hz:0<(c.ti (c.ti t).elem).size) (hx:ay g w U x v)
  (e:wa ow (c.ti (c.ti t).elem).size sr site x lo hi k=some r) :
  ∃ aT,k aT=some r∧∃ v' w' g' U',(Instr.sliceAt t v (lo.map a.eval) (hi.map a.eval) none).run P w = .ok v' w'∧cR g w U site aT v' w' g' U':=by
 have h0:site≠0:=by rintro rfl; exact hs S.u0
 unfold wa at e
 obtain ⟨z,e,v',cx,kA⟩:=Jy S hk hz hx e
 simp only at e
 split at e
 case h_2=>simp at e
 rename_i id ver tt
 split at e
 case h_2=>simp at e
 rename_i own u vr xs ho
 split at e
 case h_2=>simp at e
 rename_i hb
 obtain rfl:=Ty.eq_of_beq hb
 refine ⟨_,e,v',w,?_⟩
 obtain ⟨h1,h2,h3,-,h5,a0,cc,rfl,hc,-,-,ha,q,rfl⟩:=kA
 obtain rfl:=h5 rfl
 obtain ⟨hU,jb,kA,r1,r2,r3,r4⟩:=S.aE id _ ho
 rw [Nat.zero_add] at hc
 have hq:0<cc→∃ b o,(g.hd id 0 []).addr=some (b,o)∧q=some (b,o):=by
  intro h
  obtain ⟨b,o,e1,e2⟩:=ha h
  refine ⟨b,o,e1,?_⟩
  cases q with
  | none=>simp at e2
  | some q=>
   simp only [Option.map_some,Option.some.injEq,Addr.mk.injEq,Nat.zero_mul,Nat.add_zero] at e2
   obtain ⟨e3,e4,-⟩:=e2
   rw [← e3,← e4]
 have pb:id / 1024≠19:=S.nf id (by rw [ho]; simp)
 have kE:∀ b o,q=some (b,o)→∀ k,k<cc*tt.size→g.lab b (o+k)=some (id,[])∧(w.cell? (ad b (o+k))).isSome=true∧w.frozen? (ad b (o+k))=false:=by
  intro b o sa k hk
  have qo:0<cc:=Nat.pos_of_ne_zero (fun h=>by rw [h] at hk; simp at hk)
  obtain ⟨b',o',e1,e2⟩:=hq qo
  rw [e2] at sa
  simp only [Option.some.injEq,Prod.mk.injEq] at sa
  obtain ⟨rfl,rfl⟩:=sa
  exact (r4 _ _ e1).1 k (by rw [← hc]; exact hk)
 refine ⟨gj g site (fun _ _=>⟨q,0,cc⟩) (fun _ _=>c8) (gJ (fun aq _=>aq=id) (site*1024) bC (fun b o=>∃ o0,q=some (b,o0)∧o0≤o∧o<o0+cc*tt.size) g.lab),U' U site,cx,?_⟩
 have hR:∀ b o,(∃ o0,q=some (b,o0)∧o0≤o∧o<o0+cc*tt.size)→g.lab b o=some (id,[]):=by
  rintro b o ⟨o0,e1,e2,e3⟩
  have:=(kE b o0 e1 (o-o0) (by omega)).1
  rwa [show o0+(o-o0)=o by omega] at this
 have cI:∀ {T:Nat→Prop},T id→du T g w U (gj g site (fun _ _=>⟨q,0,cc⟩) (fun _ _=>c8) (gJ (fun aq _=>aq=id) (site*1024) bC (fun b o=>∃ o0,q=some (b,o0)∧o0≤o∧o<o0+cc*tt.size) g.lab)) w (U' U site):=by
  intro T hT
  refine Av hs (fun b o hn v hv=>⟨hv,fun hr=>by rw [hR b o hr] at hn; simp at hn⟩) (fun b o aq p h Rs=>?_)
  have av:aq≠id:=by rintro rfl; exact Rs hT
  exact ⟨av,fun hr=>by rw [hR b o hr] at h; simp at h; exact av h.1.symm,rfl,rfl⟩
 refine ⟨cI (by simp only [look]; split<;>simp),⟨.inr (iw site),.inl S.u0,.inl S.u0,trivial,fun _=>rfl,?_⟩,fun aq ob aY=>?_,fun s h=>h,fun b o q h=>?_,fun b o q hb h=>?_,Fr.refl _ _,fun aq h=>?_⟩
 ·rw [qi h0]; rfl
 ·simp only [look] at aY
  split at aY
  ·rename_i hb
   obtain rfl:=Nat.eq_of_beq_eq_true hb
   simp only [Option.some.injEq] at aY
   subst aY
   refine ⟨.inr (iw site),.inl S.u0,.inr rfl,?_⟩
   refine Aw (w:=w) (L:=fun _ _=>some (0,[])) (h0:=⟨q,0,cc⟩) _ rfl (qi h0 _) (fun q id p h e=>by simp [bC] at e) (fun q hq e=>rfl) (fun q id p h e=>by simp [bC] at e) (fun b o hl v hv=>by simp at hl) rfl (Nat.zero_le _) (fun h=>?_) (fun b o hb k hk=>?_) (fun b o hb k hk=>by simp at hk)
   ·rcases Nat.eq_zero_or_pos cc with qo | qo
    ·exact qo
    ·obtain ⟨b,o,-,e2⟩:=hq qo
     rw [show q=none from h] at e2; simp at e2
   ·obtain ⟨-,a2,a3⟩:=kE b o hb k hk
    exact ⟨⟨o,hb,by omega,by have hk:k<cc*tt.size:=hk; omega⟩,a2,a3⟩
  ·split at aY<;>simp at aY
 ·rcases qj h with hr | h
  ·exact S.bB _ _ _ (hR _ _ hr)
  ·cases h2:g.lab b o with
   | none=>exact absurd h2 h
   | some q=>exact S.bB _ _ _ h2
 ·rcases qj h with hr | h
  ·rw [hR _ _ hr]; simp
  ·exact h
 ·simp only [look] at h
  split at h
  ·rename_i hb
   obtain rfl:=Nat.eq_of_beq_eq_true hb
   rw [iw]; rintro rfl; exact hs S.wk
  ·split at h
   ·rename_i hb
    obtain rfl:=Nat.eq_of_beq_eq_true hb
    exact pb
   ·simp at h
end
end Go.Am
