/- The abstract machine is right: rows that are made, appended to and written. No condition. -/
import Derived.Test.YtfoamipegmbcgaaGreatDoorAmA
import Derived.Lib.AppendZerosOnto
set_option linter.unusedVariables false
set_option linter.unusedSimpArgs false
namespace Go.Am
open Go
theorem fold_set (off:Nat):∀ (vs:List Value) (n:Nat) (arr:Array Value),(vs.zipIdx n).foldl (fun (cs:Array Value) (p:Value×Nat)=>cs.setIfInBounds (off+p.2) p.1) arr=(vs.zipIdx n).foldl (fun (cs:Array Value) (p:Value×Nat)=>cs.setIfInBounds (off+p.2) p.1) arr∧
  ((vs.zipIdx n).foldl (fun (cs:Array Value) (p:Value×Nat)=>cs.setIfInBounds (off+p.2) p.1) arr).size=arr.size∧
  ∀ k,((vs.zipIdx n).foldl (fun (cs:Array Value) (p:Value×Nat)=>cs.setIfInBounds (off+p.2) p.1) arr)[k]? = if off+n≤k∧k<off+n+vs.length∧k<arr.size then vs[k-(off+n)]? else arr[k]?
 | [],n,arr=>⟨rfl,rfl,fun k=>by simp; omega⟩
 | v::vs,n,arr=>by
  obtain ⟨-,h1,h2⟩:=fold_set off vs (n+1) (arr.setIfInBounds (off+n) v)
  refine ⟨rfl,by simp only [List.zipIdx_cons,List.foldl_cons]; rw [h1]; simp,fun k=>?_⟩
  simp only [List.zipIdx_cons,List.foldl_cons]
  rw [h2 k]
  simp only [Array.size_setIfInBounds,Array.getElem?_setIfInBounds]
  by_cases hk:off+n=k
  ·subst hk
   rw [if_neg (by omega),if_pos rfl]
   by_cases hlt:off+n<arr.size
   ·rw [if_pos hlt,if_pos (by simp; omega)]; simp
   ·rw [if_neg hlt,if_neg (by omega)]; simp [Array.getElem?_eq_none (Nat.le_of_not_lt hlt)]
  ·rw [if_neg hk]
   by_cases hin:off+(n+1)≤k∧k<off+(n+1)+vs.length∧k<arr.size
   ·rw [if_pos hin,if_pos (by simp; omega)]
    rw [show k-(off+n)=(k-(off+(n+1)))+1 by omega]; simp
   ·rw [if_neg hin,if_neg (by simp; omega)]
section
variable {P:Program} {c:Cfg} {g:Gh} {w w':World} {U:Nat→Prop} {sr:St} {a:Act} {site:Nat} {o:Oper} {ρ:Type} {r:ρ} {k:Eff→Option ρ} {arr:Array Value} {e:TypeId}
theorem fillA_ok (S:Sit P c g w U sr a) (pl:Nat→Option (Nat×Nat)):∀ (ps:List (Nat×Operand)) (zs cs:List AVal) (arr:Array Value),VRels g w U zs arr.toList→
  fillA pl (ps.map fun p=>(p.1,sr.ev p.2)) zs=some cs→∃ arr',Instr.fill pl arr (ps.map fun p=>(p.1,a.eval p.2))=some arr'∧VRels g w U cs arr'.toList
 | [],zs,cs,arr,hz,h=>by
  simp only [List.map_nil,fillA,Option.some.injEq] at h
  subst h
  exact ⟨arr,rfl,hz⟩
 | (i,x)::ps,zs,cs,arr,hz,h=>by
  simp only [List.map_cons,fillA] at h
  split at h
  ·rename_i off size hpl
   split at h
   ·rename_i hb
    simp only [Bool.and_eq_true,Nat.ble_eq] at hb
    obtain ⟨⟨hb1,hb2⟩,hb3⟩:=hb
    have hb1:=Nat.eq_of_beq_eq_true hb1
    obtain ⟨hv,-⟩:=cells_rel (S.ev x) hb2
    have hl:=VRels_len hv
    have hzl:=VRels_len hz
    have hsz:(a.eval x).cells.size=size:=by rw [← hb1,← hl]; simp
    simp only [Instr.fill,hpl,List.map_cons,hsz,ne_eq,not_true_eq_false,decide_false,Bool.false_or,decide_eq_true_eq]
    rw [if_neg (by simp at hzl; omega)]
    have hfold:(a.eval x).cells.zipIdx.foldl (fun (cs:Array Value) (p:Value×Nat)=>cs.setIfInBounds (off+p.2) p.1) arr=((a.eval x).cells.toList.zipIdx 0).foldl (fun (cs:Array Value) (p:Value×Nat)=>cs.setIfInBounds (off+p.2) p.1) arr:=by
     rw [← Array.foldl_toList]; simp
    obtain ⟨-,f1,f2⟩:=fold_set off (a.eval x).cells.toList 0 arr
    refine fillA_ok S pl ps _ cs _ ?_ h
    refine VRels_of ?_ ?_
    ·rw [putCells_len,← hzl]
     simp only [Array.length_toList]
     exact hfold▸f1
    ·intro m h1 h2
     rw [putCells_len] at h1
     have g1:=putCells_get zs off (sr.ev x).cells m (by omega)
     rw [List.getElem?_eq_getElem (by rw [putCells_len]; exact h1)] at g1
     have g2:=f2 m
     rw [← hfold] at g2
     have g3:=List.getElem?_eq_getElem h2
     simp only [Array.getElem?_toList] at g3
     have g4:=g3.symm.trans g2
     simp only [Nat.add_zero,Array.length_toList] at g4 hzl
     by_cases hin:off≤m∧m<off+(sr.ev x).cells.length
     ·rw [if_pos hin] at g1
      rw [if_pos (by simp only [Array.length_toList] at hl; omega)] at g4
      obtain ⟨y,h3,h4⟩:=VRels_get hv (m-off) (by omega)
      rw [h3] at g4
      rw [List.getElem?_eq_getElem (by omega)] at g1
      rw [Option.some.inj g1,Option.some.inj g4]
      exact h4
     ·rw [if_neg hin] at g1
      rw [if_neg (by simp only [Array.length_toList] at hl; omega)] at g4
      obtain ⟨y,h3,h4⟩:=VRels_get hz m h1
      rw [Array.getElem?_toList] at h3
      rw [h3] at g4
      rw [List.getElem?_eq_getElem h1] at g1
      rw [Option.some.inj g1,Option.some.inj g4]
      exact h4
   ·simp at h
  ·simp at h
theorem build_ok (S:Sit P c g w U sr a) {t:Nat} {parts:Array (Nat×Operand)} {cs:List AVal} (hk:(c.ti t).kind = .struct) (hf:(c.ti t).fields.all (fun f=>Nat.blt 0 (c.ti f.2).size)=true)
  (h:fillA (fieldPl c (c.ti t)) (parts.toList.map fun p=>(p.1,sr.ev p.2)) (c.ti t).zero=some cs) :
  Ok P g w U (.agg cs) (Instr.build t (parts.map fun (i,x)=>(i,a.eval x))):=by
 have hT:=kind_ok S.tys hk (by simp)
 obtain ⟨z,hz,hr,hv,ti,hti,htz,-⟩:=run_zero hT
 obtain ⟨d,h1,h2,-⟩:=hT.desc
 rw [hk] at h2
 obtain ⟨fs,rfl,h3⟩:=h2
 obtain ⟨arr',h4,h5⟩:=fillA_ok S (fieldPl c (c.ti t)) parts.toList _ cs z.cells (hv g w U) h
 have hall:∀ f∈fs.toList,0<(c.ti f.type).size:=by
  intro f hfm
  have hmem:(f.offset,f.type)∈(c.ti t).fields:=by rw [← h3]; exact List.mem_map_of_mem hfm
  have:=List.all_eq_true.1 hf _ hmem
  simpa [Nat.blt_eq] using this
 have hm:∀ (l:List Field),(∀ f∈l,0<(c.ti f.type).size)→l.mapM (fun f=>(P.info? f.type).map fun i=>(f.offset,i.size))=some (l.map fun f=>(f.offset,(c.ti f.type).size)):=by
  intro l
  induction l with
  | nil=>intro _; rfl
  | cons f l ih=>
   intro hl
   obtain ⟨i,e1,e2,-⟩:=(ti_ok S.tys (.inl (hl f (by simp)))).info
   simp [List.mapM_cons,e1,e2,ih (fun f hf=>hl f (by simp [hf]))]
 have hpl:(fun (n:Nat)=>(fs.toList.map fun f=>(f.offset,(c.ti f.type).size))[n]?)=fieldPl c (c.ti t):=by
  funext n
  unfold fieldPl
  rw [← h3]
  simp only [List.getElem?_map,Array.getElem?_toList]
  cases fs[n]?<;>rfl
 have hb:P.built t (parts.map fun (i,x)=>(i,a.eval x)).toList=some arr':=by
  unfold Program.built
  rw [hti,h1]
  simp only [htz,hm fs.toList hall]
  have e1:(fun (n:Nat)=>(fs.toList.map fun f=>(f.offset,(c.ti f.type).size)).toArray[n]?)=fieldPl c (c.ti t):=by
   rw [← hpl]; funext n; simp
  rw [e1,← h4]
  simp
 exact ⟨.agg arr',run_build w t _ _ hb,arr'.toList,by simp,h5⟩
theorem replA_len (n:Nat) (cs:List AVal):(replA n cs).length=n*cs.length:=by simp [replA]
theorem replA_get (n:Nat) (cs:List AVal):∀ k,k<n*cs.length→(replA n cs)[k]? = cs[k % cs.length]?:=by
 induction n with
 | zero=>intro k hk; omega
 | succ n ih=>
  intro k hk
  have e:replA (n+1) cs=cs++replA n cs:=by simp [replA,List.replicate_succ]
  rw [e]
  by_cases hlt:k<cs.length
  ·rw [List.getElem?_append_left hlt,Nat.mod_eq_of_lt hlt]
  ·rw [List.getElem?_append_right (by omega),ih (k-cs.length) (by rw [Nat.add_mul] at hk; omega)]
   rw [← Nat.mod_eq_sub_mod (by omega)]
theorem zeros_rel {n:Nat} {zs:List AVal} {z:Array Value} (h:VRels g w U zs z.toList) (hp:0<zs.length) :
  VRels g w U (replA n zs) ((Array.range (n*zs.length)).map (z[· % z.size]!)).toList:=by
 have hl:=VRels_len h
 simp only [Array.length_toList] at hl
 refine VRels_of (by simp [replA_len]) (fun k h1 h2=>?_)
 have h3:=replA_get n zs k (by rw [replA_len] at h1; exact h1)
 have hm:k % zs.length<zs.length:=Nat.mod_lt _ hp
 obtain ⟨y,h4,h5⟩:=VRels_get h (k % zs.length) hm
 rw [List.getElem?_eq_getElem h1,List.getElem?_eq_getElem hm] at h3
 rw [Option.some.inj h3]
 have h6:z[k % z.size]! = y:=by
  rw [hl]
  simp only [Array.getElem?_toList] at h4
  rw [getElem!_def,h4]
 simp only [Array.toList_map,Array.toList_range,List.getElem_map,List.getElem_range]
 rw [h6]; exact h5
theorem buildSlice_ok (S:Sit P c g w U sr a) (hs:¬ U site) {t len:Nat} {parts:Array (Nat×Operand)} {cs:List AVal} (hk:(c.ti t).kind = .slice) (he:0<(c.ti (c.ti t).elem).size)
  (hlen:len*(c.ti (c.ti t).elem).size≤100000)
  (h:fillA (fun n=>some (n*(c.ti (c.ti t).elem).size,(c.ti (c.ti t).elem).size)) (parts.toList.map fun p=>(p.1,sr.ev p.2)) (replA len (c.ti (c.ti t).elem).zero)=some cs) :
  ∃ v w' g' U',(Instr.buildSlice t len (parts.map fun (i,x)=>(i,a.eval x))).run P w = .ok v w'∧
   Post g w U site ⟨.csl (site*1024) 0 len (c.ti (c.ti t).elem).size,[(site*1024,some (.cells [] cs))]⟩ v w' g' U':=by
 have hd:=slice_desc S.tys hk
 have hT:=ti_ok S.tys (.inl he)
 obtain ⟨z,hz,hr,hv,-⟩:=run_zero hT
 have hzl:(c.ti (c.ti t).elem).zero.length=(c.ti (c.ti t).elem).size:=by
  have:=VRels_len (hv g w U); rw [← this,← hz]; simp
 have hz0:=zeros_rel (n:=len) (z:=z.cells) (hv g w U) (by omega)
 rw [hzl] at hz0
 obtain ⟨arr',h4,h5⟩:=fillA_ok S _ parts.toList _ cs _ hz0 h
 have hcl:cs.length=len*(c.ti (c.ti t).elem).size:=by
  have:∀ (ps:List (Nat×AVal)) (zs cs:List AVal),fillA (fun n=>some (n*(c.ti (c.ti t).elem).size,(c.ti (c.ti t).elem).size)) ps zs=some cs→cs.length=zs.length:=by
   intro ps
   induction ps with
   | nil=>intro zs cs h; simp [fillA] at h; rw [h]
   | cons p ps ih=>
    intro zs cs h
    simp only [fillA] at h
    split at h
    ·rw [ih _ _ h,putCells_len]
    ·simp at h
  rw [this _ _ _ h,replA_len,hzl]
 have B:=NewB_alloc w arr' (c.ti t).elem
 obtain ⟨g',U',hp⟩:=Post_cells S hs B h5 (x:=.csl (site*1024) 0 len (c.ti (c.ti t).elem).size) (v:=.slice (some (ad w.heap.size 0)) len len)
  (fun g' hg=>⟨.inr (site_div site),.inl S.u0,_,_,rfl,Nat.le_refl _,by rw [hg]; simp [hcl],_,_,by rw [hg],by simp⟩)
 refine ⟨_,_,g',U',?_,hp⟩
 have hmap:(parts.map fun (i,x)=>(i,a.eval x)).toList=parts.toList.map fun p=>(p.1,a.eval p.2):=by simp
 by_cases h0:len*(c.ti (c.ti t).elem).size=0
 ·have hz':((Array.range (len*(c.ti (c.ti t).elem).size)).map (z.cells[· % z.cells.size]!)) = #[]:=by rw [h0]; simp [Array.range_zero']
  rw [hz'] at h4
  have hne:¬ (len*(c.ti (c.ti t).elem).size>2 ^ 24):=by omega
  simp only [Instr.buildSlice,Sem.run_bind,run_underlying hd,run_sizeOf' hT,Result.andThen_ok,Sem.run_ite,hne,if_false,h0,if_true,Sem.run_pure,hmap]
  simp [h4,newRow,Array.range_zero']
 ·have hne:¬ (len*(c.ti (c.ti t).elem).size>2 ^ 24):=by omega
  simp only [Instr.buildSlice,Sem.run_bind,run_underlying hd,run_sizeOf' hT,Result.andThen_ok,Sem.run_ite,hne,if_false,h0,Sem.run_pure,hr,hmap]
  simp [h4,newRow]
end
end Go.Am
namespace Go.Am
open Go
open Classical in
noncomputable def relab (D:Nat→Path→Prop) (N:Nat) (σ:Src) (Rt:Nat→Nat→Prop) (l:Lab):Lab:=fun b o=>
 if Rt b o then some (N,[]) else match l b o with
  | none=>none
  | some (id,p)=>if D id p then (if h:∃ q hd,σ q=some (id,p,hd) then some (N,h.choose) else none) else some (id,p)
section
variable {D:Nat→Path→Prop} {N:Nat} {σ:Src} {Rt:Nat→Nat→Prop} {l:Lab} {b o:Nat}
theorem relab_rt (h:Rt b o):relab D N σ Rt l b o=some (N,[]):=by simp [relab,h]
theorem relab_none (h:l b o=none) (hr:¬ Rt b o):relab D N σ Rt l b o=none:=by simp [relab,h,hr]
theorem relab_keep {id:Nat} {p:Path} (h:l b o=some (id,p)) (hr:¬ Rt b o) (hd:¬ D id p):relab D N σ Rt l b o=some (id,p):=by simp [relab,h,hr,hd]
theorem relab_src {id:Nat} {p q:Path} {hh:Hd} (h:l b o=some (id,p)) (hr:¬ Rt b o) (hd:D id p) (hσ:σ q=some (id,p,hh)) (hi:∀ q' h',σ q'=some (id,p,h')→q'=q) :
  relab D N σ Rt l b o=some (N,q):=by
 have hex:∃ q hd,σ q=some (id,p,hd):=⟨q,hh,hσ⟩
 simp only [relab,hr,if_false,h,hd,if_true,hex,dif_pos]
 obtain ⟨h',hc⟩:=hex.choose_spec
 rw [hi _ _ hc]
theorem relab_drop {id:Nat} {p:Path} (h:l b o=some (id,p)) (hr:¬ Rt b o) (hd:D id p) (hσ:∀ q h',σ q≠some (id,p,h')):relab D N σ Rt l b o=none:=by
 have hex:¬ ∃ q hd,σ q=some (id,p,hd):=fun ⟨q,hh,e⟩=>hσ q hh e
 simp only [relab,hr,if_false,h,hd,if_true,hex,dif_neg,not_false_eq_true]
theorem relab_some {q:Nat×Path} (h:relab D N σ Rt l b o=some q):Rt b o∨l b o≠none:=by
 by_cases hr:Rt b o
 ·exact .inl hr
 ·refine .inr (fun hn=>?_)
  rw [relab_none hn hr] at h; simp at h
end
section
variable {P:Program} {c:Cfg} {g:Gh} {L:Lab} {w w':World} {U:Nat→Prop} {sr:St} {a:Act} {site:Nat} {o:Oper} {ρ:Type} {r:ρ} {k:Eff→Option ρ} {D:Nat→Path→Prop} {N:Nat} {σ:Src} {Rt:Nat→Nat→Prop} {R H:Nat→Path→Hd}
theorem reGh_some {l:Lab} {b o:Nat} {q:Nat×Path} (h:(reGh g site R H (relab D N σ Rt l)).lab b o=some q):Rt b o∨l b o≠none:=relab_some h
theorem Stp_relab {T:Nat→Prop} (hs:¬ U site) (h1:∀ b o,g.lab b o=none→∀ v,w.cell? (ad b o)=some v→w'.cell? (ad b o)=some v∧¬ Rt b o)
  (h2:∀ b o id p,g.lab b o=some (id,p)→¬ T id→¬ D id p∧¬ Rt b o∧w'.cell? (ad b o)=w.cell? (ad b o)∧w'.frozen? (ad b o)=w.frozen? (ad b o)) :
  Stp T g w U (reGh g site R H (relab D N σ Rt g.lab)) w' (U' U site):=by
 refine ⟨fun s h=>.inl h,fun id ver p a1 a2=>reGh_old hs a1 a2,fun b o hn v hv=>?_,fun b o id p h hT=>?_⟩
 ·obtain ⟨a1,a2⟩:=h1 b o hn v hv
  exact ⟨a1,relab_none hn a2⟩
 ·obtain ⟨a1,a2,a3,a4⟩:=h2 b o id p h hT
  exact ⟨relab_keep h a2 a1,a3,a4⟩
theorem RowR_new {own:Bool} {t:Ty} {xs:List t.T} {h0:Hd} (g':Gh) (hg:g'=reGh g site R H (relab D N σ Rt g.lab)) (hroot:g'.hd N 0 []=h0)
  (hH:∀ q id p h,σ q=some (id,p,h)→H N q=h) (hHn:∀ q,q≠[]→σ q=none→H N q=nilHd)
  (hsrc:∀ q id p h,σ q=some (id,p,h)→D id p∧(∀ q' h',σ q'=some (id,p,h')→q'=q)∧∀ b o,g.lab b o=some (id,p)→¬ Rt b o∧w'.cell? (ad b o)=w.cell? (ad b o)∧w'.frozen? (ad b o)=w.frozen? (ad b o))
  (hL:∀ b o,L b o=none→∀ v,w.cell? (ad b o)=some v→w'.cell? (ad b o)=some v∧relab D N σ Rt g.lab b o=none)
  (hlen:h0.len=xs.length) (hcap:h0.len≤h0.cap) (hnil:h0.addr=none→h0.cap=0)
  (hcells:∀ b o,h0.addr=some (b,o)→∀ k,k<h0.cap*t.size→Rt b (o+k)∧(w'.cell? (ad b (o+k))).isSome=true∧w'.frozen? (ad b (o+k))=false)
  (hx:∀ b o,h0.addr=some (b,o)→∀ k (hk:k<xs.length),OwS g L w own σ t [] k 0 xs[k] (fun d=>w'.cell? (ad b (o+k*t.size+d)))) :
  RowR g' w' own N 0 site t noSk [] xs:=by
 subst hg
 unfold RowR
 rw [hroot]
 refine ⟨hlen,hcap,hnil,fun b o hb=>⟨fun k hk=>?_,fun k hk=>?_⟩⟩
 ·obtain ⟨a1,a2,a3⟩:=hcells b o hb k hk
  exact ⟨relab_rt a1,a2,a3⟩
 ·have Rn:Ren g L w (reGh g site R H (relab D N σ Rt g.lab)) w' σ N site:=by
   refine ⟨fun q id p h e=>?_,fun q hq e=>?_,fun q id p h b o e hl=>?_,fun b o hl v hv=>hL b o hl v hv⟩
   ·rw [reGh_ver]; exact hH q id p h e
   ·rw [reGh_ver]; exact hHn q hq e
   ·obtain ⟨a1,a2,a3⟩:=hsrc q id p h e
    obtain ⟨a4,a5,a6⟩:=a3 b o hl
    exact ⟨relab_src hl a4 a1 e a2,a5,a6⟩
  exact OwS_own Rn t [] k 0 _ _ b (o+k*t.size) (fun d hd=>rfl) (hx b o hb k hk)
theorem zero_own {own:Bool} {g0:Gh} {w0:World} {U0:Nat→Prop} : ∀ (t:Ty) (q:Path) (i j:Nat) (l:List Value) (f:Nat→Option Value),VRels g0 w0 U0 (zcells t) l→(∀ k,k<t.size→f k=l[k]?)→OwS g L w own none1 t q i j t.zero f
 | .int k,q,i,j,l,f,h,hf=>by obtain ⟨x,r,rfl,rfl,rfl⟩:=h; exact (hf 0 (by simp [Ty.size])).trans rfl
 | .bool,q,i,j,l,f,h,hf=>by obtain ⟨x,r,rfl,rfl,rfl⟩:=h; exact (hf 0 (by simp [Ty.size])).trans rfl
 | .str,q,i,j,l,f,h,hf=>by obtain ⟨x,r,rfl,rfl,rfl⟩:=h; exact (hf 0 (by simp [Ty.size])).trans rfl
 | .err,q,i,j,l,f,h,hf=>by obtain ⟨x,r,rfl,h1,rfl⟩:=h; exact ⟨x,(hf 0 (by simp [Ty.size])).trans rfl,h1⟩
 | .osl t,q,i,j,l,f,h,hf=>by
  obtain ⟨x,r,rfl,rfl,rfl⟩:=h
  exact ⟨_,(hf 0 (by simp [Ty.size])).trans rfl,⟨none,0,0,rfl,rfl,Nat.le_refl _,fun _=>rfl,fun hn=>absurd rfl hn⟩,⟨fun _=>⟨0,0,rfl⟩,fun _=>rfl⟩⟩
 | .sl t,q,i,j,l,f,h,hf=>by
  obtain ⟨x,r,rfl,rfl,rfl⟩:=h
  have h0:=(hf 0 (by simp [Ty.size])).trans rfl
  cases own with
  | true=>exact .inr ⟨rfl,h0,rfl⟩
  | false=>exact ⟨_,h0,none,0,0,rfl,rfl,Nat.le_refl _,fun _=>rfl,fun hn=>absurd rfl hn⟩
 | .pair s t,q,i,j,l,f,h,hf=>by
  have hzl:∀ t:Ty,(zcells t).length=t.size:=by
   intro t
   induction t with
   | pair a b ia ib=>simp [zcells,Ty.size,ia,ib]
   | _=>rfl
  have hsplit:∀ (xs ys:List AVal) (l:List Value),VRels g0 w0 U0 (xs++ys) l→VRels g0 w0 U0 xs (l.take xs.length)∧VRels g0 w0 U0 ys (l.drop xs.length):=by
   intro xs
   induction xs with
   | nil=>intro ys l h; exact ⟨rfl,h⟩
   | cons x xs ih=>
    intro ys l h
    obtain ⟨y,r,rfl,h1,h2⟩:=h
    obtain ⟨h3,h4⟩:=ih ys r h2
    exact ⟨⟨y,_,rfl,h1,h3⟩,h4⟩
  obtain ⟨h1,h2⟩:=hsplit _ _ _ h
  rw [hzl] at h1 h2
  refine ⟨zero_own s q i j _ f h1 (fun k hk=>?_),zero_own t q i (j+s.size) _ _ h2 (fun k hk=>?_)⟩
  ·rw [hf k (by simp [Ty.size]; omega),List.getElem?_take,if_pos hk]
  ·rw [hf _ (by simp [Ty.size]; omega),List.getElem?_drop]
theorem makeSlice_ok {ow:Bool} (S:Sit P c g w U sr a) (hs:¬ U site) {t:Nat} {e:Ty} {kl kc:IntKind} {n:Int} (hk:(c.ti t).kind = .slice) (he:(c.ti (c.ti t).elem).ty=some e) (hb:0<(c.ti (c.ti t).elem).bytes)
  (hn:0≤n∧n*((c.ti (c.ti t).elem).bytes:Int)≤(maxB:Int)) :
  ∃ v w' g' U',(Instr.makeSlice t (.int kl n) (.int kc n)).run P w = .ok v w'∧
   Post g w U site ⟨.own (site*1024) 0 [] e,[(site*1024,some (.row ow e site (List.replicate n.toNat e.zero)))]⟩ v w' g' U':=by
 have h0:site≠0:=by rintro rfl; exact hs S.u0
 have hd:=slice_desc S.tys hk
 have hT:TOK P (c.ti t).elem (c.ti (c.ti t).elem):=by
  unfold Cfg.ti at he ⊢
  generalize (match look c.tys t with | some i=>i | none=>(⟨false,0,0,[],.other,0,none,[],false⟩:TInfo)).elem=x at he ⊢
  cases e2:look c.tys x with
  | none=>rw [e2] at he; simp at he
  | some i=>exact S.tys x i e2
 obtain ⟨hz1,hz2⟩:=hT.ty e he
 obtain ⟨z,hz,hr,hv,ti,hti,htz,hts,htb⟩:=run_zero hT
 have hpos:=e.size_pos
 have hzs:z.cells.size=e.size:=by rw [hz,hz2]
 have hmx:(maxB:Int)=140737488355328:=rfl
 have hle:n*1≤n*((c.ti (c.ti t).elem).bytes:Int):=Int.mul_le_mul_of_nonneg_left (by omega) hn.1
 have hrun:=run_make (P:=P) w t (c.ti t).elem ti z hd hti htz kl kc n n hn.1 (Int.le_refl _) (by
  rw [htb]
  have:((c.ti (c.ti t).elem).bytes:Int)*n=n*((c.ti (c.ti t).elem).bytes:Int):=Int.mul_comm _ _
  omega) (by omega)
 have B:=NewB_alloc w (madeCells z.cells (n.toNat*ti.size)) (c.ti t).elem
 have hsz:ti.size=e.size:=by rw [hts,hz2]
 rw [hsz] at hrun B
 refine ⟨_,_,reGh g site (fun _ _=>⟨some (w.heap.size,0),n.toNat,n.toNat⟩) (fun _ _=>nilHd) (relab (fun _ _=>False) (site*1024) none1 (fun b o=>b=w.heap.size∧o<n.toNat*e.size) g.lab),U' U site,hrun,?_⟩
 have hmem1:∀ b o,g.lab b o=none→∀ v,w.cell? (ad b o)=some v→(w.alloc (.cells (madeCells z.cells (n.toNat*e.size)) (c.ti t).elem)).cell? (ad b o)=some v∧¬ (b=w.heap.size∧o<n.toNat*e.size):=by
  intro b o hl v hv
  have:=cell_lt hv
  exact ⟨by rw [B.old (by omega)]; exact hv,by omega⟩
 have hst:∀ {T:Nat→Prop},Stp T g w U (reGh g site (fun _ _=>⟨some (w.heap.size,0),n.toNat,n.toNat⟩) (fun _ _=>nilHd) (relab (fun _ _=>False) (site*1024) none1 (fun b o=>b=w.heap.size∧o<n.toNat*e.size) g.lab)) (w.alloc (.cells (madeCells z.cells (n.toNat*e.size)) (c.ti t).elem)) (U' U site):=
  Stp_relab hs hmem1 (fun b o id p h _=>by
   have:=S.labs _ _ _ h
   exact ⟨fun h=>h,by omega,B.old (by omega) o,B.oldFrozen (by omega) o⟩)
 refine ⟨hst,⟨.inr (site_div site),.inl S.u0,.inl S.u0,trivial,fun _=>rfl,?_⟩,fun id ob hob=>?_,fun s h=>h,fun b o q h=>?_,fun b o q hb h=>?_,B.fr _,fun id h=>by rw [look_one h,site_div]; rintro rfl; exact hs S.u19⟩
 ·rw [reGh_root h0]; rfl
 ·simp only [look] at hob
  split at hob
  ·rename_i hb
   obtain rfl:=Nat.eq_of_beq_eq_true hb
   simp only [Option.some.injEq] at hob
   subst hob
   refine ⟨.inr (site_div site),.inl S.u0,.inr rfl,?_⟩
   refine RowR_new (w:=w) (L:=g.lab) (h0:=⟨some (w.heap.size,0),n.toNat,n.toNat⟩) _ rfl (reGh_root h0 _) (fun q id p h e=>by simp [none1] at e) (fun q hq e=>rfl) (fun q id p h e=>by simp [none1] at e) (fun b o hl v hv=>?_) (by simp) (Nat.le_refl _) (by simp) (fun b o hb k hk=>?_) (fun b o hb k hk=>?_)
   ·obtain ⟨a1,a2⟩:=hmem1 b o hl v hv
    exact ⟨a1,relab_none hl a2⟩
   ·simp only [Option.some.injEq,Prod.mk.injEq] at hb
    obtain ⟨rfl,rfl⟩:=hb
    refine ⟨⟨rfl,by simpa using hk⟩,?_,B.newFrozen _⟩
    rw [B.new,Array.getElem?_eq_getElem (by rw [size_madeCells]; simpa using hk)]; rfl
   ·simp only [Option.some.injEq,Prod.mk.injEq] at hb
    obtain ⟨rfl,rfl⟩:=hb
    simp only [List.length_replicate] at hk
    rw [List.getElem_replicate]
    have hv':=hv g w U
    rw [hz1] at hv'
    refine zero_own e [] k 0 z.cells.toList _ hv' (fun d hd=>?_)
    have hlt:k*e.size+d<n.toNat*e.size:=by
     have:(k+1)*e.size≤n.toNat*e.size:=Nat.mul_le_mul_right _ hk
     rw [Nat.add_mul] at this; omega
    rw [B.new]
    simp only [madeCells,Array.getElem?_map,Nat.zero_add]
    rw [Array.getElem?_range,if_pos hlt]
    simp only [Option.map_some]
    rw [hzs,show (k*e.size+d) % e.size=d by rw [Nat.mul_comm,Nat.mul_add_mod,Nat.mod_eq_of_lt hd]]
    rw [getElem!_def,Array.getElem?_toList]
    have:d<z.cells.size:=by omega
    rw [Array.getElem?_eq_getElem this]
  ·simp [look] at hob
 ·rw [B.size]
  rcases reGh_some h with ⟨rfl,-⟩ | h
  ·omega
  ·cases h2:g.lab b o with
   | none=>exact absurd h2 h
   | some q=>have:=S.labs _ _ _ h2; omega
 ·rcases reGh_some h with ⟨rfl,-⟩ | h
  ·omega
  ·exact h
end
end Go.Am
namespace Go.Am
open Go
inductive Appended (P:Program) (w:World) (size:Nat) (e:TypeId) (h:Hd) (olds news:List Value) (m:Nat) (s:Sem Value):Prop
 | room (b o:Nat) (ha:h.addr=some (b,o)) (hr:h.len+m≤h.cap) (hs:s.run P w = .ok (.slice (some (ad b o)) (h.len+m) h.cap) (w.setCells b (o+h.len*size) news))
 | nil (ha:h.addr=none) (hm:m=0) (hl:h.len=0) (hs:s.run P w = .ok (.slice none 0 0) w)
 | grow (cap:Nat) (arr:Array Value) (w':World) (B:NewB w w' arr e) (hc:h.len+m≤cap) (ha:arr.size=cap*size) (hl:∃ rest,arr.toList=olds++news++rest) (hs:s.run P w = .ok (.slice (some (ad w.heap.size 0)) (h.len+m) cap) w')
theorem run_firstCells_any {P:Program} {w:World} {size m xc:Nat} {xa:Option Addr} {news:List Value} (hl:news.length=m*size) (hx:0<m→∃ b o,xa=some (ad b o)∧∀ j u,news[j]? = some u→w.cell? (ad b (o+j))=some u) :
  (Builtin.firstCells size m (.slice xa m xc)).run P w = .ok news.toArray w:=by
 rcases Nat.eq_zero_or_pos m with rfl | hm
 ·have:news=[]:=List.eq_nil_of_length_eq_zero (by simpa using hl)
  subst this
  cases xa<;>simp [Builtin.firstCells,loadCells,loadCellsFrom]
 ·obtain ⟨b,o,rfl,hj⟩:=hx hm
  exact run_firstCells_some w size m (ad b o) m xc news hl (fun j v hv=>by rw [Addr.add_lit]; exact hj j v hv)
theorem append_run {P:Program} {w:World} {t ty e:TypeId} {i:TypeInfo} {z:Value} (ht:P.underlying t=some (.slice e)) (hi:P.info? e=some i) (hz:i.zero=some z) (hzs:z.cells.size=i.size) (hby:0<i.bytes)
  {h:Hd} {olds news:List Value} {xa:Option Addr} {m xc:Nat} (hc:h.len≤h.cap) (hn:h.addr=none→h.cap=0) (hol:olds.length=h.len*i.size)
  (ho:∀ b o,h.addr=some (b,o)→(∀ j u,olds[j]? = some u→w.cell? (ad b (o+j))=some u)∧∀ k,k<h.cap*i.size→(w.cell? (ad b (o+k))).isSome=true∧w.frozen? (ad b (o+k))=false)
  (hl:news.length=m*i.size) (hx:0<m→∃ b o,xa=some (ad b o)∧∀ j u,news[j]? = some u→w.cell? (ad b (o+j))=some u) (h1:∀ u∈news,u.oneCell'=true) (hmax:(h.len+m)*i.bytes≤maxB) :
  Appended P w i.size e h olds news m (Builtin.append_ #[t,t] ty #[h.val,.slice xa m xc]):=by
 have hmx:maxB=140737488355328:=rfl
 have hle:(h.len+m)*1≤(h.len+m)*i.bytes:=Nat.mul_le_mul_left _ hby
 have hf:=run_firstCells_any (P:=P) (xc:=xc) hl hx
 have hf':(Builtin.firstCells i.size m (.slice xa m xc)).run P w.drew = .ok news.toArray w.drew:=run_firstCells_any hl hx
 by_cases hroom:h.len+m≤h.cap
 ·cases ha:h.addr with
  | none=>
   have hcap:=hn ha
   have hm:m=0:=by omega
   have hlen:h.len=0:=by omega
   refine .nil ha hm hlen ?_
   have hv:h.val = .slice none 0 0:=by simp [Hd.val,ha,hlen,hcap]
   subst hm
   have hne:news=[]:=List.eq_nil_of_length_eq_zero (by simpa using hl)
   subst hne
   rw [hv]
   simp [Builtin.append_,run_underlying ht,sizeOf,typeInfo,hi,Builtin.lenOf,hf]
  | some a=>
   obtain ⟨b,o⟩:=a
   refine .room b o ha hroom ?_
   have hv:h.val = .slice (some (ad b o)) h.len h.cap:=by simp [Hd.val,ha]
   obtain ⟨-,hcells⟩:=ho b o ha
   have hfit:h.len*i.size+news.length≤h.cap*i.size:=by rw [hl,← Nat.add_mul]; exact Nat.mul_le_mul_right _ hroom
   have hst:=run_storeCells_cells (P:=P) b (o+h.len*i.size) news 0 w (fun j hj=>by rw [Nat.add_zero,Nat.add_assoc]; exact (hcells _ (by omega)).1) (fun j hj=>by rw [Nat.add_zero,Nat.add_assoc]; exact (hcells _ (by omega)).2) h1
   rw [hv]
   simp [Builtin.append_,run_underlying ht,sizeOf,typeInfo,hi,Builtin.lenOf,hroom,hf,Addr.add_lit]
   simp at hst
   rw [hst]
   rfl
 ·have hm:0<m:=by omega
  have hneed:Builtin.nextslicecap (h.len+m) h.cap≤2*(h.len+m):=nextslicecap_le (by omega)
  have h48:Builtin.nextslicecap (h.len+m) h.cap*i.bytes≤281474976710656:=by
   have:Builtin.nextslicecap (h.len+m) h.cap*i.bytes≤(2*(h.len+m))*i.bytes:=Nat.mul_le_mul_right _ hneed
   rw [Nat.mul_assoc] at this
   omega
  have hge:=grownCap_ge w (h.len+m) h.cap e
  have hfo:(Builtin.firstCells i.size h.len h.val).run P w.drew = .ok olds.toArray w.drew:=by
   refine run_firstCells_any hol (fun hp=>?_)
   cases ha:h.addr with
   | none=>have:=hn ha; omega
   | some a=>obtain ⟨b,o⟩:=a; exact ⟨b,o,by simp,(ho b o ha).1⟩
  refine .grow (grownCap w (h.len+m) h.cap e) (olds.toArray++(news.toArray++Builtin.zeroCells z.cells (grownCap w (h.len+m) h.cap e-(h.len+m)))) _ (NewB_drew w _ e) hge ?_ ⟨_,by simp; rfl⟩ ?_
  ·simp only [Array.size_append,List.size_toArray,size_zeroCells,hzs,hol,hl]
   rw [← Nat.add_assoc,← Nat.add_mul,← Nat.add_mul]
   congr 1; omega
  ·have hn':¬ (h.len+m≤h.cap):=hroom
   have h63':¬ (9223372036854775807<((h.len:Int)+(m:Int))):=by omega
   have h48':¬ (281474976710656<Builtin.nextslicecap (h.len+m) h.cap*i.bytes):=by omega
   have hv:h.val = .slice (h.addr.map fun p=>ad p.1 p.2) h.len h.cap:=rfl
   rw [hv] at hfo ⊢
   simp [Builtin.append_,run_underlying ht,sizeOf,typeInfo,zeroValue,hi,hz,Builtin.lenOf,hn',h63',h48',Question.forced,hf',hfo,newRow,grownCap]
end Go.Am
namespace Go.Am
open Go
section
variable {P:Program} {c:Cfg} {g:Gh} {L:Lab} {w w':World} {U:Nat→Prop} {sr:St} {a:Act} {site:Nat} {o:Oper} {ρ:Type} {r:ρ} {k:Eff→Option ρ} {σ:Src}
theorem OwS_one {own:Bool} : ∀ (t:Ty) (q:Path) (i j:Nat) (x:t.T) (f:Nat→Option Value),OwS g L w own σ t q i j x f→∀ k,k<t.size→∃ v,f k=some v∧v.oneCell'=true
 | .int _,q,i,j,x,f,h,k,hk=>by
  have:k=0:=by simp [Ty.size] at hk; exact hk
  subst this; exact ⟨_,h,rfl⟩
 | .bool,q,i,j,x,f,h,k,hk=>by
  have:k=0:=by simp [Ty.size] at hk; exact hk
  subst this; exact ⟨_,h,rfl⟩
 | .str,q,i,j,x,f,h,k,hk=>by
  have:k=0:=by simp [Ty.size] at hk; exact hk
  subst this; exact ⟨_,h,rfl⟩
 | .err,q,i,j,x,f,h,k,hk=>by
  have:k=0:=by simp [Ty.size] at hk; exact hk
  subst this
  obtain ⟨v,h1,h2⟩:=h
  refine ⟨v,h1,?_⟩
  rcases ErrV_nil h2 with ⟨-,rfl⟩ | ⟨-,ti,x,rfl⟩<;>rfl
 | .osl _,q,i,j,x,f,h,k,hk=>by
  have:k=0:=by simp [Ty.size] at hk; exact hk
  subst this
  obtain ⟨v,h1,⟨_,_,_,rfl,-⟩,-⟩:=h
  exact ⟨_,h1,rfl⟩
 | .sl _,q,i,j,x,f,h,k,hk=>by
  have:k=0:=by simp [Ty.size] at hk; exact hk
  subst this
  cases own with
  | false=>obtain ⟨v,h1,_,_,_,rfl,-⟩:=h; exact ⟨_,h1,rfl⟩
  | true=>
   rcases h with ⟨_,_,_,-,h1,-⟩ | ⟨-,h1,-⟩
   ·exact ⟨_,h1,rfl⟩
   ·exact ⟨_,h1,rfl⟩
 | .pair s t,q,i,j,x,f,h,k,hk=>by
  by_cases hs:k<s.size
  ·exact OwS_one s q i j x.1 f h.1 k hs
  ·obtain ⟨v,h1,h2⟩:=OwS_one t q i (j+s.size) x.2 _ h.2 (k-s.size) (by simp [Ty.size] at hk; omega)
   exact ⟨v,by rw [show s.size+(k-s.size)=k by omega] at h1; exact h1,h2⟩
theorem plain_sh {own:Bool} {lab:Lab} : ∀ (t:Ty) (q:Path) (i j:Nat) (x:t.T) (b o:Nat),t.plain=true→Sh lab w t x b o→OwS g L w own none1 t q i j x (fun d=>w.cell? (ad b (o+d)))
 | .int _,q,i,j,x,b,o,hp,h=>h.1
 | .bool,q,i,j,x,b,o,hp,h=>h.1
 | .str,q,i,j,x,b,o,hp,h=>h.1
 | .err,q,i,j,x,b,o,hp,h=>h.1
 | .osl _,q,i,j,x,b,o,hp,h=>by simp [Ty.plain] at hp
 | .sl _,q,i,j,x,b,o,hp,h=>by simp [Ty.plain] at hp
 | .pair s t,q,i,j,x,b,o,hp,h=>by
  simp only [Ty.plain,Bool.and_eq_true] at hp
  refine ⟨plain_sh s q i j x.1 b o hp.1 h.1,?_⟩
  have:OwS g L w own none1 t q i (j+s.size) x.2 (fun d=>w.cell? (ad b (o+s.size+d))):=plain_sh t q i (j+s.size) x.2 b (o+s.size) hp.2 h.2
  simpa [Nat.add_assoc] using this
theorem plain_ow {own own':Bool} {id vr:Nat} {p:Path} : ∀ (t:Ty) (q:Path) (i j i' j':Nat) (x:t.T) (b o:Nat),t.plain=true→OwT g w own' id vr t noSk p i' j' x b o→OwS g L w own none1 t q i j x (fun d=>w.cell? (ad b (o+d)))
 | .int _,q,i,j,i',j',x,b,o,hp,h=>h
 | .bool,q,i,j,i',j',x,b,o,hp,h=>h
 | .str,q,i,j,i',j',x,b,o,hp,h=>h
 | .err,q,i,j,i',j',x,b,o,hp,h=>h
 | .osl _,q,i,j,i',j',x,b,o,hp,h=>by simp [Ty.plain] at hp
 | .sl _,q,i,j,i',j',x,b,o,hp,h=>by simp [Ty.plain] at hp
 | .pair s t,q,i,j,i',j',x,b,o,hp,h=>by
  simp only [Ty.plain,Bool.and_eq_true] at hp
  refine ⟨plain_ow s q i j i' j' x.1 b o hp.1 h.1,?_⟩
  have:OwS g L w own none1 t q i (j+s.size) x.2 (fun d=>w.cell? (ad b (o+s.size+d))):=plain_ow t q i (j+s.size) i' (j'+s.size) x.2 b (o+s.size) hp.2 h.2
  simpa [Nat.add_assoc] using this
theorem sh_own {lab:Lab} (hL:∀ b o,lab b o=none→L b o=none):∀ (t:Ty) (q:Path) (i j:Nat) (x:t.T) (b o:Nat),Sh lab w t x b o→OwS g L w false none1 t q i j x (fun d=>w.cell? (ad b (o+d)))
 | .int _,q,i,j,x,b,o,h=>h.1
 | .bool,q,i,j,x,b,o,h=>h.1
 | .str,q,i,j,x,b,o,h=>h.1
 | .err,q,i,j,x,b,o,h=>h.1
 | .osl t,q,i,j,x,b,o,h=>by
  obtain ⟨⟨v,h1,h2,h3⟩,-⟩:=h
  exact ⟨v,h1,shV_mono (Sh_step (fun b o hl v hv=>⟨hv,hL b o hl⟩) t) h2,h3⟩
 | .sl t,q,i,j,x,b,o,h=>by
  obtain ⟨⟨v,h1,h2⟩,-⟩:=h
  exact ⟨v,h1,shV_mono (Sh_step (fun b o hl v hv=>⟨hv,hL b o hl⟩) t) h2⟩
 | .pair s t,q,i,j,x,b,o,h=>by
  refine ⟨sh_own hL s q i j x.1 b o h.1,?_⟩
  have:OwS g L w false none1 t q i (j+s.size) x.2 (fun d=>w.cell? (ad b (o+s.size+d))):=sh_own hL t q i (j+s.size) x.2 b (o+s.size) h.2
  simpa [Nat.add_assoc] using this
structure TailOK (g:Gh) (L:Lab) (w:World) (own:Bool) (t:Ty) (i0:Nat) (vx:Value) (ys:List t.T) (v:List Nat) (σ:Src):Prop where
 sl:∃ xa xc,vx = .slice xa ys.length xc∧(0<ys.length→∃ b o,xa=some (ad b o)∧∀ k (hk:k<ys.length),OwS g L w own σ t [] (i0+k) 0 ys[k] (fun d=>w.cell? (ad b (o+k*t.size+d))))
 dom:DomN [] i0 ys.length σ
 tk:Tk v σ
theorem list_elems (hO:Objs g w U sr) {x:AVal} {vx:Value} (hx:VRel g w U x vx) {u:Ty} {xs:List u.T} (e:sr.list x=some ⟨u,xs⟩) :
  ∃ xa xc,vx = .slice xa xs.length xc∧(0<xs.length→∃ b o,xa=some (ad b o)∧∀ k (hk:k<xs.length),(Sh g.lab w u xs[k] b (o+k*u.size)∨∃ own' id vr p k',OwT g w own' id vr u noSk p k' 0 xs[k] b (o+k*u.size))):=by
 unfold St.list at e
 split at e
 ·simp only [Option.some.injEq] at e
  obtain ⟨rfl,e⟩:=Sigma.mk.inj e
  obtain rfl:=eq_of_heq e
  obtain ⟨a,len,cap,rfl,rfl,h2,h3,h4⟩:=hx
  refine ⟨a,cap,rfl,fun hp=>?_⟩
  obtain ⟨b,o,rfl,h5⟩:=h4 (List.ne_nil_of_length_pos hp)
  exact ⟨b,o,rfl,fun k hk=>.inl (h5 k hk)⟩
 ·simp only [Option.some.injEq] at e
  obtain ⟨rfl,e⟩:=Sigma.mk.inj e
  obtain rfl:=eq_of_heq e
  obtain ⟨⟨a,len,cap,rfl,rfl,h2,h3,h4⟩,-⟩:=hx
  refine ⟨a,cap,rfl,fun hp=>?_⟩
  obtain ⟨b,o,rfl,h5⟩:=h4 (List.ne_nil_of_length_pos hp)
  exact ⟨b,o,rfl,fun k hk=>.inl (h5 k hk)⟩
 ·rename_i id ver p tt
  obtain ⟨h1,h2,h3,h4,h5,rfl⟩:=hx
  obtain ⟨own,t,vr,xs0,-,-,⟨r1,r2,r3,r4⟩,-⟩:=rowAt_sound hO h5 h4 e
  refine ⟨_,_,by unfold Hd.val; rw [r1],fun hp=>?_⟩
  cases ha:(g.hd id ver p).addr with
  | none=>have:=r3 ha; omega
  | some q=>
   obtain ⟨b,o⟩:=q
   exact ⟨b,o,by simp,fun k hk=>.inr ⟨_,_,_,_,_,(r4 b o ha).2 k hk⟩⟩
 ·rename_i id ver p tt off len
  split at e
  ·rename_i u' ys hr
   split at e
   ·rename_i hb
    obtain rfl:=Ty.eq_of_beq hb
    simp only [Option.some.injEq] at e
    obtain ⟨rfl,e⟩:=Sigma.mk.inj e
    obtain rfl:=eq_of_heq e
    obtain ⟨h1,h2,h3,h4,h5,a,cp,rfl,h6,h7,h8,h9,h99⟩:=hx
    obtain ⟨own,t,vr,xs0,-,-,⟨r1,r2,r3,r4⟩,-⟩:=rowAt_sound hO h5 h4 hr
    have hlen:((ys.drop off).take len).length=len:=by simp; omega
    refine ⟨a,cp,by rw [hlen],fun hp=>?_⟩
    obtain ⟨b,o,ha,rfl⟩:=h9 (by omega)
    refine ⟨b,o+off*tt.size,rfl,fun k hk=>.inr ⟨own,id,vr,p,off+k,?_⟩⟩
    have:=(r4 b o ha).2 (off+k) (by omega)
    simp only [List.getElem_take,List.getElem_drop]
    rw [Nat.add_assoc,← Nat.add_mul]
    exact this
   ·simp at e
  ·simp at e
 ·simp at e
theorem ow_ro (hL:∀ b o,g.lab b o=none→L b o=none) {id vr:Nat} {p:Path} : ∀ (t:Ty) (q:Path) (i j i' j':Nat) (x:t.T) (b o:Nat),OwT g w false id vr t noSk p i' j' x b o→OwS g L w false none1 t q i j x (fun d=>w.cell? (ad b (o+d)))
 | .int _,q,i,j,i',j',x,b,o,h=>h
 | .bool,q,i,j,i',j',x,b,o,h=>h
 | .str,q,i,j,i',j',x,b,o,h=>h
 | .err,q,i,j,i',j',x,b,o,h=>h
 | .osl t,q,i,j,i',j',x,b,o,h=>by
  obtain ⟨v,h1,h2,h3⟩:=h
  exact ⟨v,h1,shV_mono (Sh_step (fun b o hl v hv=>⟨hv,hL b o hl⟩) t) h2,h3⟩
 | .sl t,q,i,j,i',j',x,b,o,h=>by
  obtain ⟨v,h1,h2⟩:=h
  exact ⟨v,h1,shV_mono (Sh_step (fun b o hl v hv=>⟨hv,hL b o hl⟩) t) h2⟩
 | .pair s t,q,i,j,i',j',x,b,o,h=>by
  refine ⟨ow_ro hL s q i j i' j' x.1 b o h.1,?_⟩
  have:OwS g L w false none1 t q i (j+s.size) x.2 (fun d=>w.cell? (ad b (o+s.size+d))):=ow_ro hL t q i (j+s.size) i' (j'+s.size) x.2 b (o+s.size) h.2
  simpa [Nat.add_assoc] using this
theorem ro_elems (hO:Objs g w U sr) {x:AVal} {vx:Value} (hx:VRel g w U x vx) {t:Ty} {ys:List t.T} (e:sr.roPart t x=some ys) :
  ∃ xa xc,vx = .slice xa ys.length xc∧(0<ys.length→∃ b o,xa=some (ad b o)∧∀ k (hk:k<ys.length),∃ id vr p k',OwT g w false id vr t noSk p k' 0 ys[k] b (o+k*t.size)):=by
 unfold St.roPart at e
 split at e
 ·rename_i id ver tt off len
  split at e
  ·rename_i u0 vr0 xs0 ho
   split at e
   ·rename_i u xs hl
    obtain ⟨rfl,e⟩:=cast_sl e
    obtain rfl:=eq_of_heq e
    unfold St.list at hl
    simp only at hl
    split at hl
    ·rename_i u' zs hr
     split at hl
     ·rename_i hb
      obtain rfl:=Ty.eq_of_beq hb
      simp only [Option.some.injEq] at hl
      obtain ⟨rfl,hl⟩:=Sigma.mk.inj hl
      obtain rfl:=eq_of_heq hl
      obtain ⟨h1,h2,h3,h4,h5,a,cp,rfl,h6,h7,h8,h9,h99⟩:=hx
      obtain ⟨own,t,vr,xs1,ho',-,⟨r1,r2,r3,r4⟩,-⟩:=rowAt_sound hO h5 h4 hr
      have hown:own=false:=by
       rw [ho] at ho'
       simp only [Option.some.injEq,AObj.row.injEq] at ho'
       exact ho'.1.symm
      subst hown
      have hlen:((zs.drop off).take len).length=len:=by simp; omega
      refine ⟨a,cp,by rw [hlen],fun hp=>?_⟩
      obtain ⟨b,o,ha,rfl⟩:=h9 (by omega)
      refine ⟨b,o+off*tt.size,rfl,fun k hk=>⟨id,vr,[],off+k,?_⟩⟩
      have:=(r4 b o ha).2 (off+k) (by omega)
      simp only [List.getElem_take,List.getElem_drop]
      rw [Nat.add_assoc,← Nat.add_mul]
      exact this
     ·simp at hl
    ·simp at hl
   ·simp at e
  ·simp at e
 ·simp at e
theorem tail_sound (hO:Objs g w U sr) (hL:∀ b o,g.lab b o=none→L b o=none) {own:Bool} {t:Ty} {x:AVal} {vx:Value} (hx:VRel g w U x vx) {ys:List t.T} {v:List Nat} (i0:Nat)
  (hdrop:own=false→∀ id∈v,∀ b o p,g.lab b o=some (id,p)→L b o=none) (e:sr.tail own t x=some (ys,v)) :
  (∀ id∈v,sr.obj id≠none)∧∃ σ,TailOK g L w own t i0 vx ys v σ:=by
 have hplain:∀ {u:Ty} {xs:List u.T},t.plain=true→sr.list x=some ⟨u,xs⟩→Ty.cast (.sl u) (.sl t) xs=some ys→v=[]→(∀ id∈v,sr.obj id≠none)∧∃ σ,TailOK g L w own t i0 vx ys v σ:=by
  intro u xs hp hl hcast hv
  subst hv
  obtain ⟨rfl,hcast⟩:=cast_sl hcast
  obtain rfl:=eq_of_heq hcast
  obtain ⟨xa,xc,h1,h2⟩:=list_elems hO hx hl
  refine ⟨by simp,none1,⟨xa,xc,h1,fun hpos=>?_⟩,fun p hp=>absurd rfl hp,.none⟩
  obtain ⟨b,o,h3,h4⟩:=h2 hpos
  refine ⟨b,o,h3,fun k hk=>?_⟩
  rcases h4 k hk with h5 | ⟨own',id,vr,p,k',h5⟩
  ·exact plain_sh _ [] _ 0 _ b _ hp h5
  ·exact plain_ow _ [] _ 0 _ _ _ b _ hp h5
 have htake:∀ {xs:List t.T} {r:List AVal},take sr own 50 (.sl t) [x]=some (xs,r,v)→xs=ys→(∀ id∈v,sr.obj id≠none)∧∃ σ,TailOK g L w own t i0 vx ys v σ:=by
  intro xs r he hxy
  subst hxy
  cases x with
  | nil=>
   simp only [take] at he
   obtain ⟨rfl,rfl,rfl⟩:=some3 he
   obtain rfl:=hx
   exact ⟨by simp,none1,⟨none,0,rfl,fun hp=>absurd hp (by simp)⟩,fun p hp=>absurd rfl hp,.none⟩
  | sh u zs=>
   cases own with
   | true=>simp [take] at he
   | false=>
    simp only [take] at he
    split at he
    ·rename_i ys hz
     obtain ⟨rfl,rfl,rfl⟩:=some3 he
     obtain ⟨rfl,hz⟩:=cast_sl hz
     obtain rfl:=eq_of_heq hz
     obtain ⟨a,len,cap,rfl,rfl,h2,h3,h4⟩:=hx
     refine ⟨by simp,none1,⟨a,cap,rfl,fun hp=>?_⟩,fun p hp=>absurd rfl hp,.none⟩
     obtain ⟨b,o,rfl,h5⟩:=h4 (List.ne_nil_of_length_pos hp)
     exact ⟨b,o,rfl,fun k hk=>sh_own hL _ _ _ _ _ _ _ (h5 k hk)⟩
    ·simp at he
  | csl id off len sz=>
   cases off with
   | succ off=>simp [take] at he
   | zero=>
    simp only [take] at he
    split at he
    ·rename_i ro cs' ho
     split at he
     ·rename_i hb
      rw [Bool.and_eq_true] at hb
      obtain ⟨hb1,hb2⟩:=hb
      obtain rfl:=Nat.eq_of_beq_eq_true hb1
      have hb2:=Nat.eq_of_beq_eq_true hb2
      split at he
      ·rename_i ys u' e'
       obtain ⟨rfl,rfl,rfl⟩:=some3 he
       obtain ⟨-,-,a,cc,rfl,hlc,hcl,b,o,ha,hao⟩:=hx
       obtain ⟨b',o',hh,hlab,hvals⟩:=obj_cells hO ho
       have hao:=hao (.inr rfl)
       rw [hh] at ha hcl
       simp only [Option.some.injEq,Prod.mk.injEq] at ha
       obtain ⟨rfl,rfl⟩:=ha
       simp only [Nat.zero_add,Nat.zero_mul,Nat.add_zero] at hcl hao
       have hpos:=t.size_pos
       obtain rfl:cc=len:=Nat.eq_of_mul_eq_mul_right hpos (by rw [hcl,hb2])
       subst hao
       obtain ⟨b1,b2,σ',T⟩:=(take_sound hO hL own 49).2 t cc cs' ys u' _ [] i0 hvals e' (fun ho id hi=>hdrop ho id (List.mem_cons_of_mem _ hi))
       refine ⟨fun id' hi=>?_,σ',⟨some (ad b' o'),cc,by rw [T.len],fun hp=>⟨b',o',rfl,fun k hk=>?_⟩⟩,?_,?_,?_⟩
       ·rcases List.mem_cons.1 hi with rfl | hi
        ·rw [ho]; simp
        ·exact b1 _ hi
       ·have:=T.ow k hk
        simpa [Nat.add_assoc] using this
       ·rw [T.len]; exact T.dom
       ·intro p id' p' h he
        exact List.mem_cons_of_mem _ (T.tk.ids _ _ _ _ he)
       ·intro hn
        exact T.tk.inj (List.nodup_cons.1 hn).2
      ·simp at he
     ·simp at he
    ·simp at he
  | own id ver p tt=>
   cases p with
   | cons q p=>simp [take] at he
   | nil=>
    simp only [take] at he
    split at he
    ·rename_i o u' vr xs' ho
     split at he
     ·simp at he
     ·rename_i hown
      split at he
      ·rename_i ys hz
       obtain ⟨rfl,rfl,rfl⟩:=some3 he
       obtain ⟨rfl,hz⟩:=cast_sl hz
       obtain rfl:=eq_of_heq hz
       obtain ⟨-,-,-,-,hver,rfl⟩:=hx
       obtain rfl:=hver rfl
       obtain ⟨-,-,-,hR⟩:=hO id _ ho
       obtain ⟨r1,r2,r3,r4⟩:=hR
       have haddr:0<xs'.length→∃ b o,(g.hd id 0 []).addr=some (b,o):=by
        intro hp
        cases ha:(g.hd id 0 []).addr with
        | none=>have:=r3 ha; omega
        | some q=>exact ⟨_,_,rfl⟩
       cases own with
       | true=>
        have ho':o=true:=by cases o<;>simp_all
        subst ho'
        let σ:Src:=fun p=>match p with | []=>none | (k',j)::s=>if i0≤k'∧k'<i0+xs'.length then some (id,(k'-i0,j)::s,g.hd id vr ((k'-i0,j)::s)) else none
        refine ⟨by simp [ho],σ,⟨_,_,by unfold Hd.val; rw [r1],fun hp=>?_⟩,?_,?_,?_⟩
        ·obtain ⟨b,o,ha⟩:=haddr hp
         obtain ⟨r5,r6⟩:=r4 b o ha
         refine ⟨b,o,by simp [ha],fun k hk=>OwT_src hL u' [] [] k 0 (i0+k) 0 _ b _ (fun _ d s hd=>?_) (r6 k hk)⟩
         simp only [List.nil_append,σ]
         rw [if_pos (by omega)]
         have:i0+k-i0=k:=by omega
         rw [this]
        ·intro p hp
         cases p with
         | nil=>simp [σ] at hp
         | cons q s=>
          obtain ⟨k',j⟩:=q
          simp only [σ] at hp
          split at hp
          ·rename_i hk; exact ⟨k'-i0,j,s,by omega,by simp; omega⟩
          ·simp at hp
        ·intro p id' p' h e1
         cases p with
         | nil=>simp [σ] at e1
         | cons q s=>
          simp only [σ] at e1
          split at e1
          ·simp at e1; simp [e1.1]
          ·simp at e1
        ·intro _ p1 p2 id' p' h1 h2 e1 e2
         cases p1 with
         | nil=>simp [σ] at e1
         | cons q1 s1=>
          cases p2 with
          | nil=>simp [σ] at e2
          | cons q2 s2=>
           obtain ⟨k1,j1⟩:=q1
           obtain ⟨k2,j2⟩:=q2
           simp only [σ] at e1 e2
           split at e1
           ·split at e2
            ·simp only [Option.some.injEq,Prod.mk.injEq] at e1 e2
             have e3:=e1.2.1.trans e2.2.1.symm
             simp at e3
             obtain ⟨⟨e4,rfl⟩,rfl⟩:=e3
             have:k1=k2:=by omega
             subst this; rfl
            ·simp at e2
           ·simp at e1
       | false=>
        have hd:=hdrop rfl id (by simp)
        refine ⟨by simp [ho],none1,⟨_,_,by unfold Hd.val; rw [r1],fun hp=>?_⟩,fun p hp=>absurd rfl hp,.none⟩
        obtain ⟨b,o,ha⟩:=haddr hp
        obtain ⟨r5,r6⟩:=r4 b o ha
        refine ⟨b,o,by simp [ha],fun k hk=>sh_own (lab:=L) (fun _ _ h=>h) _ _ _ _ _ b _ (OwT_sh hL hd u' _ k 0 _ b _ (fun d hd'=>?_) (r6 k hk))⟩
        have hle:(k+1)*u'.size≤(g.hd id 0 []).cap*u'.size:=Nat.mul_le_mul_right _ (by omega)
        rw [Nat.add_mul] at hle
        obtain ⟨a1,-,-⟩:=r5 (k*u'.size+d) (by omega)
        exact ⟨_,by rw [Nat.add_assoc]; exact a1⟩
      ·simp at he
    ·simp at he
  | _=>simp [take] at he
 have hgen:(match t.plain with
  | true=>match sr.list x with
   | some ⟨u,xs⟩=>match Ty.cast (.sl u) (.sl t) xs with | some ys=>some (ys,[]) | none=>none
   | none=>none
  | false=>roOr own (sr.roPart t x) (match take sr own 50 (.sl t) [x] with | some (xs,_,u)=>some (xs,u) | none=>none))=some (ys,v)→(∀ id∈v,sr.obj id≠none)∧∃ σ,TailOK g L w own t i0 vx ys v σ:=by
  intro e
  split at e
  ·rename_i hp
   split at e
   ·rename_i u xs hl
    split at e
    ·rename_i zs hz
     simp only [Option.some.injEq,Prod.mk.injEq] at e
     obtain ⟨rfl,rfl⟩:=e
     exact hplain hp hl hz rfl
    ·simp at e
   ·simp at e
  ·have hT:(match take sr own 50 (.sl t) [x] with | some (xs,_,u)=>some (xs,u) | none=>none)=some (ys,v)→(∀ id∈v,sr.obj id≠none)∧∃ σ,TailOK g L w own t i0 vx ys v σ:=by
    intro e
    split at e
    ·rename_i xs r u he
     have e:=Prod.mk.inj (Option.some.inj e)
     obtain ⟨h1,rfl⟩:=e
     exact htake he h1
    ·simp at e
   cases hro:sr.roPart t x with
   | none=>
    rw [hro] at e
    exact hT (by unfold roOr at e; cases own<;>exact e)
   | some zs=>
    rw [hro] at e
    cases own with
    | true=>exact hT e
    | false=>
     have e:some (zs,([]:List Nat))=some (ys,v):=e
     have e:=Prod.mk.inj (Option.some.inj e)
     obtain ⟨rfl,rfl⟩:=e
     obtain ⟨xa,xc,h1,h2⟩:=ro_elems hO hx hro
     refine ⟨by simp,none1,⟨xa,xc,h1,fun hpos=>?_⟩,fun p hp=>absurd rfl hp,.none⟩
     obtain ⟨b,o,h3,h4⟩:=h2 hpos
     refine ⟨b,o,h3,fun k hk=>?_⟩
     obtain ⟨id,vr,p,k',h5⟩:=h4 k hk
     exact ow_ro hL _ [] _ 0 _ _ _ b _ h5
 cases x with
 | nil=>
  simp only [St.tail,Option.some.injEq,Prod.mk.injEq] at e
  obtain ⟨rfl,rfl⟩:=e
  obtain rfl:=hx
  exact ⟨by simp,none1,⟨none,0,rfl,fun hp=>absurd hp (by simp)⟩,fun p hp=>absurd rfl hp,.none⟩
 | csl id off len sz=>
  cases off with
  | zero=>
   simp only [St.tail] at e
   split at e
   ·rename_i xs r u he
    have e:=Prod.mk.inj (Option.some.inj e)
    obtain ⟨h1,rfl⟩:=e
    exact htake he h1
   ·simp at e
  | succ off=>exact hgen e
 | _=>exact hgen e
end
end Go.Am
namespace Go.Am
open Go
def memList (w:World) (b o n:Nat):List Value:=(List.range n).map fun k=>(w.cell? (ad b (o+k))).getD undef
section
variable {P:Program} {c:Cfg} {g:Gh} {L:Lab} {w w':World} {U:Nat→Prop} {sr:St} {a:Act} {site:Nat} {o:Oper} {ρ:Type} {r:ρ} {k:Eff→Option ρ} {σ:Src}
theorem memList_get {b o n:Nat} {k:Nat} {v:Value} (h:(memList w b o n)[k]? = some v) (hs:(w.cell? (ad b (o+k))).isSome=true):w.cell? (ad b (o+k))=some v∧k<n:=by
 simp only [memList,List.getElem?_map] at h
 obtain ⟨j,h1,h2⟩:=Option.map_eq_some_iff.1 h
 have h3:=List.getElem?_eq_some_iff.1 h1
 obtain ⟨h4,h5⟩:=h3
 simp at h4 h5
 subst h5
 obtain ⟨u,hu⟩:=Option.isSome_iff_exists.1 hs
 rw [hu] at h2 ⊢
 simp at h2; subst h2
 exact ⟨rfl,h4⟩
theorem OwS_false {σ τ:Src} : ∀ (t:Ty) (q:Path) (i j:Nat) (x:t.T) (f:Nat→Option Value),OwS g L w false σ t q i j x f→OwS g L w false τ t q i j x f
 | .int _,_,_,_,_,_,h=>h
 | .bool,_,_,_,_,_,h=>h
 | .str,_,_,_,_,_,h=>h
 | .err,_,_,_,_,_,h=>h
 | .osl _,_,_,_,_,_,h=>h
 | .sl _,_,_,_,_,_,h=>h
 | .pair s t,q,i,j,x,f,h=>⟨OwS_false s q i j x.1 f h.1,OwS_false t q i (j+s.size) x.2 _ h.2⟩
theorem elems_some {own:Bool} {u:Ty} {xs:List u.T} {i0 b o:Nat} (h:∀ k (hk:k<xs.length),OwS g L w own σ u [] (i0+k) 0 xs[k] (fun d=>w.cell? (ad b (o+k*u.size+d)))) :
  ∀ j,j<xs.length*u.size→∃ v,w.cell? (ad b (o+j))=some v∧v.oneCell'=true:=by
 intro j hj
 have hp:=u.size_pos
 have hk:j / u.size<xs.length:=by rw [Nat.div_lt_iff_lt_mul hp]; exact hj
 obtain ⟨v,h1,h2⟩:=OwS_one u [] _ 0 _ _ (h (j / u.size) hk) (j % u.size) (Nat.mod_lt _ hp)
 refine ⟨v,?_,h2⟩
 have:o+j / u.size*u.size+j % u.size=o+j:=by rw [Nat.add_assoc,Nat.mul_comm,Nat.div_add_mod]
 rwa [this] at h1
structure AppRow (g:Gh) (w:World) (U:Nat→Prop) (site:Nat) (own:Bool) (u:Ty) (zs:List u.T) (D:Nat→Path→Prop) (Ho:Nat→Path→Hd) (v:Value) (w':World) (g':Gh):Prop where
 val:v=(g'.hd (site*1024) 0 []).val
 row:RowR g' w' own (site*1024) 0 site u noSk [] zs
 stp:∀ T:Nat→Prop,(∀ id p,D id p→T id)→Stp T g w U g' w' (U' U site)
 keep:∀ b o id p,g.lab b o=some (id,p)→¬ D id p→g'.lab b o=some (id,p)∧w'.cell? (ad b o)=w.cell? (ad b o)∧w'.frozen? (ad b o)=w.frozen? (ad b o)
 oth:∀ id p,id≠site*1024→g'.hd id site p=Ho id p
 labs:∀ b o q,g'.lab b o=some q→b<w'.heap.size
 old:∀ b o q,b<w.heap.size→g'.lab b o=some q→g.lab b o≠none
 fr:Fr (Mine g) w w'
theorem append_row (S:Sit P c g w U sr a) (hs:¬ U site) {t ty:Nat} (hk:(c.ti t).kind = .slice) (hby:0<(c.ti (c.ti t).elem).bytes) {u:Ty} (hsz:(c.ti (c.ti t).elem).size=u.size) {own:Bool} {h:Hd} {xs ys:List u.T} {vx:Value} {v:List Nat} {σ0 σ1:Src}
  {Do:Nat→Path→Prop} (Ho:Nat→Path→Hd)
  (hlen:h.len=xs.length) (hcap:h.len≤h.cap) (hnil:h.addr=none→h.cap=0)
  (hcells:∀ b o,h.addr=some (b,o)→∀ k,k<h.cap*u.size→(w.cell? (ad b (o+k))).isSome=true∧w.frozen? (ad b (o+k))=false∧∃ id p,g.lab b (o+k)=some (id,p)∧Do id p∧∀ q h',σ0 q≠some (id,p,h'))
  (hold:∀ b o,h.addr=some (b,o)→∀ k (hk:k<xs.length),OwS g L w own σ0 u [] k 0 xs[k] (fun d=>w.cell? (ad b (o+k*u.size+d))))
  (hσ0:∀ q id p h',σ0 q=some (id,p,h')→Do id p) (hi0:∀ q q' id p h1 h2,σ0 q=some (id,p,h1)→σ0 q'=some (id,p,h2)→q=q') (hd0:DomN [] 0 xs.length σ0)
  (hT:TailOK g L w own u xs.length vx ys v σ1) (hdis:∀ id∈v,∀ p,¬ Do id p) (hnd:v.Nodup) (hf1:own=false→(∀ q,σ0 q=none)∧∀ q,σ1 q=none)
  (hLd:∀ b o,L b o=none→g.lab b o=none∨(own=false∧∃ id p,g.lab b o=some (id,p)∧id∈v))
  (hmax:(xs.length+ys.length)*(c.ti (c.ti t).elem).bytes≤maxB) (hnf:∀ id p,Do id p→id / 1024≠19) :
  ∃ v' w' g',(Builtin.append_ #[t,t] ty #[h.val,vx]).run P w = .ok v' w'∧AppRow g w U site own u (xs++ys) (fun id p=>Do id p∨id∈v) Ho v' w' g':=by
 have h0:site≠0:=by rintro rfl; exact hs S.u0
 have hd:=slice_desc S.tys hk
 have hp:=u.size_pos
 have hTe:=ti_ok S.tys (t:=(c.ti t).elem) (.inl (by omega))
 obtain ⟨z,hz,hr,hv,ti,hti,htz,hts,htb⟩:=run_zero hTe
 have htsz:ti.size=u.size:=by rw [hts,hsz]
 obtain ⟨xa,xc,rfl,hxa⟩:=hT.sl
 obtain ⟨news,hnl,hn1,hn2⟩:∃ news:List Value,news.length=ys.length*u.size∧(0<ys.length→∃ b o,xa=some (ad b o)∧(∀ j u',news[j]? = some u'→w.cell? (ad b (o+j))=some u')∧∀ k (hk:k<ys.length),OwS g L w own σ1 u [] (xs.length+k) 0 ys[k] (fun d=>w.cell? (ad b (o+k*u.size+d))))∧∀ y∈news,y.oneCell'=true:=by
  rcases Nat.eq_zero_or_pos ys.length with hy | hy
  ·exact ⟨[],by simp [hy],fun h=>by omega,by simp⟩
  ·obtain ⟨b,o,e1,e2⟩:=hxa hy
   have e3:=elems_some e2
   refine ⟨memList w b o (ys.length*u.size),by simp [memList],fun _=>⟨b,o,e1,fun j u' hj=>?_,e2⟩,fun y hy=>?_⟩
   ·have hlt:j<ys.length*u.size:=by
     have:=(List.getElem?_eq_some_iff.1 hj).1
     simpa [memList] using this
    obtain ⟨v,hv,-⟩:=e3 j hlt
    exact (memList_get hj (by rw [hv]; rfl)).1
   ·obtain ⟨j,hj,hy⟩:=List.mem_iff_getElem.1 hy
    simp only [memList,List.length_map,List.length_range] at hj
    obtain ⟨v,hv,h1⟩:=e3 j hj
    simp only [memList,List.getElem_map,List.getElem_range,hv,Option.getD_some] at hy
    rw [← hy]; exact h1
 obtain ⟨olds,hol,ho1⟩:∃ olds:List Value,olds.length=h.len*u.size∧∀ b o,h.addr=some (b,o)→∀ j u',olds[j]? = some u'→w.cell? (ad b (o+j))=some u':=by
  cases ha:h.addr with
  | none=>have:=hnil ha; exact ⟨[],by rw [show h.len=0 by omega]; simp,by simp⟩
  | some q=>
   obtain ⟨b,o⟩:=q
   refine ⟨memList w b o (h.len*u.size),by simp [memList],fun b' o' hb j u' hj=>?_⟩
   simp only [Option.some.injEq,Prod.mk.injEq] at hb
   obtain ⟨rfl,rfl⟩:=hb
   have hlt:j<h.len*u.size:=by
    have:=(List.getElem?_eq_some_iff.1 hj).1
    simpa [memList] using this
   have hle:h.len*u.size≤h.cap*u.size:=Nat.mul_le_mul_right _ hcap
   exact (memList_get hj (hcells b o ha j (by omega)).1).1
 have happ:=append_run (P:=P) (w:=w) (ty:=ty) (h:=h) (olds:=olds) (news:=news) (xa:=xa) (m:=ys.length) (xc:=xc) hd hti htz (by rw [hz,hts]) (by rw [htb]; exact hby) hcap hnil (by rw [htsz]; exact hol)
  (fun b o hb=>⟨ho1 b o hb,fun k hk=>by rw [htsz] at hk; exact ⟨(hcells b o hb k hk).1,(hcells b o hb k hk).2.1⟩⟩) (by rw [htsz]; exact hnl) (fun hy=>let ⟨b,o,e1,e2,_⟩:=hn1 hy; ⟨b,o,e1,e2⟩) hn2 (by rw [hlen,htb]; exact hmax)
 rw [htsz] at happ
 have hσ:∀ q id p h',orS σ0 σ1 q=some (id,p,h')→(Do id p∨id∈v)∧∀ q' h'',orS σ0 σ1 q'=some (id,p,h'')→q'=q:=by
  intro q id p h' e
  rcases orS_some e with e | ⟨-,e⟩
  ·refine ⟨.inl (hσ0 _ _ _ _ e),fun q' h'' e'=>?_⟩
   rcases orS_some e' with e' | ⟨-,e'⟩
   ·exact hi0 _ _ _ _ _ _ e' e
   ·exact absurd (hσ0 _ _ _ _ e) (hdis _ (hT.tk.ids _ _ _ _ e') _)
  ·refine ⟨.inr (hT.tk.ids _ _ _ _ e),fun q' h'' e'=>?_⟩
   rcases orS_some e' with e' | ⟨-,e'⟩
   ·exact absurd (hσ0 _ _ _ _ e') (hdis _ (hT.tk.ids _ _ _ _ e) _)
   ·exact hT.tk.inj hnd _ _ _ _ _ _ e' e
 have hroot:∀ b o,h.addr=some (b,o)→∀ k,k<h.cap*u.size→∃ id p,g.lab b (o+k)=some (id,p)∧Do id p∧∀ q h',orS σ0 σ1 q≠some (id,p,h'):=by
  intro b o hb k hk
  obtain ⟨-,-,id,p,e1,e2,e3⟩:=hcells b o hb k hk
  refine ⟨id,p,e1,e2,fun q h' e=>?_⟩
  rcases orS_some e with e | ⟨-,e⟩
  ·exact e3 _ _ e
  ·exact hdis _ (hT.tk.ids _ _ _ _ e) _ e2
 have hc0:∀ k d s,k<xs.length→orS σ0 σ1 ((k,d)::s)=σ0 ((k,d)::s):=by
  intro k d s hk
  unfold orS
  split
  ·rename_i x hx; exact hx.symm
  ·rename_i hx
   rw [hx]
   cases e:σ1 ((k,d)::s) with
   | none=>rfl
   | some y=>
    obtain ⟨k',d',s',-,he⟩:=hT.dom _ (by rw [e]; simp)
    simp at he; omega
 have hc1:∀ k d s,orS σ0 σ1 ((xs.length+k,d)::s)=σ1 ((xs.length+k,d)::s):=by
  intro k d s
  unfold orS
  split
  ·rename_i y hx
   obtain ⟨k',d',s',hk',he⟩:=hd0 _ (by rw [hx]; simp)
   simp at he; omega
  ·rfl
 have hne:orS σ0 σ1 []=none:=by
  cases e:orS σ0 σ1 [] with
  | none=>rfl
  | some y=>
   rcases orS_some e with e | ⟨-,e⟩
   ·obtain ⟨_,_,_,_,he⟩:=hd0 _ (by rw [e]; simp)
    simp at he
   ·obtain ⟨_,_,_,_,he⟩:=hT.dom _ (by rw [e]; simp)
    simp at he
 let D:Nat→Path→Prop:=fun id p=>Do id p∨id∈v
 let H:Nat→Path→Hd:=fun id p=>if id=site*1024 then (match orS σ0 σ1 p with | some (_,_,h)=>h | none=>nilHd) else Ho id p
 have fin:∀ (h':Hd) (Rt:Nat→Nat→Prop) (w':World),h'.len=xs.length+ys.length→h'.len≤h'.cap→(h'.addr=none→h'.cap=0)→
   (∀ b o,Rt b o→b<w'.heap.size∧(b<w.heap.size→g.lab b o≠none))→w.heap.size≤w'.heap.size→Fr (Mine g) w w'→
   (∀ b o,g.lab b o=none→∀ v,w.cell? (ad b o)=some v→w'.cell? (ad b o)=some v∧¬ Rt b o)→
   (∀ b o id p,g.lab b o=some (id,p)→(¬ Do id p∨∃ q h'',orS σ0 σ1 q=some (id,p,h''))→¬ Rt b o∧w'.cell? (ad b o)=w.cell? (ad b o)∧w'.frozen? (ad b o)=w.frozen? (ad b o))→
   (∀ b o,h'.addr=some (b,o)→(∀ k,k<h'.cap*u.size→Rt b (o+k)∧(w'.cell? (ad b (o+k))).isSome=true∧w'.frozen? (ad b (o+k))=false)∧
    (∀ k,k<xs.length*u.size→∀ b0 o0,h.addr=some (b0,o0)→w'.cell? (ad b (o+k))=w.cell? (ad b0 (o0+k)))∧
    (∀ k,k<ys.length*u.size→w'.cell? (ad b (o+xs.length*u.size+k))=news[k]?))→
   AppRow g w U site own u (xs++ys) D Ho h'.val w' (reGh g site (fun _ _=>h') H (relab D (site*1024) (orS σ0 σ1) Rt g.lab)):=by
  intro h' Rt w' a1 a2 a3 a4 a5 a6 a7 a8 a9
  refine ⟨by rw [reGh_root h0],?_,fun T hTD=>?_,fun b o id p e hnD=>?_,fun id p hne'=>?_,fun b o q e=>?_,fun b o q hb e=>?_,a6⟩
  ·refine RowR_new (w:=w) (L:=L) (h0:=h') _ rfl (reGh_root h0 _) (fun q id p hh e=>?_) (fun q hq e=>?_) (fun q id p hh e=>?_) (fun b o hl v hv=>?_) (by rw [a1]; simp) a2 a3 (fun b o hb=>(a9 b o hb).1) (fun b o hb k hk=>?_)
   ·simp only [H,if_true]; rw [e]
   ·simp only [H,if_true]; rw [e]
   ·exact ⟨(hσ _ _ _ _ e).1,(hσ _ _ _ _ e).2,fun b o hl=>a8 b o id p hl (.inr ⟨_,_,e⟩)⟩
   ·rcases hLd b o hl with hl' | ⟨hof,id,p,hl',hid⟩
    ·obtain ⟨b1,b2⟩:=a7 b o hl' v hv
     exact ⟨b1,relab_none hl' b2⟩
    ·obtain ⟨b1,b2,b3⟩:=a8 b o id p hl' (.inl (hdis id hid p))
     refine ⟨by rw [b2]; exact hv,relab_drop hl' b1 (.inr hid) (fun q hh e=>?_)⟩
     obtain ⟨f0,f1⟩:=hf1 hof
     rcases orS_some e with e | ⟨-,e⟩
     ·rw [f0] at e; simp at e
     ·rw [f1] at e; simp at e
   ·obtain ⟨b1,b2,b3⟩:=a9 b o hb
    by_cases hkx:k<xs.length
    ·rw [List.getElem_append_left hkx]
     have haddr:∃ b0 o0,h.addr=some (b0,o0):=by
      cases ha:h.addr with
      | none=>have:=hnil ha; omega
      | some q=>exact ⟨_,_,rfl⟩
     obtain ⟨b0,o0,ha⟩:=haddr
     refine OwS_congr u [] k 0 _ _ (fun d s hd=>by simpa using hc0 k (0+d) s hkx) (OwS_cells u [] k 0 _ _ _ (fun d hd=>?_) (hold b0 o0 ha k hkx))
     have hle:(k+1)*u.size≤xs.length*u.size:=Nat.mul_le_mul_right _ hkx
     rw [Nat.add_mul] at hle
     rw [Nat.add_assoc,b2 (k*u.size+d) (by omega) b0 o0 ha,Nat.add_assoc]
    ·rw [List.getElem_append_right (by omega)]
     have hky:k-xs.length<ys.length:=by simp at hk; omega
     obtain ⟨bx,ox,e1,e2,e3⟩:=hn1 (by omega)
     have e4:=e3 (k-xs.length) hky
     rw [show xs.length+(k-xs.length)=k by omega] at e4
     refine OwS_congr u [] k 0 _ _ (fun d s hd=>by
      have:=hc1 (k-xs.length) (0+d) s
      rw [show xs.length+(k-xs.length)=k by omega] at this
      simpa using this) (OwS_cells u [] k 0 _ _ _ (fun d hd=>?_) e4)
     have hle:(k-xs.length+1)*u.size≤ys.length*u.size:=Nat.mul_le_mul_right _ hky
     rw [Nat.add_mul] at hle
     have hmul:k*u.size=xs.length*u.size+(k-xs.length)*u.size:=by rw [← Nat.add_mul]; congr 1; omega
     have b4:=b3 ((k-xs.length)*u.size+d) (by omega)
     have hlt:(k-xs.length)*u.size+d<news.length:=by rw [hnl]; omega
     rw [show o+k*u.size+d=o+xs.length*u.size+((k-xs.length)*u.size+d) by omega,b4,List.getElem?_eq_getElem hlt]
     have:=e2 _ _ (List.getElem?_eq_getElem hlt)
     rw [show ox+(k-xs.length)*u.size+d=ox+((k-xs.length)*u.size+d) by omega]
     exact this.symm
  ·refine Stp_relab hs a7 (fun b o id p e hnT=>?_)
   have hnD:¬ D id p:=fun hD=>hnT (hTD id p hD)
   obtain ⟨c1,c2,c3⟩:=a8 b o id p e (.inl (fun hDo=>hnD (.inl hDo)))
   exact ⟨hnD,c1,c2,c3⟩
  ·obtain ⟨c1,c2,c3⟩:=a8 b o id p e (.inl (fun hDo=>hnD (.inl hDo)))
   exact ⟨relab_keep e c1 hnD,c2,c3⟩
  ·rw [reGh_ver]; simp [H,hne']
  ·rcases reGh_some e with e | e
   ·exact (a4 b o e).1
   ·cases e2:g.lab b o with
    | none=>exact absurd e2 e
    | some q=>have:=S.labs _ _ _ e2; omega
  ·rcases reGh_some e with e | e
   ·exact (a4 b o e).2 hb
   ·exact e
 rcases happ with ⟨b,o,ha,hroom,hrun⟩ | ⟨ha,hm,hl0,hrun⟩ | ⟨cap,arr,w',B,hcp,hasz,⟨rest,harr⟩,hrun⟩
 ·
  have hin:∀ b' o',(b'=b∧o≤o'∧o'<o+h.cap*u.size)→∃ id p,g.lab b' o'=some (id,p)∧Do id p∧∀ q h',orS σ0 σ1 q≠some (id,p,h'):=by
   rintro b' o' ⟨rfl,h1,h2⟩
   have:=hroot b' o ha (o'-o) (by omega)
   rwa [show o+(o'-o)=o' by omega] at this
  have hfit:h.len*u.size+news.length≤h.cap*u.size:=by rw [hnl,← Nat.add_mul]; exact Nat.mul_le_mul_right _ hroom
  have hout:∀ b' o',¬ (b'=b∧o+h.len*u.size≤o'∧o'<o+h.len*u.size+news.length)→(w.setCells b (o+h.len*u.size) news).cell? (ad b' o')=w.cell? (ad b' o'):=by
   intro b' o' hn
   refine World.cell?_setCells_out b news _ w _ (fun hb _=>?_)
   simp only at hb ⊢
   rcases Nat.lt_or_ge o' (o+h.len*u.size) with h1 | h1
   ·exact .inl h1
   ·rcases Nat.lt_or_ge o' (o+h.len*u.size+news.length) with h2 | h2
    ·exact absurd ⟨hb,h1,h2⟩ hn
    ·exact .inr h2
  have hFr:Fr (Mine g) w (w.setCells b (o+h.len*u.size) news):=by
   refine Fr_setCells b news _ w (fun k hk=>?_)
   obtain ⟨id,p,e,e1,-⟩:=hin b (o+h.len*u.size+k) ⟨rfl,by omega,by omega⟩
   exact ⟨id,p,e,hnf id p e1⟩
  have hres:=fin ⟨some (b,o),h.len+ys.length,h.cap⟩ (fun b' o'=>b'=b∧o≤o'∧o'<o+h.cap*u.size) _ (by rw [hlen]) hroom (by simp)
   (fun b' o' hR=>by
    obtain ⟨id,p,e,-⟩:=hin b' o' hR
    exact ⟨Nat.lt_of_lt_of_le (S.labs _ _ _ e) hFr.size,fun _=>by rw [e]; simp⟩) hFr.size hFr
   (fun b' o' hl v hv=>by
    have hnR:¬ (b'=b∧o≤o'∧o'<o+h.cap*u.size):=fun hR=>by
     obtain ⟨id,p,e,-⟩:=hin b' o' hR
     rw [e] at hl; simp at hl
    exact ⟨by rw [hout b' o' (fun hh=>hnR ⟨hh.1,by omega,by omega⟩)]; exact hv,hnR⟩)
   (fun b' o' id p hl hD=>by
    have hnR:¬ (b'=b∧o≤o'∧o'<o+h.cap*u.size):=fun hR=>by
     obtain ⟨id',p',e,e1,e2⟩:=hin b' o' hR
     rw [e] at hl
     simp only [Option.some.injEq,Prod.mk.injEq] at hl
     obtain ⟨rfl,rfl⟩:=hl
     rcases hD with hD | ⟨q,h'',e3⟩
     ·exact hD e1
     ·exact e2 _ _ e3
    exact ⟨hnR,hout b' o' (fun hh=>hnR ⟨hh.1,by omega,by omega⟩),World.frozen?_setCells b news _ w _⟩)
   (fun b' o' hb=>by
    simp only [Option.some.injEq,Prod.mk.injEq] at hb
    obtain ⟨rfl,rfl⟩:=hb
    have hsome:∀ m,m<news.length→(w.cell? (ad b (o+h.len*u.size+m))).isSome=true:=by
     intro m hm
     rw [Nat.add_assoc]; exact (hcells b o ha _ (by omega)).1
    refine ⟨fun k hk=>⟨⟨rfl,by omega,by simpa using hk⟩,?_,?_⟩,fun k hk b0 o0 hb0=>?_,fun k hk=>?_⟩
    ·by_cases hr:o+h.len*u.size≤o+k∧o+k<o+h.len*u.size+news.length
     ·have:=World.cell?_setCells_in b news (o+h.len*u.size) w hsome (k-h.len*u.size) (by omega)
      rw [show o+h.len*u.size+(k-h.len*u.size)=o+k by omega] at this
      rw [this]; rfl
     ·rw [hout b (o+k) (fun hh=>hr hh.2)]
      exact (hcells b o ha k (by simpa using hk)).1
    ·rw [World.frozen?_setCells]
     exact (hcells b o ha k (by simpa using hk)).2.1
    ·rw [ha] at hb0
     simp only [Option.some.injEq,Prod.mk.injEq] at hb0
     obtain ⟨rfl,rfl⟩:=hb0
     exact hout b (o+k) (fun hh=>by rw [hlen] at hh; omega)
    ·rw [← hlen]
     have:=World.cell?_setCells_in b news (o+h.len*u.size) w hsome k (by omega)
     rw [this,List.getElem?_eq_getElem])
  exact ⟨_,_,_,hrun,hres⟩
 ·
  have hxs:xs.length=0:=by omega
  have hres:=fin nilHd (fun _ _=>False) w (by simp [nilHd,hxs,hm]) (Nat.le_refl _) (fun _=>rfl) (fun _ _ h=>h.elim) (Nat.le_refl _) (.refl _ _) (fun b o _ v hv=>⟨hv,fun h=>h⟩) (fun _ _ _ _ _ _=>⟨fun h=>h,rfl,rfl⟩) (fun b o hb=>by simp [nilHd] at hb)
  exact ⟨_,_,_,hrun,hres⟩
 ·
  have hold':∀ b' o',b'<w.heap.size→w'.cell? (ad b' o')=w.cell? (ad b' o'):=fun b' o' hb=>B.old (by omega) o'
  have hres:=fin ⟨some (w.heap.size,0),h.len+ys.length,cap⟩ (fun b' o'=>b'=w.heap.size∧o'<cap*u.size) w' (by rw [hlen]) hcp (by simp)
   (fun b' o' hR=>⟨by rw [B.size,hR.1]; omega,fun hlt=>by omega⟩) (by rw [B.size]; omega) (B.fr _)
   (fun b' o' hl v hv=>by
    have:=cell_lt hv
    exact ⟨by rw [hold' _ _ this]; exact hv,by omega⟩)
   (fun b' o' id p hl hD=>by
    have:=S.labs _ _ _ hl
    exact ⟨by omega,hold' _ _ this,B.oldFrozen (by omega) o'⟩)
   (fun b' o' hb=>by
    simp only [Option.some.injEq,Prod.mk.injEq] at hb
    obtain ⟨rfl,rfl⟩:=hb
    have hle:(xs.length+ys.length)*u.size≤cap*u.size:=Nat.mul_le_mul_right _ (by rw [← hlen]; exact hcp)
    rw [Nat.add_mul] at hle
    have hget:∀ k,w'.cell? (ad w.heap.size (0+k))=(olds++news++rest)[k]?:=by
     intro k
     rw [B.new,Nat.zero_add,← harr]; simp
    refine ⟨fun k hk=>⟨⟨rfl,by simpa using hk⟩,?_,B.newFrozen _⟩,fun k hk b0 o0 hb0=>?_,fun k hk=>?_⟩
    ·rw [B.new,Nat.zero_add,Array.getElem?_eq_getElem (by rw [hasz]; simpa using hk)]; rfl
    ·have hko:k<olds.length:=by rw [hol,hlen]; exact hk
     rw [hget,List.getElem?_append_left (by simp; omega),List.getElem?_append_left hko]
     have:=ho1 b0 o0 hb0 k _ (List.getElem?_eq_getElem hko)
     rw [this,List.getElem?_eq_getElem hko]
    ·have hkn:k<news.length:=by rw [hnl]; exact hk
     have hol':olds.length=xs.length*u.size:=by rw [hol,hlen]
     have h1:=hget (xs.length*u.size+k)
     rw [← Nat.add_assoc] at h1
     rw [h1,List.getElem?_append_left (by simp; omega),List.getElem?_append_right (by omega)]
     congr 1; omega)
  exact ⟨_,_,_,hrun,hres⟩
end
end Go.Am
namespace Go.Am
open Go
theorem look_gone:∀ (l:List Nat) (id:Nat),look (gone l) id=if id∈l then some none else none
 | [],id=>by simp [gone,look]
 | i::l,id=>by
  have ih:=look_gone l id
  simp only [gone,List.map_cons,look] at ih ⊢
  split
  ·rename_i h
   obtain rfl:=Nat.eq_of_beq_eq_true h
   simp
  ·rename_i h
   have hne:¬ id=i:=by rintro rfl; simp at h
   rw [ih]
   simp [hne]
theorem look_cons {α:Type} (i:Nat) (x:α) (l:List (Nat×α)) (id:Nat):look ((i,x)::l) id=if i=id then some x else look l id:=by
 simp only [look]
 by_cases h:i=id
 ·subst h; simp
 ·rw [if_neg h]
  have:Nat.beq i id=false:=by
   cases hb:Nat.beq i id with
   | false=>rfl
   | true=>exact absurd (Nat.eq_of_beq_eq_true hb) h
  rw [this]
section
variable {P:Program} {c:Cfg} {g:Gh} {L:Lab} {w w':World} {U:Nat→Prop} {sr:St} {a:Act} {site:Nat} {o:Oper} {ρ:Type} {r:ρ} {k:Eff→Option ρ} {σ:Src}
theorem Post_app {g':Gh} (S:Sit P c g w U sr a) (hs:¬ U site) {own:Bool} {u:Ty} {zs:List u.T} {D:Nat→Path→Prop} {Ho:Nat→Path→Hd} {v:Value} {l:List (Nat×Option AObj)}
  (A:AppRow g w U site own u zs D Ho v w' g') (hD:∀ id p,D id p→(look l id).isSome=true) (hl:∀ id ob,look l id=some (some ob)→U (id / 1024)∧ORel g' w' (U' U site) id ob) (hnf:∀ id,(look l id).isSome=true→id / 1024≠19) :
  Post g w U site ⟨.own (site*1024) 0 [] u,(site*1024,some (.row own u site zs))::l⟩ v w' g' (U' U site):=by
 refine ⟨A.stp _ (fun id p h=>?_),⟨.inr (site_div site),.inl S.u0,.inl S.u0,trivial,fun _=>rfl,A.val⟩,fun id ob hob=>?_,fun s h=>h,A.labs,A.old,A.fr,fun id h=>?_⟩
 ·rw [look_cons]; split
  ·rfl
  ·exact hD id p h
 ·rw [look_cons] at hob
  split at hob
  ·rename_i h; subst h
   simp only [Option.some.injEq] at hob
   subst hob
   exact ⟨.inr (site_div site),.inl S.u0,.inr rfl,A.row⟩
  ·obtain ⟨h1,h2⟩:=hl id ob hob
   exact ⟨.inl h1,h2⟩
 ·rw [look_cons] at h
  split at h
  ·rename_i he; rw [← he,site_div]; rintro rfl; exact hs S.u19
  ·exact hnf id h
def without (l:Lab) (v:List Nat):Lab:=fun b o=>match l b o with
 | some (id,p)=>if id∈v then none else some (id,p)
 | none=>none
theorem without_none {l:Lab} {v:List Nat} {b o:Nat} (h:l b o=none):without l v b o=none:=by simp [without,h]
theorem without_mem {l:Lab} {v:List Nat} {b o id:Nat} {p:Path} (h:l b o=some (id,p)) (hi:id∈v):without l v b o=none:=by simp [without,h,hi]
theorem without_inv {l:Lab} {v:List Nat} {b o:Nat} (h:without l v b o=none):l b o=none∨∃ id p,l b o=some (id,p)∧id∈v:=by
 unfold without at h
 split at h
 ·rename_i id p e
  split at h
  ·rename_i hi; exact .inr ⟨id,p,e,hi⟩
  ·simp at h
 ·rename_i e; exact .inl e
theorem tail_none {own:Bool} {t:Ty} {i0:Nat} {vx:Value} {ys:List t.T} {v:List Nat} (h:own=false) (T:TailOK g L w own t i0 vx ys v σ):TailOK g L w own t i0 vx ys v none1:=by
 subst h
 obtain ⟨⟨xa,xc,h1,h2⟩,-,-⟩:=T
 refine ⟨⟨xa,xc,h1,fun hp=>?_⟩,fun p hp=>absurd rfl hp,.none⟩
 obtain ⟨b,o,h3,h4⟩:=h2 hp
 exact ⟨b,o,h3,fun k hk=>OwS_false _ _ _ _ _ _ (h4 k hk)⟩
theorem append2_ok (S:Sit P c g w U sr a) (hs:¬ U site) {t ty:Nat} (hk:(c.ti t).kind = .slice) (hby:0<(c.ti (c.ti t).elem).bytes) {u:Ty} (hsz:(c.ti (c.ti t).elem).size=u.size) {id:Nat} {own:Bool} {vr:Nat} {xs0 xs:List u.T} {x:AVal} {vs vx:Value} {off len:Nat}
  (ho:sr.obj id=some (.row own u vr xs0)) (hxs:xs=(xs0.drop off).take len) (hx:VRel g w U x vx) {h:Hd} (hv:vs=h.val) (hlen:h.len=len) (hol:off+len≤xs0.length) (hcap:h.len≤h.cap) (hnil:h.addr=none→h.cap=0)
  (haddr:0<h.cap→∀ b o,h.addr=some (b,o)→∃ o0,(g.hd id 0 []).addr=some (b,o0)∧o=o0+off*u.size) (hc:off+h.cap=(g.hd id 0 []).cap)
  (e:evAppend2 (c.ti (c.ti t).elem).bytes sr site id own u xs x k=some r) :
  ∃ eff,k eff=some r∧∃ v' w' g' U',(Builtin.append_ #[t,t] ty #[vs,vx]).run P w = .ok v' w'∧Post g w U site eff v' w' g' U':=by
 subst hv
 unfold evAppend2 at e
 split at e
 case h_2=>simp at e
 rename_i ys v htl
 split at e
 case h_2=>simp at e
 rename_i hnd
 rw [nodupB_iff,List.nodup_cons] at hnd
 unfold chk at e
 split at e
 case isFalse=>simp at e
 rename_i hmax
 obtain ⟨hU,hU0,hvr,r1,r2,r3,r4⟩:=S.objs id _ ho
 have hxl:xs.length=len:=by rw [hxs]; simp; omega
 let L:Lab:=if own=true then g.lab else without g.lab v
 have hL:∀ b o,g.lab b o=none→L b o=none:=by
  intro b o hb
  simp only [L]; split
  ·exact hb
  ·exact without_none hb
 obtain ⟨hids,σ1,T⟩:=tail_sound (L:=L) S.objs hL hx xs.length (fun hf id' hi b o p hb=>by simp only [L,hf]; exact without_mem hb hi) htl
 obtain ⟨σ1,T,hf1⟩:∃ σ1,TailOK g L w own u xs.length vx ys v σ1∧(own=false→∀ q,σ1 q=none):=by
  cases own with
  | true=>exact ⟨σ1,T,by simp⟩
  | false=>exact ⟨none1,tail_none rfl T,fun _ _=>rfl⟩
 let σ0:Src:=if own=true then (fun p=>match p with | []=>none | (k',j)::s=>if k'<xs.length then some (id,(k'+off,j)::s,g.hd id vr ((k'+off,j)::s)) else none) else none1
 have hσ0:∀ q id' p h',σ0 q=some (id',p,h')→id'=id∧∃ k' j s,q=(k',j)::s∧k'<xs.length∧p=(k'+off,j)::s:=by
  intro q id' p h' e
  simp only [σ0] at e
  split at e
  ·cases q with
   | nil=>simp at e
   | cons a q=>
    obtain ⟨k',j⟩:=a
    simp only at e
    split at e
    ·rename_i hk'
     simp only [Option.some.injEq,Prod.mk.injEq] at e
     exact ⟨e.1.symm,k',j,q,rfl,hk',e.2.1.symm⟩
    ·simp at e
  ·simp [none1] at e
 obtain ⟨v',w',g',hrun,A⟩:=append_row (L:=L) (own:=own) (ty:=ty) (σ0:=σ0) S hs hk hby hsz (Do:=fun id' _=>id'=id) (fun id' p=>g.hd id' vr p) (h:=h) (xs:=xs) (by rw [hlen,hxl]) hcap hnil
  (fun b o hb k' hk'=>by
   obtain ⟨o0,h1,rfl⟩:=haddr (by cases hcp:h.cap with | zero=>rw [hcp] at hk'; simp at hk' | succ n=>omega) b o hb
   obtain ⟨r5,r6⟩:=r4 b o0 h1
   have hle:off*u.size+h.cap*u.size=(g.hd id 0 []).cap*u.size:=by rw [← hc,Nat.add_mul]
   obtain ⟨a1,a2,a3⟩:=r5 (off*u.size+k') (by omega)
   rw [← Nat.add_assoc] at a1 a2 a3
   refine ⟨a2,a3,id,[],a1,rfl,fun q h' e=>?_⟩
   obtain ⟨-,k2,j,s,-,-,hp⟩:=hσ0 _ _ _ _ e
   simp at hp)
  (fun b o hb k' hk'=>by
   obtain ⟨o0,h1,rfl⟩:=haddr (by omega) b o hb
   obtain ⟨r5,r6⟩:=r4 b o0 h1
   have h6:=r6 (off+k') (by omega)
   have hxk:xs[k']=xs0[off+k']:=by subst hxs; simp
   rw [hxk]
   rw [Nat.add_mul,← Nat.add_assoc] at h6
   cases own with
   | true=>
    refine OwT_src hL u [] [] (off+k') 0 k' 0 _ b _ (fun _ d s hd=>?_) h6
    simp only [σ0,if_true,List.nil_append]
    rw [if_pos hk',Nat.add_comm k' off]
   | false=>exact OwT_src hL u [] [] (off+k') 0 k' 0 _ b _ (fun hf=>by simp at hf) h6)
  (fun q id' p h' e=>(hσ0 _ _ _ _ e).1) (fun q q' id' p h1 h2 e1 e2=>by
   obtain ⟨-,k1,j1,s1,rfl,-,hp1⟩:=hσ0 _ _ _ _ e1
   obtain ⟨-,k2,j2,s2,rfl,-,hp2⟩:=hσ0 _ _ _ _ e2
   rw [hp1] at hp2
   simp at hp2
   obtain ⟨⟨h3,rfl⟩,rfl⟩:=hp2
   have:k1=k2:=by omega
   subst this; rfl)
  (fun p hp=>by
   cases e:σ0 p with
   | none=>exact absurd e hp
   | some y=>
    obtain ⟨id',p',h'⟩:=y
    obtain ⟨-,k1,j1,s1,rfl,hk1,-⟩:=hσ0 _ _ _ _ e
    exact ⟨k1,j1,s1,hk1,by simp⟩)
  T (fun id' hi p he=>hnd.1 (he▸hi)) hnd.2 (fun hf=>⟨fun q=>by simp [σ0,hf,none1],hf1 hf⟩)
  (fun b o hb=>by
   simp only [L] at hb
   split at hb
   ·exact .inl hb
   ·rename_i hf
    rcases without_inv hb with hb | hb
    ·exact .inl hb
    ·exact .inr ⟨by simpa using hf,hb⟩) hmax (fun id' p h=>by rw [h]; exact S.nf id (by rw [ho]; simp))
 refine ⟨_,e,v',w',g',_,hrun,Post_app S hs A (fun id' p hD=>?_) (fun id' ob hob=>?_) (fun id' h=>by
  rw [look_gone] at h
  split at h
  ·rename_i hm
   rcases List.mem_cons.1 hm with rfl | hm
   ·exact S.nf _ (by rw [ho]; simp)
   ·exact S.nf _ (hids _ hm)
  ·simp at h)⟩
 ·rw [look_gone,if_pos]
  ·rfl
  ·rcases hD with rfl | hD
   ·simp
   ·exact List.mem_cons_of_mem _ hD
 ·rw [look_gone] at hob
  split at hob<;>simp at hob
theorem append1_ok (S:Sit P c g w U sr a) (hs:¬ U site) {t ty:Nat} (hk:(c.ti t).kind = .slice) (hby:0<(c.ti (c.ti t).elem).bytes) {u:Ty} (hsz:(c.ti (c.ti t).elem).size=u.size) {s x:AVal} {vs vx:Value}
  (hx:VRel g w U x vx) (hvs:VRel g w U s vs) (hcase:s = .nil∨∃ id off len sz,s = .csl id off len sz) (e:evAppend1 (c.ti (c.ti t).elem).bytes sr site u s x k=some r) :
  ∃ eff,k eff=some r∧∃ v' w' g' U',(Builtin.append_ #[t,t] ty #[vs,vx]).run P w = .ok v' w'∧Post g w U site eff v' w' g' U':=by
 unfold evAppend1 at e
 split at e
 case h_2=>simp at e
 rename_i xs rr us hts
 split at e
 case h_2=>simp at e
 rename_i ys v htl
 split at e
 case h_2=>simp at e
 rename_i hnd
 rw [nodupB_iff,List.nodup_append] at hnd
 obtain ⟨hnu,hnv,hdis⟩:=hnd
 unfold chk at e
 split at e
 case isFalse=>simp at e
 rename_i hmax
 obtain ⟨hids,σ1,T⟩:=tail_sound (L:=g.lab) S.objs (fun _ _ h=>h) hx (List.length (α:=u.T) xs) (fun hf=>by simp at hf) htl
 obtain ⟨hus,-⟩:=(take_sound (L:=g.lab) S.objs (fun _ _ h=>h) true 50).1 (.sl u) [s] xs rr us (fun _=>some vs) [] 0 0 (fun k hk=>by
  have:k=0:=by simp at hk; exact hk
  subst this; exact ⟨vs,rfl,hvs⟩) hts (fun hf=>by simp at hf)
 have fin:∀ (h:Hd) (σ0:Src),vs=h.val→h.len=List.length (α:=u.T) xs→h.len≤h.cap→(h.addr=none→h.cap=0)→
   (∀ b o,h.addr=some (b,o)→∀ k,k<h.cap*u.size→(w.cell? (ad b (o+k))).isSome=true∧w.frozen? (ad b (o+k))=false∧∃ id p,g.lab b (o+k)=some (id,p)∧id∈us∧∀ q h',σ0 q≠some (id,p,h'))→
   (∀ b o,h.addr=some (b,o)→∀ k (hk:k<List.length (α:=u.T) xs),OwS g g.lab w true σ0 u [] k 0 (List.get (α:=u.T) xs ⟨k,hk⟩) (fun d=>w.cell? (ad b (o+k*u.size+d))))→
   (∀ q id p h',σ0 q=some (id,p,h')→id∈us)→(∀ q q' id p h1 h2,σ0 q=some (id,p,h1)→σ0 q'=some (id,p,h2)→q=q')→DomN [] 0 (List.length (α:=u.T) xs) σ0→
   ∃ eff,k eff=some r∧∃ v' w' g' U',(Builtin.append_ #[t,t] ty #[vs,vx]).run P w = .ok v' w'∧Post g w U site eff v' w' g' U':=by
  intro h σ0 hv h1 h2 h3 h4 h5 h6 h7 h8
  subst hv
  obtain ⟨v',w',g',hrun,A⟩:=append_row (L:=g.lab) (own:=true) (ty:=ty) (σ0:=σ0) S hs hk hby hsz (Do:=fun id' _=>id'∈us) (fun _ _=>nilHd) (h:=h) (xs:=xs) h1 h2 h3 h4 h5 h6 h7 h8 T
   (fun id hi p hu=>hdis _ hu _ hi rfl) hnv (fun hf=>by simp at hf) (fun b o hb=>.inl hb) hmax (fun id p h=>S.nf id (hus id h))
  refine ⟨_,e,v',w',g',_,hrun,Post_app S hs A (fun id' p hD=>?_) (fun id' ob hob=>?_) (fun id' h=>by
   rw [look_gone] at h
   split at h
   ·rename_i hm
    rcases List.mem_append.1 hm with hm | hm
    ·exact S.nf _ (hus _ hm)
    ·exact S.nf _ (hids _ hm)
   ·simp at h)⟩
  ·rw [look_gone,if_pos]
   ·rfl
   ·rcases hD with hD | hD
    ·exact List.mem_append_left _ hD
    ·exact List.mem_append_right _ hD
  ·rw [look_gone] at hob
   split at hob<;>simp at hob
 rcases hcase with rfl | ⟨id,off,len,sz,rfl⟩
 ·simp only [take] at hts
  obtain ⟨h1,-,h2⟩:=some3 hts
  have h1:xs=([]:List u.T):=h1.symm
  subst h1 h2
  refine fin nilHd none1 (by rw [show vs=_ from hvs]; rfl) rfl (Nat.le_refl _) (fun _=>rfl) (fun b o hb=>by simp [nilHd] at hb) (fun b o hb=>by simp [nilHd] at hb) (fun q id p h' e=>by simp [none1] at e) (fun q q' id p h1 h2 e=>by simp [none1] at e) (fun p hp=>absurd rfl hp)
 ·cases off with
  | succ off=>simp [take] at hts
  | zero=>
   simp only [take] at hts
   split at hts
   ·rename_i ro cs' ho
    split at hts
    ·rename_i hb
     rw [Bool.and_eq_true] at hb
     obtain ⟨hb1,hb2⟩:=hb
     obtain rfl:=Nat.eq_of_beq_eq_true hb1
     have hb2:=Nat.eq_of_beq_eq_true hb2
     split at hts
     ·rename_i xs' u' e'
      obtain ⟨h1,-,h2⟩:=some3 hts
      have h1:xs=xs':=h1.symm
      subst h1 h2
      obtain ⟨-,-,a0,cc,rfl,hlc,hcl,b,o,ha,hao⟩:=hvs
      obtain ⟨b',o',hh,hlab,hvals⟩:=obj_cells S.objs ho
      have hao:=hao (.inr rfl)
      rw [hh] at ha hcl
      simp only [Option.some.injEq,Prod.mk.injEq] at ha
      obtain ⟨rfl,rfl⟩:=ha
      simp only [Nat.zero_add,Nat.zero_mul,Nat.add_zero] at hcl hao
      have hpos:=u.size_pos
      obtain rfl:cc=len:=Nat.eq_of_mul_eq_mul_right hpos (by rw [hcl,hb2])
      subst hao
      obtain ⟨hnid,hnu'⟩:=List.nodup_cons.1 hnu
      obtain ⟨b1,b2,σ',T'⟩:=(take_sound S.objs (fun _ _ h=>h) true 49).2 u cc cs' xs u' _ [] 0 hvals e' (fun hf=>by simp at hf)
      refine fin ⟨some (b',o'),cc,cc⟩ σ' (by simp [Hd.val]) T'.len.symm (Nat.le_refl _) (by simp) (fun b o hb k' hk'=>?_) (fun b o hb k' hk'=>?_) (fun q id' p h' e=>List.mem_cons_of_mem _ (T'.tk.ids _ _ _ _ e)) (fun q q' id' p h1 h2 e1 e2=>T'.tk.inj hnu' _ _ _ _ _ _ e1 e2) (by rw [T'.len]; exact T'.dom)
      ·simp only [Option.some.injEq,Prod.mk.injEq] at hb
       obtain ⟨rfl,rfl⟩:=hb
       have hk'':k'<cs'.length:=by rw [← hb2]; exact hk'
       obtain ⟨y,hy,-⟩:=hvals k' hk''
       have hy:w.cell? (ad b' (o'+k'))=some y:=hy
       refine ⟨by rw [hy]; rfl,(hlab k' hk'').2,id,[],(hlab k' hk'').1,by simp,fun q h' e=>hnid (T'.tk.ids _ _ _ _ e)⟩
      ·simp only [Option.some.injEq,Prod.mk.injEq] at hb
       obtain ⟨rfl,rfl⟩:=hb
       have:=T'.ow k' hk'
       rw [Nat.zero_add] at this
       exact OwS_cells u [] k' 0 _ _ _ (fun d hd=>by
        show w.cell? _=w.cell? (ad b' (o'+(k'*u.size+d)))
        rw [Nat.add_assoc]) this
     ·simp at hts
    ·simp at hts
   ·simp at hts
theorem OwT_ver {g':Gh} {id vr V:Nat} {hole:Path} (hh:∀ p,p≠[]→¬ hole <+: p→g'.hd id V p=g.hd id vr p)
  (hlab:∀ b o p,g.lab b o=some (id,p)→¬ hole <+: p→g'.lab b o=some (id,p)∧w'.cell? (ad b o)=w.cell? (ad b o)∧w'.frozen? (ad b o)=w.frozen? (ad b o))
  (hshr:∀ b o,g.lab b o=none→∀ v,w.cell? (ad b o)=some v→w'.cell? (ad b o)=some v∧g'.lab b o=none):∀ (t:Ty) (sk:Nat→Nat→Bool) (p:Path) (i j:Nat) (x:t.T) (b o:Nat),
  (∀ k,k<t.size→w'.cell? (ad b (o+k))=w.cell? (ad b (o+k)))→(∀ d,d<t.size→sk i (j+d)=true∨∀ s,¬ hole <+: p++(i,j+d)::s)→OwT g w true id vr t noSk p i j x b o→OwT g' w' true id V t sk p i j x b o
 | .int _,sk,p,i,j,x,b,o,hc,hp,h=>by have:=hc 0 (by simp [Ty.size]); exact this.trans h
 | .bool,sk,p,i,j,x,b,o,hc,hp,h=>by have:=hc 0 (by simp [Ty.size]); exact this.trans h
 | .str,sk,p,i,j,x,b,o,hc,hp,h=>by have:=hc 0 (by simp [Ty.size]); exact this.trans h
 | .err,sk,p,i,j,x,b,o,hc,hp,h=>by
  obtain ⟨v,h1,h2⟩:=h
  exact ⟨v,(hc 0 (by simp [Ty.size])).trans h1,h2⟩
 | .osl t,sk,p,i,j,x,b,o,hc,hp,h=>by
  obtain ⟨v,h1,h2,h3⟩:=h
  exact ⟨v,(hc 0 (by simp [Ty.size])).trans h1,shV_mono (Sh_step hshr t) h2,h3⟩
 | .pair s t,sk,p,i,j,x,b,o,hc,hp,h=>by
  refine ⟨OwT_ver hh hlab hshr s sk p i j x.1 b o (fun k hk=>hc k (by simp [Ty.size]; omega)) (fun d hd=>hp d (by simp [Ty.size]; omega)) h.1,
   OwT_ver hh hlab hshr t sk p i (j+s.size) x.2 b (o+s.size) (fun k hk=>?_) (fun d hd=>?_) h.2⟩
  ·rw [Nat.add_assoc]; exact hc _ (by simp [Ty.size]; omega)
  ·rw [Nat.add_assoc]; exact hp _ (by simp [Ty.size]; omega)
 | .sl t,sk,p,i,j,xs,b,o,hc,hp,h=>by
  have h0:=hc 0 (by simp [Ty.size])
  rw [Nat.add_zero] at h0
  rcases hp 0 (by simp [Ty.size]) with hsk | hn
  ·exact .inl hsk
  ·simp only [Nat.add_zero] at hn
   rcases h with h | ⟨h1,r1,r2,r3,r4⟩
   ·simp [noSk] at h
   ·have hd:=hh (p++[(i,j)]) (by simp) (hn [])
    refine .inr ⟨by rw [hd,h0,h1],?_⟩
    rw [hd]
    refine ⟨r1,r2,r3,fun b o hb=>?_⟩
    obtain ⟨r5,r6⟩:=r4 b o hb
    refine ⟨fun k hk=>?_,fun k hk=>?_⟩
    ·obtain ⟨a1,a2,a3⟩:=r5 k hk
     obtain ⟨b1,b2,b3⟩:=hlab _ _ _ a1 (hn [])
     exact ⟨b1,by rw [b2]; exact a2,by rw [b3]; exact a3⟩
    ·refine OwT_ver hh hlab hshr t _ _ k 0 _ b _ (fun d hd=>?_) (fun d hd=>.inr (fun s=>?_)) (r6 k hk)
     ·have hle:(k+1)*t.size≤(g.hd id vr (p++[(i,j)])).cap*t.size:=Nat.mul_le_mul_right _ (by omega)
      rw [Nat.add_mul] at hle
      obtain ⟨a1,-,-⟩:=r5 (k*t.size+d) (by omega)
      rw [← Nat.add_assoc] at a1
      exact (hlab _ _ _ a1 (hn [])).2.1
     ·have:=hn ((k,0+d)::s)
      simpa using this
theorem append3_ok (S:Sit P c g w U sr a) (hs:¬ U site) {t ty:Nat} (hk:(c.ti t).kind = .slice) (hby:0<(c.ti (c.ti t).elem).bytes) {id:Nat} {u0:Ty} {vr:Nat} {xs0:List u0.T} {i j:Nat} {x:AVal} {vx:Value}
  (ho:sr.obj id=some (.row true u0 vr xs0)) (hx:VRel g w U x vx) (hi:i<xs0.length) (hsz:∀ u zs,cellSl u0 (el u0 xs0 i) j=some ⟨u,zs⟩→(c.ti (c.ti t).elem).size=u.size)
  (e:evAppend3 (c.ti (c.ti t).elem).bytes sr site id u0 xs0 i j x k=some r) :
  ∃ eff,k eff=some r∧∃ v' w' g' U',(Builtin.append_ #[t,t] ty #[(g.hd id vr [(i,j)]).val,vx]).run P w = .ok v' w'∧Post g w U site eff v' w' g' U':=by
 unfold evAppend3 at e
 split at e
 case h_2=>simp at e
 rename_i u xs hcs
 split at e
 case h_2=>simp at e
 rename_i ys v htl
 split at e
 case h_2=>simp at e
 rename_i hnd
 rw [nodupB_iff,List.nodup_cons] at hnd
 unfold chk at e
 split at e
 case isFalse=>simp at e
 rename_i hmax
 obtain ⟨hU,hU0,hvr,r1,r2,r3,r4⟩:=S.objs id _ ho
 obtain ⟨hids,σ1,T⟩:=tail_sound (L:=g.lab) S.objs (fun _ _ h=>h) hx xs.length (fun hf=>by simp at hf) htl
 have haddr:∃ b o,(g.hd id 0 []).addr=some (b,o):=by
  cases ha:(g.hd id 0 []).addr with
  | none=>have:=r3 ha; omega
  | some q=>exact ⟨_,_,rfl⟩
 obtain ⟨b0,o0,ha0⟩:=haddr
 obtain ⟨r5,r6⟩:=r4 b0 o0 ha0
 have h6:=r6 i hi
 rw [← el_get hi] at h6
 obtain ⟨hcell,⟨q1,q2,q3,q4⟩,hjs⟩:=cellSl_sound u0 [] i 0 _ b0 _ j u xs h6 hcs
 simp only [Nat.zero_add,List.nil_append] at hcell q1 q2 q3 q4
 let σ0:Src:=fun p=>match p with | []=>none | (k',j')::s=>if k'<xs.length then some (id,(i,j)::(k',j')::s,g.hd id vr ((i,j)::(k',j')::s)) else none
 have hσ0:∀ q id' p h',σ0 q=some (id',p,h')→id'=id∧∃ k' j' s,q=(k',j')::s∧k'<xs.length∧p=(i,j)::(k',j')::s:=by
  intro q id' p h' e
  cases q with
  | nil=>simp [σ0] at e
  | cons a q=>
   obtain ⟨k',j'⟩:=a
   simp only [σ0] at e
   split at e
   ·rename_i hk'
    simp only [Option.some.injEq,Prod.mk.injEq] at e
    exact ⟨e.1.symm,k',j',q,rfl,hk',e.2.1.symm⟩
   ·simp at e
 obtain ⟨v',w',g',hrun,A⟩:=append_row (L:=g.lab) (own:=true) (ty:=ty) (σ0:=σ0) S hs hk hby (hsz u xs hcs) (Do:=fun id' p=>id'=id∧[(i,j)] <+: p) (fun id' p=>g.hd id' vr p) (h:=g.hd id vr [(i,j)]) (xs:=xs) q1 q2 q3
  (fun b o hb k' hk'=>by
   obtain ⟨q5,q6⟩:=q4 b o hb
   obtain ⟨a1,a2,a3⟩:=q5 k' hk'
   refine ⟨a2,a3,id,[(i,j)],a1,⟨rfl,List.prefix_refl _⟩,fun q h' e=>?_⟩
   obtain ⟨-,k2,j2,s,-,-,hp⟩:=hσ0 _ _ _ _ e
   simp at hp)
  (fun b o hb k' hk'=>by
   obtain ⟨q5,q6⟩:=q4 b o hb
   refine OwT_src (fun _ _ h=>h) u [(i,j)] [] k' 0 k' 0 _ b _ (fun _ d s hd=>?_) (q6 k' hk')
   simp only [σ0,List.nil_append,List.cons_append]
   rw [if_pos hk'])
  (fun q id' p h' e=>by
   obtain ⟨h1,k2,j2,s,-,-,hp⟩:=hσ0 _ _ _ _ e
   refine ⟨h1,?_⟩
   rw [hp]; exact ⟨(k2,j2)::s,rfl⟩) (fun q q' id' p h1 h2 e1 e2=>by
   obtain ⟨-,k1,j1,s1,rfl,-,hp1⟩:=hσ0 _ _ _ _ e1
   obtain ⟨-,k2,j2,s2,rfl,-,hp2⟩:=hσ0 _ _ _ _ e2
   rw [hp1] at hp2
   simp at hp2
   obtain ⟨⟨rfl,rfl⟩,rfl⟩:=hp2
   rfl)
  (fun p hp=>by
   cases e:σ0 p with
   | none=>exact absurd e hp
   | some y=>
    obtain ⟨id',p',h'⟩:=y
    obtain ⟨-,k1,j1,s1,rfl,hk1,-⟩:=hσ0 _ _ _ _ e
    exact ⟨k1,j1,s1,hk1,by simp⟩)
  T (fun id' hi p he=>hnd.1 (he.1▸hi)) hnd.2 (fun hf=>by simp at hf) (fun b o hb=>.inl hb) hmax (fun id' p h=>by rw [h.1]; exact S.nf id (by rw [ho]; simp))
 have hidN:id≠site*1024:=by rintro rfl; rw [site_div] at hU; exact hs hU
 refine ⟨_,e,v',w',g',_,hrun,Post_app S hs A (fun id' p hD=>?_) (fun id' ob hob=>?_) (fun id' h=>by
  rw [look_cons] at h
  split at h
  ·rename_i he; rw [← he]; exact S.nf _ (by rw [ho]; simp)
  ·rw [look_gone] at h
   split at h
   ·rename_i hm; exact S.nf _ (hids _ hm)
   ·simp at h)⟩
 ·rw [look_cons]
  split
  ·rfl
  ·rename_i hne
   rw [look_gone,if_pos]
   ·rfl
   ·rcases hD with ⟨rfl,-⟩ | hD
    ·exact absurd rfl hne
    ·exact hD
 ·rw [look_cons] at hob
  split at hob
  ·rename_i he
   subst he
   simp only [Option.some.injEq] at hob
   subst hob
   refine ⟨hU,.inl hU0,.inr rfl,?_⟩
   have hstp:=A.stp (fun id'=>id'=id∨id'∈v) (fun id' p hD=>by
    rcases hD with ⟨rfl,-⟩ | hD
    ·exact .inl rfl
    ·exact .inr hD)
   have hnD:∀ p,¬ [(i,j)] <+: p→¬ ((id=id∧[(i,j)] <+: p)∨id∈v):=by
    rintro p hp (⟨-,h⟩ | h)
    ·exact hp h
    ·exact hnd.1 h
   have hroot:g'.hd id 0 []=g.hd id 0 []:=hstp.hd id 0 [] hU hU0
   have hnil:¬ [(i,j)] <+: ([]:Path):=by simp
   unfold RowR
   rw [hroot]
   refine ⟨r1,r2,r3,fun b o hb=>?_⟩
   rw [ha0] at hb
   simp only [Option.some.injEq,Prod.mk.injEq] at hb
   obtain ⟨rfl,rfl⟩:=hb
   refine ⟨fun k' hk'=>?_,fun k' hk'=>?_⟩
   ·obtain ⟨a1,a2,a3⟩:=r5 k' hk'
    obtain ⟨c1,c2,c3⟩:=A.keep _ _ _ _ a1 (hnD [] hnil)
    exact ⟨c1,by rw [c2]; exact a2,by rw [c3]; exact a3⟩
   ·refine OwT_ver (hole:=[(i,j)]) (fun p hp hn=>A.oth id p hidN) (fun b o p hl hn=>A.keep _ _ _ _ hl (hnD p hn)) hstp.shr u0 _ [] k' 0 _ _ _ (fun d hd=>?_) (fun d hd=>?_) (r6 k' hk')
    ·have hle:(k'+1)*u0.size≤(g.hd id 0 []).cap*u0.size:=Nat.mul_le_mul_right _ (by omega)
     rw [Nat.add_mul] at hle
     obtain ⟨a1,-,-⟩:=r5 (k'*u0.size+d) (by omega)
     rw [← Nat.add_assoc] at a1
     exact (A.keep _ _ _ _ a1 (hnD [] hnil)).2.1
    ·by_cases hkd:k'=i∧0+d=j
     ·left; simp [hkd.1,hkd.2]
     ·right
      intro s hpre
      simp only [List.nil_append] at hpre
      have:=List.cons_prefix_cons.1 hpre
      simp at this
      exact hkd ⟨this.1.symm,by omega⟩
  ·rw [look_gone] at hob
   split at hob<;>simp at hob
theorem append_ok (S:Sit P c g w U sr a) (hs:¬ U site) {t ty:Nat} (hk:(c.ti t).kind = .slice) (hby:0<(c.ti (c.ti t).elem).bytes) {s x:AVal} {vs vx:Value} (hvs:VRel g w U s vs) (hx:VRel g w U x vx)
  (e:evAppend (c.ti (c.ti t).elem).bytes sr site (c.ti (c.ti t).elem).ty (c.ti (c.ti t).elem).size s x k=some r) :
  ∃ eff,k eff=some r∧∃ v' w' g' U',(Builtin.append_ #[t,t] ty #[vs,vx]).run P w = .ok v' w'∧Post g w U site eff v' w' g' U':=by
 unfold evAppend at e
 split at e
 ·simp at e
 rename_i hsz
 cases s with
 | nil=>
  simp only at e hsz
  split at e
  ·rename_i u hu
   rw [hu] at hsz
   exact append1_ok S hs hk hby (Nat.eq_of_beq_eq_true hsz) hx hvs (.inl rfl) e
  ·simp at e
 | csl id off len sz=>
  simp only at e hsz
  split at e
  ·rename_i u hu
   rw [hu] at hsz
   exact append1_ok S hs hk hby (Nat.eq_of_beq_eq_true hsz) hx hvs (.inr ⟨_,_,_,_,rfl⟩) e
  ·simp at e
 | own id ver p tt=>
  simp only at e hsz
  have hsz:=Nat.eq_of_beq_eq_true hsz
  split at e
  ·rename_i own u vr xs ho
   obtain ⟨h1,h2,h3,h4,h5,rfl⟩:=hvs
   obtain ⟨hU,hU0,hvr,r1,r2,r3,r4⟩:=S.objs id _ ho
   cases p with
   | nil=>
    obtain rfl:=h5 rfl
    have hsz':(c.ti (c.ti t).elem).size=u.size:=by rw [hsz]; simp [St.esize,St.rowAt,ho]
    exact append2_ok S hs hk hby hsz' ho (off:=0) (len:=xs.length) (by simp) hx rfl r1 (by omega) r2 r3 (fun _ b o hb=>⟨o,hb,by simp⟩) (by simp) e
   | cons q p=>
    obtain ⟨i,j⟩:=q
    cases p with
    | cons q p=>simp at e
    | nil=>
     simp only at e
     split at e
     ·simp at e
     ·rename_i hb
      rw [Bool.and_eq_true] at hb
      obtain ⟨rfl,hb⟩:=hb
      obtain rfl:=Nat.eq_of_beq_eq_true hb
      have hi:i<xs.length:=by
       have:=h4.1
       rw [show vof ([]:Path) ver=0 from rfl,r1] at this
       exact this
      exact append3_ok S hs hk hby ho hx hi (fun u' zs hc=>by rw [hsz]; simp [St.esize,St.rowAt,ho,place,hc]) e
  ·simp at e
 | osub id ver p tt off len=>
  cases p with
  | cons q p=>simp at e
  | nil=>
   simp only at e hsz
   have hsz2:(c.ti (c.ti t).elem).size=tt.size:=Nat.eq_of_beq_eq_true hsz
   split at e
   ·rename_i own u vr xs ho
    split at e
    ·rename_i hb
     obtain rfl:=Ty.eq_of_beq hb
     obtain ⟨h1,h2,h3,h4,h5,a0,cp,rfl,h6,h7,h8,h9,q,rfl⟩:=hvs
     obtain rfl:=h5 rfl
     obtain ⟨hU,hU0,hvr,r1,r2,r3,r4⟩:=S.objs id _ ho
     refine append2_ok S hs hk hby hsz2 ho (off:=off) (len:=len) rfl hx (h:=⟨q,len,cp⟩) rfl rfl (by omega) h7 (fun hq=>?_) (fun hc b o hb=>?_) h6 e
     ·rcases Nat.eq_zero_or_pos cp with hz | hz
      ·exact hz
      ·obtain ⟨b,o,-,hh⟩:=h9 hz
       have hq:q=none:=hq
       rw [hq] at hh; simp at hh
     ·obtain ⟨b',o',h10,h11⟩:=h9 hc
      have hb:q=some (b,o):=hb
      subst hb
      simp only [Option.map_some,Option.some.injEq,Addr.mk.injEq] at h11
      exact ⟨o',by rw [h10,h11.1],h11.2.1⟩
    ·simp at e
   ·simp at e
 | _=>simp at e
end
end Go.Am
namespace Go.Am
open Go
section
variable {P:Program} {c:Cfg} {g:Gh} {L:Lab} {w w':World} {U:Nat→Prop} {sr:St} {a:Act} {site:Nat} {o:Oper} {ρ:Type} {r:ρ} {k:Eff→Option ρ} {σ:Src}
structure PutSrc (id i:Nat) (u:List Nat) (σ:Src):Prop where
 ids:∀ p id' p' h,σ p=some (id',p',h)→(id'=id∧∃ d s,p'=(i,d)::s)∨id'∈u
 inj:(id::u).Nodup→∀ p1 p2 id' p' h1 h2,σ p1=some (id',p',h1)→σ p2=some (id',p',h2)→p1=p2
theorem storeHdr_ok (S:Sit P c g w U sr a) (hs:¬ U site) {t0:Nat} (ht:0<(c.ti t0).size) {id:Nat} {i j:Nat} {x:AVal} {own:Bool} {t:Ty} {vr:Nat} {xs:List t.T} {sk:Nat→Nat→Bool} {y:t.T} {used:List Nat} {v:Value} {σe:Src} {b o:Nat}
  (hx:VRel g w U x v) (hlen:x.cells.length=(c.ti t0).size) (hok:cellsOk x.cells=true) (hU:U (id / 1024)) (hnf:id / 1024≠19) (hnu:∀ id∈used,id / 1024≠19)
  (hR:RowR g w own id 0 vr t sk [] xs) (hsk:∀ k' j',sk k' j'=true→k'=i) (ha:(g.hd id 0 []).addr=some (b,o)) (hi:i<xs.length) (hj:j+(c.ti t0).size≤t.size)
  (hL:∀ b o,g.lab b o=none→L b o=none) (hLd:∀ b o,L b o=none→g.lab b o=none∨(own=false∧∃ id p,g.lab b o=some (id,p)∧id∈used)) (hnd:(id::used).Nodup) (hfe:own=false→∀ q,σe q=none)
  (hE:OwS g L w own σe t [] i 0 y (fun k=>if j≤k∧k<j+v.cells.toList.length then v.cells.toList[k-j]? else w.cell? (ad b (o+i*t.size+k))))
  (hP:PutSrc id i used σe) (hD:∀ p,σe p≠none→∃ d s,p=(i,d)::s) :
  ∃ w' g' U',(Instr.storeAt t0 (.pointer (some (ad b (o+i*t.size+j)))) v).run P w = .ok () w'∧Post g w U site ⟨.undef,(id,some (.row own t site (xs.set i y)))::gone used⟩ undef w' g' U':=by
 obtain ⟨hvs,h1⟩:=cells_rel hx hok
 have hsz:v.cells.toList.length=(c.ti t0).size:=by rw [VRels_len hvs,hlen]
 have h0:site≠0:=by rintro rfl; exact hs S.u0
 obtain ⟨r1,r2,r3,r4⟩:=hR
 obtain ⟨r5,r6⟩:=r4 b o ha
 have hcap:(i+1)*t.size≤(g.hd id 0 []).cap*t.size:=Nat.mul_le_mul_right _ (by omega)
 rw [Nat.add_mul] at hcap
 have hl:∀ k,k<v.cells.toList.length→g.lab b (o+i*t.size+j+k)=some (id,[]):=by
  intro k hk
  have:=(r5 (i*t.size+(j+k)) (by omega)).1
  rw [show o+i*t.size+j+k=o+(i*t.size+(j+k)) by omega]
  exact this
 have K:=Kept_setCells (w:=w) hl
 have hidu:id∉used:=(List.nodup_cons.1 hnd).1
 have hids:id / 1024≠site:=fun e=>hs (e▸hU)
 let σ:Src:=fun p=>match p with
  | []=>none
  | (k',d)::s=>if k'=i then σe ((k',d)::s) else if own=true then some (id,(k',d)::s,g.hd id vr ((k',d)::s)) else none
 have hσ:∀ q id' p h,σ q=some (id',p,h)→(σe q=some (id',p,h)∧∃ d s,q=(i,d)::s)∨(id'=id∧p=q∧∃ k' d s,q=(k',d)::s∧k'≠i):=by
  intro q id' p h e
  cases q with
  | nil=>simp [σ] at e
  | cons q s=>
   obtain ⟨k',d⟩:=q
   simp only [σ] at e
   split at e
   ·rename_i hk; subst hk; exact .inl ⟨e,_,_,rfl⟩
   ·rename_i hk
    split at e
    ·simp only [Option.some.injEq,Prod.mk.injEq] at e
     exact .inr ⟨e.1.symm,e.2.1.symm,_,_,_,rfl,hk⟩
    ·simp at e
 let D:Nat→Path→Prop:=fun id' p=>(id'=id∧p≠[])∨id'∈used
 let Rt:Nat→Nat→Prop:=fun b o=>g.lab b o=some (id,[])
 have hsrc:∀ q id' p h,σ q=some (id',p,h)→D id' p:=by
  intro q id' p h e
  rcases hσ _ _ _ _ e with ⟨e1,-⟩ | ⟨rfl,rfl,k',d,s,rfl,-⟩
  ·rcases hP.ids _ _ _ _ e1 with ⟨h2,d,s,rfl⟩ | h2
   ·exact .inl ⟨h2,by simp⟩
   ·exact .inr h2
  ·exact .inl ⟨rfl,by simp⟩
 have hinj:∀ q id' p h,σ q=some (id',p,h)→∀ q' h',σ q'=some (id',p,h')→q'=q:=by
  intro q id' p h e q' h' e'
  rcases hσ _ _ _ _ e with ⟨e1,d1,s1,hq1⟩ | ⟨hid1,hp1,k1,d1,s1,hq1,hk1⟩<;>rcases hσ _ _ _ _ e' with ⟨e2,d2,s2,hq2⟩ | ⟨hid2,hp2,k2,d2,s2,hq2,hk2⟩
  ·exact hP.inj hnd _ _ _ _ _ _ e2 e1
  ·rcases hP.ids _ _ _ _ e1 with ⟨h2,d,s,h3⟩ | h2
   ·rw [hp2,hq2] at h3; simp at h3; exact absurd h3.1.1 hk2
   ·exact absurd (hid2▸h2) hidu
  ·rcases hP.ids _ _ _ _ e2 with ⟨h2,d,s,h3⟩ | h2
   ·rw [hp1,hq1] at h3; simp at h3; exact absurd h3.1.1 hk1
   ·exact absurd (hid1▸h2) hidu
  ·rw [← hp2,hp1]
 have hout:∀ b' o',g.lab b' o'≠some (id,[])→(w.setCells b (o+i*t.size+j) v.cells.toList).cell? (ad b' o')=w.cell? (ad b' o'):=by
  intro b' o' hn
  refine World.cell?_setCells_out b _ _ w _ (fun hb _=>?_)
  simp only at hb ⊢
  subst hb
  rcases Nat.lt_or_ge o' (o+i*t.size+j) with h | h
  ·exact .inl h
  ·rcases Nat.lt_or_ge o' (o+i*t.size+j+v.cells.toList.length) with h' | h'
   ·have:=hl (o'-(o+i*t.size+j)) (by omega)
    rw [show o+i*t.size+j+(o'-(o+i*t.size+j))=o' by omega] at this
    exact absurd this hn
   ·exact .inr h'
 have hFr:Fr (Mine g) w (w.setCells b (o+i*t.size+j) v.cells.toList):=Fr_setCells b _ _ w (fun k hk=>⟨id,[],hl k hk,hnf⟩)
 let g':=reGh g site (fun _ _=>nilHd) (fun id' p=>if id'=id then (match σ p with | some (_,_,h)=>h | none=>nilHd) else nilHd) (relab D id σ Rt g.lab)
 have hroot:g'.hd id 0 []=g.hd id 0 []:=reGh_old hs hU S.u0
 have hst:∀ {T:Nat→Prop},T id→(∀ id'∈used,T id')→Stp T g w U g' (w.setCells b (o+i*t.size+j) v.cells.toList) (U' U site):=by
  intro T hT1 hT2
  refine Stp_relab hs (fun b' o' hn v' hv'=>⟨by rw [hout b' o' (by rw [hn]; simp)]; exact hv',fun hr=>by have hr:g.lab b' o'=some (id,[]):=hr; rw [hn] at hr; simp at hr⟩) (fun b' o' id' p e hnT=>?_)
  have hne:id'≠id:=fun he=>hnT (he▸hT1)
  refine ⟨fun hD'=>?_,fun hr=>?_,hout b' o' (by rw [e]; simp [hne]),World.frozen?_setCells b _ _ w _⟩
  ·rcases hD' with ⟨h2,-⟩ | h2
   ·exact hne h2
   ·exact hnT (hT2 _ h2)
  ·have hr:g.lab b' o'=some (id,[]):=hr
   rw [e] at hr; simp at hr; exact hne hr.1
 refine ⟨_,g',U' U site,run_storeAt (ti_ok S.tys (.inl ht)) (by simpa using hsz) (fun k hk=>?_) h1,hst (by simp [look_cons]) (fun id' hi'=>?_),trivial,fun id' ob hob=>?_,fun s h=>h,fun b' o' q h=>?_,fun b' o' q hb h=>?_,hFr,fun id' h=>?_⟩
 ·obtain ⟨h2,h3,h4⟩:=r5 (i*t.size+(j+k)) (by omega)
  rw [show o+i*t.size+j+k=o+(i*t.size+(j+k)) by omega]
  exact ⟨h3,h4⟩
 ·rw [look_cons]; split
  ·rfl
  ·rw [look_gone,if_pos hi']; rfl
 ·rw [look_cons] at hob
  split at hob
  ·rename_i he
   subst he
   simp only [Option.some.injEq] at hob
   subst hob
   refine ⟨.inl hU,.inl S.u0,.inr rfl,?_⟩
   refine RowR_new (w:=w) (L:=L) (h0:=g.hd id 0 []) g' rfl hroot (fun q id' p h e=>by simp [e]) (fun q hq e=>by simp [e]) (fun q id' p h e=>⟨hsrc _ _ _ _ e,hinj _ _ _ _ e,fun b' o' hb'=>?_⟩) (fun b' o' hb' v' hv'=>?_) (by rw [List.length_set]; exact r1) r2 r3 (fun b' o' hb' k hk=>?_) (fun b' o' hb' k hk=>?_)
   ·have hne:g.lab b' o'≠some (id,[]):=by
     rw [hb']
     intro he
     simp only [Option.some.injEq,Prod.mk.injEq] at he
     rcases hsrc _ _ _ _ e with ⟨-,h2⟩ | h2
     ·exact h2 he.2
     ·exact hidu (he.1▸h2)
    exact ⟨hne,hout b' o' hne,World.frozen?_setCells b _ _ w _⟩
   ·rcases hLd b' o' hb' with hn | ⟨hof,id',p,hn,hmem⟩
    ·have hne:g.lab b' o'≠some (id,[]):=by rw [hn]; simp
     exact ⟨by rw [hout b' o' hne]; exact hv',relab_none hn hne⟩
    ·have hne:g.lab b' o'≠some (id,[]):=by
      rw [hn]; intro he
      simp only [Option.some.injEq,Prod.mk.injEq] at he
      exact hidu (he.1▸hmem)
     refine ⟨by rw [hout b' o' hne]; exact hv',relab_drop hn hne (.inr hmem) (fun q h' e=>?_)⟩
     rcases hσ _ _ _ _ e with ⟨e1,-⟩ | ⟨h2,-⟩
     ·rw [hfe hof] at e1; simp at e1
     ·exact hidu (h2▸hmem)
   ·rw [ha] at hb'
    simp only [Option.some.injEq,Prod.mk.injEq] at hb'
    obtain ⟨rfl,rfl⟩:=hb'
    obtain ⟨a1,a2,a3⟩:=r5 k hk
    exact ⟨a1,K.some' _ _ a2,by rw [K.frozen]; exact a3⟩
   ·rw [ha] at hb'
    simp only [Option.some.injEq,Prod.mk.injEq] at hb'
    obtain ⟨rfl,rfl⟩:=hb'
    rw [List.length_set] at hk
    by_cases hki:i=k
    ·subst hki
     rw [List.getElem_set_self]
     refine OwS_congr t [] i 0 _ _ (fun d s hd=>by simp [σ]) (OwS_cells t [] i 0 _ _ _ (fun d hd=>?_) hE)
     by_cases hin:j≤d∧d<j+v.cells.toList.length
     ·rw [if_pos hin]
      have:=World.cell?_setCells_in b v.cells.toList (o+i*t.size+j) w (fun m hm=>by
       have:=(r5 (i*t.size+(j+m)) (by omega)).2.1
       rw [show o+i*t.size+j+m=o+(i*t.size+(j+m)) by omega]
       exact this) (d-j) (by omega)
      rw [show o+i*t.size+j+(d-j)=o+i*t.size+d by omega] at this
      rw [this,List.getElem?_eq_getElem]
     ·rw [if_neg hin]
      refine World.cell?_setCells_out b _ _ w _ (fun _ _=>?_)
      simp only; omega
    ·rw [List.getElem_set_ne hki]
     have h6:=r6 k hk
     have h6':OwT g w own id vr t noSk [] k 0 xs[k] b (o+k*t.size):=by
      have:∀ (t:Ty) (j:Nat) (x:t.T) (b o:Nat),OwT g w own id vr t sk [] k j x b o→OwT g w own id vr t noSk [] k j x b o:=by
       intro t
       induction t with
       | pair s t ihs iht=>intro j x b o h; exact ⟨ihs _ _ _ _ h.1,iht _ _ _ _ h.2⟩
       | sl t _=>
        intro j x b o h
        cases own with
        | false=>exact h
        | true=>
         rcases h with h | h
         ·exact absurd (hsk _ _ h).symm hki
         ·exact .inr h
       | _=>intro j x b o h; exact h
      exact this t 0 _ _ _ h6
     refine OwS_cells t [] k 0 _ _ _ (fun d hd=>?_) (OwT_src (σ:=σ) hL t [] [] k 0 k 0 _ b _ (fun hown d s hd=>?_) h6')
     ·refine World.cell?_setCells_out b _ _ w _ (fun _ _=>?_)
      simp only
      rcases Nat.lt_or_gt_of_ne hki with h | h
      ·have:(i+1)*t.size≤k*t.size:=Nat.mul_le_mul_right _ h
       rw [Nat.add_mul] at this; omega
      ·have:(k+1)*t.size≤i*t.size:=Nat.mul_le_mul_right _ h
       rw [Nat.add_mul] at this; omega
     ·simp only [σ,List.nil_append]
      rw [if_neg (fun e=>hki e.symm),if_pos hown]
  ·rw [look_gone] at hob
   split at hob<;>simp at hob
 ·have:=hFr.size
  rcases reGh_some h with h | h
  ·have h:g.lab b' o'=some (id,[]):=h
   have:=S.labs _ _ _ h; omega
  ·cases e:g.lab b' o' with
   | none=>exact absurd e h
   | some q=>have:=S.labs _ _ _ e; omega
 ·rcases reGh_some h with h | h
  ·have h:g.lab b' o'=some (id,[]):=h
   rw [h]; simp
  ·exact h
 ·rw [look_cons] at h
  split at h
  ·rename_i he; rw [← he]; exact hnf
  ·rw [look_gone] at h
   split at h
   ·rename_i hm; exact hnu _ hm
   ·simp at h
end
end Go.Am
namespace Go.Am
open Go
structure PutSrc' (id i:Nat) (u:List Nat) (σ:Src):Prop where
 ids:∀ p id' p' h,σ p=some (id',p',h)→(id'=id∧p'=p∧∃ d s,p=(i,d)::s)∨id'∈u
 inj:(id::u).Nodup→∀ p1 p2 id' p' h1 h2,σ p1=some (id',p',h1)→σ p2=some (id',p',h2)→p1=p2
theorem PutSrc'.put {id i:Nat} {u:List Nat} {σ:Src} (h:PutSrc' id i u σ):PutSrc id i u σ:=by
 refine ⟨fun p id' p' hh e=>?_,h.inj⟩
 rcases h.ids _ _ _ _ e with ⟨h1,rfl,h2⟩ | h1
 ·exact .inl ⟨h1,h2⟩
 ·exact .inr h1
theorem PutSrc'.or {id i:Nat} {u v:List Nat} {σ τ:Src} (h1:PutSrc' id i u σ) (h2:PutSrc' id i v τ):PutSrc' id i (u++v) (orS σ τ):=by
 constructor
 ·intro p id' p' h e
  rcases orS_some e with e | ⟨-,e⟩
  ·rcases h1.ids _ _ _ _ e with h | h
   ·exact .inl h
   ·exact .inr (List.mem_append_left _ h)
  ·rcases h2.ids _ _ _ _ e with h | h
   ·exact .inl h
   ·exact .inr (List.mem_append_right _ h)
 ·intro hn p1 p2 id' p' ha hb e1 e2
  obtain ⟨n0,n⟩:=List.nodup_cons.1 hn
  obtain ⟨n1,n2,n3⟩:=List.nodup_append.1 n
  have hu:id∉u:=fun h=>n0 (List.mem_append_left _ h)
  have hv:id∉v:=fun h=>n0 (List.mem_append_right _ h)
  have mixed:∀ {q1 q2:Path} {g1 g2:Hd},σ q1=some (id',p',g1)→τ q2=some (id',p',g2)→q1=q2:=by
   intro q1 q2 g1 g2 f1 f2
   rcases h1.ids _ _ _ _ f1 with ⟨a1,a2,-⟩ | a1<;>rcases h2.ids _ _ _ _ f2 with ⟨b1,b2,-⟩ | b1
   ·rw [← a2,b2]
   ·exact absurd (a1▸b1) hv
   ·exact absurd (b1▸a1) hu
   ·exact absurd rfl (n3 _ a1 _ b1)
  rcases orS_some e1 with e1 | ⟨-,e1⟩<;>rcases orS_some e2 with e2 | ⟨-,e2⟩
  ·exact h1.inj (List.nodup_cons.2 ⟨hu,n1⟩) _ _ _ _ _ _ e1 e2
  ·exact mixed e1 e2
  ·exact (mixed e2 e1).symm
  ·exact h2.inj (List.nodup_cons.2 ⟨hv,n2⟩) _ _ _ _ _ _ e1 e2
theorem PutSrc'.none {id i:Nat} {u:List Nat} : PutSrc' id i u none1:=⟨fun _ _ _ _ h=>by simp [none1] at h,fun _ _ _ _ _ _ _ h=>by simp [none1] at h⟩
def idAt (g:Gh) (id vr:Nat) (i j:Nat):Src:=fun p=>(strip [(i,j)] p).map fun s=>(id,(i,j)::s,g.hd id vr ((i,j)::s))
theorem idAt_some {g:Gh} {id vr i j:Nat} {p:Path} {x:Nat×Path×Hd} (h:idAt g id vr i j p=some x):∃ s,p=(i,j)::s∧x=(id,(i,j)::s,g.hd id vr ((i,j)::s)):=by
 simp only [idAt,Option.map_eq_some_iff] at h
 obtain ⟨s,h1,rfl⟩:=h
 exact ⟨s,by simpa using strip_some h1,rfl⟩
theorem idAt_app {g:Gh} {id vr i j:Nat} {s:Path} : idAt g id vr i j ((i,j)::s)=some (id,(i,j)::s,g.hd id vr ((i,j)::s)):=by
 have:=strip_app [(i,j)] s
 simp only [List.cons_append,List.nil_append] at this
 simp [idAt,this]
theorem PutSrc'.idAt {g:Gh} {id vr i j:Nat} {u:List Nat} : PutSrc' id i u (idAt g id vr i j):=by
 refine ⟨fun p id' p' h e=>?_,fun _ p1 p2 id' p' h1 h2 e1 e2=>?_⟩
 ·obtain ⟨s,rfl,h⟩:=idAt_some e
  simp at h
  exact .inl ⟨h.1,h.2.1,j,s,rfl⟩
 ·obtain ⟨s1,rfl,h1⟩:=idAt_some e1
  obtain ⟨s2,rfl,h2⟩:=idAt_some e2
  simp at h1 h2
  rw [← h1.2.1,h2.2.1]
section
variable {P:Program} {c:Cfg} {g:Gh} {L:Lab} {w w':World} {U:Nat→Prop} {sr:St} {a:Act} {site:Nat} {o:Oper} {ρ:Type} {r:ρ} {k:Eff→Option ρ} {σ:Src}
theorem putE_src (hO:Objs g w U sr) (hL:∀ b o,g.lab b o=none→L b o=none) {own:Bool} {id vr lo i:Nat} {vs:List AVal} {f:Nat→Option Value} (hv:Vals g w U vs f) {sk:Nat→Nat→Bool} : ∀ (d:Nat) (t:Ty) (j:Nat) (x y:t.T) (u:List Nat) (hdr:Bool) (b o:Nat),
  putE sr own d t x j lo vs=some (y,u,hdr)→(own=false→∀ id∈u,∀ b o p,g.lab b o=some (id,p)→L b o=none)→(∀ dd,dd<t.size→sk i (j+dd)=true→lo≤j+dd∧j+dd<lo+vs.length)→
  OwT g w own id vr t sk [] i j x b o→(∀ id∈u,sr.obj id≠none)∧∃ σ,OwS g L w own σ t [] i j y (fun k=>if lo≤j+k∧j+k<lo+vs.length then f (j+k-lo) else w.cell? (ad b (o+k)))∧Dom [] i j t.size σ∧PutSrc' id i u σ:=by
 have leaf:∀ (B:Bool) (d:Nat) (t:Ty) (j:Nat) (x y:t.T) (u:List Nat) (hdr:Bool) (b o:Nat),t.size=1→
   (match Nat.ble lo j&&Nat.blt j (lo+vs.length) with
   | false=>some (x,[],false)
   | true=>match vs.drop (j-lo) with
    | v::_=>match take sr own d t [v] with
     | some (y,_,u)=>some (y,u,B)
     | none=>none
    | []=>none)=some (y,u,hdr)→(own=false→∀ id∈u,∀ b o p,g.lab b o=some (id,p)→L b o=none)→(∀ dd,dd<t.size→sk i (j+dd)=true→lo≤j+dd∧j+dd<lo+vs.length)→
   OwT g w own id vr t sk [] i j x b o→(sk i j=false→OwT g w own id vr t sk [] i j x b o→OwT g w own id vr t noSk [] i j x b o)→
   (∀ id∈u,sr.obj id≠none)∧∃ σ,OwS g L w own σ t [] i j y (fun k=>if lo≤j+k∧j+k<lo+vs.length then f (j+k-lo) else w.cell? (ad b (o+k)))∧Dom [] i j t.size σ∧PutSrc' id i u σ:=by
  intro B d t j x y u hdr b o h1 e hdrop hsk h hno
  split at e
  ·rename_i hb
   obtain ⟨rfl,rfl,-⟩:=some3 e
   have hb':¬ (lo≤j∧j<lo+vs.length):=by
    intro hc
    have:(Nat.ble lo j&&Nat.blt j (lo+vs.length))=true:=by simp [Nat.blt_eq]; omega
    rw [this] at hb; exact absurd hb (by simp)
   have hskf:sk i j=false:=by
    cases hq:sk i j with
    | false=>rfl
    | true=>exact absurd (hsk 0 (by omega) hq) hb'
   have h':=hno hskf h
   refine ⟨by simp,?_⟩
   have hcells:∀ k,k<t.size→(if lo≤j+k∧j+k<lo+vs.length then f (j+k-lo) else w.cell? (ad b (o+k)))=w.cell? (ad b (o+k)):=by
    intro k hk
    have:k=0:=by omega
    subst this
    rw [if_neg (by simpa using hb')]
   cases own with
   | true=>
    refine ⟨idAt g id vr i j,OwS_cells t [] i j _ _ _ hcells (OwT_src hL t [] [] i j i j _ b o (fun _ dd s hdd=>?_) h'),?_,.idAt⟩
    ·have:dd=0:=by omega
     subst this
     simp only [List.nil_append,Nat.add_zero]
     exact idAt_app
    ·intro p hp
     cases e:idAt g id vr i j p with
     | none=>exact absurd e hp
     | some z=>
      obtain ⟨s,rfl,-⟩:=idAt_some e
      exact ⟨0,s,by omega,by simp⟩
   | false=>
    exact ⟨none1,OwS_cells t [] i j _ _ _ hcells (OwT_src hL t [] [] i j i j _ b o (fun hf=>by simp at hf) h'),fun p hp=>absurd rfl hp,.none⟩
  ·rename_i hb
   simp only [Bool.and_eq_true,Nat.ble_eq,Nat.blt_eq] at hb
   split at e
   ·rename_i v rr hd
    split at e
    ·rename_i y' r' u' ht
     obtain ⟨rfl,rfl,-⟩:=some3 e
     have hlt:j-lo<vs.length:=by omega
     have hv1:vs[j-lo]=v:=by
      have:=congrArg (fun l=>l[0]?) hd
      simpa [List.getElem?_eq_getElem hlt] using this
     have hV:Vals g w U [v] (fun k=>f (j-lo+k)):=by
      intro k hk
      have:k=0:=by simp at hk; exact hk
      subst this
      obtain ⟨z,hz1,hz2⟩:=hv (j-lo) hlt
      rw [hv1] at hz2
      exact ⟨z,hz1,hz2⟩
     obtain ⟨c1,c2,c3,σ,T⟩:=(take_sound hO hL own d).1 t [v] y' r' u' _ [] i j hV ht hdrop
     refine ⟨c1,σ,OwS_cells t [] i j _ _ _ (fun k hk=>?_) T.ow,T.dom,fun p id' p' h e=>.inr (T.tk.ids _ _ _ _ e),fun hn=>T.tk.inj (List.nodup_cons.1 hn).2⟩
     have:k=0:=by omega
     subst this
     rw [if_pos (by omega)]
     congr 1
    ·simp at e
   ·simp at e
 intro d
 induction d with
 | zero=>intro t j x y u hdr b o e; cases t<;>simp [putE] at e
 | succ d ih=>
  intro t j x y u hdr b o e hdrop hsk h
  cases t with
  | pair s t=>
   simp only [putE] at e
   split at e
   ·rename_i y1 u1 h1 e1
    split at e
    ·rename_i y2 u2 h2 e2
     obtain ⟨hy,hu,hh⟩:=some3 e
     subst hy hu
     obtain ⟨b1,σ1,c1,d1,p1⟩:=ih s j x.1 y1 u1 h1 b o e1 (fun ho id hi=>hdrop ho id (List.mem_append_left _ hi)) (fun dd hdd=>hsk dd (by simp [Ty.size]; omega)) h.1
     obtain ⟨b2,σ2,c2,d2,p2⟩:=ih t (j+s.size) x.2 y2 u2 h2 b (o+s.size) e2 (fun ho id hi=>hdrop ho id (List.mem_append_right _ hi)) (fun dd hdd hq=>by
      have:=hsk (s.size+dd) (by simp [Ty.size]; omega) (by rw [← Nat.add_assoc]; exact hq)
      rw [← Nat.add_assoc] at this; exact this) h.2
     refine ⟨?_,orS σ1 σ2,⟨?_,?_⟩,?_,p1.or p2⟩
     ·intro id' hi
      rcases List.mem_append.1 hi with hi | hi
      ·exact b1 id' hi
      ·exact b2 id' hi
     ·refine OwS_congr s [] i j y1 _ (fun dd ss hdd=>?_) c1
      unfold orS
      split
      ·rename_i y hy; exact hy.symm
      ·rename_i hy
       rw [hy]
       cases h2:σ2 ([]++(i,j+dd)::ss) with
       | none=>rfl
       | some y=>
        obtain ⟨d',s',hd',he⟩:=d2 _ (by rw [h2]; simp)
        simp at he; omega
     ·refine OwS_congr t [] i (j+s.size) y2 _ (fun dd ss hdd=>?_) (OwS_cells t [] i _ y2 _ _ (fun k hk=>?_) c2)
      ·unfold orS
       split
       ·rename_i y hy
        obtain ⟨d',s',hd',he⟩:=d1 _ (by rw [hy]; simp)
        simp at he; omega
       ·rfl
      ·simp only [Nat.add_assoc]
     ·intro p hp
      unfold orS at hp
      cases h1:σ1 p with
      | some y=>
       obtain ⟨d',s',hd',he⟩:=d1 p (by rw [h1]; simp)
       exact ⟨d',s',by simp only [Ty.size]; omega,he⟩
      | none=>
       rw [h1] at hp
       obtain ⟨d',s',hd',he⟩:=d2 p hp
       exact ⟨s.size+d',s',by simp only [Ty.size]; omega,by rw [he,Nat.add_assoc]⟩
    ·simp at e
   ·simp at e
  | sl t=>
   refine leaf true d (.sl t) j x y u hdr b o rfl e hdrop hsk h (fun hf h=>?_)
   cases own with
   | false=>exact h
   | true=>
    rcases h with h | h
    ·rw [hf] at h; simp at h
    ·exact .inr h
  | osl t=>exact leaf true d (.osl t) j x y u hdr b o rfl e hdrop hsk h (fun hf h=>h)
  | int k=>exact leaf false d (.int k) j x y u hdr b o rfl e hdrop hsk h (fun hf h=>h)
  | bool=>exact leaf false d .bool j x y u hdr b o rfl e hdrop hsk h (fun hf h=>h)
  | str=>exact leaf false d .str j x y u hdr b o rfl e hdrop hsk h (fun hf h=>h)
  | err=>exact leaf false d .err j x y u hdr b o rfl e hdrop hsk h (fun hf h=>h)
theorem vals_of {x:AVal} {v:Value} (hx:VRel g w U x v) (hok:cellsOk x.cells=true):Vals g w U x.cells (fun k=>v.cells.toList[k]?):=by
 obtain ⟨hvs,-⟩:=cells_rel hx hok
 intro k hk
 obtain ⟨z,h2,h3⟩:=VRels_get hvs k hk
 exact ⟨z,h2,h3⟩
theorem storeE_ok (S:Sit P c g w U sr a) (hs:¬ U site) {t0:Nat} (ht:0<(c.ti t0).size) {id:Nat} {i j:Nat} {x:AVal} {own:Bool} {t:Ty} {vr:Nat} {xs:List t.T} {sk:Nat→Nat→Bool} {y:t.T} {used:List Nat} {hdr:Bool} {va v:Value}
  (ha:VRel g w U (.rptr id 0 [] t i j) va) (hx:VRel g w U x v) (hlen:x.cells.length=(c.ti t0).size) (hok:cellsOk x.cells=true)
  (hR:RowR g w own id 0 vr t sk [] xs) (hsk:∀ k' j',sk k' j'=true→k'=i∧j≤j'∧j'<j+(c.ti t0).size) (hj:j+(c.ti t0).size≤t.size)
  (he:putE sr own 50 t (el t xs i) 0 j x.cells=some (y,used,hdr)) (hnd:(id::used).Nodup) (hnf:id / 1024≠19) :
  ∃ w' g' U',(Instr.storeAt t0 va v).run P w = .ok () w'∧Post g w U site ⟨.undef,(id,some (.row own t site (xs.set i y)))::gone used⟩ undef w' g' U':=by
 obtain ⟨hU,-,hU0,-,-,hi,b,o,hb,rfl⟩:=ha
 have hR':=hR
 obtain ⟨r1,r2,r3,r4⟩:=hR'
 rw [r1] at hi
 obtain ⟨r5,r6⟩:=r4 b o hb
 have h6:=r6 i hi
 rw [← el_get hi] at h6
 let L:Lab:=if own=true then g.lab else without g.lab used
 have hL:∀ b o,g.lab b o=none→L b o=none:=by
  intro b o hb
  simp only [L]; split
  ·exact hb
  ·exact without_none hb
 obtain ⟨hus,σ,c1,d1,p1⟩:=putE_src (L:=L) S.objs hL (vals_of hx hok) 50 t 0 _ y used hdr b _ he (fun hf id' hi' b o p hb=>by simp only [L,hf]; exact without_mem hb hi')
  (fun dd hdd hq=>by have:=(hsk _ _ hq).2; rw [hlen]; exact this) h6
 obtain ⟨hvs,-⟩:=cells_rel hx hok
 have hcl:v.cells.toList.length=x.cells.length:=VRels_len hvs
 have c2:OwS g L w own σ t [] i 0 y (fun k=>if j≤k∧k<j+v.cells.toList.length then v.cells.toList[k-j]? else w.cell? (ad b (o+i*t.size+k))):=by
  refine OwS_cells t [] i 0 y _ _ (fun k hk=>?_) c1
  simp only [Nat.zero_add,hcl]
 have hLd:∀ b o,L b o=none→g.lab b o=none∨(own=false∧∃ id p,g.lab b o=some (id,p)∧id∈used):=by
  intro b o hb
  simp only [L] at hb
  split at hb
  ·exact .inl hb
  ·rename_i hf
   rcases without_inv hb with hb | hb
   ·exact .inl hb
   ·exact .inr ⟨by simpa using hf,hb⟩
 have hD:∀ p,σ p≠none→∃ d s,p=(i,d)::s:=by
  intro p hp
  obtain ⟨d,s,-,he⟩:=d1 p hp
  exact ⟨_,_,by simpa using he⟩
 cases own with
 | true=>exact storeHdr_ok (L:=L) (σe:=σ) S hs ht hx hlen hok hU hnf (fun id' h=>S.nf _ (hus _ h)) hR (fun k' j' h=>(hsk k' j' h).1) hb hi hj hL hLd hnd (fun hf=>by simp at hf) c2 p1.put hD
 | false=>exact storeHdr_ok (L:=L) (σe:=none1) S hs ht hx hlen hok hU hnf (fun id' h=>S.nf _ (hus _ h)) hR (fun k' j' h=>(hsk k' j' h).1) hb hi hj hL hLd hnd (fun _ _=>rfl) (OwS_false _ _ _ _ _ _ c2) PutSrc'.none.put (fun p hp=>absurd rfl hp)
theorem store2_ok (S:Sit P c g w U sr a) (hs:¬ U site) {t0:Nat} (ht:0<(c.ti t0).size) {id ver:Nat} {p:Path} {tt:Ty} {i j:Nat} {x:AVal} {own:Bool} {t:Ty} {vr:Nat} {xs:List t.T} {va v:Value}
  (ha:VRel g w U (.rptr id ver p tt i j) va) (hx:VRel g w U x v) (hlen:x.cells.length=(c.ti t0).size) (hok:cellsOk x.cells=true)
  (ho:sr.obj id=some (.row own t vr xs)) (hp:p=[]∨(own=true∧ver=vr)) (e:evStore2 sr site (c.ti t0).size id own t vr xs p tt i j x.cells k=some r) :
  ∃ eff,k eff=some r∧∃ w' g' U',(Instr.storeAt t0 va v).run P w = .ok () w'∧Post g w U site eff undef w' g' U':=by
 unfold evStore2 at e
 split at e
 case h_2=>simp at e
 rename_i u ys hpl
 split at e
 case h_2=>simp at e
 rename_i y used hdr he
 split at he
 case h_2=>simp at he
 rename_i hb
 rw [Bool.and_eq_true] at hb
 obtain rfl:=Ty.eq_of_beq hb.1
 have hj:=Nat.le_of_ble_eq_true hb.2
 split at e
 case h_2=>simp at e
 rename_i xs' hset
 split at e
 case h_2=>simp at e
 rename_i hnd
 rw [Bool.and_eq_true,nodupB_iff] at hnd
 cases hdr with
 | false=>
  have hu:used=[]:=List.isEmpty_iff.1 hnd.2
  subst hu
  obtain ⟨w',h1,h2⟩:=storeRow_ok (site:=site) S ht ha hx hlen hok ho hp hpl rfl hj he hset
  exact ⟨_,e,w',g,U,h1,h2⟩
 | true=>
  have hp0:p=[]:=List.isEmpty_iff.1 hnd.2
  subst hp0
  simp only [place,Option.some.injEq] at hpl
  obtain ⟨rfl,hpl⟩:=Sigma.mk.inj hpl
  obtain rfl:=eq_of_heq hpl
  simp only [setPlace] at hset
  obtain ⟨-,hset⟩:=cast_sl hset
  obtain rfl:=eq_of_heq hset
  have hver:ver=0:=ha.2.2.2.2.1 rfl
  subst hver
  obtain ⟨-,-,-,hR⟩:=S.objs id _ ho
  obtain ⟨w',g',U',h1,h2⟩:=storeE_ok S hs ht ha hx hlen hok hR (fun k' j' h=>by simp [noSk] at h) hj he hnd.1 (S.nf _ (by rw [ho]; simp))
  exact ⟨_,e,w',g',U',h1,h2⟩
theorem store3_ok (S:Sit P c g w U sr a) (hs:¬ U site) {t0:Nat} {id ver:Nat} {tt:Ty} {i j bi bj:Nat} {x:AVal} {t:Ty} {vr:Nat} {xs:List t.T} {va v:Value}
  (ha:VRel g w U (.rptr id ver [] tt i j) va) (hx:VRel g w U x v) (hlen:x.cells.length=(c.ti t0).size) (hok:cellsOk x.cells=true)
  (ho:sr.obj id=some (.brk t vr xs bi bj)) (e:evStore3 sr site (c.ti t0).size id t xs bi bj tt i j x.cells k=some r) :
  ∃ eff,k eff=some r∧∃ w' g' U',(Instr.storeAt t0 va v).run P w = .ok () w'∧Post g w U site eff undef w' g' U':=by
 unfold evStore3 at e
 split at e
 ·simp at e
 rename_i hb
 simp only [Bool.and_eq_true,Nat.ble_eq,Nat.blt_eq] at hb
 obtain ⟨⟨⟨hb1,hb2⟩,hj⟩,ht⟩:=hb
 obtain rfl:=Nat.eq_of_beq_eq_true hb1
 obtain rfl:=Ty.eq_of_beq hb2
 unfold chk at e
 split at e
 case isFalse=>simp at e
 rename_i hbi
 subst hbi
 split at e
 case h_2=>simp at e
 rename_i y used hdr he
 split at e
 case h_2=>simp at e
 rename_i hnd
 rw [nodupB_iff] at hnd
 have hver:ver=0:=ha.2.2.2.2.1 rfl
 subst hver
 obtain ⟨-,-,-,hR⟩:=S.objs id _ ho
 obtain ⟨w',g',U',h1,h2⟩:=storeE_ok S hs ht ha hx hlen hok hR (fun k' j' h=>by
  simp only [Bool.and_eq_true] at h
  have e1:=Nat.eq_of_beq_eq_true h.1
  have e2:=Nat.eq_of_beq_eq_true h.2
  omega) hj he hnd (S.nf _ (by rw [ho]; simp))
 exact ⟨_,e,w',g',U',h1,h2⟩
end
end Go.Am
namespace Go.Am
open Go
section
variable {P:Program} {c:Cfg} {g:Gh} {L:Lab} {w w':World} {U:Nat→Prop} {sr:St} {a:Act} {site:Nat} {o:Oper} {ρ:Type} {r:ρ} {k:Eff→Option ρ} {σ:Src}
def cutSrc (g:Gh) (id vr i jm off len:Nat) (h:Hd):Src:=fun p=>match p with
 | []=>none
 | (i1,j1)::s=>if i1=i then (if j1=jm then (match s with
   | []=>some (id,[(i,jm)],h)
   | (k,j2)::s'=>if k<len then some (id,(i,jm)::(k+off,j2)::s',g.hd id vr ((i,jm)::(k+off,j2)::s')) else none)
  else some (id,(i,j1)::s,g.hd id vr ((i,j1)::s))) else none
theorem cutSrc_some {g:Gh} {id vr i jm off len:Nat} {h:Hd} {p:Path} {id':Nat} {p':Path} {h':Hd} (e:cutSrc g id vr i jm off len h p=some (id',p',h')) :
  id'=id∧∃ d s,p'=(i,d)::s∧p=(i,d)::p.tail∧((d≠jm∧p.tail=s)∨(d=jm∧((s=[]∧p.tail=[])∨∃ k j2 s',s=(k+off,j2)::s'∧p.tail=(k,j2)::s'))):=by
 cases p with
 | nil=>simp [cutSrc] at e
 | cons p0 s=>
  obtain ⟨i1,j1⟩:=p0
  simp only [cutSrc] at e
  split at e
  ·rename_i hi
   subst hi
   split at e
   ·rename_i hj
    subst hj
    split at e
    ·simp only [Option.some.injEq,Prod.mk.injEq] at e
     exact ⟨e.1.symm,j1,[],e.2.1.symm,rfl,.inr ⟨rfl,.inl ⟨rfl,rfl⟩⟩⟩
    ·split at e
     ·simp only [Option.some.injEq,Prod.mk.injEq] at e
      exact ⟨e.1.symm,j1,_,e.2.1.symm,rfl,.inr ⟨rfl,.inr ⟨_,_,_,rfl,rfl⟩⟩⟩
     ·simp at e
   ·rename_i hj
    simp only [Option.some.injEq,Prod.mk.injEq] at e
    exact ⟨e.1.symm,j1,s,e.2.1.symm,rfl,.inl ⟨hj,rfl⟩⟩
  ·simp at e
theorem cellSl_pair (s t:Ty) (x:(Ty.pair s t).T) (m:Nat):cellSl (.pair s t) x m=(match Nat.blt m s.size with | true=>cellSl s x.1 m | false=>cellSl t x.2 (m-s.size)):=rfl
theorem cut_src (hL:∀ b o,g.lab b o=none→L b o=none) {id vr i jm off len:Nat} {h:Hd} {u:Ty}
  (hrow:∀ ys:List u.T,RowR g w true id vr vr u noSk [(i,jm)] ys→rowR w g.lab u.size (id,[(i,jm)]) h (fun k x b o=>OwS g L w true (cutSrc g id vr i jm off len h) u [(i,jm)] k 0 x (fun d=>w.cell? (ad b (o+d)))) ((ys.drop off).take len)) :
  ∀ (t:Ty) (j0 m:Nat) (x y:t.T) (b o:Nat) (ys:List u.T),j0+m=jm→cellSl t x m=some ⟨u,ys⟩→setCellSl t x m (fun _ zs=>some ((zs.drop off).take len))=some y→OwT g w true id vr t noSk [] i j0 x b o→
  OwS g L w true (cutSrc g id vr i jm off len h) t [] i j0 y (fun k=>if k=m then some h.val else w.cell? (ad b (o+k)))
 | .pair s t,j0,m,x,y,b,o,ys,hj,hc,e,hx=>by
  rw [cellSl_pair] at hc
  rw [setCellSl_pair] at e
  have hoth:∀ (t':Ty) (j1:Nat) (x':t'.T) (b o:Nat),(∀ d,d<t'.size→j1+d≠jm)→OwT g w true id vr t' noSk [] i j1 x' b o→OwS g L w true (cutSrc g id vr i jm off len h) t' [] i j1 x' (fun k=>w.cell? (ad b (o+k))):=by
   intro t' j1 x' b o hne h'
   refine OwT_src hL t' [] [] i j1 i j1 x' b o (fun _ d s hd=>?_) h'
   simp only [List.nil_append,cutSrc]
   rw [if_pos trivial,if_neg (hne d hd)]
  split at hc
  ·rename_i hb
   rw [hb] at e
   have hb:m<s.size:=by simpa [Nat.blt_eq] using hb
   simp only at e
   split at e
   ·rename_i y1 e1
    obtain rfl:=Option.some.inj e
    refine ⟨cut_src hL hrow s j0 m x.1 y1 b o ys hj hc e1 hx.1,?_⟩
    have:=hoth t (j0+s.size) x.2 b (o+s.size) (fun d hd=>by omega) hx.2
    refine OwS_cells t [] i _ _ _ _ (fun k hk=>?_) this
    change (if s.size+k=m then some h.val else w.cell? (ad b (o+(s.size+k))))=_
    rw [if_neg (by omega),Nat.add_assoc]
   ·simp at e
  ·rename_i hb
   rw [hb] at e
   have hb:¬ m<s.size:=by
    intro hlt
    have:Nat.blt m s.size=true:=by simpa [Nat.blt_eq] using hlt
    rw [this] at hb; exact absurd hb (by simp)
   simp only at e
   split at e
   ·rename_i y1 e1
    obtain rfl:=Option.some.inj e
    refine ⟨?_,?_⟩
    ·have:=hoth s j0 x.1 b o (fun d hd=>by omega) hx.1
     refine OwS_cells s [] i _ _ _ _ (fun k hk=>?_) this
     change (if k=m then some h.val else w.cell? (ad b (o+k)))=_
     rw [if_neg (by omega)]
    ·have:=cut_src hL hrow t (j0+s.size) (m-s.size) x.2 y1 b (o+s.size) ys (by omega) hc e1 hx.2
     refine OwS_cells t [] i _ _ _ _ (fun k hk=>?_) this
     change (if s.size+k=m then some h.val else w.cell? (ad b (o+(s.size+k))))=_
     by_cases hk':k=m-s.size
     ·rw [if_pos (by omega),if_pos hk']
     ·rw [if_neg (by omega),if_neg hk',Nat.add_assoc]
   ·simp at e
 | .sl t,j0,m,x,y,b,o,ys,hj,hc,e,hx=>by
  cases m with
  | succ m=>rw [setCellSl_succ] at e; simp at e
  | zero=>
   rw [setCellSl_zero] at e
   have hc:some (⟨t,x⟩:(u:Ty)×List u.T)=some ⟨u,ys⟩:=hc
   simp only [Option.some.injEq] at hc
   obtain ⟨rfl,hc⟩:=Sigma.mk.inj hc
   obtain rfl:=eq_of_heq hc
   have e:((List.drop off (x:List t.T)).take len)=y:=Option.some.inj e
   rw [Nat.add_zero] at hj
   subst hj
   subst e
   rcases hx with hx | ⟨-,hx⟩
   ·simp [noSk] at hx
   ·exact .inl ⟨id,[(i,j0)],h,by simp [cutSrc],by simp,hrow x hx⟩
 | .int _,_,m,_,_,_,_,_,_,_,e,_=>by cases m<;>(have e:none=some _:=e; simp at e)
 | .bool,_,m,_,_,_,_,_,_,_,e,_=>by cases m<;>(have e:none=some _:=e; simp at e)
 | .str,_,m,_,_,_,_,_,_,_,e,_=>by cases m<;>(have e:none=some _:=e; simp at e)
 | .err,_,m,_,_,_,_,_,_,_,e,_=>by cases m<;>(have e:none=some _:=e; simp at e)
 | .osl _,_,m,_,_,_,_,_,_,_,e,_=>by cases m<;>(have e:none=some _:=e; simp at e)
theorem store1_ok (S:Sit P c g w U sr a) (hs:¬ U site) {t0:Nat} (ht:0<(c.ti t0).size) {id ver:Nat} {tt:Ty} {i j id' ver' i' j':Nat} {u:Ty} {off len:Nat} {own:Bool} {t:Ty} {vr:Nat} {xs:List t.T} {va v:Value}
  (ha:VRel g w U (.rptr id ver [] tt i j) va) (hx:VRel g w U (.osub id' ver' [(i',j')] u off len) v) (hlen:(1:Nat)=(c.ti t0).size)
  (ho:sr.obj id=some (.row own t vr xs)) (e:evStore1 site id own t vr xs tt i j id' ver' i' j' u off len k=some r) :
  ∃ eff,k eff=some r∧∃ w' g' U',(Instr.storeAt t0 va v).run P w = .ok () w'∧Post g w U site eff undef w' g' U':=by
 unfold evStore1 at e
 split at e
 ·simp at e
 rename_i hb
 simp only [Bool.and_eq_true] at hb
 obtain ⟨⟨⟨⟨⟨rfl,hb1⟩,hb2⟩,hb3⟩,hb4⟩,hb5⟩:=hb
 obtain rfl:=Nat.eq_of_beq_eq_true hb1
 obtain rfl:=Nat.eq_of_beq_eq_true hb2
 obtain rfl:=Nat.eq_of_beq_eq_true hb3
 obtain rfl:=Ty.eq_of_beq hb4
 unfold chk at e
 split at e
 case isFalse=>simp at e
 rename_i hii
 subst hii
 split at e
 case h_2=>simp at e
 rename_i y hset
 cases hcs:cellSl tt (el tt xs i) j with
 | none=>rw [hcs] at hb5; simp at hb5
 | some q=>
  obtain ⟨u',ys⟩:=q
  rw [hcs] at hb5
  obtain rfl:=Ty.eq_of_beq hb5
  obtain ⟨hU,-,hU0,-,hver,hi,b,o,hb,rfl⟩:=ha
  obtain rfl:=hver rfl
  have hx0:=hx
  obtain ⟨-,-,-,hin,-,a0,cp,rfl,h6,h7,h8,h9,q,rfl⟩:=hx
  obtain ⟨-,-,hvr,hR⟩:=S.objs id _ ho
  have hR':=hR
  obtain ⟨r1,r2,r3,r4⟩:=hR'
  rw [r1] at hi
  obtain ⟨r5,r6⟩:=r4 b o hb
  have hx6:=r6 i hi
  rw [← el_get hi] at hx6
  obtain ⟨-,-,hjs⟩:=cellSl_sound tt [] i 0 _ b _ j u ys hx6 hcs
  have hsrc:=cut_src (L:=g.lab) (g:=g) (w:=w) (id:=id) (vr:=ver') (i:=i) (jm:=j) (off:=off) (len:=len) (h:=⟨q,len,cp⟩) (u:=u) (fun _ _ h=>h) (fun zs hz=>by
   obtain ⟨z1,z2,z3,z4⟩:=hz
   rw [z1] at h8
   refine ⟨by simp; omega,h7,fun hn=>?_,fun b' o' hbq=>?_⟩
   ·rcases Nat.eq_zero_or_pos cp with hz | hz
    ·exact hz
    ·obtain ⟨b1,o1,-,hh⟩:=h9 hz
     have hn:q=none:=hn
     rw [hn] at hh; simp at hh
   ·have hbq:q=some (b',o'):=hbq
    subst hbq
    rcases Nat.eq_zero_or_pos cp with hz | hz
    ·exact ⟨fun k hk=>by have hk:k<cp*u.size:=hk; rw [hz] at hk; simp at hk,fun k hk=>by simp at hk; omega⟩
    ·obtain ⟨b1,o1,h10,h11⟩:=h9 hz
     simp only [Option.map_some,Option.some.injEq,Addr.mk.injEq] at h11
     obtain ⟨rfl,rfl,-⟩:=h11
     obtain ⟨z5,z6⟩:=z4 b' o1 h10
     have hle:off*u.size+cp*u.size=(g.hd id ver' [(i,j)]).cap*u.size:=by rw [← h6,Nat.add_mul]
     refine ⟨fun k hk=>?_,fun k hk=>?_⟩
     ·have hk:k<cp*u.size:=hk
      have:=z5 (off*u.size+k) (by omega)
      rwa [← Nat.add_assoc] at this
     ·simp only [List.length_take,List.length_drop] at hk
      have h12:=z6 (off+k) (by omega)
      simp only [List.getElem_take,List.getElem_drop]
      rw [Nat.add_mul,← Nat.add_assoc] at h12
      refine OwT_src (fun _ _ h=>h) u [(i,j)] [(i,j)] (off+k) 0 k 0 _ b' _ (fun _ d s hd=>?_) h12
      simp only [List.cons_append,List.nil_append,cutSrc]
      rw [if_pos trivial,if_pos trivial,if_pos (by omega),Nat.add_comm k off]) tt 0 j _ y b _ ys (by omega) hcs hset hx6
  have hval:(⟨q,len,cp⟩:Hd).val = .slice (q.map fun p=>ad p.1 p.2) len cp:=rfl
  have hcells:(Value.slice (q.map fun p=>ad p.1 p.2) len cp).cells.toList=[(⟨q,len,cp⟩:Hd).val]:=rfl
  obtain ⟨w',g',U',h1,h2⟩:=storeHdr_ok (L:=g.lab) (site:=site) (own:=true) (used:=[]) (t:=tt) (xs:=xs) (y:=y) (j:=j) (σe:=cutSrc g id ver' i j off len ⟨q,len,cp⟩) S hs ht (x:=.osub id ver' [(i,j)] u off len) hx0 (by simpa [AVal.cells] using hlen) rfl hU (S.nf _ (by rw [ho]; simp)) (fun _ h=>by simp at h) hR (fun k' j' h=>by simp [noSk] at h) hb hi (by omega) (fun _ _ h=>h) (fun b o h=>.inl h) (by simp) (fun hf=>by simp at hf)
   (by
    refine OwS_cells tt [] i 0 y _ _ (fun k hk=>?_) hsrc
    rw [hcells]
    by_cases hkj:k=j
    ·subst hkj; simp
    ·rw [if_neg (by simp; omega),if_neg hkj])
   ⟨fun p id' p' h e=>by
    left
    obtain ⟨h1,d,s,h2,-⟩:=cutSrc_some e
    exact ⟨h1,d,s,h2⟩,fun _ p1 p2 id' p' h1 h2 e1 e2=>by
    obtain ⟨-,d1,s1,a1,b1,c1⟩:=cutSrc_some e1
    obtain ⟨-,d2,s2,a2,b2,c2⟩:=cutSrc_some e2
    rw [a1] at a2
    simp only [List.cons.injEq,Prod.mk.injEq,true_and] at a2
    obtain ⟨rfl,rfl⟩:=a2
    have ht:p1.tail=p2.tail:=by
     rcases c1 with ⟨c3,t1⟩ | ⟨hd1,c1⟩<;>rcases c2 with ⟨c4,t2⟩ | ⟨hd2,c2⟩
     ·rw [t1,t2]
     ·exact absurd hd2 c3
     ·exact absurd hd1 c4
     ·rcases c1 with ⟨h3,t1⟩ | ⟨k1,j1,s1',h3,t1⟩<;>rcases c2 with ⟨h4,t2⟩ | ⟨k2,j2,s2',h4,t2⟩
      ·rw [t1,t2]
      ·rw [h3] at h4; simp at h4
      ·rw [h3] at h4; simp at h4
      ·rw [h3] at h4
       simp only [List.cons.injEq,Prod.mk.injEq] at h4
       obtain ⟨⟨h5,rfl⟩,rfl⟩:=h4
       have:k1=k2:=by omega
       subst this
       rw [t1,t2]
    rw [b1,b2,ht]⟩ (fun p hp=>by
    cases e:cutSrc g id ver' i j off len ⟨q,len,cp⟩ p with
    | none=>exact absurd e hp
    | some z=>
     obtain ⟨id',p',h'⟩:=z
     obtain ⟨-,d,s,-,h2,-⟩:=cutSrc_some e
     exact ⟨_,_,h2⟩)
  exact ⟨_,e,w',g',U',h1,h2⟩
theorem store_ok (S:Sit P c g w U sr a) (hs:¬ U site) {t0:Nat} (ht:0<(c.ti t0).size) {ad x:AVal} {va v:Value} (ha:VRel g w U ad va) (hx:VRel g w U x v) (e:evStore sr site (c.ti t0).size ad x k=some r) :
  ∃ eff,k eff=some r∧∃ w' g' U',(Instr.storeAt t0 va v).run P w = .ok () w'∧Post g w U site eff undef w' g' U':=by
 unfold evStore at e
 split at e
 ·simp at e
 rename_i hb
 rw [Bool.and_eq_true] at hb
 have hlen:=Nat.eq_of_beq_eq_true hb.1
 have hok:=hb.2
 cases ad with
 | vptr id j=>
  simp only at e
  split at e
  ·rename_i ro cs ho
   split at e
   ·simp at e
   ·split at e
    ·rename_i hj
     obtain ⟨w',h1,h2⟩:=storeVar_ok (site:=site) S ht ha hx hlen hok ho (Nat.le_of_ble_eq_true hj)
     exact ⟨_,e,w',g,U,h1,h2⟩
    ·simp at e
  ·simp at e
 | rptr id ver p tt i j=>
  simp only at e
  split at e
  ·rename_i own t vr xs ho
   cases p with
   | nil=>
    simp only at e
    split at e
    ·rename_i id' ver' i' j' u off len
     exact store1_ok S hs ht ha hx (by simpa [AVal.cells] using hlen) ho e
    ·exact store2_ok S hs ht ha hx hlen hok ho (.inl rfl) e
   | cons q p=>
    simp only at e
    split at e
    ·simp at e
    ·rename_i hb2
     rw [Bool.and_eq_true] at hb2
     exact store2_ok S hs ht ha hx hlen hok ho (.inr ⟨hb2.1,Nat.eq_of_beq_eq_true hb2.2⟩) e
  ·rename_i t vr xs bi bj ho
   cases p with
   | nil=>exact store3_ok S hs ha hx hlen hok ho e
   | cons q p=>simp at e
  ·simp at e
 | _=>simp at e
end
end Go.Am
namespace Go.Am
open Go
section
variable {P:Program} {c:Cfg} {g:Gh} {L:Lab} {w w':World} {U:Nat→Prop} {sr:St} {a:Act} {site:Nat} {o:Oper} {ρ:Type} {r:ρ} {k:Eff→Option ρ}
theorem plain_own {own own':Bool} {id vr:Nat} {σ:Src} : ∀ (t:Ty) (q:Path) (i j:Nat) (x:t.T) (f:Nat→Option Value) (sk:Nat→Nat→Bool) (p:Path) (i' j':Nat) (b o:Nat),t.plain=true→
  (∀ k,k<t.size→w'.cell? (ad b (o+k))=f k)→OwS g L w own' σ t q i j x f→OwT g w' own id vr t sk p i' j' x b o
 | .int _,q,i,j,x,f,sk,p,i',j',b,o,hp,hc,h=>by have h0:=hc 0 (by simp [Ty.size]); exact h0.trans h
 | .bool,q,i,j,x,f,sk,p,i',j',b,o,hp,hc,h=>by have h0:=hc 0 (by simp [Ty.size]); exact h0.trans h
 | .str,q,i,j,x,f,sk,p,i',j',b,o,hp,hc,h=>by have h0:=hc 0 (by simp [Ty.size]); exact h0.trans h
 | .err,q,i,j,x,f,sk,p,i',j',b,o,hp,hc,h=>by
  have h0:=hc 0 (by simp [Ty.size])
  obtain ⟨v,h1,h2⟩:=h
  exact ⟨v,h0.trans h1,h2⟩
 | .osl _,q,i,j,x,f,sk,p,i',j',b,o,hp,hc,h=>by simp [Ty.plain] at hp
 | .sl _,q,i,j,x,f,sk,p,i',j',b,o,hp,hc,h=>by simp [Ty.plain] at hp
 | .pair s t,q,i,j,x,f,sk,p,i',j',b,o,hp,hc,h=>by
  simp only [Ty.plain,Bool.and_eq_true] at hp
  refine ⟨plain_own s q i j x.1 f sk p i' j' b o hp.1 (fun k hk=>hc k (by simp [Ty.size]; omega)) h.1,plain_own t q i (j+s.size) x.2 _ sk p i' (j'+s.size) b (o+s.size) hp.2 (fun k hk=>?_) h.2⟩
  have:=hc (s.size+k) (by simp [Ty.size]; omega)
  rwa [← Nat.add_assoc] at this
theorem run_copy {t ty e:TypeId} {i:TypeInfo} (ht:P.underlying t=some (.slice e)) (hi:P.info? e=some i) {da xa:Option Addr} {dl dc m xl xc:Nat} (hm:min xl dl=m) {news:List Value} {ts:Array TypeId} (hts:ts[0]? = some t)
  (hl:news.length=m*i.size) (hx:0<m→∃ b o,xa=some (ad b o)∧∀ j u,news[j]? = some u→w.cell? (ad b (o+j))=some u)
  (h1:∀ u∈news,u.oneCell'=true) {b o:Nat} (hd:0<m→da=some (ad b o)) (hd':∃ q:Option (Nat×Nat),da=q.map fun p=>ad p.1 p.2)
  (hc:∀ j,j<news.length→(w.cell? (ad b (o+j))).isSome=true∧w.frozen? (ad b (o+j))=false) :
  (Builtin.copy_ ts ty #[.slice da dl dc,.slice xa xl xc]).run P w = .ok (.int .i64 (m:Int)) (w.setCells b o news):=by
 have hf:(Builtin.firstCells i.size m (.slice xa xl xc)).run P w = .ok news.toArray w:=by
  rcases Nat.eq_zero_or_pos m with rfl | hp
  ·have:news=[]:=List.eq_nil_of_length_eq_zero (by simpa using hl)
   subst this
   cases xa<;>simp [Builtin.firstCells,loadCells,loadCellsFrom]
  ·obtain ⟨b',o',rfl,hj⟩:=hx hp
   exact run_firstCells_some w i.size m (ad b' o') xl xc news hl (fun j v hv=>by rw [Addr.add_lit]; exact hj j v hv)
 have hst:=run_storeCells_cells (P:=P) b o news 0 w (fun j hj=>by rw [Nat.add_zero]; exact (hc j hj).1) (fun j hj=>by rw [Nat.add_zero]; exact (hc j hj).2) h1
 rw [Nat.add_zero] at hst
 have hmin:Nat.min xl dl=m:=hm
 rcases Nat.eq_zero_or_pos m with rfl | hp
 ·have:news=[]:=List.eq_nil_of_length_eq_zero (by simpa using hl)
  subst this
  obtain ⟨q,rfl⟩:=hd'
  cases q with
  | none=>simp [Builtin.copy_,hts,run_underlying ht,Builtin.lenOf,sizeOf,typeInfo,hi,hmin,hf,goInt,World.setCells]
  | some q=>
   have hst2:(storeCells (ad q.1 q.2) ([]:List Value)).run P w = .ok () w:=rfl
   simp [Builtin.copy_,hts,run_underlying ht,Builtin.lenOf,sizeOf,typeInfo,hi,hmin,hf,goInt,World.setCells,hst2]
 ·rw [hd hp]
  simp [Builtin.copy_,hts,run_underlying ht,Builtin.lenOf,sizeOf,typeInfo,hi,hmin,hf,goInt,hst]
theorem copy1_ok (S:Sit P c g w U sr a) {t0 ty:Nat} (hk:(c.ti t0).kind = .slice) {id off len:Nat} {own:Bool} {t:Ty} {vr:Nat} {xs:List t.T} {x:AVal} {da:Option Addr} {dc:Nat} {vx:Value} {ts:Array TypeId} (hts:ts[0]? = some t0)
  (hs0:0<(c.ti (c.ti t0).elem).size) (hsz:(c.ti (c.ti t0).elem).size=t.size) (ho:sr.obj id=some (.row own t vr xs)) (hx:VRel g w U x vx) (hlen:off+len≤xs.length)
  (hd:0<len→∃ b o,(g.hd id 0 []).addr=some (b,o)∧da=some (ad b (o+off*t.size))) (hd':∃ q:Option (Nat×Nat),da=q.map fun p=>ad p.1 p.2)
  (e:evCopy1 sr id own t vr xs off len x k=some r):∃ eff,k eff=some r∧∃ v w',(Builtin.copy_ ts ty #[.slice da len dc,vx]).run P w = .ok v w'∧Post g w U site eff v w' g U:=by
 unfold evCopy1 at e
 cases hp:t.plain with
 | false=>rw [hp] at e; simp at e
 | true=>
 rw [hp] at e
 cases hls:sr.list x with
 | none=>rw [hls] at e; simp at e
 | some uy=>
 rw [hls] at e
 obtain ⟨u,ys⟩:=uy
 simp only at e
 cases hz:Ty.cast (.sl u) (.sl t) ys with
 | none=>rw [hz] at e; simp at e
 | some zs=>
 rw [hz] at e
 simp only at e
 obtain ⟨rfl,hz⟩:=cast_sl hz
 obtain rfl:=eq_of_heq hz
 refine ⟨_,e,?_⟩
 obtain ⟨hU,hU0,hvr,hR⟩:=S.objs id _ ho
 obtain ⟨xa,xc,rfl,hel⟩:=list_elems S.objs hx hls
 have hR':=hR
 obtain ⟨r1,r2,r3,r4⟩:=hR'
 have hpos:=u.size_pos
 have hT:=ti_ok S.tys (.inl hs0)
 obtain ⟨ti,hi,his,-⟩:=hT.info
 obtain ⟨m,hm⟩:∃ m,min ys.length len=m:=⟨_,rfl⟩
 obtain ⟨b,o',hb⟩:∃ b o',0<len→(g.hd id 0 []).addr=some (b,o')∧da=some (ad b (o'+off*u.size)):=by
  rcases Nat.eq_zero_or_pos len with h | h
  ·exact ⟨0,0,fun hp=>by omega⟩
  ·obtain ⟨b,o',h1,h2⟩:=hd h; exact ⟨b,o',fun _=>⟨h1,h2⟩⟩
 obtain ⟨f,hf⟩:∃ f:Nat→Nat→Option Value,(∀ k (hk:k<ys.length),OwS g g.lab w own none1 u [] k 0 ys[k] (f k))∧(0<m→∃ b1 o1,xa=some (ad b1 o1)∧∀ k d,f k d=w.cell? (ad b1 (o1+k*u.size+d))):=by
  rcases Nat.eq_zero_or_pos ys.length with h | h
  ·exact ⟨fun _ _=>none,fun k hk=>by omega,fun h2=>by omega⟩
  ·obtain ⟨b1,o1,h2,h3⟩:=hel h
   refine ⟨fun k d=>w.cell? (ad b1 (o1+k*u.size+d)),fun k hk=>?_,fun _=>⟨b1,o1,h2,fun _ _=>rfl⟩⟩
   rcases h3 k hk with h5 | ⟨own',id,vr,p,k',h5⟩
   ·exact plain_sh _ [] _ 0 _ b1 _ hp h5
   ·exact plain_ow _ [] _ 0 _ _ _ b1 _ hp h5
 obtain ⟨hf1,hf2⟩:=hf
 let news:List Value:=(List.range (m*u.size)).map fun j=>(f (j / u.size) (j % u.size)).getD undef
 have hnl:news.length=m*u.size:=by simp [news]
 have hmy:m≤ys.length:=by omega
 have hml:m≤len:=by omega
 have hkm:∀ j,j<m*u.size→j / u.size<m:=fun j hj=>by rw [Nat.div_lt_iff_lt_mul hpos]; exact hj
 have hfs:∀ j,j<m*u.size→∃ v,f (j / u.size) (j % u.size)=some v∧v.oneCell'=true:=fun j hj=>
  OwS_one u [] _ 0 _ _ (hf1 (j / u.size) (Nat.lt_of_lt_of_le (hkm j hj) hmy)) (j % u.size) (Nat.mod_lt _ hpos)
 have hng:∀ j,j<m*u.size→news[j]? = f (j / u.size) (j % u.size):=by
  intro j hj
  obtain ⟨v,h1,-⟩:=hfs j hj
  simp [news,List.getElem?_map,List.getElem?_range hj,h1]
 have hsrc:0<m→∃ b o,xa=some (ad b o)∧∀ j u,news[j]? = some u→w.cell? (ad b (o+j))=some u:=by
  intro h
  obtain ⟨b1,o1,h2,h3⟩:=hf2 h
  refine ⟨b1,o1,h2,fun j v hj=>?_⟩
  have hjl:=(List.getElem?_eq_some_iff.1 hj).1
  rw [hnl] at hjl
  rw [hng j hjl,h3] at hj
  rw [← hj,Nat.add_assoc,Nat.mul_comm,Nat.div_add_mod]
 have hone:∀ v∈news,v.oneCell'=true:=by
  intro v hv
  obtain ⟨j,hj,rfl⟩:=List.mem_iff_getElem.1 hv
  obtain ⟨z,h1,h2⟩:=hfs j (by omega)
  have h3:=hng j (by omega)
  rw [List.getElem?_eq_getElem hj,h1] at h3
  rw [Option.some.inj h3]; exact h2
 have hcapm:(off+m)*u.size≤(g.hd id 0 []).cap*u.size:=Nat.mul_le_mul_right _ (by omega)
 rw [Nat.add_mul] at hcapm
 have hrow:∀ j,j<news.length→g.lab b (o'+off*u.size+j)=some (id,[])∧(w.cell? (ad b (o'+off*u.size+j))).isSome=true∧w.frozen? (ad b (o'+off*u.size+j))=false:=by
  intro j hj
  have hm0:0<m:=by
   rcases Nat.eq_zero_or_pos m with h | h
   ·rw [hnl,h] at hj; simp at hj
   ·exact h
  have:=(r4 b o' (hb (by omega)).1).1 (off*u.size+j) (by omega)
  rw [Nat.add_assoc]; exact this
 have hrun:=run_copy (P:=P) (w:=w) (ty:=ty) (xl:=ys.length) (dl:=len) (dc:=dc) (xc:=xc) (slice_desc S.tys hk) hi hm hts (by rw [hnl,his,hsz]) hsrc hone (b:=b) (o:=o'+off*u.size) (fun h=>(hb (by omega)).2) hd'
  (fun j hj=>(hrow j hj).2)
 have hl:∀ j,j<news.length→g.lab b (o'+off*u.size+j)=some (id,[]):=fun j hj=>(hrow j hj).1
 have K:=Kept_setCells (w:=w) hl
 have hst:∀ {T:Nat→Prop},T id→Stp T g w U g (w.setCells b (o'+off*u.size) news) U:=fun hT=>Stp_setCells hT hl
 refine ⟨_,_,hrun,hst (by simp [look]),?_,fun id' o2 e2=>?_,fun s hs=>.inl hs,fun b' o2 q h=>?_,fun b o q hb h=>by rw [h]; simp,?_,?_⟩
 ·show Value.int .i64 (m:Int) = .int .i64 _
  rw [hm]
 ·simp only [look] at e2
  split at e2
  ·rename_i he'
   obtain rfl:=Nat.eq_of_beq_eq_true he'
   simp only [Option.some.injEq] at e2
   obtain rfl:=e2
   refine ⟨hU,hU0,hvr,?_⟩
   have hxl:(xs.take off++(ys.take len++xs.drop (off+min ys.length len))).length=xs.length:=by simp; omega
   refine ⟨by rw [hxl]; exact r1,r2,r3,fun b2 o2 hb2=>?_⟩
   obtain ⟨r5,r6⟩:=r4 b2 o2 hb2
   refine ⟨fun k hk=>?_,fun k hk=>?_⟩
   ·obtain ⟨a1,a2,a3⟩:=r5 k hk
    exact ⟨a1,K.some' _ _ a2,by rw [K.frozen]; exact a3⟩
   ·rw [hxl] at hk
    by_cases hin:off≤k∧k<off+m
    ·have hbb:=(hb (by omega)).1
     rw [hb2] at hbb
     simp only [Option.some.injEq,Prod.mk.injEq] at hbb
     obtain ⟨rfl,rfl⟩:=hbb
     have hget:(xs.take off++(ys.take len++xs.drop (off+min ys.length len)))[k]'(by rw [hxl]; exact hk)=ys[k-off]'(by omega):=by
      rw [List.getElem_append_right (by simp; omega),List.getElem_append_left (by simp; omega),List.getElem_take]
      congr 1; simp; omega
     rw [hget]
     refine plain_own u [] (k-off) 0 _ _ _ _ _ _ _ _ hp (fun d hd2=>?_) (hf1 (k-off) (by omega))
     have hj:(k-off)*u.size+d<m*u.size:=by
      have:(k-off+1)*u.size≤m*u.size:=Nat.mul_le_mul_right _ (by omega)
      rw [Nat.add_mul] at this; omega
     have hoff:o2+k*u.size+d=o2+off*u.size+((k-off)*u.size+d):=by
      have:k*u.size=off*u.size+(k-off)*u.size:=by rw [← Nat.add_mul]; congr 1; omega
      omega
     have h5:=World.cell?_setCells_in b2 news (o2+off*u.size) w (fun j hj=>(hrow j hj).2.1) ((k-off)*u.size+d) (by omega)
     rw [hoff]
     refine Eq.trans h5 ?_
     have h6:=hng _ hj
     rw [List.getElem?_eq_getElem (by omega)] at h6
     rw [h6]
     congr 1
     ·rw [Nat.add_comm,Nat.add_mul_div_right _ _ hpos,Nat.div_eq_of_lt hd2,Nat.zero_add]
     ·rw [Nat.add_comm,Nat.add_mul_mod_self_right,Nat.mod_eq_of_lt hd2]
    ·have hget:(xs.take off++(ys.take len++xs.drop (off+min ys.length len)))[k]'(by rw [hxl]; exact hk)=xs[k]:=by
      by_cases h7:k<off
      ·rw [List.getElem_append_left (by simp; omega),List.getElem_take]
      ·rw [List.getElem_append_right (by simp; omega),List.getElem_append_right (by simp; omega),List.getElem_drop]
       congr 1; simp; omega
     rw [hget]
     refine OwT_keep K u _ _ k 0 _ b2 _ (fun d hd2=>?_) (fun d s hd2=>by intro he; have:=congrArg List.length he; simp at this) (r6 k hk)
     refine World.cell?_setCells_out b _ _ w _ (fun hbe _=>?_)
     simp only at hbe ⊢
     subst hbe
     rw [hnl]
     rcases Nat.eq_zero_or_pos m with hm0 | hm0
     ·rw [hm0]; omega
     have hbb:=(hb (by omega)).1
     rw [hb2] at hbb
     simp only [Option.some.injEq,Prod.mk.injEq] at hbb
     obtain ⟨-,rfl⟩:=hbb
     rcases Nat.lt_or_ge k off with h | h
     ·have:(k+1)*u.size≤off*u.size:=Nat.mul_le_mul_right _ h
      rw [Nat.add_mul] at this; omega
     ·have:(off+m)*u.size≤k*u.size:=Nat.mul_le_mul_right _ (by omega)
      rw [Nat.add_mul] at this; omega
  ·simp [look] at e2
 ·have:=S.labs b' o2 q h
  have hs:=(Fr_setCells (F:=fun _ _=>True) b news (o'+off*u.size) w (fun _ _=>trivial)).size
  exact Nat.lt_of_lt_of_le this hs
 ·exact Fr_setCells b _ _ w (fun k hk=>⟨id,[],hl k hk,S.nf id (by rw [ho]; simp)⟩)
 ·exact fun id' h=>by rw [look_one h]; exact S.nf id (by rw [ho]; simp)
theorem copy_ok (S:Sit P c g w U sr a) {t0 ty:Nat} (hk:(c.ti t0).kind = .slice) (hs0:0<(c.ti (c.ti t0).elem).size) {d x:AVal} {vd vx:Value} {ts:Array TypeId} (hts:ts[0]? = some t0) (hd:VRel g w U d vd) (hx:VRel g w U x vx)
  (e:evCopy (c.ti (c.ti t0).elem).size sr d x k=some r):∃ eff,k eff=some r∧∃ v w',(Builtin.copy_ ts ty #[vd,vx]).run P w = .ok v w'∧Post g w U site eff v w' g U:=by
 unfold evCopy at e
 split at e
 ·rename_i id ver tt
  split at e
  ·rename_i own t vr xs ho
   split at e
   ·rename_i hb
    obtain ⟨hU,hUv,hU0,hin,hp0,rfl⟩:=hd
    obtain rfl:=hp0 rfl
    obtain ⟨-,-,-,r1,r2,r3,r4⟩:=S.objs id _ ho
    unfold Hd.val
    rw [r1]
    refine copy1_ok S hk hts hs0 (Nat.eq_of_beq_eq_true hb) ho hx (by omega) (fun hp=>?_) ⟨_,rfl⟩ e
    cases ha:(g.hd id 0 []).addr with
    | none=>have:=r3 ha; omega
    | some q=>obtain ⟨b,o'⟩:=q; exact ⟨b,o',rfl,by simp⟩
   ·simp at e
  ·simp at e
 ·rename_i id ver tt off len
  split at e
  ·rename_i own t vr xs ho
   split at e
   ·rename_i hb
    rw [Bool.and_eq_true] at hb
    obtain rfl:=Ty.eq_of_beq hb.2
    obtain ⟨hU,hUv,hU0,hin,hp0,da,dc,rfl,h6,h7,h8,h9,h99⟩:=hd
    obtain rfl:=hp0 rfl
    obtain ⟨-,-,-,r1,r2,r3,r4⟩:=S.objs id _ ho
    exact copy1_ok S hk hts hs0 (Nat.eq_of_beq_eq_true hb.1) ho hx (by omega) (fun hp=>h9 (by omega)) h99 e
   ·simp at e
  ·simp at e
 ·simp at e
end
end Go.Am
namespace Go.Am
open Go
section
variable {P:Program} {c:Cfg} {g:Gh} {L:Lab} {w w':World} {U:Nat→Prop} {sr:St} {a:Act} {site:Nat} {o:Oper} {ρ:Type} {r:ρ} {k:Eff→Option ρ}
theorem zeroCells_get (zero:Array Value) (n i:Nat) (h:i<n*zero.size):(Builtin.zeroCells zero n)[i]? = some zero[i % zero.size]!:=by
 simp [Builtin.zeroCells,h]
theorem appendZ_ok (S:Sit P c g w U sr a) (hs:¬ U site) {t u ty:Nat} {e:Ty} {kk kn:IntKind} {n:Int} (hk:(c.ti t).kind = .slice) (hu:(c.ti u).kind = .int kn) (he:(c.ti (c.ti t).elem).ty=some e) (hb:0<(c.ti (c.ti t).elem).bytes)
  (hn:0<n∧n*((c.ti (c.ti t).elem).bytes:Int)≤(maxB:Int)) :
  ∃ v w' g' U',(Builtin.append_ #[t,u] ty #[.slice none 0 0,.int kk n]).run P w = .ok v w'∧
   Post g w U site ⟨.own (site*1024) 0 [] e,[(site*1024,some (.row true e site (List.replicate n.toNat e.zero)))]⟩ v w' g' U':=by
 have h0:site≠0:=by rintro rfl; exact hs S.u0
 have hd:=slice_desc S.tys hk
 have hT:TOK P (c.ti t).elem (c.ti (c.ti t).elem):=by
  unfold Cfg.ti at he ⊢
  generalize (match look c.tys t with | some i=>i | none=>(⟨false,0,0,[],.other,0,none,[],false⟩:TInfo)).elem=x at he ⊢
  cases e2:look c.tys x with
  | none=>rw [e2] at he; simp at he
  | some i=>exact S.tys x i e2
 obtain ⟨hz1,hz2⟩:=hT.ty e he
 obtain ⟨z,hz,hr,hv,ti,hti,htz,hts,htb⟩:=run_zero hT
 have hpos:=e.size_pos
 have hzs:z.cells.size=e.size:=by rw [hz,hz2]
 have hmx:(maxB:Int)=140737488355328:=rfl
 obtain ⟨m,rfl⟩:∃ m:Nat,n=(m:Int):=⟨n.toNat,by omega⟩
 have hm0:0<m:=by omega
 have hmb:m*(c.ti (c.ti t).elem).bytes≤140737488355328:=by
  have h2:((m*(c.ti (c.ti t).elem).bytes:Nat):Int)≤140737488355328:=by
   rw [Int.natCast_mul]; exact hn.2
  omega
 have hle:m≤m*(c.ti (c.ti t).elem).bytes:=Nat.le_mul_of_pos_right _ hb
 have hnc:Builtin.nextslicecap m 0=m:=by
  unfold Builtin.nextslicecap
  rw [if_pos (by omega)]
 have htn:=int_desc S.tys hu
 have hsz:ti.size=e.size:=by rw [hts,hz2]
 have hrun:=Lib.run_append_grow_zeros (P:=P) w t u ty (c.ti t).elem ti z kk kn hd htn hti htz none 0 0 [] (run_firstCells_none w.drew ti.size 0 0 0) m hm0 (by omega) (by omega) (by omega) (by rw [htb]; omega) (by rw [Nat.zero_add,hnc,htb]; omega)
 simp only [Nat.zero_add] at hrun
 have hge:=grownCap_ge w m 0 (c.ti t).elem
 generalize grownCap w m 0 (c.ti t).elem=cp at hrun hge
 have B:=NewB_drew w (([]:List Value).toArray++Builtin.zeroCells z.cells m++Builtin.zeroCells z.cells (cp-m)) (c.ti t).elem
 have harr:∀ i,i<cp*e.size→(([]:List Value).toArray++Builtin.zeroCells z.cells m++Builtin.zeroCells z.cells (cp-m))[i]? = some z.cells[i % z.cells.size]!:=by
  intro i hi
  have hsize:(Builtin.zeroCells z.cells m).size=m*e.size:=by simp [Builtin.zeroCells,hzs]
  rw [Array.getElem?_append,Array.getElem?_append]
  simp only [List.size_toArray,List.length_nil,Nat.not_lt_zero,if_false,Nat.sub_zero,Array.size_append,Nat.zero_add,hsize]
  by_cases h1:i<m*e.size
  ·rw [if_pos h1,zeroCells_get _ _ _ (by rw [hzs]; exact h1)]
  ·rw [if_neg h1]
   have h2:(cp-m)*e.size=cp*e.size-m*e.size:=Nat.sub_mul _ _ _
   rw [zeroCells_get _ _ _ (by rw [hzs]; omega)]
   have:(i-m*e.size) % z.cells.size=i % z.cells.size:=by
    rw [hzs]
    have:i=(i-m*e.size)+m*e.size:=by omega
    conv=>rhs; rw [this]
    rw [Nat.add_mul_mod_self_right]
   rw [this]
 refine ⟨_,_,reGh g site (fun _ _=>⟨some (w.heap.size,0),m,cp⟩) (fun _ _=>nilHd) (relab (fun _ _=>False) (site*1024) none1 (fun b o=>b=w.heap.size∧o<cp*e.size) g.lab),U' U site,hrun,?_⟩
 generalize (([]:List Value).toArray++Builtin.zeroCells z.cells m++Builtin.zeroCells z.cells (cp-m))=arr at B harr hrun ⊢
 have hmem1:∀ b o,g.lab b o=none→∀ v,w.cell? (ad b o)=some v→(w.drew.alloc (.cells arr (c.ti t).elem)).cell? (ad b o)=some v∧¬ (b=w.heap.size∧o<cp*e.size):=by
  intro b o hl v hv
  have:=cell_lt hv
  exact ⟨by rw [B.old (by omega)]; exact hv,by omega⟩
 have hst:∀ {T:Nat→Prop},Stp T g w U (reGh g site (fun _ _=>⟨some (w.heap.size,0),m,cp⟩) (fun _ _=>nilHd) (relab (fun _ _=>False) (site*1024) none1 (fun b o=>b=w.heap.size∧o<cp*e.size) g.lab)) (w.drew.alloc (.cells arr (c.ti t).elem)) (U' U site):=
  Stp_relab hs hmem1 (fun b o id p h _=>by
   have:=S.labs _ _ _ h
   exact ⟨fun h=>h,by omega,B.old (by omega) o,B.oldFrozen (by omega) o⟩)
 refine ⟨hst,⟨.inr (site_div site),.inl S.u0,.inl S.u0,trivial,fun _=>rfl,?_⟩,fun id ob hob=>?_,fun s h=>h,fun b o q h=>?_,fun b o q hb h=>?_,B.fr _,fun id h=>by rw [look_one h,site_div]; rintro rfl; exact hs S.u19⟩
 ·rw [reGh_root h0]; rfl
 ·simp only [look] at hob
  split at hob
  ·rename_i hb
   obtain rfl:=Nat.eq_of_beq_eq_true hb
   simp only [Option.some.injEq] at hob
   subst hob
   refine ⟨.inr (site_div site),.inl S.u0,.inr rfl,?_⟩
   refine RowR_new (w:=w) (L:=g.lab) (h0:=⟨some (w.heap.size,0),m,cp⟩) _ rfl (reGh_root h0 _) (fun q id p h e=>by simp [none1] at e) (fun q hq e=>rfl) (fun q id p h e=>by simp [none1] at e) (fun b o hl v hv=>?_) (by simp) hge (by simp) (fun b o hb k hk=>?_) (fun b o hb k hk=>?_)
   ·obtain ⟨a1,a2⟩:=hmem1 b o hl v hv
    exact ⟨a1,relab_none hl a2⟩
   ·simp only [Option.some.injEq,Prod.mk.injEq] at hb
    obtain ⟨rfl,rfl⟩:=hb
    refine ⟨⟨rfl,by simpa using hk⟩,?_,B.newFrozen _⟩
    rw [B.new,harr _ (by simpa using hk)]; rfl
   ·simp only [Option.some.injEq,Prod.mk.injEq] at hb
    obtain ⟨rfl,rfl⟩:=hb
    simp only [List.length_replicate] at hk
    have hk:k<m:=by omega
    rw [List.getElem_replicate]
    have hv':=hv g w U
    rw [hz1] at hv'
    refine zero_own e [] k 0 z.cells.toList _ hv' (fun d hd=>?_)
    have hlt:k*e.size+d<cp*e.size:=by
     have:(k+1)*e.size≤cp*e.size:=Nat.mul_le_mul_right _ (by omega)
     rw [Nat.add_mul] at this; omega
    rw [B.new]
    simp only [Nat.zero_add]
    rw [harr _ hlt]
    rw [hzs,show (k*e.size+d) % e.size=d by rw [Nat.mul_comm,Nat.mul_add_mod,Nat.mod_eq_of_lt hd]]
    rw [getElem!_def,Array.getElem?_toList]
    have:d<z.cells.size:=by omega
    rw [Array.getElem?_eq_getElem this]
  ·simp [look] at hob
 ·rw [B.size]
  rcases reGh_some h with ⟨rfl,-⟩ | h
  ·omega
  ·cases h2:g.lab b o with
   | none=>exact absurd h2 h
   | some q=>have:=S.labs _ _ _ h2; omega
 ·rcases reGh_some h with ⟨rfl,-⟩ | h
  ·omega
  ·exact h
end
end Go.Am
namespace Go.Am
open Go
section
variable {P:Program} {c:Cfg} {g:Gh} {L:Lab} {w w':World} {U:Nat→Prop} {sr:St} {a:Act} {site:Nat} {o:Oper} {ρ:Type} {r:ρ} {k:Eff→Option ρ}
theorem appendF_ok (S:Sit P c g w U sr a) {t ty:Nat} (hk:(c.ti t).kind = .slice) (hby:0<(c.ti (c.ti t).elem).bytes) {s x:AVal} {vs vx:Value} (hvs:VRel g w U s vs) (hx:VRel g w U x vx)
  (e:evAppendF (c.ti (c.ti t).elem).bytes sr (c.ti (c.ti t).elem).ty s x k=some r) :
  ∃ eff,k eff=some r∧∃ v' w' g' U',(Builtin.append_ #[t,t] ty #[vs,vx]).run P w = .ok v' w'∧Post g w U site eff v' w' g' U':=by
 unfold evAppendF at e
 split at e
 case h_2=>simp at e
 rename_i id sz u hu
 split at e
 case h_2=>simp at e
 rename_i ro ho
 split at e
 case h_2=>simp at e
 rename_i ys hsz htl
 obtain rfl:=Nat.eq_of_beq_eq_true hsz
 unfold chk at e
 split at e
 case isFalse=>simp at e
 rename_i hmax
 refine ⟨_,e,?_⟩
 obtain ⟨-,-,a0,cc,rfl,hlc,hcl,b,o,ha,hao⟩:=hvs
 obtain ⟨b',o',hh,-,-⟩:=obj_cells S.objs ho
 have hao1:=hao (.inr rfl)
 clear hao
 rw [hh] at ha hcl
 simp only [Option.some.injEq,Prod.mk.injEq] at ha
 obtain ⟨rfl,rfl⟩:=ha
 have hpos:=u.size_pos
 simp only [Nat.zero_add,Nat.zero_mul,Nat.add_zero,List.length_nil] at hcl hao1
 obtain rfl:cc=0:=by
  rcases Nat.mul_eq_zero.1 hcl with h | h
  ·exact h
  ·omega
 subst hao1
 obtain ⟨-,σ1,hT⟩:=tail_sound (L:=g.lab) S.objs (fun _ _ h=>h) hx 0 (fun _ id hi=>by simp at hi) htl
 obtain ⟨xa,xc,rfl,hxa⟩:=hT.sl
 have hTe:TOK P (c.ti t).elem (c.ti (c.ti t).elem):=by
  have he:=hu
  unfold Cfg.ti at he ⊢
  generalize (match look c.tys t with | some i=>i | none=>(⟨false,0,0,[],.other,0,none,[],false⟩:TInfo)).elem=x at he ⊢
  cases e2:look c.tys x with
  | none=>rw [e2] at he; simp at he
  | some i=>exact S.tys x i e2
 obtain ⟨hz1,hz2⟩:=hTe.ty u hu
 have hd:=slice_desc S.tys hk
 obtain ⟨z,hz,hr,hv,ti,hti,htz,hts,htb⟩:=run_zero hTe
 have htsz:ti.size=u.size:=by rw [hts,hz2]
 obtain ⟨news,hnl,hn1,hn2⟩:∃ news:List Value,news.length=ys.length*u.size∧(0<ys.length→∃ b o,xa=some (ad b o)∧(∀ j u',news[j]? = some u'→w.cell? (ad b (o+j))=some u')∧∀ k (hk:k<ys.length),OwS g g.lab w false σ1 u [] (0+k) 0 ys[k] (fun d=>w.cell? (ad b (o+k*u.size+d))))∧∀ y∈news,y.oneCell'=true:=by
  rcases Nat.eq_zero_or_pos ys.length with hy | hy
  ·exact ⟨[],by simp [hy],fun h=>by omega,by simp⟩
  ·obtain ⟨b,o,e1,e2⟩:=hxa hy
   have e3:=elems_some e2
   refine ⟨memList w b o (ys.length*u.size),by simp [memList],fun _=>⟨b,o,e1,fun j u' hj=>?_,e2⟩,fun y hy=>?_⟩
   ·have hlt:j<ys.length*u.size:=by
     have:=(List.getElem?_eq_some_iff.1 hj).1
     simpa [memList] using this
    obtain ⟨v,hv,-⟩:=e3 j hlt
    exact (memList_get hj (by rw [hv]; rfl)).1
   ·obtain ⟨j,hj,hy⟩:=List.mem_iff_getElem.1 hy
    simp only [memList,List.length_map,List.length_range] at hj
    obtain ⟨v,hv,h1⟩:=e3 j hj
    simp only [memList,List.getElem_map,List.getElem_range,hv,Option.getD_some] at hy
    rw [← hy]; exact h1
 have happ:=append_run (P:=P) (w:=w) (ty:=ty) (h:=⟨some (b',o'),0,0⟩) (olds:=[]) (news:=news) (xa:=xa) (m:=ys.length) (xc:=xc) hd hti htz (by rw [hz,hts]) (by rw [htb]; exact hby) (Nat.le_refl _) (by simp) (by simp)
  (fun b o hb=>⟨by simp,fun k hk=>by simp at hk⟩) (by rw [htsz]; exact hnl) (fun hy=>let ⟨b,o,e1,e2,_⟩:=hn1 hy; ⟨b,o,e1,e2⟩) hn2 (by rw [htb]; simpa using hmax)
 rw [htsz] at happ
 rcases happ with ⟨b,o,ha,hr,hs⟩ | ⟨ha,hm,hl,hs⟩ | ⟨cap,arr,w',B,hc,hasz,hl,hs⟩
 ·have hy0:ys.length=0:=by
   have hr:0+ys.length≤0:=hr
   omega
  have hy:ys=[]:=List.eq_nil_of_length_eq_zero hy0
  have hnn:news=[]:=List.eq_nil_of_length_eq_zero (by rw [hnl,hy0]; simp)
  subst hnn
  refine ⟨_,_,g,U,hs,.same S.labs ⟨⟨some (ad b o),0,0,by simp [hy0],by simp [hy0],Nat.le_refl _,by simp,fun h=>by simp [hy] at h⟩,by simp⟩⟩
 ·simp at ha
 ·obtain ⟨rest,hl⟩:=hl
  have hget:∀ j v,news[j]? = some v→w'.cell? (ad w.heap.size j)=some v:=by
   intro j v hj
   rw [B.new]
   have:arr[j]? = arr.toList[j]?:=by simp
   rw [this,hl,List.nil_append,List.getElem?_append_left (List.getElem?_eq_some_iff.1 hj).1]; exact hj
  have hnew:∀ o,g.lab w.heap.size o=none:=fun o=>by
   cases h:g.lab w.heap.size o with
   | none=>rfl
   | some q=>have:=S.labs _ _ _ h; omega
  have hst:∀ {T:Nat→Prop},Stp T g w U g w' U:=⟨fun _ h=>h,fun _ _ _ _ _=>rfl,fun b o hn v hv=>⟨by rw [B.old (Nat.ne_of_lt (cell_lt hv))]; exact hv,hn⟩,fun b o id p h _=>⟨h,B.old (Nat.ne_of_lt (S.labs _ _ _ h)) o,B.oldFrozen (Nat.ne_of_lt (S.labs _ _ _ h)) o⟩⟩
  have hshr:∀ b o,g.lab b o=none→∀ v,w.cell? (ad b o)=some v→w'.cell? (ad b o)=some v∧g.lab b o=none:=(hst (T:=fun _=>False)).shr
  have hSh:∀ (t:Ty) (q:Path) (i j:Nat) (x:t.T) (f:Nat→Option Value) (o:Nat),(∀ d v,d<t.size→f d=some v→w'.cell? (ad w.heap.size (o+d))=some v)→OwS g g.lab w false σ1 t q i j x f→Sh g.lab w' t x w.heap.size o:=by
   intro t
   induction t with
   | int kk=>intro q i j x f o hf h; exact ⟨hf 0 _ (by simp [Ty.size]) h,hnew _⟩
   | bool=>intro q i j x f o hf h; exact ⟨hf 0 _ (by simp [Ty.size]) h,hnew _⟩
   | str=>intro q i j x f o hf h; exact ⟨hf 0 _ (by simp [Ty.size]) h,hnew _⟩
   | err=>intro q i j x f o hf h; obtain ⟨v,h1,h2⟩:=h; exact ⟨⟨v,hf 0 _ (by simp [Ty.size]) h1,h2⟩,hnew _⟩
   | pair s t ihs iht=>
    intro q i j x f o hf h
    refine ⟨ihs q i j x.1 f o (fun d v hd hv=>hf d v (by simp [Ty.size]; omega) hv) h.1,iht q i _ x.2 _ (o+s.size) (fun d v hd hv=>?_) h.2⟩
    rw [Nat.add_assoc]; exact hf _ v (by simp [Ty.size]; omega) hv
   | sl t ih=>intro q i j x f o hf h; obtain ⟨v,h1,h2⟩:=h; exact ⟨⟨v,hf 0 _ (by simp [Ty.size]) h1,shV_mono (Sh_step hshr t) h2⟩,hnew _⟩
   | osl t ih=>intro q i j x f o hf h; obtain ⟨v,h1,h2,h3⟩:=h; exact ⟨⟨v,hf 0 _ (by simp [Ty.size]) h1,shV_mono (Sh_step hshr t) h2,h3⟩,hnew _⟩
  refine ⟨_,_,g,U,hs,hst,⟨⟨some (ad w.heap.size 0),_,cap,rfl,by simp,hc,by simp,fun hne=>⟨w.heap.size,0,rfl,fun i hi=>?_⟩⟩,by simp⟩,fun id ob hob=>by simp [look] at hob,fun s h=>.inl h,fun b o q h=>by have:=S.labs _ _ _ h; rw [B.size]; omega,fun b o q hb h=>by rw [h]; simp,B.fr _,fun id h=>by simp [look] at h⟩
  have hi:i<ys.length:=hi
  obtain ⟨b,o,e1,e2,e3⟩:=hn1 (by omega)
  refine hSh u [] (0+i) 0 _ _ _ (fun d v hd hv=>?_) (e3 i hi)
  have hlt:i*u.size+d<news.length:=by
   rw [hnl]
   have:(i+1)*u.size≤ys.length*u.size:=Nat.mul_le_mul_right _ (by omega)
   rw [Nat.add_mul] at this; omega
  rw [Nat.zero_add]
  refine hget _ v ?_
  rw [List.getElem?_eq_getElem hlt]
  have:=e2 (i*u.size+d) _ (List.getElem?_eq_getElem hlt)
  have hv:w.cell? (ad b (o+i*u.size+d))=some v:=hv
  rw [Nat.add_assoc,this] at hv
  exact hv
theorem appendN_ok (S:Sit P c g w U sr a) (hs:¬ U site) {t ty:Nat} (hk:(c.ti t).kind = .slice) (hby:0<(c.ti (c.ti t).elem).bytes) {s x:AVal} {vs vx:Value} (hvs:VRel g w U s vs) (hx:VRel g w U x vx)
  (e:evAppendN (c.ti (c.ti t).elem).bytes sr site (c.ti (c.ti t).elem).ty s x k=some r) :
  ∃ eff,k eff=some r∧∃ v' w' g' U',(Builtin.append_ #[t,t] ty #[vs,vx]).run P w = .ok v' w'∧Post g w U site eff v' w' g' U':=by
 unfold evAppendN at e
 split at e
 case h_2=>simp at e
 rename_i u hu
 split at e
 case h_2=>simp at e
 rename_i ys hb htl
 unfold chk at e
 split at e
 case isFalse=>simp at e
 rename_i hmax
 refine ⟨_,e,?_⟩
 have hTe:TOK P (c.ti t).elem (c.ti (c.ti t).elem):=by
  have he:=hu
  unfold Cfg.ti at he ⊢
  generalize (match look c.tys t with | some i=>i | none=>(⟨false,0,0,[],.other,0,none,[],false⟩:TInfo)).elem=x at he ⊢
  cases e2:look c.tys x with
  | none=>rw [e2] at he; simp at he
  | some i=>exact S.tys x i e2
 obtain ⟨-,hz2⟩:=hTe.ty u hu
 obtain ⟨-,σ1,hT⟩:=tail_sound (L:=g.lab) S.objs (fun _ _ h=>h) hx (List.length ([]:List u.T)) (fun _ id hi=>by simp at hi) htl
 have hσ1:∀ q,σ1 q=none:=fun q=>by
  cases h:σ1 q with
  | none=>rfl
  | some y=>obtain ⟨id,p,h'⟩:=y; have:=hT.tk.ids _ _ _ _ h; simp at this
 have fin:∀ (h:Hd),vs=h.val→h.len=0→h.cap=0→∃ v' w' g' U',(Builtin.append_ #[t,t] ty #[vs,vx]).run P w = .ok v' w'∧Post g w U site ⟨.own (site*1024) 0 [] u,[(site*1024,some (.row false u site ys))]⟩ v' w' g' U':=by
  intro h hv h1 h2
  subst hv
  obtain ⟨v',w',g',hrun,A⟩:=append_row (L:=g.lab) (own:=false) (ty:=ty) (σ0:=none1) S hs hk hby hz2 (Do:=fun _ _=>False) (fun _ _=>nilHd) (h:=h) (xs:=[]) h1 (by omega) (fun _=>h2)
   (fun b o hb k hk=>by rw [h2] at hk; simp at hk) (fun b o hb k hk=>by simp at hk) (fun q id p h' e=>by simp [none1] at e) (fun q q' id p h1 h2 e=>by simp [none1] at e) (fun p hp=>absurd rfl hp) hT
   (fun id hi p hu=>hu) (by simp) (fun _=>⟨fun q=>rfl,hσ1⟩) (fun b o hb=>.inl hb) (by simpa using hmax) (fun id p h=>h.elim)
  exact ⟨v',w',g',_,hrun,Post_app S hs A (fun id' p hD=>by rcases hD with hD | hD; exact hD.elim; simp at hD) (fun id' ob hob=>by simp [look] at hob) (fun id' h=>by simp [look] at h)⟩
 split at hb
 ·exact fin nilHd (by rw [show vs=_ from hvs]; rfl) rfl rfl
 ·rename_i id sz
  split at hb
  ·rename_i ro ho
   obtain rfl:=Nat.eq_of_beq_eq_true hb
   obtain ⟨-,-,a0,cc,rfl,hlc,hcl,b,o,ha,hao⟩:=hvs
   obtain ⟨b',o',hh,-,-⟩:=obj_cells S.objs ho
   have hao1:=hao (.inr rfl)
   clear hao
   rw [hh] at ha hcl
   simp only [Option.some.injEq,Prod.mk.injEq] at ha
   obtain ⟨rfl,rfl⟩:=ha
   have hpos:=u.size_pos
   simp only [Nat.zero_add,Nat.zero_mul,Nat.add_zero,List.length_nil] at hcl hao1
   obtain rfl:cc=0:=by
    rcases Nat.mul_eq_zero.1 hcl with h | h
    ·exact h
    ·omega
   subst hao1
   exact fin ⟨some (b',o'),0,0⟩ (by simp [Hd.val]) rfl rfl
  ·simp at hb
 ·simp at hb
theorem sliceF_ok {ow:Bool} (S:Sit P c g w U sr a) (hs:¬ U site) {t:Nat} {x:AVal} {v:Value} {lo hi:Option Operand} (hk:(c.ti t).kind = .slice) (hz:0<(c.ti (c.ti t).elem).size) (hx:VRel g w U x v)
  (e:evSliceF ow (c.ti (c.ti t).elem).size sr site x lo hi k=some r) :
  ∃ eff,k eff=some r∧∃ v' w' g' U',(Instr.sliceAt t v (lo.map a.eval) (hi.map a.eval) none).run P w = .ok v' w'∧Post g w U site eff v' w' g' U':=by
 have h0:site≠0:=by rintro rfl; exact hs S.u0
 unfold evSliceF at e
 obtain ⟨z,e,v',hrun,hvr⟩:=slice_ok S hk hz hx e
 simp only at e
 split at e
 case h_2=>simp at e
 rename_i id ver tt
 split at e
 case h_2=>simp at e
 rename_i own u vr xs ho
 split at e
 case h_2=>simp at e
 rename_i hb
 obtain rfl:=Ty.eq_of_beq hb
 refine ⟨_,e,v',w,?_⟩
 obtain ⟨h1,h2,h3,-,h5,a0,cc,rfl,hc,-,-,ha,q,rfl⟩:=hvr
 obtain rfl:=h5 rfl
 obtain ⟨hU,hU0,hvr,r1,r2,r3,r4⟩:=S.objs id _ ho
 rw [Nat.zero_add] at hc
 have hq:0<cc→∃ b o,(g.hd id 0 []).addr=some (b,o)∧q=some (b,o):=by
  intro h
  obtain ⟨b,o,e1,e2⟩:=ha h
  refine ⟨b,o,e1,?_⟩
  cases q with
  | none=>simp at e2
  | some q=>
   simp only [Option.map_some,Option.some.injEq,Addr.mk.injEq,Nat.zero_mul,Nat.add_zero] at e2
   obtain ⟨e3,e4,-⟩:=e2
   rw [← e3,← e4]
 have hnf:id / 1024≠19:=S.nf id (by rw [ho]; simp)
 have hcell:∀ b o,q=some (b,o)→∀ k,k<cc*tt.size→g.lab b (o+k)=some (id,[])∧(w.cell? (ad b (o+k))).isSome=true∧w.frozen? (ad b (o+k))=false:=by
  intro b o hqe k hk
  have hc0:0<cc:=Nat.pos_of_ne_zero (fun h=>by rw [h] at hk; simp at hk)
  obtain ⟨b',o',e1,e2⟩:=hq hc0
  rw [e2] at hqe
  simp only [Option.some.injEq,Prod.mk.injEq] at hqe
  obtain ⟨rfl,rfl⟩:=hqe
  exact (r4 _ _ e1).1 k (by rw [← hc]; exact hk)
 refine ⟨reGh g site (fun _ _=>⟨q,0,cc⟩) (fun _ _=>nilHd) (relab (fun id' _=>id'=id) (site*1024) none1 (fun b o=>∃ o0,q=some (b,o0)∧o0≤o∧o<o0+cc*tt.size) g.lab),U' U site,hrun,?_⟩
 have hR:∀ b o,(∃ o0,q=some (b,o0)∧o0≤o∧o<o0+cc*tt.size)→g.lab b o=some (id,[]):=by
  rintro b o ⟨o0,e1,e2,e3⟩
  have:=(hcell b o0 e1 (o-o0) (by omega)).1
  rwa [show o0+(o-o0)=o by omega] at this
 have hst:∀ {T:Nat→Prop},T id→Stp T g w U (reGh g site (fun _ _=>⟨q,0,cc⟩) (fun _ _=>nilHd) (relab (fun id' _=>id'=id) (site*1024) none1 (fun b o=>∃ o0,q=some (b,o0)∧o0≤o∧o<o0+cc*tt.size) g.lab)) w (U' U site):=by
  intro T hT
  refine Stp_relab hs (fun b o hn v hv=>⟨hv,fun hr=>by rw [hR b o hr] at hn; simp at hn⟩) (fun b o id' p h hT'=>?_)
  have hne:id'≠id:=by rintro rfl; exact hT' hT
  exact ⟨hne,fun hr=>by rw [hR b o hr] at h; simp at h; exact hne h.1.symm,rfl,rfl⟩
 refine ⟨hst (by simp only [look]; split<;>simp),⟨.inr (site_div site),.inl S.u0,.inl S.u0,trivial,fun _=>rfl,?_⟩,fun id' ob hob=>?_,fun s h=>h,fun b o q h=>?_,fun b o q hb h=>?_,Fr.refl _ _,fun id' h=>?_⟩
 ·rw [reGh_root h0]; rfl
 ·simp only [look] at hob
  split at hob
  ·rename_i hb
   obtain rfl:=Nat.eq_of_beq_eq_true hb
   simp only [Option.some.injEq] at hob
   subst hob
   refine ⟨.inr (site_div site),.inl S.u0,.inr rfl,?_⟩
   refine RowR_new (w:=w) (L:=fun _ _=>some (0,[])) (h0:=⟨q,0,cc⟩) _ rfl (reGh_root h0 _) (fun q id p h e=>by simp [none1] at e) (fun q hq e=>rfl) (fun q id p h e=>by simp [none1] at e) (fun b o hl v hv=>by simp at hl) rfl (Nat.zero_le _) (fun h=>?_) (fun b o hb k hk=>?_) (fun b o hb k hk=>by simp at hk)
   ·rcases Nat.eq_zero_or_pos cc with hc0 | hc0
    ·exact hc0
    ·obtain ⟨b,o,-,e2⟩:=hq hc0
     rw [show q=none from h] at e2; simp at e2
   ·obtain ⟨-,a2,a3⟩:=hcell b o hb k hk
    exact ⟨⟨o,hb,by omega,by have hk:k<cc*tt.size:=hk; omega⟩,a2,a3⟩
  ·split at hob<;>simp at hob
 ·rcases reGh_some h with hr | h
  ·exact S.labs _ _ _ (hR _ _ hr)
  ·cases h2:g.lab b o with
   | none=>exact absurd h2 h
   | some q=>exact S.labs _ _ _ h2
 ·rcases reGh_some h with hr | h
  ·rw [hR _ _ hr]; simp
  ·exact h
 ·simp only [look] at h
  split at h
  ·rename_i hb
   obtain rfl:=Nat.eq_of_beq_eq_true hb
   rw [site_div]; rintro rfl; exact hs S.u19
  ·split at h
   ·rename_i hb
    obtain rfl:=Nat.eq_of_beq_eq_true hb
    exact hnf
   ·simp at h
end
end Go.Am
