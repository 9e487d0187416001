/- The abstract machine is right: rows that are made, appended to and written. No condition. -/
import Derived.Test.YtjfaphipihgomaaGreatDoorAmA
import Derived.Lib.AppendZerosOnto
set_option linter.unusedVariables false
set_option linter.unusedSimpArgs false
open Array renaming getElem?_append → Et, getElem?_eq_getElem → qd, getElem?_toList → qe, length_toList → Eu
open Bool renaming and_eq_true → aw
open Go.Builtin renaming append_ → ph, copy_ → Cx, firstCells → Cy, lenOf → Cz, nextslicecap → CA, zeroCells → sE
open Go.Instr renaming buildSlice → Le, storeAt → sj
open Go.World renaming cell?_setCells_in → Ai, cell?_setCells_out → tK, frozen?_setCells → Aj
open List renaming cons_append → oe, eq_nil_of_length_eq_zero → vR, getElem?_append_left → Ev, getElem?_append_right → Ew, getElem?_eq_getElem → dU, getElem?_eq_some_iff → dV, getElem?_map → xV, getElem_append_left → B_, getElem_append_right → Ak, getElem_drop → xF, getElem_map → og, getElem_range → AT, getElem_replicate → Ro, getElem_take → vv, length → lr, length_nil → bh, length_replicate → Rp, map_cons → mL, mem_append_left → kO, mem_append_right → sn, mem_cons_of_mem → jO, mem_iff_getElem → sF, ne_nil_of_length_pos → Lf, nil_append → oh, nodup_cons → pj
open Nat renaming add_assoc → bL, add_comm → HN, add_mul → cY, add_mul_mod_self_right → Rq, add_zero → dW, blt_eq → dJ, div_lt_iff_lt_mul → Rr, eq_of_beq_eq_true → bm, eq_of_mul_eq_mul_right → Rs, eq_zero_or_pos → mM, le_of_ble_eq_true → gh, le_refl → cj, lt_of_lt_of_le → nk, lt_or_ge → jP, mod_eq_of_lt → HO, mul_comm → HP, mul_le_mul_right → fa, ne_of_lt → Lg, zero_add → jB, zero_mul → Ey
open Option renaming map_eq_some_iff → vw, map_some → HQ
open Option.some renaming inj → aW, injEq → aF
open Prod.mk renaming inj → Lh, injEq → bE
open Sigma.mk renaming inj → nU
namespace Go.Am
open Go
theorem Ru (off:Nat):∀ (vs:List Value) (n:Nat) (arr:Array Value),(vs.zipIdx n).foldl (fun (cs:Array Value) (p:Value×Nat)=>cs.setIfInBounds (off+p.2) p.1) arr=(vs.zipIdx n).foldl (fun (cs:Array Value) (p:Value×Nat)=>cs.setIfInBounds (off+p.2) p.1) arr∧
  ((vs.zipIdx n).foldl (fun (cs:Array Value) (p:Value×Nat)=>cs.setIfInBounds (off+p.2) p.1) arr).size=arr.size∧
  ∀ k,((vs.zipIdx n).foldl (fun (cs:Array Value) (p:Value×Nat)=>cs.setIfInBounds (off+p.2) p.1) arr)[k]? = if off+n≤k∧k<off+n+vs.length∧k<arr.size then vs[k-(off+n)]? else arr[k]?
 | [],n,arr=>⟨rfl,rfl,fun k=>by simp; omega⟩
 | v::vs,n,arr=>by
  obtain ⟨-,h1,h2⟩:=Ru off vs (n+1) (arr.setIfInBounds (off+n) v);refine ⟨rfl,by simp only [List.zipIdx_cons,List.foldl_cons]; rw [h1]; simp,fun k=>?_⟩;simp only [List.zipIdx_cons,List.foldl_cons];rw [h2 k];simp only [Array.size_setIfInBounds,Array.getElem?_setIfInBounds];by_cases hk:off+n=k
  ·subst hk;rw [if_neg (by omega),if_pos rfl];by_cases ax:off+n<arr.size
   ·rw [if_pos ax,if_pos (by simp; omega)]; simp
   rw [if_neg ax,if_neg (by omega)]; simp [Array.getElem?_eq_none (Nat.le_of_not_lt ax)]
  rw [if_neg hk];by_cases cC:off+(n+1)≤k∧k<off+(n+1)+vs.length∧k<arr.size
  ·rw [if_pos cC,if_pos (by simp; omega)];rw [show k-(off+n)=(k-(off+(n+1)))+1 by omega]; simp
  rw [if_neg cC,if_neg (by simp; omega)]
section
variable {P:Program} {c:ba} {g:Gh} {w w':World} {U:Nat→Prop} {sr:St} {a:Act} {site:Nat} {o:Oper} {ρ:Type} {r:ρ} {k:cG→Option ρ} {arr:Array Value} {e:TypeId}
theorem Li (S:dp P c g w U sr a) (pl:Nat→Option (Nat×Nat)):∀ (ps:List (Nat×Operand)) (zs cs:List ag) (arr:Array Value),cu g w U zs arr.toList→
  sB pl (ps.map fun p=>(p.1,sr.ev p.2)) zs=some cs→∃ xW,Instr.fill pl arr (ps.map fun p=>(p.1,a.eval p.2))=some xW∧cu g w U cs xW.toList
 | [],zs,cs,arr,hz,h=>by simp only [List.map_nil,sB,aF] at h;subst h;exact ⟨arr,rfl,hz⟩
 | (i,x)::ps,zs,cs,arr,hz,h=>by
  simp only [mL,sB] at h;split at h
  ·rename_i off size fS;split at h
   ·rename_i hb;simp only [aw,Nat.ble_eq] at hb;obtain ⟨⟨gj,dE⟩,xX⟩:=hb;have gj:=bm gj;obtain ⟨hv,-⟩:=AO (S.ev x) dE;have hl:=mI hv;have xY:=mI hz;have bB:(a.eval x).cells.size=size:=by rw [← gj,← hl]; simp
    simp only [Instr.fill,fS,mL,bB,ne_eq,not_true_eq_false,decide_false,Bool.false_or,decide_eq_true_eq];rw [if_neg (by simp at xY; omega)];have Rv:(a.eval x).cells.zipIdx.foldl (fun (cs:Array Value) (p:Value×Nat)=>cs.setIfInBounds (off+p.2) p.1) arr=((a.eval x).cells.toList.zipIdx 0).foldl (fun (cs:Array Value) (p:Value×Nat)=>cs.setIfInBounds (off+p.2) p.1) arr:=by rw [← Array.foldl_toList]; simp
    obtain ⟨-,f1,f2⟩:=Ru off (a.eval x).cells.toList 0 arr;refine Li S pl ps _ cs _ ?_ h;refine vN ?_ ?_
    ·rw [q8,← xY];simp only [Eu];exact Rv▸f1
    intro m h1 h2;rw [q8] at h1;have g1:=HL zs off (sr.ev x).cells m (by omega);rw [dU (by rw [q8]; exact h1)] at g1;have g2:=f2 m;rw [← Rv] at g2;have g3:=dU h2;simp only [qe] at g3;have g4:=g3.symm.trans g2;simp only [dW,Eu] at g4 xY;by_cases cC:off≤m∧m<off+(sr.ev x).cells.length
    ·rw [if_pos cC] at g1;rw [if_pos (by simp only [Eu] at hl; omega)] at g4;obtain ⟨y,h3,h4⟩:=lU hv (m-off) (by omega);rw [h3] at g4;rw [dU (by omega)] at g1;rw [aW g1,aW g4];exact h4
    rw [if_neg cC] at g1;rw [if_neg (by simp only [Eu] at hl; omega)] at g4;obtain ⟨y,h3,h4⟩:=lU hz m h1;rw [qe] at h3;rw [h3] at g4;rw [dU h1] at g1;rw [aW g1,aW g4];exact h4
   simp at h
  simp at h
theorem Y7 (S:dp P c g w U sr a) {t:Nat} {parts:Array (Nat×Operand)} {cs:List ag} (hk:(c.ti t).kind = .struct) (hf:(c.ti t).fields.all (fun f=>Nat.blt 0 (c.ti f.2).size)=true)
  (h:sB (Ch c (c.ti t)) (parts.toList.map fun p=>(p.1,sr.ev p.2)) (c.ti t).zero=some cs) :
  Ok P g w U (.agg cs) (Instr.build t (parts.map fun (i,x)=>(i,a.eval x))):=by
 have hT:=Co S.bw hk (by simp);obtain ⟨z,hz,hr,hv,ti,oi,vS,-⟩:=AS hT;obtain ⟨d,h1,h2,-⟩:=hT.desc;rw [hk] at h2;obtain ⟨fs,rfl,h3⟩:=h2;obtain ⟨xW,h4,h5⟩:=Li S (Ch c (c.ti t)) parts.toList _ cs z.cells (hv g w U) h;have cI:∀ f∈fs.toList,0<(c.ti f.type).size:=by
  intro f Lj;have pk:(f.offset,f.type)∈(c.ti t).fields:=by rw [← h3]; exact List.mem_map_of_mem Lj
  have:=List.all_eq_true.1 hf _ pk;simpa [dJ] using this
 have hm:∀ (l:List Field),(∀ f∈l,0<(c.ti f.type).size)→l.mapM (fun f=>(P.info? f.type).map fun i=>(f.offset,i.size))=some (l.map fun f=>(f.offset,(c.ti f.type).size)):=by
  intro l;induction l with
  | nil=>intro _; rfl
  | cons f l ih=>
   intro hl;obtain ⟨i,e1,e2,-⟩:=(oa S.bw (.inl (hl f (by simp)))).info;simp [List.mapM_cons,e1,e2,ih (fun f hf=>hl f (by simp [hf]))]
 have fS:(fun (n:Nat)=>(fs.toList.map fun f=>(f.offset,(c.ti f.type).size))[n]?)=Ch c (c.ti t):=by funext n;unfold Ch;rw [← h3];simp only [xV,qe];cases fs[n]?<;>rfl
 have hb:P.built t (parts.map fun (i,x)=>(i,a.eval x)).toList=some xW:=by
  unfold Program.built;rw [oi,h1];simp only [vS,hm fs.toList cI];have e1:(fun (n:Nat)=>(fs.toList.map fun f=>(f.offset,(c.ti f.type).size)).toArray[n]?)=Ch c (c.ti t):=by rw [← fS]; funext n; simp
  rw [e1,← h4];simp
 exact ⟨.agg xW,run_build w t _ _ hb,xW.toList,by simp,h5⟩
theorem Lk (n:Nat) (cs:List ag):(vF n cs).length=n*cs.length:=by simp [vF]
theorem Y8 (n:Nat) (cs:List ag):∀ k,k<n*cs.length→(vF n cs)[k]? = cs[k % cs.length]?:=by
 induction n with
 | zero=>intro k hk; omega
 | succ n ih=>
  intro k hk;have e:vF (n+1) cs=cs++vF n cs:=by simp [vF,List.replicate_succ]
  rw [e];by_cases ax:k<cs.length
  ·rw [Ev ax,HO ax]
  rw [Ew (by omega),ih (k-cs.length) (by rw [cY] at hk; omega)];rw [← Nat.mod_eq_sub_mod (by omega)]
theorem Y9 {n:Nat} {zs:List ag} {z:Array Value} (h:cu g w U zs z.toList) (hp:0<zs.length) :
  cu g w U (vF n zs) ((Array.range (n*zs.length)).map (z[· % z.size]!)).toList:=by
 have hl:=mI h;simp only [Eu] at hl;refine vN (by simp [Lk]) (fun k h1 h2=>?_);have h3:=Y8 n zs k (by rw [Lk] at h1; exact h1);have hm:k % zs.length<zs.length:=Nat.mod_lt _ hp;obtain ⟨y,h4,h5⟩:=lU h (k % zs.length) hm;rw [dU h1,dU hm] at h3;rw [aW h3];have h6:z[k % z.size]! = y:=by rw [hl];simp only [qe] at h4;rw [getElem!_def,h4]
 simp only [Array.toList_map,Array.toList_range,og,AT];rw [h6]; exact h5
theorem Za (S:dp P c g w U sr a) (hs:¬ U site) {t len:Nat} {parts:Array (Nat×Operand)} {cs:List ag} (hk:(c.ti t).kind = .slice) (he:0<(c.ti (c.ti t).elem).size)
  (hlen:len*(c.ti (c.ti t).elem).size≤100000)
  (h:sB (fun n=>some (n*(c.ti (c.ti t).elem).size,(c.ti (c.ti t).elem).size)) (parts.toList.map fun p=>(p.1,sr.ev p.2)) (vF len (c.ti (c.ti t).elem).zero)=some cs) :
  ∃ v w' g' U',(Le t len (parts.map fun (i,x)=>(i,a.eval x))).run P w = .ok v w'∧
   dL g w U site ⟨.fB (site*1024) 0 len (c.ti (c.ti t).elem).size,[(site*1024,some (.cells [] cs))]⟩ v w' g' U':=by
 have hd:=sC S.bw hk;have hT:=oa S.bw (.inl he);obtain ⟨z,hz,hr,hv,-⟩:=AS hT;have xY:(c.ti (c.ti t).elem).zero.length=(c.ti (c.ti t).elem).size:=by have:=mI (hv g w U); rw [← this,← hz]; simp
 have Ll:=Y9 (n:=len) (z:=z.cells) (hv g w U) (by omega);rw [xY] at Ll;obtain ⟨xW,h4,h5⟩:=Li S _ parts.toList _ cs _ Ll h;have eO:cs.length=len*(c.ti (c.ti t).elem).size:=by
  have:∀ (ps:List (Nat×ag)) (zs cs:List ag),sB (fun n=>some (n*(c.ti (c.ti t).elem).size,(c.ti (c.ti t).elem).size)) ps zs=some cs→cs.length=zs.length:=by
   intro ps;induction ps with
   | nil=>intro zs cs h; simp [sB] at h; rw [h]
   | cons p ps ih=>
    intro zs cs h;simp only [sB] at h;split at h
    ·rw [ih _ _ h,q8]
    simp at h
  rw [this _ _ _ h,Lk,xY]
 have B:=Er w xW (c.ti t).elem;obtain ⟨g',U',hp⟩:=Cw S hs B h5 (x:=.fB (site*1024) 0 len (c.ti (c.ti t).elem).size) (v:=.slice (some (ad w.heap.size 0)) len len)
  (fun g' hg=>⟨.inr (j9 site),.inl S.u0,_,_,rfl,cj _,by rw [hg]; simp [eO],_,_,by rw [hg],by simp⟩)
 refine ⟨_,_,g',U',?_,hp⟩;have Rw:(parts.map fun (i,x)=>(i,a.eval x)).toList=parts.toList.map fun p=>(p.1,a.eval p.2):=by simp
 by_cases h0:len*(c.ti (c.ti t).elem).size=0
 ·have Zb:((Array.range (len*(c.ti (c.ti t).elem).size)).map (z.cells[· % z.cells.size]!)) = #[]:=by rw [h0]; simp [Array.range_zero']
  rw [Zb] at h4;have aA:¬ (len*(c.ti (c.ti t).elem).size>2 ^ 24):=by omega
  simp only [Le,Sem.run_bind,run_underlying hd,xP hT,Result.andThen_ok,Sem.run_ite,aA,if_false,h0,if_true,Sem.run_pure,Rw];simp [h4,newRow,Array.range_zero']
 have aA:¬ (len*(c.ti (c.ti t).elem).size>2 ^ 24):=by omega
 simp only [Le,Sem.run_bind,run_underlying hd,xP hT,Result.andThen_ok,Sem.run_ite,aA,if_false,h0,Sem.run_pure,hr,Rw];simp [h4,newRow]
end
end Go.Am
namespace Go.Am
open Go
open Classical in
noncomputable def jI (D:Nat→Path→Prop) (N:Nat) (σ:Src) (Rt:Nat→Nat→Prop) (l:bW):bW:=fun b o=>
 if Rt b o then some (N,[]) else match l b o with
  | none=>none
  | some (id,p)=>if D id p then (if h:∃ q hd,σ q=some (id,p,hd) then some (N,h.choose) else none) else some (id,p)
section
variable {D:Nat→Path→Prop} {N:Nat} {σ:Src} {Rt:Nat→Nat→Prop} {l:bW} {b o:Nat}
theorem Zc (h:Rt b o):jI D N σ Rt l b o=some (N,[]):=by simp [jI,h]
theorem CB (h:l b o=none) (hr:¬ Rt b o):jI D N σ Rt l b o=none:=by simp [jI,h,hr]
theorem Rx {id:Nat} {p:Path} (h:l b o=some (id,p)) (hr:¬ Rt b o) (hd:¬ D id p):jI D N σ Rt l b o=some (id,p):=by simp [jI,h,hr,hd]
theorem Zd {id:Nat} {p q:Path} {hh:Hd} (h:l b o=some (id,p)) (hr:¬ Rt b o) (hd:D id p) (fv:σ q=some (id,p,hh)) (hi:∀ q' h',σ q'=some (id,p,h')→q'=q) :
  jI D N σ Rt l b o=some (N,q):=by
 have hex:∃ q hd,σ q=some (id,p,hd):=⟨q,hh,fv⟩
 simp only [jI,hr,if_false,h,hd,if_true,hex,dif_pos];obtain ⟨h',hc⟩:=hex.choose_spec;rw [hi _ _ hc]
theorem Ry {id:Nat} {p:Path} (h:l b o=some (id,p)) (hr:¬ Rt b o) (hd:D id p) (fv:∀ q h',σ q≠some (id,p,h')):jI D N σ Rt l b o=none:=by have hex:¬ ∃ q hd,σ q=some (id,p,hd):=fun ⟨q,hh,e⟩=>fv q hh e;simp only [jI,hr,if_false,h,hd,if_true,hex,dif_neg,not_false_eq_true]
theorem Ze {q:Nat×Path} (h:jI D N σ Rt l b o=some q):Rt b o∨l b o≠none:=by
 by_cases hr:Rt b o
 ·exact .inl hr
 refine .inr (fun hn=>?_);rw [CB hn hr] at h; simp at h
end
section
variable {P:Program} {c:ba} {g:Gh} {L:bW} {w w':World} {U:Nat→Prop} {sr:St} {a:Act} {site:Nat} {o:Oper} {ρ:Type} {r:ρ} {k:cG→Option ρ} {D:Nat→Path→Prop} {N:Nat} {σ:Src} {Rt:Nat→Nat→Prop} {R H:Nat→Path→Hd}
theorem t_ {l:bW} {b o:Nat} {q:Nat×Path} (h:(ja g site R H (jI D N σ Rt l)).lab b o=some q):Rt b o∨l b o≠none:=Ze h
theorem Ez {T:Nat→Prop} (hs:¬ U site) (h1:∀ b o,g.lab b o=none→∀ v,w.cell? (ad b o)=some v→w'.cell? (ad b o)=some v∧¬ Rt b o)
  (h2:∀ b o id p,g.lab b o=some (id,p)→¬ T id→¬ D id p∧¬ Rt b o∧w'.cell? (ad b o)=w.cell? (ad b o)∧w'.frozen? (ad b o)=w.frozen? (ad b o)) :
  eJ T g w U (ja g site R H (jI D N σ Rt g.lab)) w' (U' U site):=by
 refine ⟨fun s h=>.inl h,fun id ver p a1 a2=>Lb hs a1 a2,fun b o hn v hv=>?_,fun b o id p h hT=>?_⟩
 ·obtain ⟨a1,a2⟩:=h1 b o hn v hv;exact ⟨a1,CB hn a2⟩
 obtain ⟨a1,a2,a3,a4⟩:=h2 b o id p h hT;exact ⟨Rx h a2 a1,a3,a4⟩
theorem EA {own:Bool} {t:Ty} {xs:List t.T} {h0:Hd} (g':Gh) (hg:g'=ja g site R H (jI D N σ Rt g.lab)) (pn:g'.hd N 0 []=h0)
  (hH:∀ q id p h,σ q=some (id,p,h)→H N q=h) (Zf:∀ q,q≠[]→σ q=none→H N q=dX)
  (xZ:∀ q id p h,σ q=some (id,p,h)→D id p∧(∀ q' h',σ q'=some (id,p,h')→q'=q)∧∀ b o,g.lab b o=some (id,p)→¬ Rt b o∧w'.cell? (ad b o)=w.cell? (ad b o)∧w'.frozen? (ad b o)=w.frozen? (ad b o))
  (hL:∀ b o,L b o=none→∀ v,w.cell? (ad b o)=some v→w'.cell? (ad b o)=some v∧jI D N σ Rt g.lab b o=none)
  (hlen:h0.len=xs.length) (fu:h0.len≤h0.cap) (ua:h0.addr=none→h0.cap=0)
  (jb:∀ b o,h0.addr=some (b,o)→∀ k,k<h0.cap*t.size→Rt b (o+k)∧(w'.cell? (ad b (o+k))).isSome=true∧w'.frozen? (ad b (o+k))=false)
  (hx:∀ b o,h0.addr=some (b,o)→∀ k (hk:k<xs.length),cQ g L w own σ t [] k 0 xs[k] (fun d=>w'.cell? (ad b (o+k*t.size+d)))) :
  eN g' w' own N 0 site t cP [] xs:=by
 subst hg;unfold eN;rw [pn];refine ⟨hlen,fu,ua,fun b o hb=>⟨fun k hk=>?_,fun k hk=>?_⟩⟩
 ·obtain ⟨a1,a2,a3⟩:=jb b o hb k hk;exact ⟨Zc a1,a2,a3⟩
 have Rn:Ren g L w (ja g site R H (jI D N σ Rt g.lab)) w' σ N site:=by
  refine ⟨fun q id p h e=>?_,fun q hq e=>?_,fun q id p h b o e hl=>?_,fun b o hl v hv=>hL b o hl v hv⟩
  ·rw [Ld]; exact hH q id p h e
  ·rw [Ld]; exact Zf q hq e
  obtain ⟨a1,a2,a3⟩:=xZ q id p h e;obtain ⟨a4,a5,a6⟩:=a3 b o hl;exact ⟨Zd hl a4 a1 e a2,a5,a6⟩
 exact AI Rn t [] k 0 _ _ b (o+k*t.size) (fun d hd=>rfl) (hx b o hb k hk)
theorem HS {own:Bool} {g0:Gh} {w0:World} {U0:Nat→Prop} : ∀ (t:Ty) (q:Path) (i j:Nat) (l:List Value) (f:Nat→Option Value),cu g0 w0 U0 (AE t) l→(∀ k,k<t.size→f k=l[k]?)→cQ g L w own ca t q i j t.zero f
 | .int k,q,i,j,l,f,h,hf=>by obtain ⟨x,r,rfl,rfl,rfl⟩:=h; exact (hf 0 (by simp [Ty.size])).trans rfl
 | .bool,q,i,j,l,f,h,hf=>by obtain ⟨x,r,rfl,rfl,rfl⟩:=h; exact (hf 0 (by simp [Ty.size])).trans rfl
 | .str,q,i,j,l,f,h,hf=>by obtain ⟨x,r,rfl,rfl,rfl⟩:=h; exact (hf 0 (by simp [Ty.size])).trans rfl
 | .err,q,i,j,l,f,h,hf=>by obtain ⟨x,r,rfl,h1,rfl⟩:=h; exact ⟨x,(hf 0 (by simp [Ty.size])).trans rfl,h1⟩
 | .bQ t,q,i,j,l,f,h,hf=>by obtain ⟨x,r,rfl,rfl,rfl⟩:=h;exact ⟨_,(hf 0 (by simp [Ty.size])).trans rfl,⟨none,0,0,rfl,rfl,cj _,fun _=>rfl,fun hn=>absurd rfl hn⟩,⟨fun _=>⟨0,0,rfl⟩,fun _=>rfl⟩⟩
 | .sl t,q,i,j,l,f,h,hf=>by
  obtain ⟨x,r,rfl,rfl,rfl⟩:=h;have h0:=(hf 0 (by simp [Ty.size])).trans rfl;cases own with
  | true=>exact .inr ⟨rfl,h0,rfl⟩
  | false=>exact ⟨_,h0,none,0,0,rfl,rfl,cj _,fun _=>rfl,fun hn=>absurd rfl hn⟩
 | .pair s t,q,i,j,l,f,h,hf=>by
  have xY:∀ t:Ty,(AE t).length=t.size:=by
   intro t;induction t with
   | pair a b ia ib=>simp [AE,Ty.size,ia,ib]
   | _=>rfl
  have Zg:∀ (xs ys:List ag) (l:List Value),cu g0 w0 U0 (xs++ys) l→cu g0 w0 U0 xs (l.take xs.length)∧cu g0 w0 U0 ys (l.drop xs.length):=by
   intro xs;induction xs with
   | nil=>intro ys l h; exact ⟨rfl,h⟩
   | cons x xs ih=>
    intro ys l h;obtain ⟨y,r,rfl,h1,h2⟩:=h;obtain ⟨h3,h4⟩:=ih ys r h2;exact ⟨⟨y,_,rfl,h1,h3⟩,h4⟩
  obtain ⟨h1,h2⟩:=Zg _ _ _ h;rw [xY] at h1 h2;refine ⟨HS s q i j _ f h1 (fun k hk=>?_),HS t q i (j+s.size) _ _ h2 (fun k hk=>?_)⟩
  ·rw [hf k (by simp [Ty.size]; omega),List.getElem?_take,if_pos hk]
  rw [hf _ (by simp [Ty.size]; omega),List.getElem?_drop]
theorem Zh {ow:Bool} (S:dp P c g w U sr a) (hs:¬ U site) {t:Nat} {e:Ty} {kl kc:IntKind} {n:Int} (hk:(c.ti t).kind = .slice) (he:(c.ti (c.ti t).elem).ty=some e) (hb:0<(c.ti (c.ti t).elem).bytes)
  (hn:0≤n∧n*((c.ti (c.ti t).elem).bytes:Int)≤(bo:Int)) :
  ∃ v w' g' U',(Instr.makeSlice t (.int kl n) (.int kc n)).run P w = .ok v w'∧
   dL g w U site ⟨.own (site*1024) 0 [] e,[(site*1024,some (.row ow e site (List.replicate n.toNat e.zero)))]⟩ v w' g' U':=by
 have h0:site≠0:=by rintro rfl; exact hs S.u0
 have hd:=sC S.bw hk;have hT:nu P (c.ti t).elem (c.ti (c.ti t).elem):=by
  unfold ba.ti at he ⊢;generalize (match look c.bw t with | some i=>i | none=>(⟨false,0,0,[],.other,0,none,[],false⟩:mD)).elem=x at he ⊢;cases e2:look c.bw x with
  | none=>rw [e2] at he; simp at he
  | some i=>exact S.bw x i e2
 obtain ⟨pg,iI⟩:=hT.ty e he;obtain ⟨z,hz,hr,hv,ti,oi,vS,gn,ub⟩:=AS hT;have fw:=e.size_pos;have qc:z.cells.size=e.size:=by rw [hz,iI]
 have Rz:(bo:Int)=140737488355328:=rfl;have hle:n*1≤n*((c.ti (c.ti t).elem).bytes:Int):=Int.mul_le_mul_of_nonneg_left (by omega) hn.1;have df:=run_make (P:=P) w t (c.ti t).elem ti z hd oi vS kl kc n n hn.1 (Int.le_refl _) (by rw [ub];have:((c.ti (c.ti t).elem).bytes:Int)*n=n*((c.ti (c.ti t).elem).bytes:Int):=Int.mul_comm _ _;omega) (by omega);have B:=Er w (madeCells z.cells (n.toNat*ti.size)) (c.ti t).elem;have bB:ti.size=e.size:=by rw [gn,iI]
 rw [bB] at df B;refine ⟨_,_,ja g site (fun _ _=>⟨some (w.heap.size,0),n.toNat,n.toNat⟩) (fun _ _=>dX) (jI (fun _ _=>False) (site*1024) ca (fun b o=>b=w.heap.size∧o<n.toNat*e.size) g.lab),U' U site,df,?_⟩;have EB:∀ b o,g.lab b o=none→∀ v,w.cell? (ad b o)=some v→(w.alloc (.cells (madeCells z.cells (n.toNat*e.size)) (c.ti t).elem)).cell? (ad b o)=some v∧¬ (b=w.heap.size∧o<n.toNat*e.size):=by intro b o hl v hv;have:=AQ hv;exact ⟨by rw [B.cB (by omega)]; exact hv,by omega⟩
 have dz:∀ {T:Nat→Prop},eJ T g w U (ja g site (fun _ _=>⟨some (w.heap.size,0),n.toNat,n.toNat⟩) (fun _ _=>dX) (jI (fun _ _=>False) (site*1024) ca (fun b o=>b=w.heap.size∧o<n.toNat*e.size) g.lab)) (w.alloc (.cells (madeCells z.cells (n.toNat*e.size)) (c.ti t).elem)) (U' U site):=
  Ez hs EB (fun b o id p h _=>by have:=S.b9 _ _ _ h;exact ⟨fun h=>h,by omega,B.cB (by omega) o,B.Es (by omega) o⟩)
 refine ⟨dz,⟨.inr (j9 site),.inl S.u0,.inl S.u0,trivial,fun _=>rfl,?_⟩,fun id ob bD=>?_,fun s h=>h,fun b o q h=>?_,fun b o q hb h=>?_,B.fr _,fun id h=>by rw [Cu h,j9]; rintro rfl; exact hs S.AD⟩
 ·rw [tZ h0]; rfl
 ·simp only [look] at bD;split at bD
  ·rename_i hb;obtain rfl:=bm hb;simp only [aF] at bD;subst bD;refine ⟨.inr (j9 site),.inl S.u0,.inr rfl,?_⟩;refine EA (w:=w) (L:=g.lab) (h0:=⟨some (w.heap.size,0),n.toNat,n.toNat⟩) _ rfl (tZ h0 _) (fun q id p h e=>by simp [ca] at e) (fun q hq e=>rfl) (fun q id p h e=>by simp [ca] at e) (fun b o hl v hv=>?_) (by simp) (cj _) (by simp) (fun b o hb k hk=>?_) (fun b o hb k hk=>?_)
   ·obtain ⟨a1,a2⟩:=EB b o hl v hv;exact ⟨a1,CB hl a2⟩
   ·simp only [aF,bE] at hb;obtain ⟨rfl,rfl⟩:=hb;refine ⟨⟨rfl,by simpa using hk⟩,?_,B.HM _⟩;rw [B.new,qd (by rw [size_madeCells]; simpa using hk)]; rfl
   simp only [aF,bE] at hb;obtain ⟨rfl,rfl⟩:=hb;simp only [Rp] at hk;rw [Ro];have uc:=hv g w U;rw [pg] at uc;refine HS e [] k 0 z.cells.toList _ uc (fun d hd=>?_);have ax:k*e.size+d<n.toNat*e.size:=by have:(k+1)*e.size≤n.toNat*e.size:=fa _ hk;rw [cY] at this; omega
   rw [B.new];simp only [madeCells,Array.getElem?_map,jB];rw [Array.getElem?_range,if_pos ax];simp only [HQ];rw [qc,show (k*e.size+d) % e.size=d by rw [HP,Nat.mul_add_mod,HO hd]];rw [getElem!_def,qe];have:d<z.cells.size:=by omega
   rw [qd this]
  simp [look] at bD
 ·rw [B.size];rcases t_ h with ⟨rfl,-⟩ | h
  ·omega
  cases h2:g.lab b o with
  | none=>exact absurd h2 h
  | some q=>have:=S.b9 _ _ _ h2; omega
 rcases t_ h with ⟨rfl,-⟩ | h
 ·omega
 exact h
end
end Go.Am
namespace Go.Am
open Go
inductive Zi (P:Program) (w:World) (size:Nat) (e:TypeId) (h:Hd) (olds news:List Value) (m:Nat) (s:Sem Value):Prop
 | room (b o:Nat) (ha:h.addr=some (b,o)) (hr:h.len+m≤h.cap) (hs:s.run P w = .ok (.slice (some (ad b o)) (h.len+m) h.cap) (w.setCells b (o+h.len*size) news))
 | nil (ha:h.addr=none) (hm:m=0) (hl:h.len=0) (hs:s.run P w = .ok (.slice none 0 0) w)
 | grow (cap:Nat) (arr:Array Value) (w':World) (B:kt w w' arr e) (hc:h.len+m≤cap) (ha:arr.size=cap*size) (hl:∃ rest,arr.toList=olds++news++rest) (hs:s.run P w = .ok (.slice (some (ad w.heap.size 0)) (h.len+m) cap) w')
theorem Lm {P:Program} {w:World} {size m xc:Nat} {xa:Option Addr} {news:List Value} (hl:news.length=m*size) (hx:0<m→∃ b o,xa=some (ad b o)∧∀ j u,news[j]? = some u→w.cell? (ad b (o+j))=some u) :
  (Cy size m (.slice xa m xc)).run P w = .ok news.toArray w:=by
 rcases mM m with rfl | hm
 ·have:news=[]:=vR (by simpa using hl);subst this;cases xa<;>simp [Cy,loadCells,loadCellsFrom]
 obtain ⟨b,o,rfl,hj⟩:=hx hm;exact run_firstCells_some w size m (ad b o) m xc news hl (fun j v hv=>by rw [Addr.add_lit]; exact hj j v hv)
theorem RA {P:Program} {w:World} {t ty e:TypeId} {i:TypeInfo} {z:Value} (ht:P.underlying t=some (.slice e)) (hi:P.info? e=some i) (hz:i.zero=some z) (qc:z.cells.size=i.size) (ku:0<i.bytes)
  {h:Hd} {olds news:List Value} {xa:Option Addr} {m xc:Nat} (hc:h.len≤h.cap) (hn:h.addr=none→h.cap=0) (sG:olds.length=h.len*i.size)
  (ho:∀ b o,h.addr=some (b,o)→(∀ j u,olds[j]? = some u→w.cell? (ad b (o+j))=some u)∧∀ k,k<h.cap*i.size→(w.cell? (ad b (o+k))).isSome=true∧w.frozen? (ad b (o+k))=false)
  (hl:news.length=m*i.size) (hx:0<m→∃ b o,xa=some (ad b o)∧∀ j u,news[j]? = some u→w.cell? (ad b (o+j))=some u) (h1:∀ u∈news,u.oneCell'=true) (po:(h.len+m)*i.bytes≤bo) :
  Zi P w i.size e h olds news m (ph #[t,t] ty #[h.val,.slice xa m xc]):=by
 have Rz:bo=140737488355328:=rfl;have hle:(h.len+m)*1≤(h.len+m)*i.bytes:=Nat.mul_le_mul_left _ ku;have hf:=Lm (P:=P) (xc:=xc) hl hx;have HT:(Cy i.size m (.slice xa m xc)).run P w.drew = .ok news.toArray w.drew:=Lm hl hx;by_cases AU:h.len+m≤h.cap
 ·cases ha:h.addr with
  | none=>
   have fu:=hn ha;have hm:m=0:=by omega
   have hlen:h.len=0:=by omega
   refine .nil ha hm hlen ?_;have hv:h.val = .slice none 0 0:=by simp [Hd.val,ha,hlen,fu]
   subst hm;have aA:news=[]:=vR (by simpa using hl);subst aA;rw [hv];simp [ph,run_underlying ht,sizeOf,typeInfo,hi,Cz,hf]
  | some a=>
   obtain ⟨b,o⟩:=a;refine .room b o ha AU ?_;have hv:h.val = .slice (some (ad b o)) h.len h.cap:=by simp [Hd.val,ha]
   obtain ⟨-,jb⟩:=ho b o ha;have Zj:h.len*i.size+news.length≤h.cap*i.size:=by rw [hl,← cY]; exact fa _ AU
   have dz:=run_storeCells_cells (P:=P) b (o+h.len*i.size) news 0 w (fun j hj=>by rw [dW,bL]; exact (jb _ (by omega)).1) (fun j hj=>by rw [dW,bL]; exact (jb _ (by omega)).2) h1;rw [hv];simp [ph,run_underlying ht,sizeOf,typeInfo,hi,Cz,AU,hf,Addr.add_lit];simp at dz;rw [dz];rfl
 have hm:0<m:=by omega
 have Zk:CA (h.len+m) h.cap≤2*(h.len+m):=nextslicecap_le (by omega);have h48:CA (h.len+m) h.cap*i.bytes≤281474976710656:=by have:CA (h.len+m) h.cap*i.bytes≤(2*(h.len+m))*i.bytes:=fa _ Zk;rw [Nat.mul_assoc] at this;omega
 have CC:=grownCap_ge w (h.len+m) h.cap e;have p9:(Cy i.size h.len h.val).run P w.drew = .ok olds.toArray w.drew:=by
  refine Lm sG (fun hp=>?_);cases ha:h.addr with
  | none=>have:=hn ha; omega
  | some a=>obtain ⟨b,o⟩:=a; exact ⟨b,o,by simp,(ho b o ha).1⟩
 refine .grow (grownCap w (h.len+m) h.cap e) (olds.toArray++(news.toArray++sE z.cells (grownCap w (h.len+m) h.cap e-(h.len+m)))) _ (Rm w _ e) CC ?_ ⟨_,by simp; rfl⟩ ?_
 ·simp only [Array.size_append,List.size_toArray,size_zeroCells,qc,sG,hl];rw [← bL,← cY,← cY];congr 1; omega
 have fC:¬ (h.len+m≤h.cap):=AU;have Zl:¬ (9223372036854775807<((h.len:Int)+(m:Int))):=by omega
 have Zm:¬ (281474976710656<CA (h.len+m) h.cap*i.bytes):=by omega
 have hv:h.val = .slice (h.addr.map fun p=>ad p.1 p.2) h.len h.cap:=rfl;rw [hv] at p9 ⊢;simp [ph,run_underlying ht,sizeOf,typeInfo,zeroValue,hi,hz,Cz,fC,Zl,Zm,Question.forced,HT,p9,newRow,grownCap]
section
variable {P:Program} {c:ba} {g:Gh} {L:bW} {w w':World} {U:Nat→Prop} {sr:St} {a:Act} {site:Nat} {o:Oper} {ρ:Type} {r:ρ} {k:cG→Option ρ} {σ:Src}
theorem HU {own:Bool} : ∀ (t:Ty) (q:Path) (i j:Nat) (x:t.T) (f:Nat→Option Value),cQ g L w own σ t q i j x f→∀ k,k<t.size→∃ v,f k=some v∧v.oneCell'=true
 | .int _,q,i,j,x,f,h,k,hk=>by
  have:k=0:=by simp [Ty.size] at hk; exact hk
  subst this; exact ⟨_,h,rfl⟩
 | .bool,q,i,j,x,f,h,k,hk=>by
  have:k=0:=by simp [Ty.size] at hk; exact hk
  subst this; exact ⟨_,h,rfl⟩
 | .str,q,i,j,x,f,h,k,hk=>by
  have:k=0:=by simp [Ty.size] at hk; exact hk
  subst this; exact ⟨_,h,rfl⟩
 | .err,q,i,j,x,f,h,k,hk=>by
  have:k=0:=by simp [Ty.size] at hk; exact hk
  subst this;obtain ⟨v,h1,h2⟩:=h;refine ⟨v,h1,?_⟩;rcases AF h2 with ⟨-,rfl⟩ | ⟨-,ti,x,rfl⟩<;>rfl
 | .bQ _,q,i,j,x,f,h,k,hk=>by
  have:k=0:=by simp [Ty.size] at hk; exact hk
  subst this;obtain ⟨v,h1,⟨_,_,_,rfl,-⟩,-⟩:=h;exact ⟨_,h1,rfl⟩
 | .sl _,q,i,j,x,f,h,k,hk=>by
  have:k=0:=by simp [Ty.size] at hk; exact hk
  subst this;cases own with
  | false=>obtain ⟨v,h1,_,_,_,rfl,-⟩:=h; exact ⟨_,h1,rfl⟩
  | true=>
   rcases h with ⟨_,_,_,-,h1,-⟩ | ⟨-,h1,-⟩
   ·exact ⟨_,h1,rfl⟩
   exact ⟨_,h1,rfl⟩
 | .pair s t,q,i,j,x,f,h,k,hk=>by
  by_cases hs:k<s.size
  ·exact HU s q i j x.1 f h.1 k hs
  obtain ⟨v,h1,h2⟩:=HU t q i (j+s.size) x.2 _ h.2 (k-s.size) (by simp [Ty.size] at hk; omega);exact ⟨v,by rw [show s.size+(k-s.size)=k by omega] at h1; exact h1,h2⟩
theorem HV {own:Bool} {lab:bW} : ∀ (t:Ty) (q:Path) (i j:Nat) (x:t.T) (b o:Nat),t.plain=true→Sh lab w t x b o→cQ g L w own ca t q i j x (fun d=>w.cell? (ad b (o+d)))
 | .int _,q,i,j,x,b,o,hp,h=>h.1
 | .bool,q,i,j,x,b,o,hp,h=>h.1
 | .str,q,i,j,x,b,o,hp,h=>h.1
 | .err,q,i,j,x,b,o,hp,h=>h.1
 | .bQ _,q,i,j,x,b,o,hp,h=>by simp [Ty.plain] at hp
 | .sl _,q,i,j,x,b,o,hp,h=>by simp [Ty.plain] at hp
 | .pair s t,q,i,j,x,b,o,hp,h=>by simp only [Ty.plain,aw] at hp;refine ⟨HV s q i j x.1 b o hp.1 h.1,?_⟩;have:cQ g L w own ca t q i (j+s.size) x.2 (fun d=>w.cell? (ad b (o+s.size+d))):=HV t q i (j+s.size) x.2 b (o+s.size) hp.2 h.2;simpa [bL] using this
theorem HW {own tX:Bool} {id vr:Nat} {p:Path} : ∀ (t:Ty) (q:Path) (i j i' j':Nat) (x:t.T) (b o:Nat),t.plain=true→dK g w tX id vr t cP p i' j' x b o→cQ g L w own ca t q i j x (fun d=>w.cell? (ad b (o+d)))
 | .int _,q,i,j,i',j',x,b,o,hp,h=>h
 | .bool,q,i,j,i',j',x,b,o,hp,h=>h
 | .str,q,i,j,i',j',x,b,o,hp,h=>h
 | .err,q,i,j,i',j',x,b,o,hp,h=>h
 | .bQ _,q,i,j,i',j',x,b,o,hp,h=>by simp [Ty.plain] at hp
 | .sl _,q,i,j,i',j',x,b,o,hp,h=>by simp [Ty.plain] at hp
 | .pair s t,q,i,j,i',j',x,b,o,hp,h=>by simp only [Ty.plain,aw] at hp;refine ⟨HW s q i j i' j' x.1 b o hp.1 h.1,?_⟩;have:cQ g L w own ca t q i (j+s.size) x.2 (fun d=>w.cell? (ad b (o+s.size+d))):=HW t q i (j+s.size) i' (j'+s.size) x.2 b (o+s.size) hp.2 h.2;simpa [bL] using this
theorem HX {lab:bW} (hL:∀ b o,lab b o=none→L b o=none):∀ (t:Ty) (q:Path) (i j:Nat) (x:t.T) (b o:Nat),Sh lab w t x b o→cQ g L w false ca t q i j x (fun d=>w.cell? (ad b (o+d)))
 | .int _,q,i,j,x,b,o,h=>h.1
 | .bool,q,i,j,x,b,o,h=>h.1
 | .str,q,i,j,x,b,o,h=>h.1
 | .err,q,i,j,x,b,o,h=>h.1
 | .bQ t,q,i,j,x,b,o,h=>by obtain ⟨⟨v,h1,h2,h3⟩,-⟩:=h;exact ⟨v,h1,ix (gb (fun b o hl v hv=>⟨hv,hL b o hl⟩) t) h2,h3⟩
 | .sl t,q,i,j,x,b,o,h=>by obtain ⟨⟨v,h1,h2⟩,-⟩:=h;exact ⟨v,h1,ix (gb (fun b o hl v hv=>⟨hv,hL b o hl⟩) t) h2⟩
 | .pair s t,q,i,j,x,b,o,h=>by refine ⟨HX hL s q i j x.1 b o h.1,?_⟩;have:cQ g L w false ca t q i (j+s.size) x.2 (fun d=>w.cell? (ad b (o+s.size+d))):=HX hL t q i (j+s.size) x.2 b (o+s.size) h.2;simpa [bL] using this
structure vT (g:Gh) (L:bW) (w:World) (own:Bool) (t:Ty) (i0:Nat) (vx:Value) (ys:List t.T) (v:List Nat) (σ:Src):Prop where
 sl:∃ xa xc,vx = .slice xa ys.length xc∧(0<ys.length→∃ b o,xa=some (ad b o)∧∀ k (hk:k<ys.length),cQ g L w own σ t [] (i0+k) 0 ys[k] (fun d=>w.cell? (ad b (o+k*t.size+d))))
 nA:HG [] i0 ys.length σ
 tk:Tk v σ
theorem RB (hO:fq g w U sr) {x:ag} {vx:Value} (hx:aV g w U x vx) {u:Ty} {xs:List u.T} (e:sr.list x=some ⟨u,xs⟩) :
  ∃ xa xc,vx = .slice xa xs.length xc∧(0<xs.length→∃ b o,xa=some (ad b o)∧∀ k (hk:k<xs.length),Sh g.lab w u xs[k] b (o+k*u.size)∨∃ tX id vr p k',dK g w tX id vr u cP p k' 0 xs[k] b (o+k*u.size)):=by
 unfold St.list at e;split at e
 ·simp only [aF] at e;obtain ⟨rfl,e⟩:=nU e;obtain rfl:=eq_of_heq e;obtain ⟨a,len,cap,rfl,rfl,h2,h3,h4⟩:=hx;refine ⟨a,cap,rfl,fun hp=>?_⟩;obtain ⟨b,o,rfl,h5⟩:=h4 (Lf hp);exact ⟨b,o,rfl,fun k hk=>.inl (h5 k hk)⟩
 ·simp only [aF] at e;obtain ⟨rfl,e⟩:=nU e;obtain rfl:=eq_of_heq e;obtain ⟨⟨a,len,cap,rfl,rfl,h2,h3,h4⟩,-⟩:=hx;refine ⟨a,cap,rfl,fun hp=>?_⟩;obtain ⟨b,o,rfl,h5⟩:=h4 (Lf hp);exact ⟨b,o,rfl,fun k hk=>.inl (h5 k hk)⟩
 ·rename_i id ver p tt;obtain ⟨h1,h2,h3,h4,h5,rfl⟩:=hx;obtain ⟨own,t,vr,qf,-,-,⟨r1,r2,r3,r4⟩,-⟩:=AG hO h5 h4 e;refine ⟨_,_,by unfold Hd.val; rw [r1],fun hp=>?_⟩;cases ha:(g.hd id ver p).addr with
  | none=>have:=r3 ha; omega
  | some q=>
   obtain ⟨b,o⟩:=q;exact ⟨b,o,by simp,fun k hk=>.inr ⟨_,_,_,_,_,(r4 b o ha).2 k hk⟩⟩
 ·rename_i id ver p tt off len;split at e
  ·rename_i ys hr;split at e
   ·rename_i hb;obtain rfl:=Ty.eq_of_beq hb;simp only [aF] at e;obtain ⟨rfl,e⟩:=nU e;obtain rfl:=eq_of_heq e;obtain ⟨h1,h2,h3,h4,h5,a,cp,rfl,h6,h7,h8,h9,AH⟩:=hx;obtain ⟨own,t,vr,qf,-,-,⟨r1,r2,r3,r4⟩,-⟩:=AG hO h5 h4 hr;have hlen:((ys.drop off).take len).length=len:=by simp; omega
    refine ⟨a,cp,by rw [hlen],fun hp=>?_⟩;obtain ⟨b,o,ha,rfl⟩:=h9 (by omega);refine ⟨b,o+off*tt.size,rfl,fun k hk=>.inr ⟨own,id,vr,p,off+k,?_⟩⟩;have:=(r4 b o ha).2 (off+k) (by omega);simp only [vv,xF];rw [bL,← cY];exact this
   simp at e
  simp at e
 simp at e
theorem Ln (hL:∀ b o,g.lab b o=none→L b o=none) {id vr:Nat} {p:Path} : ∀ (t:Ty) (q:Path) (i j i' j':Nat) (x:t.T) (b o:Nat),dK g w false id vr t cP p i' j' x b o→cQ g L w false ca t q i j x (fun d=>w.cell? (ad b (o+d)))
 | .int _,q,i,j,i',j',x,b,o,h=>h
 | .bool,q,i,j,i',j',x,b,o,h=>h
 | .str,q,i,j,i',j',x,b,o,h=>h
 | .err,q,i,j,i',j',x,b,o,h=>h
 | .bQ t,q,i,j,i',j',x,b,o,h=>by obtain ⟨v,h1,h2,h3⟩:=h;exact ⟨v,h1,ix (gb (fun b o hl v hv=>⟨hv,hL b o hl⟩) t) h2,h3⟩
 | .sl t,q,i,j,i',j',x,b,o,h=>by obtain ⟨v,h1,h2⟩:=h;exact ⟨v,h1,ix (gb (fun b o hl v hv=>⟨hv,hL b o hl⟩) t) h2⟩
 | .pair s t,q,i,j,i',j',x,b,o,h=>by refine ⟨Ln hL s q i j i' j' x.1 b o h.1,?_⟩;have:cQ g L w false ca t q i (j+s.size) x.2 (fun d=>w.cell? (ad b (o+s.size+d))):=Ln hL t q i (j+s.size) i' (j'+s.size) x.2 b (o+s.size) h.2;simpa [bL] using this
theorem Zn (hO:fq g w U sr) {x:ag} {vx:Value} (hx:aV g w U x vx) {t:Ty} {ys:List t.T} (e:sr.D3 t x=some ys) :
  ∃ xa xc,vx = .slice xa ys.length xc∧(0<ys.length→∃ b o,xa=some (ad b o)∧∀ k (hk:k<ys.length),∃ id vr p k',dK g w false id vr t cP p k' 0 ys[k] b (o+k*t.size)):=by
 unfold St.D3 at e;split at e
 ·rename_i id _ tt off len;split at e
  ·rename_i ho;split at e
   ·rename_i hl;obtain ⟨rfl,e⟩:=nz e;obtain rfl:=eq_of_heq e;unfold St.list at hl;simp only at hl;split at hl
    ·rename_i zs hr;split at hl
     ·rename_i hb;obtain rfl:=Ty.eq_of_beq hb;simp only [aF] at hl;obtain ⟨rfl,hl⟩:=nU hl;obtain rfl:=eq_of_heq hl;obtain ⟨h1,h2,h3,h4,h5,a,cp,rfl,h6,h7,h8,h9,AH⟩:=hx;obtain ⟨own,t,vr,xs1,iy,-,⟨r1,r2,r3,r4⟩,-⟩:=AG hO h5 h4 hr;have vP:own=false:=by rw [ho] at iy;simp only [aF,dD.row.injEq] at iy;exact iy.1.symm
      subst vP;have hlen:((zs.drop off).take len).length=len:=by simp; omega
      refine ⟨a,cp,by rw [hlen],fun hp=>?_⟩;obtain ⟨b,o,ha,rfl⟩:=h9 (by omega);refine ⟨b,o+off*tt.size,rfl,fun k hk=>⟨id,vr,[],off+k,?_⟩⟩;have:=(r4 b o ha).2 (off+k) (by omega);simp only [vv,xF];rw [bL,← cY];exact this
     simp at hl
    simp at hl
   simp at e
  simp at e
 simp at e
theorem CD (hO:fq g w U sr) (hL:∀ b o,g.lab b o=none→L b o=none) {own:Bool} {t:Ty} {x:ag} {vx:Value} (hx:aV g w U x vx) {ys:List t.T} {v:List Nat} (i0:Nat)
  (gD:own=false→∀ id∈v,∀ b o p,g.lab b o=some (id,p)→L b o=none) (e:sr.tail own t x=some (ys,v)) :
  (∀ id∈v,sr.obj id≠none)∧∃ σ,vT g L w own t i0 vx ys v σ:=by
 have Zo:∀ {u:Ty} {xs:List u.T},t.plain=true→sr.list x=some ⟨u,xs⟩→Ty.cast (.sl u) (.sl t) xs=some ys→v=[]→(∀ id∈v,sr.obj id≠none)∧∃ σ,vT g L w own t i0 vx ys v σ:=by
  intro u xs hp hl Lo hv;subst hv;obtain ⟨rfl,Lo⟩:=nz Lo;obtain rfl:=eq_of_heq Lo;obtain ⟨xa,xc,h1,h2⟩:=RB hO hx hl;refine ⟨by simp,ca,⟨xa,xc,h1,fun fw=>?_⟩,fun p hp=>absurd rfl hp,.none⟩;obtain ⟨b,o,h3,h4⟩:=h2 fw;refine ⟨b,o,h3,fun k hk=>?_⟩;rcases h4 k hk with h5 | ⟨tX,id,vr,p,k',h5⟩
  ·exact HV _ [] _ 0 _ b _ hp h5
  exact HW _ [] _ 0 _ _ _ b _ hp h5
 have RC:∀ {xs:List t.T} {r:List ag},take sr own 50 (.sl t) [x]=some (xs,r,v)→xs=ys→(∀ id∈v,sr.obj id≠none)∧∃ σ,vT g L w own t i0 vx ys v σ:=by
  intro xs r he ks;subst ks;cases x with
  | nil=>
   simp only [take] at he;obtain ⟨rfl,rfl,rfl⟩:=jH he;obtain rfl:=hx;exact ⟨by simp,ca,⟨none,0,rfl,fun hp=>absurd hp (by simp)⟩,fun p hp=>absurd rfl hp,.none⟩
  | sh u zs=>
   cases own with
   | true=>simp [take] at he
   | false=>
    simp only [take] at he;split at he
    ·rename_i ys hz;obtain ⟨rfl,rfl,rfl⟩:=jH he;obtain ⟨rfl,hz⟩:=nz hz;obtain rfl:=eq_of_heq hz;obtain ⟨a,len,cap,rfl,rfl,h2,h3,h4⟩:=hx;refine ⟨by simp,ca,⟨a,cap,rfl,fun hp=>?_⟩,fun p hp=>absurd rfl hp,.none⟩;obtain ⟨b,o,rfl,h5⟩:=h4 (Lf hp);exact ⟨b,o,rfl,fun k hk=>HX hL _ _ _ _ _ _ _ (h5 k hk)⟩
    simp at he
  | fB id off len sz=>
   cases off with
   | succ off=>simp [take] at he
   | zero=>
    simp only [take] at he;split at he
    ·rename_i eg ho;split at he
     ·rename_i hb;rw [aw] at hb;obtain ⟨gj,dE⟩:=hb;obtain rfl:=bm gj;have dE:=bm dE;split at he
      ·rename_i ys u' e';obtain ⟨rfl,rfl,rfl⟩:=jH he;obtain ⟨-,-,a,cc,rfl,AL,eO,b,o,ha,kS⟩:=hx;obtain ⟨b',o',hh,cW,oc⟩:=xS hO ho;have kS:=kS (.inr rfl);rw [hh] at ha eO;simp only [aF,bE] at ha;obtain ⟨rfl,rfl⟩:=ha;simp only [jB,Ey,dW] at eO kS;have fw:=t.size_pos;obtain rfl:cc=len:=Rs fw (by rw [eO,dE]);subst kS;obtain ⟨b1,b2,AM,T⟩:=(Ct hO hL own 49).2 t cc eg ys u' _ [] i0 oc e' (fun ho id hi=>gD ho id (jO _ hi));refine ⟨fun az hi=>?_,AM,⟨some (ad b' o'),cc,by rw [T.len],fun hp=>⟨b',o',rfl,fun k hk=>?_⟩⟩,?_,?_,?_⟩
       ·rcases List.mem_cons.1 hi with rfl | hi
        ·rw [ho]; simp
        exact b1 _ hi
       ·have:=T.ow k hk;simpa [bL] using this
       ·rw [T.len]; exact T.nA
       ·intro p az p' h he;exact jO _ (T.tk.ids _ _ _ _ he)
       intro hn;exact T.tk.inj (pj.1 hn).2
      simp at he
     simp at he
    simp at he
  | own id ver p tt=>
   cases p with
   | cons q p=>simp [take] at he
   | nil=>
    simp only [take] at he;split at he
    ·rename_i o u' vr lR ho;split at he
     ·simp at he
     rename_i vP;split at he
     ·rename_i ys hz;obtain ⟨rfl,rfl,rfl⟩:=jH he;obtain ⟨rfl,hz⟩:=nz hz;obtain rfl:=eq_of_heq hz;obtain ⟨-,-,-,-,qb,rfl⟩:=hx;obtain rfl:=qb rfl;obtain ⟨-,-,-,hR⟩:=hO id _ ho;obtain ⟨r1,r2,r3,r4⟩:=hR;have vU:0<lR.length→∃ b o,(g.hd id 0 []).addr=some (b,o):=by
       intro hp;cases ha:(g.hd id 0 []).addr with
       | none=>have:=r3 ha; omega
       | some q=>exact ⟨_,_,rfl⟩
      cases own with
      | true=>
       have iy:o=true:=by cases o<;>simp_all
       subst iy
       let σ:Src:=fun p=>match p with | []=>none | (k',j)::s=>if i0≤k'∧k'<i0+lR.length then some (id,(k'-i0,j)::s,g.hd id vr ((k'-i0,j)::s)) else none
       refine ⟨by simp [ho],σ,⟨_,_,by unfold Hd.val; rw [r1],fun hp=>?_⟩,?_,?_,?_⟩
       ·obtain ⟨b,o,ha⟩:=vU hp;obtain ⟨r5,r6⟩:=r4 b o ha;refine ⟨b,o,by simp [ha],fun k hk=>pd hL u' [] [] k 0 (i0+k) 0 _ b _ (fun _ d s hd=>?_) (r6 k hk)⟩;simp only [oh,σ];rw [if_pos (by omega)];have:i0+k-i0=k:=by omega
        rw [this]
       ·intro p hp;cases p with
        | nil=>simp [σ] at hp
        | cons q s=>
         obtain ⟨k',j⟩:=q;simp only [σ] at hp;split at hp
         ·rename_i hk; exact ⟨k'-i0,j,s,by omega,by simp; omega⟩
         simp at hp
       ·intro p az p' h e1;cases p with
        | nil=>simp [σ] at e1
        | cons q s=>
         simp only [σ] at e1;split at e1
         ·simp at e1; simp [e1.1]
         simp at e1
       intro _ p1 p2 az p' h1 h2 e1 e2;cases p1 with
       | nil=>simp [σ] at e1
       | cons q1 s1=>
        cases p2 with
        | nil=>simp [σ] at e2
        | cons q2 s2=>
         obtain ⟨k1,j1⟩:=q1;obtain ⟨k2,j2⟩:=q2;simp only [σ] at e1 e2;split at e1
         ·split at e2
          ·simp only [aF,bE] at e1 e2;have e3:=e1.2.1.trans e2.2.1.symm;simp at e3;obtain ⟨⟨e4,rfl⟩,rfl⟩:=e3;have:k1=k2:=by omega
           subst this; rfl
          simp at e2
         simp at e1
      | false=>
       have hd:=gD rfl id (by simp);refine ⟨by simp [ho],ca,⟨_,_,by unfold Hd.val; rw [r1],fun hp=>?_⟩,fun p hp=>absurd rfl hp,.none⟩;obtain ⟨b,o,ha⟩:=vU hp;obtain ⟨r5,r6⟩:=r4 b o ha;refine ⟨b,o,by simp [ha],fun k hk=>HX (lab:=L) (fun _ _ h=>h) _ _ _ _ _ b _ (AJ hL hd u' _ k 0 _ b _ (fun d gC=>?_) (r6 k hk))⟩;have hle:(k+1)*u'.size≤(g.hd id 0 []).cap*u'.size:=fa _ (by omega);rw [cY] at hle;obtain ⟨a1,-,-⟩:=r5 (k*u'.size+d) (by omega);exact ⟨_,by rw [bL]; exact a1⟩
     simp at he
    simp at he
  | _=>simp [take] at he
 have RD:(match t.plain with
  | true=>match sr.list x with
   | some ⟨u,xs⟩=>match Ty.cast (.sl u) (.sl t) xs with | some ys=>some (ys,[]) | none=>none
   | none=>none
  | false=>KG own (sr.D3 t x) (match take sr own 50 (.sl t) [x] with | some (xs,_,u)=>some (xs,u) | none=>none))=some (ys,v)→(∀ id∈v,sr.obj id≠none)∧∃ σ,vT g L w own t i0 vx ys v σ:=by
  intro e;split at e
  ·rename_i hp;split at e
   ·rename_i u xs hl;split at e
    ·rename_i zs hz;simp only [aF,bE] at e;obtain ⟨rfl,rfl⟩:=e;exact Zo hp hl hz rfl
    simp at e
   simp at e
  have hT:(match take sr own 50 (.sl t) [x] with | some (xs,_,u)=>some (xs,u) | none=>none)=some (ys,v)→(∀ id∈v,sr.obj id≠none)∧∃ σ,vT g L w own t i0 vx ys v σ:=by
   intro e;split at e
   ·rename_i xs r u he;have e:=Lh (aW e);obtain ⟨h1,rfl⟩:=e;exact RC he h1
   simp at e
  cases Lp:sr.D3 t x with
  | none=>
   rw [Lp] at e;exact hT (by unfold KG at e; cases own<;>exact e)
  | some zs=>
   rw [Lp] at e;cases own with
   | true=>exact hT e
   | false=>
    have e:some (zs,([]:List Nat))=some (ys,v):=e;have e:=Lh (aW e);obtain ⟨rfl,rfl⟩:=e;obtain ⟨xa,xc,h1,h2⟩:=Zn hO hx Lp;refine ⟨by simp,ca,⟨xa,xc,h1,fun fw=>?_⟩,fun p hp=>absurd rfl hp,.none⟩;obtain ⟨b,o,h3,h4⟩:=h2 fw;refine ⟨b,o,h3,fun k hk=>?_⟩;obtain ⟨id,vr,p,k',h5⟩:=h4 k hk;exact Ln hL _ [] _ 0 _ _ _ b _ h5
 cases x with
 | nil=>
  simp only [St.tail,aF,bE] at e;obtain ⟨rfl,rfl⟩:=e;obtain rfl:=hx;exact ⟨by simp,ca,⟨none,0,rfl,fun hp=>absurd hp (by simp)⟩,fun p hp=>absurd rfl hp,.none⟩
 | fB id off len sz=>
  cases off with
  | zero=>
   simp only [St.tail] at e;split at e
   ·rename_i xs r u he;have e:=Lh (aW e);obtain ⟨h1,rfl⟩:=e;exact RC he h1
   simp at e
  | succ off=>exact RD e
 | _=>exact RD e
end
end Go.Am
namespace Go.Am
open Go
def oj (w:World) (b o n:Nat):List Value:=(List.range n).map fun k=>(w.cell? (ad b (o+k))).getD undef
section
variable {P:Program} {c:ba} {g:Gh} {L:bW} {w w':World} {U:Nat→Prop} {sr:St} {a:Act} {site:Nat} {o:Oper} {ρ:Type} {r:ρ} {k:cG→Option ρ} {σ:Src}
theorem Lq {b o n:Nat} {k:Nat} {v:Value} (h:(oj w b o n)[k]? = some v) (hs:(w.cell? (ad b (o+k))).isSome=true):w.cell? (ad b (o+k))=some v∧k<n:=by simp only [oj,xV] at h;obtain ⟨j,h1,h2⟩:=vw.1 h;have h3:=dV.1 h1;obtain ⟨h4,h5⟩:=h3;simp at h4 h5;subst h5;obtain ⟨u,hu⟩:=Option.isSome_iff_exists.1 hs;rw [hu] at h2 ⊢;simp at h2; subst h2;exact ⟨rfl,h4⟩
theorem HY {σ τ:Src} : ∀ (t:Ty) (q:Path) (i j:Nat) (x:t.T) (f:Nat→Option Value),cQ g L w false σ t q i j x f→cQ g L w false τ t q i j x f
 | .int _,_,_,_,_,_,h=>h
 | .bool,_,_,_,_,_,h=>h
 | .str,_,_,_,_,_,h=>h
 | .err,_,_,_,_,_,h=>h
 | .bQ _,_,_,_,_,_,h=>h
 | .sl _,_,_,_,_,_,h=>h
 | .pair s t,q,i,j,x,f,h=>⟨HY s q i j x.1 f h.1,HY t q i (j+s.size) x.2 _ h.2⟩
theorem RE {own:Bool} {u:Ty} {xs:List u.T} {i0 b o:Nat} (h:∀ k (hk:k<xs.length),cQ g L w own σ u [] (i0+k) 0 xs[k] (fun d=>w.cell? (ad b (o+k*u.size+d)))) :
  ∀ j,j<xs.length*u.size→∃ v,w.cell? (ad b (o+j))=some v∧v.oneCell'=true:=by
 intro j hj;have hp:=u.size_pos;have hk:j / u.size<xs.length:=by rw [Rr hp]; exact hj
 obtain ⟨v,h1,h2⟩:=HU u [] _ 0 _ _ (h (j / u.size) hk) (j % u.size) (Nat.mod_lt _ hp);refine ⟨v,?_,h2⟩;have:o+j / u.size*u.size+j % u.size=o+j:=by rw [bL,HP,Nat.div_add_mod]
 rwa [this] at h1
structure Lr (g:Gh) (w:World) (U:Nat→Prop) (site:Nat) (own:Bool) (u:Ty) (zs:List u.T) (D:Nat→Path→Prop) (Ho:Nat→Path→Hd) (v:Value) (w':World) (g':Gh):Prop where
 val:v=(g'.hd (site*1024) 0 []).val
 row:eN g' w' own (site*1024) 0 site u cP [] zs
 iZ:∀ T:Nat→Prop,(∀ id p,D id p→T id)→eJ T g w U g' w' (U' U site)
 iv:∀ b o id p,g.lab b o=some (id,p)→¬ D id p→g'.lab b o=some (id,p)∧w'.cell? (ad b o)=w.cell? (ad b o)∧w'.frozen? (ad b o)=w.frozen? (ad b o)
 HZ:∀ id p,id≠site*1024→g'.hd id site p=Ho id p
 b9:∀ b o q,g'.lab b o=some q→b<w'.heap.size
 cB:∀ b o q,b<w.heap.size→g'.lab b o=some q→g.lab b o≠none
 fr:Fr (tW g) w w'
theorem H_ (S:dp P c g w U sr a) (hs:¬ U site) {t ty:Nat} (hk:(c.ti t).kind = .slice) (ku:0<(c.ti (c.ti t).elem).bytes) {u:Ty} (bB:(c.ti (c.ti t).elem).size=u.size) {own:Bool} {h:Hd} {xs ys:List u.T} {vx:Value} {v:List Nat} {σ0 eG:Src}
  {Do:Nat→Path→Prop} (Ho:Nat→Path→Hd)
  (hlen:h.len=xs.length) (fu:h.len≤h.cap) (ua:h.addr=none→h.cap=0)
  (jb:∀ b o,h.addr=some (b,o)→∀ k,k<h.cap*u.size→(w.cell? (ad b (o+k))).isSome=true∧w.frozen? (ad b (o+k))=false∧∃ id p,g.lab b (o+k)=some (id,p)∧Do id p∧∀ q h',σ0 q≠some (id,p,h'))
  (hold:∀ b o,h.addr=some (b,o)→∀ k (hk:k<xs.length),cQ g L w own σ0 u [] k 0 xs[k] (fun d=>w.cell? (ad b (o+k*u.size+d))))
  (om:∀ q id p h',σ0 q=some (id,p,h')→Do id p) (Zp:∀ q q' id p h1 h2,σ0 q=some (id,p,h1)→σ0 q'=some (id,p,h2)→q=q') (Lt:HG [] 0 xs.length σ0)
  (hT:vT g L w own u xs.length vx ys v eG) (CE:∀ id∈v,∀ p,¬ Do id p) (eK:v.Nodup) (CF:own=false→(∀ q,σ0 q=none)∧∀ q,eG q=none)
  (CG:∀ b o,L b o=none→g.lab b o=none∨(own=false∧∃ id p,g.lab b o=some (id,p)∧id∈v))
  (po:(xs.length+ys.length)*(c.ti (c.ti t).elem).bytes≤bo) (lW:∀ id p,Do id p→id / 1024≠19) :
  ∃ v' w' g',(ph #[t,t] ty #[h.val,vx]).run P w = .ok v' w'∧Lr g w U site own u (xs++ys) (fun id p=>Do id p∨id∈v) Ho v' w' g':=by
 have h0:site≠0:=by rintro rfl; exact hs S.u0
 have hd:=sC S.bw hk;have hp:=u.size_pos;have CH:=oa S.bw (t:=(c.ti t).elem) (.inl (by omega));obtain ⟨z,hz,hr,hv,ti,oi,vS,gn,ub⟩:=AS CH;have AV:ti.size=u.size:=by rw [gn,bB]
 obtain ⟨xa,xc,rfl,CI⟩:=hT.sl;obtain ⟨news,qg,sH,Lu⟩:∃ news:List Value,news.length=ys.length*u.size∧(0<ys.length→∃ b o,xa=some (ad b o)∧(∀ j u',news[j]? = some u'→w.cell? (ad b (o+j))=some u')∧∀ k (hk:k<ys.length),cQ g L w own eG u [] (xs.length+k) 0 ys[k] (fun d=>w.cell? (ad b (o+k*u.size+d))))∧∀ y∈news,y.oneCell'=true:=by
  rcases mM ys.length with hy | hy
  ·exact ⟨[],by simp [hy],fun h=>by omega,by simp⟩
  obtain ⟨b,o,e1,e2⟩:=CI hy;have e3:=RE e2;refine ⟨oj w b o (ys.length*u.size),by simp [oj],fun _=>⟨b,o,e1,fun j u' hj=>?_,e2⟩,fun y hy=>?_⟩
  ·have ax:j<ys.length*u.size:=by have:=(dV.1 hj).1;simpa [oj] using this
   obtain ⟨v,hv,-⟩:=e3 j ax;exact (Lq hj (by rw [hv]; rfl)).1
  obtain ⟨j,hj,hy⟩:=sF.1 hy;simp only [oj,List.length_map,List.length_range] at hj;obtain ⟨v,hv,h1⟩:=e3 j hj;simp only [oj,og,AT,hv,Option.getD_some] at hy;rw [← hy]; exact h1
 obtain ⟨olds,sG,ig⟩:∃ olds:List Value,olds.length=h.len*u.size∧∀ b o,h.addr=some (b,o)→∀ j u',olds[j]? = some u'→w.cell? (ad b (o+j))=some u':=by
  cases ha:h.addr with
  | none=>have:=ua ha; exact ⟨[],by rw [show h.len=0 by omega]; simp,by simp⟩
  | some q=>
   obtain ⟨b,o⟩:=q;refine ⟨oj w b o (h.len*u.size),by simp [oj],fun b' o' hb j u' hj=>?_⟩;simp only [aF,bE] at hb;obtain ⟨rfl,rfl⟩:=hb;have ax:j<h.len*u.size:=by have:=(dV.1 hj).1;simpa [oj] using this
   have hle:h.len*u.size≤h.cap*u.size:=fa _ fu;exact (Lq hj (jb b o ha j (by omega)).1).1
 have EC:=RA (P:=P) (w:=w) (ty:=ty) (h:=h) (olds:=olds) (news:=news) (xa:=xa) (m:=ys.length) (xc:=xc) hd oi vS (by rw [hz,gn]) (by rw [ub]; exact ku) fu ua (by rw [AV]; exact sG)
  (fun b o hb=>⟨ig b o hb,fun k hk=>by rw [AV] at hk; exact ⟨(jb b o hb k hk).1,(jb b o hb k hk).2.1⟩⟩) (by rw [AV]; exact qg) (fun hy=>let ⟨b,o,e1,e2,_⟩:=sH hy; ⟨b,o,e1,e2⟩) Lu (by rw [hlen,ub]; exact po)
 rw [AV] at EC;have fv:∀ q id p h',gU σ0 eG q=some (id,p,h')→(Do id p∨id∈v)∧∀ q' x_,gU σ0 eG q'=some (id,p,x_)→q'=q:=by
  intro q id p h' e;rcases q_ e with e | ⟨-,e⟩
  ·refine ⟨.inl (om _ _ _ _ e),fun q' x_ e'=>?_⟩;rcases q_ e' with e' | ⟨-,e'⟩
   ·exact Zp _ _ _ _ _ _ e' e
   exact absurd (om _ _ _ _ e) (CE _ (hT.tk.ids _ _ _ _ e') _)
  refine ⟨.inr (hT.tk.ids _ _ _ _ e),fun q' x_ e'=>?_⟩;rcases q_ e' with e' | ⟨-,e'⟩
  ·exact absurd (om _ _ _ _ e') (CE _ (hT.tk.ids _ _ _ _ e) _)
  exact hT.tk.inj eK _ _ _ _ _ _ e' e
 have pn:∀ b o,h.addr=some (b,o)→∀ k,k<h.cap*u.size→∃ id p,g.lab b (o+k)=some (id,p)∧Do id p∧∀ q h',gU σ0 eG q≠some (id,p,h'):=by
  intro b o hb k hk;obtain ⟨-,-,id,p,e1,e2,e3⟩:=jb b o hb k hk;refine ⟨id,p,e1,e2,fun q h' e=>?_⟩;rcases q_ e with e | ⟨-,e⟩
  ·exact e3 _ _ e
  exact CE _ (hT.tk.ids _ _ _ _ e) _ e2
 have ud:∀ k d s,k<xs.length→gU σ0 eG ((k,d)::s)=σ0 ((k,d)::s):=by
  intro k d s hk;unfold gU;split
  ·rename_i hx; exact hx.symm
  rename_i hx;rw [hx];cases e:eG ((k,d)::s) with
  | none=>rfl
  | some y=>
   obtain ⟨k',d',s',-,he⟩:=hT.nA _ (by rw [e]; simp);simp at he; omega
 have ue:∀ k d s,gU σ0 eG ((xs.length+k,d)::s)=eG ((xs.length+k,d)::s):=by
  intro k d s;unfold gU;split
  ·rename_i y hx;obtain ⟨k',d',s',cr,he⟩:=Lt _ (by rw [hx]; simp);simp at he; omega
  rfl
 have aA:gU σ0 eG []=none:=by
  cases e:gU σ0 eG [] with
  | none=>rfl
  | some y=>
   rcases q_ e with e | ⟨-,e⟩
   ·obtain ⟨_,_,_,_,he⟩:=Lt _ (by rw [e]; simp);simp at he
   obtain ⟨_,_,_,_,he⟩:=hT.nA _ (by rw [e]; simp);simp at he
 let D:Nat→Path→Prop:=fun id p=>Do id p∨id∈v
 let H:Nat→Path→Hd:=fun id p=>if id=site*1024 then (match gU σ0 eG p with | some (_,_,h)=>h | none=>dX) else Ho id p
 have fin:∀ (h':Hd) (Rt:Nat→Nat→Prop) (w':World),h'.len=xs.length+ys.length→h'.len≤h'.cap→(h'.addr=none→h'.cap=0)→
   (∀ b o,Rt b o→b<w'.heap.size∧(b<w.heap.size→g.lab b o≠none))→w.heap.size≤w'.heap.size→Fr (tW g) w w'→
   (∀ b o,g.lab b o=none→∀ v,w.cell? (ad b o)=some v→w'.cell? (ad b o)=some v∧¬ Rt b o)→
   (∀ b o id p,g.lab b o=some (id,p)→(¬ Do id p∨∃ q x_,gU σ0 eG q=some (id,p,x_))→¬ Rt b o∧w'.cell? (ad b o)=w.cell? (ad b o)∧w'.frozen? (ad b o)=w.frozen? (ad b o))→
   (∀ b o,h'.addr=some (b,o)→(∀ k,k<h'.cap*u.size→Rt b (o+k)∧(w'.cell? (ad b (o+k))).isSome=true∧w'.frozen? (ad b (o+k))=false)∧
    (∀ k,k<xs.length*u.size→∀ b0 o0,h.addr=some (b0,o0)→w'.cell? (ad b (o+k))=w.cell? (ad b0 (o0+k)))∧
    (∀ k,k<ys.length*u.size→w'.cell? (ad b (o+xs.length*u.size+k))=news[k]?))→
   Lr g w U site own u (xs++ys) D Ho h'.val w' (ja g site (fun _ _=>h') H (jI D (site*1024) (gU σ0 eG) Rt g.lab)):=by
  intro h' Rt w' a1 a2 a3 a4 a5 a6 a7 a8 a9;refine ⟨by rw [tZ h0],?_,fun T Zq=>?_,fun b o id p e vV=>?_,fun id p Zr=>?_,fun b o q e=>?_,fun b o q hb e=>?_,a6⟩
  ·refine EA (w:=w) (L:=L) (h0:=h') _ rfl (tZ h0 _) (fun q id p hh e=>?_) (fun q hq e=>?_) (fun q id p hh e=>?_) (fun b o hl v hv=>?_) (by rw [a1]; simp) a2 a3 (fun b o hb=>(a9 b o hb).1) (fun b o hb k hk=>?_)
   ·simp only [H,if_true]; rw [e]
   ·simp only [H,if_true]; rw [e]
   ·exact ⟨(fv _ _ _ _ e).1,(fv _ _ _ _ e).2,fun b o hl=>a8 b o id p hl (.inr ⟨_,_,e⟩)⟩
   ·rcases CG b o hl with kT | ⟨Lv,id,p,kT,hid⟩
    ·obtain ⟨b1,b2⟩:=a7 b o kT v hv;exact ⟨b1,CB kT b2⟩
    obtain ⟨b1,b2,b3⟩:=a8 b o id p kT (.inl (CE id hid p));refine ⟨by rw [b2]; exact hv,Ry kT b1 (.inr hid) (fun q hh e=>?_)⟩;obtain ⟨f0,f1⟩:=CF Lv;rcases q_ e with e | ⟨-,e⟩
    ·rw [f0] at e; simp at e
    rw [f1] at e; simp at e
   obtain ⟨b1,b2,b3⟩:=a9 b o hb;by_cases H0:k<xs.length
   ·rw [B_ H0];have vU:∃ b0 o0,h.addr=some (b0,o0):=by
     cases ha:h.addr with
     | none=>have:=ua ha; omega
     | some q=>exact ⟨_,_,rfl⟩
    obtain ⟨b0,o0,ha⟩:=vU;refine qa u [] k 0 _ _ (fun d s hd=>by simpa using ud k (0+d) s H0) (i_ u [] k 0 _ _ _ (fun d hd=>?_) (hold b0 o0 ha k H0));have hle:(k+1)*u.size≤xs.length*u.size:=fa _ H0;rw [cY] at hle;rw [bL,b2 (k*u.size+d) (by omega) b0 o0 ha,bL]
   rw [Ak (by omega)];have RF:k-xs.length<ys.length:=by simp at hk; omega
   obtain ⟨bx,ox,e1,e2,e3⟩:=sH (by omega);have e4:=e3 (k-xs.length) RF;rw [show xs.length+(k-xs.length)=k by omega] at e4;refine qa u [] k 0 _ _ (fun d s hd=>by have:=ue (k-xs.length) (0+d) s;rw [show xs.length+(k-xs.length)=k by omega] at this;simpa using this) (i_ u [] k 0 _ _ _ (fun d hd=>?_) e4);have hle:(k-xs.length+1)*u.size≤ys.length*u.size:=fa _ RF;rw [cY] at hle;have hmul:k*u.size=xs.length*u.size+(k-xs.length)*u.size:=by rw [← cY]; congr 1; omega
   have b4:=b3 ((k-xs.length)*u.size+d) (by omega);have ax:(k-xs.length)*u.size+d<news.length:=by rw [qg]; omega
   rw [show o+k*u.size+d=o+xs.length*u.size+((k-xs.length)*u.size+d) by omega,b4,dU ax];have:=e2 _ _ (dU ax);rw [show ox+(k-xs.length)*u.size+d=ox+((k-xs.length)*u.size+d) by omega];exact this.symm
  ·refine Ez hs a7 (fun b o id p e tY=>?_);have vV:¬ D id p:=fun hD=>tY (Zq id p hD);obtain ⟨c1,c2,c3⟩:=a8 b o id p e (.inl (fun Lw=>vV (.inl Lw)));exact ⟨vV,c1,c2,c3⟩
  ·obtain ⟨c1,c2,c3⟩:=a8 b o id p e (.inl (fun Lw=>vV (.inl Lw)));exact ⟨Rx e c1 vV,c2,c3⟩
  ·rw [Ld]; simp [H,Zr]
  ·rcases t_ e with e | e
   ·exact (a4 b o e).1
   cases e2:g.lab b o with
   | none=>exact absurd e2 e
   | some q=>have:=S.b9 _ _ _ e2; omega
  rcases t_ e with e | e
  ·exact (a4 b o e).2 hb
  exact e
 rcases EC with ⟨b,o,ha,AU,df⟩ | ⟨ha,hm,hl0,df⟩ | ⟨cap,arr,w',B,q9,RG,⟨rest,ED⟩,df⟩
 ·
  have cC:∀ b' o',(b'=b∧o≤o'∧o'<o+h.cap*u.size)→∃ id p,g.lab b' o'=some (id,p)∧Do id p∧∀ q h',gU σ0 eG q≠some (id,p,h'):=by rintro b' o' ⟨rfl,h1,h2⟩;have:=pn b' o ha (o'-o) (by omega);rwa [show o+(o'-o)=o' by omega] at this
  have Zj:h.len*u.size+news.length≤h.cap*u.size:=by rw [qg,← cY]; exact fa _ AU
  have iJ:∀ b' o',¬ (b'=b∧o+h.len*u.size≤o'∧o'<o+h.len*u.size+news.length)→(w.setCells b (o+h.len*u.size) news).cell? (ad b' o')=w.cell? (ad b' o'):=by
   intro b' o' hn;refine tK b news _ w _ (fun hb _=>?_);simp only at hb ⊢;rcases jP o' (o+h.len*u.size) with h1 | h1
   ·exact .inl h1
   rcases jP o' (o+h.len*u.size+news.length) with h2 | h2
   ·exact absurd ⟨hb,h1,h2⟩ hn
   exact .inr h2
  have CJ:Fr (tW g) w (w.setCells b (o+h.len*u.size) news):=by refine vQ b news _ w (fun k hk=>?_);obtain ⟨id,p,e,e1,-⟩:=cC b (o+h.len*u.size+k) ⟨rfl,by omega,by omega⟩;exact ⟨id,p,e,lW id p e1⟩
  have vW:=fin ⟨some (b,o),h.len+ys.length,h.cap⟩ (fun b' o'=>b'=b∧o≤o'∧o'<o+h.cap*u.size) _ (by rw [hlen]) AU (by simp)
   (fun b' o' hR=>by obtain ⟨id,p,e,-⟩:=cC b' o' hR;exact ⟨nk (S.b9 _ _ _ e) CJ.size,fun _=>by rw [e]; simp⟩) CJ.size CJ
   (fun b' o' hl v hv=>by
    have EE:¬ (b'=b∧o≤o'∧o'<o+h.cap*u.size):=fun hR=>by obtain ⟨id,p,e,-⟩:=cC b' o' hR;rw [e] at hl; simp at hl
    exact ⟨by rw [iJ b' o' (fun hh=>EE ⟨hh.1,by omega,by omega⟩)]; exact hv,EE⟩)
   (fun b' o' id p hl hD=>by
    have EE:¬ (b'=b∧o≤o'∧o'<o+h.cap*u.size):=fun hR=>by
     obtain ⟨az,p',e,e1,e2⟩:=cC b' o' hR;rw [e] at hl;simp only [aF,bE] at hl;obtain ⟨rfl,rfl⟩:=hl;rcases hD with hD | ⟨q,x_,e3⟩
     ·exact hD e1
     exact e2 _ _ e3
    exact ⟨EE,iJ b' o' (fun hh=>EE ⟨hh.1,by omega,by omega⟩),Aj b news _ w _⟩)
   (fun b' o' hb=>by
    simp only [aF,bE] at hb;obtain ⟨rfl,rfl⟩:=hb;have RH:∀ m,m<news.length→(w.cell? (ad b (o+h.len*u.size+m))).isSome=true:=by intro m hm;rw [bL]; exact (jb b o ha _ (by omega)).1
    refine ⟨fun k hk=>⟨⟨rfl,by omega,by simpa using hk⟩,?_,?_⟩,fun k hk b0 o0 EF=>?_,fun k hk=>?_⟩
    ·by_cases hr:o+h.len*u.size≤o+k∧o+k<o+h.len*u.size+news.length
     ·have:=Ai b news (o+h.len*u.size) w RH (k-h.len*u.size) (by omega);rw [show o+h.len*u.size+(k-h.len*u.size)=o+k by omega] at this;rw [this]; rfl
     rw [iJ b (o+k) (fun hh=>hr hh.2)];exact (jb b o ha k (by simpa using hk)).1
    ·rw [Aj];exact (jb b o ha k (by simpa using hk)).2.1
    ·rw [ha] at EF;simp only [aF,bE] at EF;obtain ⟨rfl,rfl⟩:=EF;exact iJ b (o+k) (fun hh=>by rw [hlen] at hh; omega)
    rw [← hlen];have:=Ai b news (o+h.len*u.size) w RH k (by omega);rw [this,dU])
  exact ⟨_,_,_,df,vW⟩
 ·
  have Cq:xs.length=0:=by omega
  have vW:=fin dX (fun _ _=>False) w (by simp [dX,Cq,hm]) (cj _) (fun _=>rfl) (fun _ _ h=>h.elim) (cj _) (.refl _ _) (fun b o _ v hv=>⟨hv,fun h=>h⟩) (fun _ _ _ _ _ _=>⟨fun h=>h,rfl,rfl⟩) (fun b o hb=>by simp [dX] at hb);exact ⟨_,_,_,df,vW⟩
 
 have RI:∀ b' o',b'<w.heap.size→w'.cell? (ad b' o')=w.cell? (ad b' o'):=fun b' o' hb=>B.cB (by omega) o';have vW:=fin ⟨some (w.heap.size,0),h.len+ys.length,cap⟩ (fun b' o'=>b'=w.heap.size∧o'<cap*u.size) w' (by rw [hlen]) q9 (by simp)
  (fun b' o' hR=>⟨by rw [B.size,hR.1]; omega,fun ax=>by omega⟩) (by rw [B.size]; omega) (B.fr _)
  (fun b' o' hl v hv=>by have:=AQ hv;exact ⟨by rw [RI _ _ this]; exact hv,by omega⟩)
  (fun b' o' id p hl hD=>by have:=S.b9 _ _ _ hl;exact ⟨by omega,RI _ _ this,B.Es (by omega) o'⟩)
  (fun b' o' hb=>by
   simp only [aF,bE] at hb;obtain ⟨rfl,rfl⟩:=hb;have hle:(xs.length+ys.length)*u.size≤cap*u.size:=fa _ (by rw [← hlen]; exact q9);rw [cY] at hle;have od:∀ k,w'.cell? (ad w.heap.size (0+k))=(olds++news++rest)[k]?:=by intro k;rw [B.new,jB,← ED]; simp
   refine ⟨fun k hk=>⟨⟨rfl,by simpa using hk⟩,?_,B.HM _⟩,fun k hk b0 o0 EF=>?_,fun k hk=>?_⟩
   ·rw [B.new,jB,qd (by rw [RG]; simpa using hk)]; rfl
   ·have Lx:k<olds.length:=by rw [sG,hlen]; exact hk
    rw [od,Ev (by simp; omega),Ev Lx];have:=ig b0 o0 EF k _ (dU Lx);rw [this,dU Lx]
   have hkn:k<news.length:=by rw [qg]; exact hk
   have agK:olds.length=xs.length*u.size:=by rw [sG,hlen]
   have h1:=od (xs.length*u.size+k);rw [← bL] at h1;rw [h1,Ev (by simp; omega),Ew (by omega)];congr 1; omega)
 exact ⟨_,_,_,df,vW⟩
end
end Go.Am
namespace Go.Am
open Go
theorem lX:∀ (l:List Nat) (id:Nat),look (gone l) id=if id∈l then some none else none
 | [],id=>by simp [gone,look]
 | i::l,id=>by
  have ih:=lX l id;simp only [gone,mL,look] at ih ⊢;split
  ·rename_i h;obtain rfl:=bm h;simp
  rename_i h;have aA:¬ id=i:=by rintro rfl; simp at h
  rw [ih];simp [aA]
theorem dM {α:Type} (i:Nat) (x:α) (l:List (Nat×α)) (id:Nat):look ((i,x)::l) id=if i=id then some x else look l id:=by
 simp only [look];by_cases h:i=id
 ·subst h; simp
 rw [if_neg h];have:Nat.beq i id=false:=by
  cases hb:Nat.beq i id with
  | false=>rfl
  | true=>exact absurd (bm hb) h
 rw [this]
section
variable {P:Program} {c:ba} {g:Gh} {L:bW} {w w':World} {U:Nat→Prop} {sr:St} {a:Act} {site:Nat} {o:Oper} {ρ:Type} {r:ρ} {k:cG→Option ρ} {σ:Src}
theorem H2 {g':Gh} (S:dp P c g w U sr a) (hs:¬ U site) {own:Bool} {u:Ty} {zs:List u.T} {D:Nat→Path→Prop} {Ho:Nat→Path→Hd} {v:Value} {l:List (Nat×Option dD)}
  (A:Lr g w U site own u zs D Ho v w' g') (hD:∀ id p,D id p→(look l id).isSome=true) (hl:∀ id ob,look l id=some (some ob)→U (id / 1024)∧fo g' w' (U' U site) id ob) (lW:∀ id,(look l id).isSome=true→id / 1024≠19) :
  dL g w U site ⟨.own (site*1024) 0 [] u,(site*1024,some (.row own u site zs))::l⟩ v w' g' (U' U site):=by
 refine ⟨A.iZ _ (fun id p h=>?_),⟨.inr (j9 site),.inl S.u0,.inl S.u0,trivial,fun _=>rfl,A.val⟩,fun id ob bD=>?_,fun s h=>h,A.b9,A.cB,A.fr,fun id h=>?_⟩
 ·rw [dM]; split
  ·rfl
  exact hD id p h
 ·rw [dM] at bD;split at bD
  ·rename_i h; subst h;simp only [aF] at bD;subst bD;exact ⟨.inr (j9 site),.inl S.u0,.inr rfl,A.row⟩
  obtain ⟨h1,h2⟩:=hl id ob bD;exact ⟨.inl h1,h2⟩
 rw [dM] at h;split at h
 ·rename_i he; rw [← he,j9]; rintro rfl; exact hs S.AD
 exact lW id h
def ya (l:bW) (v:List Nat):bW:=fun b o=>match l b o with
 | some (id,p)=>if id∈v then none else some (id,p)
 | none=>none
theorem RJ {l:bW} {v:List Nat} {b o:Nat} (h:l b o=none):ya l v b o=none:=by simp [ya,h]
theorem RL {l:bW} {v:List Nat} {b o id:Nat} {p:Path} (h:l b o=some (id,p)) (hi:id∈v):ya l v b o=none:=by simp [ya,h,hi]
theorem RM {l:bW} {v:List Nat} {b o:Nat} (h:ya l v b o=none):l b o=none∨∃ id p,l b o=some (id,p)∧id∈v:=by
 unfold ya at h;split at h
 ·rename_i id p e;split at h
  ·rename_i hi; exact .inr ⟨id,p,e,hi⟩
  simp at h
 rename_i e; exact .inl e
theorem Zs {own:Bool} {t:Ty} {i0:Nat} {vx:Value} {ys:List t.T} {v:List Nat} (h:own=false) (T:vT g L w own t i0 vx ys v σ):vT g L w own t i0 vx ys v ca:=by subst h;obtain ⟨⟨xa,xc,h1,h2⟩,-,-⟩:=T;refine ⟨⟨xa,xc,h1,fun hp=>?_⟩,fun p hp=>absurd rfl hp,.none⟩;obtain ⟨b,o,h3,h4⟩:=h2 hp;exact ⟨b,o,h3,fun k hk=>HY _ _ _ _ _ _ (h4 k hk)⟩
theorem RN (S:dp P c g w U sr a) (hs:¬ U site) {t ty:Nat} (hk:(c.ti t).kind = .slice) (ku:0<(c.ti (c.ti t).elem).bytes) {u:Ty} (bB:(c.ti (c.ti t).elem).size=u.size) {id:Nat} {own:Bool} {vr:Nat} {qf xs:List u.T} {x:ag} {vs vx:Value} {off len:Nat}
  (ho:sr.obj id=some (.row own u vr qf)) (Cq:xs=(qf.drop off).take len) (hx:aV g w U x vx) {h:Hd} (hv:vs=h.val) (hlen:h.len=len) (sG:off+len≤qf.length) (fu:h.len≤h.cap) (ua:h.addr=none→h.cap=0)
  (vU:0<h.cap→∀ b o,h.addr=some (b,o)→∃ o0,(g.hd id 0 []).addr=some (b,o0)∧o=o0+off*u.size) (hc:off+h.cap=(g.hd id 0 []).cap)
  (e:Ap (c.ti (c.ti t).elem).bytes sr site id own u xs x k=some r) :
  ∃ bq,k bq=some r∧∃ v' w' g' U',(ph #[t,t] ty #[vs,vx]).run P w = .ok v' w'∧dL g w U site bq v' w' g' U':=by
 subst hv;unfold Ap at e;split at e
 case h_2=>simp at e
 rename_i ys v vX;split at e
 case h_2=>simp at e
 rename_i eK;rw [xR,pj] at eK;unfold ab at e;split at e
 case isFalse=>simp at e
 rename_i po;obtain ⟨hU,kR,nv,r1,r2,r3,r4⟩:=S.aX id _ ho;have CK:xs.length=len:=by rw [Cq]; simp; omega
 let L:bW:=if own=true then g.lab else ya g.lab v
 have hL:∀ b o,g.lab b o=none→L b o=none:=by
  intro b o hb;simp only [L]; split
  ·exact hb
  exact RJ hb
 obtain ⟨CL,eG,T⟩:=CD (L:=L) S.aX hL hx xs.length (fun hf az hi b o p hb=>by simp only [L,hf]; exact RL hb hi) vX;obtain ⟨eG,T,CF⟩:∃ eG,vT g L w own u xs.length vx ys v eG∧(own=false→∀ q,eG q=none):=by
  cases own with
  | true=>exact ⟨eG,T,by simp⟩
  | false=>exact ⟨ca,Zs rfl T,fun _ _=>rfl⟩
 let σ0:Src:=if own=true then (fun p=>match p with | []=>none | (k',j)::s=>if k'<xs.length then some (id,(k'+off,j)::s,g.hd id vr ((k'+off,j)::s)) else none) else ca
 have om:∀ q az p h',σ0 q=some (az,p,h')→az=id∧∃ k' j s,q=(k',j)::s∧k'<xs.length∧p=(k'+off,j)::s:=by
  intro q az p h' e;simp only [σ0] at e;split at e
  ·cases q with
   | nil=>simp at e
   | cons a q=>
    obtain ⟨k',j⟩:=a;simp only at e;split at e
    ·rename_i cr;simp only [aF,bE] at e;exact ⟨e.1.symm,k',j,q,rfl,cr,e.2.1.symm⟩
    simp at e
  simp [ca] at e
 obtain ⟨v',w',g',df,A⟩:=H_ (L:=L) (own:=own) (ty:=ty) (σ0:=σ0) S hs hk ku bB (Do:=fun az _=>az=id) (fun az p=>g.hd az vr p) (h:=h) (xs:=xs) (by rw [hlen,CK]) fu ua
  (fun b o hb k' cr=>by
   obtain ⟨o0,h1,rfl⟩:=vU (by cases q9:h.cap with | zero=>rw [q9] at cr; simp at cr | succ n=>omega) b o hb;obtain ⟨r5,r6⟩:=r4 b o0 h1;have hle:off*u.size+h.cap*u.size=(g.hd id 0 []).cap*u.size:=by rw [← hc,cY]
   obtain ⟨a1,a2,a3⟩:=r5 (off*u.size+k') (by omega);rw [← bL] at a1 a2 a3;refine ⟨a2,a3,id,[],a1,rfl,fun q h' e=>?_⟩;obtain ⟨-,k2,j,s,-,-,hp⟩:=om _ _ _ _ e;simp at hp)
  (fun b o hb k' cr=>by
   obtain ⟨o0,h1,rfl⟩:=vU (by omega) b o hb;obtain ⟨r5,r6⟩:=r4 b o0 h1;have h6:=r6 (off+k') (by omega);have Zt:xs[k']=qf[off+k']:=by subst Cq; simp
   rw [Zt];rw [cY,← bL] at h6;cases own with
   | true=>
    refine pd hL u [] [] (off+k') 0 k' 0 _ b _ (fun _ d s hd=>?_) h6;simp only [σ0,if_true,oh];rw [if_pos cr,HN k' off]
   | false=>exact pd hL u [] [] (off+k') 0 k' 0 _ b _ (fun hf=>by simp at hf) h6)
  (fun q az p h' e=>(om _ _ _ _ e).1) (fun q q' az p h1 h2 e1 e2=>by
   obtain ⟨-,k1,j1,s1,rfl,-,yb⟩:=om _ _ _ _ e1;obtain ⟨-,k2,j2,s2,rfl,-,kx⟩:=om _ _ _ _ e2;rw [yb] at kx;simp at kx;obtain ⟨⟨h3,rfl⟩,rfl⟩:=kx;have:k1=k2:=by omega
   subst this; rfl)
  (fun p hp=>by
   cases e:σ0 p with
   | none=>exact absurd e hp
   | some y=>
    obtain ⟨az,p',h'⟩:=y;obtain ⟨-,k1,j1,s1,rfl,qh,-⟩:=om _ _ _ _ e;exact ⟨k1,j1,s1,qh,by simp⟩)
  T (fun az hi p he=>eK.1 (he▸hi)) eK.2 (fun hf=>⟨fun q=>by simp [σ0,hf,ca],CF hf⟩)
  (fun b o hb=>by
   simp only [L] at hb;split at hb
   ·exact .inl hb
   rename_i hf;rcases RM hb with hb | hb
   ·exact .inl hb
   exact .inr ⟨by simpa using hf,hb⟩) po (fun az p h=>by rw [h]; exact S.nf id (by rw [ho]; simp))
 refine ⟨_,e,v',w',g',_,df,H2 S hs A (fun az p hD=>?_) (fun az ob bD=>?_) (fun az h=>by
  rw [lX] at h;split at h
  ·rename_i hm;rcases List.mem_cons.1 hm with rfl | hm
   ·exact S.nf _ (by rw [ho]; simp)
   exact S.nf _ (CL _ hm)
  simp at h)⟩
 ·rw [lX,if_pos]
  ·rfl
  rcases hD with rfl | hD
  ·simp
  exact jO _ hD
 rw [lX] at bD;split at bD<;>simp at bD
theorem RO (S:dp P c g w U sr a) (hs:¬ U site) {t ty:Nat} (hk:(c.ti t).kind = .slice) (ku:0<(c.ti (c.ti t).elem).bytes) {u:Ty} (bB:(c.ti (c.ti t).elem).size=u.size) {s x:ag} {vs vx:Value}
  (hx:aV g w U x vx) (eQ:aV g w U s vs) (Zu:s = .nil∨∃ id off len sz,s = .fB id off len sz) (e:Ao (c.ti (c.ti t).elem).bytes sr site u s x k=some r) :
  ∃ bq,k bq=some r∧∃ v' w' g' U',(ph #[t,t] ty #[vs,vx]).run P w = .ok v' w'∧dL g w U site bq v' w' g' U':=by
 unfold Ao at e;split at e
 case h_2=>simp at e
 rename_i xs rr us gn;split at e
 case h_2=>simp at e
 rename_i vX;split at e
 case h_2=>simp at e
 rename_i eK;rw [xR,List.nodup_append] at eK;obtain ⟨Ly,Zv,CE⟩:=eK;unfold ab at e;split at e
 case isFalse=>simp at e
 rename_i po;obtain ⟨CL,eG,T⟩:=CD (L:=g.lab) S.aX (fun _ _ h=>h) hx (lr (α:=u.T) xs) (fun hf=>by simp at hf) vX;obtain ⟨EG,-⟩:=(Ct (L:=g.lab) S.aX (fun _ _ h=>h) true 50).1 (.sl u) [s] xs rr us (fun _=>some vs) [] 0 0 (fun k hk=>by
  have:k=0:=by simp at hk; exact hk
  subst this; exact ⟨vs,rfl,eQ⟩) gn (fun hf=>by simp at hf)
 have fin:∀ (h:Hd) (σ0:Src),vs=h.val→h.len=lr (α:=u.T) xs→h.len≤h.cap→(h.addr=none→h.cap=0)→
   (∀ b o,h.addr=some (b,o)→∀ k,k<h.cap*u.size→(w.cell? (ad b (o+k))).isSome=true∧w.frozen? (ad b (o+k))=false∧∃ id p,g.lab b (o+k)=some (id,p)∧id∈us∧∀ q h',σ0 q≠some (id,p,h'))→
   (∀ b o,h.addr=some (b,o)→∀ k (hk:k<lr (α:=u.T) xs),cQ g g.lab w true σ0 u [] k 0 (List.get (α:=u.T) xs ⟨k,hk⟩) (fun d=>w.cell? (ad b (o+k*u.size+d))))→
   (∀ q id p h',σ0 q=some (id,p,h')→id∈us)→(∀ q q' id p h1 h2,σ0 q=some (id,p,h1)→σ0 q'=some (id,p,h2)→q=q')→HG [] 0 (lr (α:=u.T) xs) σ0→
   ∃ bq,k bq=some r∧∃ v' w' g' U',(ph #[t,t] ty #[vs,vx]).run P w = .ok v' w'∧dL g w U site bq v' w' g' U':=by
  intro h σ0 hv h1 h2 h3 h4 h5 h6 h7 h8;subst hv;obtain ⟨v',w',g',df,A⟩:=H_ (L:=g.lab) (own:=true) (ty:=ty) (σ0:=σ0) S hs hk ku bB (Do:=fun az _=>az∈us) (fun _ _=>dX) (h:=h) (xs:=xs) h1 h2 h3 h4 h5 h6 h7 h8 T
   (fun id hi p hu=>CE _ hu _ hi rfl) Zv (fun hf=>by simp at hf) (fun b o hb=>.inl hb) po (fun id p h=>S.nf id (EG id h))
  refine ⟨_,e,v',w',g',_,df,H2 S hs A (fun az p hD=>?_) (fun az ob bD=>?_) (fun az h=>by
   rw [lX] at h;split at h
   ·rename_i hm;rcases List.mem_append.1 hm with hm | hm
    ·exact S.nf _ (EG _ hm)
    exact S.nf _ (CL _ hm)
   simp at h)⟩
  ·rw [lX,if_pos]
   ·rfl
   rcases hD with hD | hD
   ·exact kO _ hD
   exact sn _ hD
  rw [lX] at bD;split at bD<;>simp at bD
 rcases Zu with rfl | ⟨id,off,len,sz,rfl⟩
 ·simp only [take] at gn;obtain ⟨h1,-,h2⟩:=jH gn;have h1:xs=([]:List u.T):=h1.symm;subst h1 h2;refine fin dX ca (by rw [show vs=_ from eQ]; rfl) rfl (cj _) (fun _=>rfl) (fun b o hb=>by simp [dX] at hb) (fun b o hb=>by simp [dX] at hb) (fun q id p h' e=>by simp [ca] at e) (fun q q' id p h1 h2 e=>by simp [ca] at e) (fun p hp=>absurd rfl hp)
 cases off with
 | succ off=>simp [take] at gn
 | zero=>
  simp only [take] at gn;split at gn
  ·rename_i eg ho;split at gn
   ·rename_i hb;rw [aw] at hb;obtain ⟨gj,dE⟩:=hb;obtain rfl:=bm gj;have dE:=bm dE;split at gn
    ·rename_i lR u' e';obtain ⟨h1,-,h2⟩:=jH gn;have h1:xs=lR:=h1.symm;subst h1 h2;obtain ⟨-,-,a0,cc,rfl,AL,eO,b,o,ha,kS⟩:=eQ;obtain ⟨b',o',hh,cW,oc⟩:=xS S.aX ho;have kS:=kS (.inr rfl);rw [hh] at ha eO;simp only [aF,bE] at ha;obtain ⟨rfl,rfl⟩:=ha;simp only [jB,Ey,dW] at eO kS;have fw:=u.size_pos;obtain rfl:cc=len:=Rs fw (by rw [eO,dE]);subst kS;obtain ⟨Zw,Zx⟩:=pj.1 Ly;obtain ⟨b1,b2,AM,T'⟩:=(Ct S.aX (fun _ _ h=>h) true 49).2 u cc eg xs u' _ [] 0 oc e' (fun hf=>by simp at hf);refine fin ⟨some (b',o'),cc,cc⟩ AM (by simp [Hd.val]) T'.len.symm (cj _) (by simp) (fun b o hb k' cr=>?_) (fun b o hb k' cr=>?_) (fun q az p h' e=>jO _ (T'.tk.ids _ _ _ _ e)) (fun q q' az p h1 h2 e1 e2=>T'.tk.inj Zx _ _ _ _ _ _ e1 e2) (by rw [T'.len]; exact T'.nA)
     ·simp only [aF,bE] at hb;obtain ⟨rfl,rfl⟩:=hb;have Lz:k'<eg.length:=by rw [← dE]; exact cr
      obtain ⟨y,hy,-⟩:=oc k' Lz;have hy:w.cell? (ad b' (o'+k'))=some y:=hy;refine ⟨by rw [hy]; rfl,(cW k' Lz).2,id,[],(cW k' Lz).1,by simp,fun q h' e=>Zw (T'.tk.ids _ _ _ _ e)⟩
     simp only [aF,bE] at hb;obtain ⟨rfl,rfl⟩:=hb;have:=T'.ow k' cr;rw [jB] at this;exact i_ u [] k' 0 _ _ _ (fun d hd=>by show w.cell? _=w.cell? (ad b' (o'+(k'*u.size+d)));rw [bL]) this
    simp at gn
   simp at gn
  simp at gn
theorem H3 {g':Gh} {id vr V:Nat} {hole:Path} (hh:∀ p,p≠[]→¬ hole <+: p→g'.hd id V p=g.hd id vr p)
  (cW:∀ b o p,g.lab b o=some (id,p)→¬ hole <+: p→g'.lab b o=some (id,p)∧w'.cell? (ad b o)=w.cell? (ad b o)∧w'.frozen? (ad b o)=w.frozen? (ad b o))
  (AW:∀ b o,g.lab b o=none→∀ v,w.cell? (ad b o)=some v→w'.cell? (ad b o)=some v∧g'.lab b o=none):∀ (t:Ty) (sk:Nat→Nat→Bool) (p:Path) (i j:Nat) (x:t.T) (b o:Nat),
  (∀ k,k<t.size→w'.cell? (ad b (o+k))=w.cell? (ad b (o+k)))→(∀ d,d<t.size→sk i (j+d)=true∨∀ s,¬ hole <+: p++(i,j+d)::s)→dK g w true id vr t cP p i j x b o→dK g' w' true id V t sk p i j x b o
 | .int _,sk,p,i,j,x,b,o,hc,hp,h=>by have:=hc 0 (by simp [Ty.size]); exact this.trans h
 | .bool,sk,p,i,j,x,b,o,hc,hp,h=>by have:=hc 0 (by simp [Ty.size]); exact this.trans h
 | .str,sk,p,i,j,x,b,o,hc,hp,h=>by have:=hc 0 (by simp [Ty.size]); exact this.trans h
 | .err,sk,p,i,j,x,b,o,hc,hp,h=>by obtain ⟨v,h1,h2⟩:=h;exact ⟨v,(hc 0 (by simp [Ty.size])).trans h1,h2⟩
 | .bQ t,sk,p,i,j,x,b,o,hc,hp,h=>by obtain ⟨v,h1,h2,h3⟩:=h;exact ⟨v,(hc 0 (by simp [Ty.size])).trans h1,ix (gb AW t) h2,h3⟩
 | .pair s t,sk,p,i,j,x,b,o,hc,hp,h=>by
  refine ⟨H3 hh cW AW s sk p i j x.1 b o (fun k hk=>hc k (by simp [Ty.size]; omega)) (fun d hd=>hp d (by simp [Ty.size]; omega)) h.1,
   H3 hh cW AW t sk p i (j+s.size) x.2 b (o+s.size) (fun k hk=>?_) (fun d hd=>?_) h.2⟩
  ·rw [bL]; exact hc _ (by simp [Ty.size]; omega)
  rw [bL]; exact hp _ (by simp [Ty.size]; omega)
 | .sl t,sk,p,i,j,xs,b,o,hc,hp,h=>by
  have h0:=hc 0 (by simp [Ty.size]);rw [dW] at h0;rcases hp 0 (by simp [Ty.size]) with gV | hn
  ·exact .inl gV
  simp only [dW] at hn;rcases h with h | ⟨h1,r1,r2,r3,r4⟩
  ·simp [cP] at h
  have hd:=hh (p++[(i,j)]) (by simp) (hn []);refine .inr ⟨by rw [hd,h0,h1],?_⟩;rw [hd];refine ⟨r1,r2,r3,fun b o hb=>?_⟩;obtain ⟨r5,r6⟩:=r4 b o hb;refine ⟨fun k hk=>?_,fun k hk=>?_⟩
  ·obtain ⟨a1,a2,a3⟩:=r5 k hk;obtain ⟨b1,b2,b3⟩:=cW _ _ _ a1 (hn []);exact ⟨b1,by rw [b2]; exact a2,by rw [b3]; exact a3⟩
  refine H3 hh cW AW t _ _ k 0 _ b _ (fun d hd=>?_) (fun d hd=>.inr (fun s=>?_)) (r6 k hk)
  ·have hle:(k+1)*t.size≤(g.hd id vr (p++[(i,j)])).cap*t.size:=fa _ (by omega);rw [cY] at hle;obtain ⟨a1,-,-⟩:=r5 (k*t.size+d) (by omega);rw [← bL] at a1;exact (cW _ _ _ a1 (hn [])).2.1
  have:=hn ((k,0+d)::s);simpa using this
theorem Zy (S:dp P c g w U sr a) (hs:¬ U site) {t ty:Nat} (hk:(c.ti t).kind = .slice) (ku:0<(c.ti (c.ti t).elem).bytes) {id:Nat} {u0:Ty} {vr:Nat} {qf:List u0.T} {i j:Nat} {x:ag} {vx:Value}
  (ho:sr.obj id=some (.row true u0 vr qf)) (hx:aV g w U x vx) (hi:i<qf.length) (bB:∀ u zs,kp u0 (el u0 qf i) j=some ⟨u,zs⟩→(c.ti (c.ti t).elem).size=u.size)
  (e:B7 (c.ti (c.ti t).elem).bytes sr site id u0 qf i j x k=some r) :
  ∃ bq,k bq=some r∧∃ v' w' g' U',(ph #[t,t] ty #[(g.hd id vr [(i,j)]).val,vx]).run P w = .ok v' w'∧dL g w U site bq v' w' g' U':=by
 unfold B7 at e;split at e
 case h_2=>simp at e
 rename_i u xs kq;split at e
 case h_2=>simp at e
 rename_i v vX;split at e
 case h_2=>simp at e
 rename_i eK;rw [xR,pj] at eK;unfold ab at e;split at e
 case isFalse=>simp at e
 rename_i po;obtain ⟨hU,kR,nv,r1,r2,r3,r4⟩:=S.aX id _ ho;obtain ⟨CL,eG,T⟩:=CD (L:=g.lab) S.aX (fun _ _ h=>h) hx xs.length (fun hf=>by simp at hf) vX;have vU:∃ b o,(g.hd id 0 []).addr=some (b,o):=by
  cases ha:(g.hd id 0 []).addr with
  | none=>have:=r3 ha; omega
  | some q=>exact ⟨_,_,rfl⟩
 obtain ⟨b0,o0,H4⟩:=vU;obtain ⟨r5,r6⟩:=r4 b0 o0 H4;have h6:=r6 i hi;rw [← vM hi] at h6;obtain ⟨nB,⟨q1,q2,q3,q4⟩,Zz⟩:=Ej u0 [] i 0 _ b0 _ j u xs h6 kq;simp only [jB,oh] at nB q1 q2 q3 q4
 let σ0:Src:=fun p=>match p with | []=>none | (k',j')::s=>if k'<xs.length then some (id,(i,j)::(k',j')::s,g.hd id vr ((i,j)::(k',j')::s)) else none
 have om:∀ q az p h',σ0 q=some (az,p,h')→az=id∧∃ k' j' s,q=(k',j')::s∧k'<xs.length∧p=(i,j)::(k',j')::s:=by
  intro q az p h' e;cases q with
  | nil=>simp [σ0] at e
  | cons a q=>
   obtain ⟨k',j'⟩:=a;simp only [σ0] at e;split at e
   ·rename_i cr;simp only [aF,bE] at e;exact ⟨e.1.symm,k',j',q,rfl,cr,e.2.1.symm⟩
   simp at e
 obtain ⟨v',w',g',df,A⟩:=H_ (L:=g.lab) (own:=true) (ty:=ty) (σ0:=σ0) S hs hk ku (bB u xs kq) (Do:=fun az p=>az=id∧[(i,j)] <+: p) (fun az p=>g.hd az vr p) (h:=g.hd id vr [(i,j)]) (xs:=xs) q1 q2 q3
  (fun b o hb k' cr=>by obtain ⟨q5,q6⟩:=q4 b o hb;obtain ⟨a1,a2,a3⟩:=q5 k' cr;refine ⟨a2,a3,id,[(i,j)],a1,⟨rfl,List.prefix_refl _⟩,fun q h' e=>?_⟩;obtain ⟨-,k2,j2,s,-,-,hp⟩:=om _ _ _ _ e;simp at hp)
  (fun b o hb k' cr=>by obtain ⟨q5,q6⟩:=q4 b o hb;refine pd (fun _ _ h=>h) u [(i,j)] [] k' 0 k' 0 _ b _ (fun _ d s hd=>?_) (q6 k' cr);simp only [σ0,oh,oe];rw [if_pos cr])
  (fun q az p h' e=>by
   obtain ⟨h1,k2,j2,s,-,-,hp⟩:=om _ _ _ _ e;refine ⟨h1,?_⟩;rw [hp]; exact ⟨(k2,j2)::s,rfl⟩) (fun q q' az p h1 h2 e1 e2=>by
   obtain ⟨-,k1,j1,s1,rfl,-,yb⟩:=om _ _ _ _ e1;obtain ⟨-,k2,j2,s2,rfl,-,kx⟩:=om _ _ _ _ e2;rw [yb] at kx;simp at kx;obtain ⟨⟨rfl,rfl⟩,rfl⟩:=kx;rfl)
  (fun p hp=>by
   cases e:σ0 p with
   | none=>exact absurd e hp
   | some y=>
    obtain ⟨az,p',h'⟩:=y;obtain ⟨-,k1,j1,s1,rfl,qh,-⟩:=om _ _ _ _ e;exact ⟨k1,j1,s1,qh,by simp⟩)
  T (fun az hi p he=>eK.1 (he.1▸hi)) eK.2 (fun hf=>by simp at hf) (fun b o hb=>.inl hb) po (fun az p h=>by rw [h.1]; exact S.nf id (by rw [ho]; simp))
 have ZA:id≠site*1024:=by rintro rfl; rw [j9] at hU; exact hs hU
 refine ⟨_,e,v',w',g',_,df,H2 S hs A (fun az p hD=>?_) (fun az ob bD=>?_) (fun az h=>by
  rw [dM] at h;split at h
  ·rename_i he; rw [← he]; exact S.nf _ (by rw [ho]; simp)
  rw [lX] at h;split at h
  ·rename_i hm; exact S.nf _ (CL _ hm)
  simp at h)⟩
 ·rw [dM];split
  ·rfl
  rename_i aA;rw [lX,if_pos]
  ·rfl
  rcases hD with ⟨rfl,-⟩ | hD
  ·exact absurd rfl aA
  exact hD
 rw [dM] at bD;split at bD
 ·rename_i he;subst he;simp only [aF] at bD;subst bD;refine ⟨hU,.inl kR,.inr rfl,?_⟩;have RP:=A.iZ (fun az=>az=id∨az∈v) (fun az p hD=>by
   rcases hD with ⟨rfl,-⟩ | hD
   ·exact .inl rfl
   exact .inr hD)
  have vV:∀ p,¬ [(i,j)] <+: p→¬ ((id=id∧[(i,j)] <+: p)∨id∈v):=by
   rintro p hp (⟨-,h⟩ | h)
   ·exact hp h
   exact eK.1 h
  have pn:g'.hd id 0 []=g.hd id 0 []:=RP.hd id 0 [] hU kR;have ua:¬ [(i,j)] <+: ([]:Path):=by simp
  unfold eN;rw [pn];refine ⟨r1,r2,r3,fun b o hb=>?_⟩;rw [H4] at hb;simp only [aF,bE] at hb;obtain ⟨rfl,rfl⟩:=hb;refine ⟨fun k' cr=>?_,fun k' cr=>?_⟩
  ·obtain ⟨a1,a2,a3⟩:=r5 k' cr;obtain ⟨c1,c2,c3⟩:=A.iv _ _ _ _ a1 (vV [] ua);exact ⟨c1,by rw [c2]; exact a2,by rw [c3]; exact a3⟩
  refine H3 (hole:=[(i,j)]) (fun p hp hn=>A.HZ id p ZA) (fun b o p hl hn=>A.iv _ _ _ _ hl (vV p hn)) RP.shr u0 _ [] k' 0 _ _ _ (fun d hd=>?_) (fun d hd=>?_) (r6 k' cr)
  ·have hle:(k'+1)*u0.size≤(g.hd id 0 []).cap*u0.size:=fa _ (by omega);rw [cY] at hle;obtain ⟨a1,-,-⟩:=r5 (k'*u0.size+d) (by omega);rw [← bL] at a1;exact (A.iv _ _ _ _ a1 (vV [] ua)).2.1
  by_cases LB:k'=i∧0+d=j
  ·left; simp [LB.1,LB.2]
  right
  intro s re;simp only [oh] at re;have:=List.cons_prefix_cons.1 re;simp at this;exact LB ⟨this.1.symm,by omega⟩
 rw [lX] at bD;split at bD<;>simp at bD
theorem ZB (S:dp P c g w U sr a) (hs:¬ U site) {t ty:Nat} (hk:(c.ti t).kind = .slice) (ku:0<(c.ti (c.ti t).elem).bytes) {s x:ag} {vs vx:Value} (eQ:aV g w U s vs) (hx:aV g w U x vx)
  (e:B8 (c.ti (c.ti t).elem).bytes sr site (c.ti (c.ti t).elem).ty (c.ti (c.ti t).elem).size s x k=some r) :
  ∃ bq,k bq=some r∧∃ v' w' g' U',(ph #[t,t] ty #[vs,vx]).run P w = .ok v' w'∧dL g w U site bq v' w' g' U':=by
 unfold B8 at e;split at e
 ·simp at e
 rename_i bB;cases s with
 | nil=>
  simp only at e bB;split at e
  ·rename_i u hu;rw [hu] at bB;exact RO S hs hk ku (bm bB) hx eQ (.inl rfl) e
  simp at e
 | fB id off len sz=>
  simp only at e bB;split at e
  ·rename_i u hu;rw [hu] at bB;exact RO S hs hk ku (bm bB) hx eQ (.inr ⟨_,_,_,_,rfl⟩) e
  simp at e
 | own id ver p tt=>
  simp only at e bB;have bB:=bm bB;split at e
  ·rename_i own u vr xs ho;obtain ⟨h1,h2,h3,h4,h5,rfl⟩:=eQ;obtain ⟨hU,kR,nv,r1,r2,r3,r4⟩:=S.aX id _ ho;cases p with
   | nil=>
    obtain rfl:=h5 rfl;have ZC:(c.ti (c.ti t).elem).size=u.size:=by rw [bB]; simp [St.su,St.rowAt,ho]
    exact RN S hs hk ku ZC ho (off:=0) (len:=xs.length) (by simp) hx rfl r1 (by omega) r2 r3 (fun _ b o hb=>⟨o,hb,by simp⟩) (by simp) e
   | cons q p=>
    obtain ⟨i,j⟩:=q;cases p with
    | cons q p=>simp at e
    | nil=>
     simp only at e;split at e
     ·simp at e
     rename_i hb;rw [aw] at hb;obtain ⟨rfl,hb⟩:=hb;obtain rfl:=bm hb;have hi:i<xs.length:=by have:=h4.1;rw [show j6 ([]:Path) ver=0 from rfl,r1] at this;exact this
     exact Zy S hs hk ku ho hx hi (fun u' zs hc=>by rw [bB]; simp [St.su,St.rowAt,ho,place,hc]) e
  simp at e
 | fK id ver p tt off len=>
  cases p with
  | cons q p=>simp at e
  | nil=>
   simp only at e bB;have ZD:(c.ti (c.ti t).elem).size=tt.size:=bm bB;split at e
   ·rename_i own u vr xs ho;split at e
    ·rename_i hb;obtain rfl:=Ty.eq_of_beq hb;obtain ⟨h1,h2,h3,h4,h5,a0,cp,rfl,h6,h7,h8,h9,q,rfl⟩:=eQ;obtain rfl:=h5 rfl;obtain ⟨hU,kR,nv,r1,r2,r3,r4⟩:=S.aX id _ ho;refine RN S hs hk ku ZD ho (off:=off) (len:=len) rfl hx (h:=⟨q,len,cp⟩) rfl rfl (by omega) h7 (fun hq=>?_) (fun hc b o hb=>?_) h6 e
     ·rcases mM cp with hz | hz
      ·exact hz
      obtain ⟨b,o,-,hh⟩:=h9 hz;have hq:q=none:=hq;rw [hq] at hh; simp at hh
     obtain ⟨b',o',kr,jG⟩:=h9 hc;have hb:q=some (b,o):=hb;subst hb;simp only [HQ,aF,Addr.mk.injEq] at jG;exact ⟨o',by rw [kr,jG.1],jG.2.1⟩
    simp at e
   simp at e
 | _=>simp at e
end
end Go.Am
namespace Go.Am
open Go
section
variable {P:Program} {c:ba} {g:Gh} {L:bW} {w w':World} {U:Nat→Prop} {sr:St} {a:Act} {site:Nat} {o:Oper} {ρ:Type} {r:ρ} {k:cG→Option ρ} {σ:Src}
structure RQ (id i:Nat) (u:List Nat) (σ:Src):Prop where
 ids:∀ p az p' h,σ p=some (az,p',h)→(az=id∧∃ d s,p'=(i,d)::s)∨az∈u
 inj:(id::u).Nodup→∀ p1 p2 az p' h1 h2,σ p1=some (az,p',h1)→σ p2=some (az,p',h2)→p1=p2
theorem LC (S:dp P c g w U sr a) (hs:¬ U site) {t0:Nat} (ht:0<(c.ti t0).size) {id:Nat} {i j:Nat} {x:ag} {own:Bool} {t:Ty} {vr:Nat} {xs:List t.T} {sk:Nat→Nat→Bool} {y:t.T} {used:List Nat} {v:Value} {σe:Src} {b o:Nat}
  (hx:aV g w U x v) (hlen:x.cells.length=(c.ti t0).size) (bF:jQ x.cells=true) (hU:U (id / 1024)) (lW:id / 1024≠19) (Ly:∀ id∈used,id / 1024≠19)
  (hR:eN g w own id 0 vr t sk [] xs) (gV:∀ k' j',sk k' j'=true→k'=i) (ha:(g.hd id 0 []).addr=some (b,o)) (hi:i<xs.length) (hj:j+(c.ti t0).size≤t.size)
  (hL:∀ b o,g.lab b o=none→L b o=none) (CG:∀ b o,L b o=none→g.lab b o=none∨(own=false∧∃ id p,g.lab b o=some (id,p)∧id∈used)) (eK:(id::used).Nodup) (vY:own=false→∀ q,σe q=none)
  (hE:cQ g L w own σe t [] i 0 y (fun k=>if j≤k∧k<j+v.cells.toList.length then v.cells.toList[k-j]? else w.cell? (ad b (o+i*t.size+k))))
  (hP:RQ id i used σe) (hD:∀ p,σe p≠none→∃ d s,p=(i,d)::s) :
  ∃ w' g' U',(sj t0 (.pointer (some (ad b (o+i*t.size+j)))) v).run P w = .ok () w'∧dL g w U site ⟨.undef,(id,some (.row own t site (xs.set i y)))::gone used⟩ undef w' g' U':=by
 obtain ⟨eQ,h1⟩:=AO hx bF;have bB:v.cells.toList.length=(c.ti t0).size:=by rw [mI eQ,hlen]
 have h0:site≠0:=by rintro rfl; exact hs S.u0
 obtain ⟨r1,r2,r3,r4⟩:=hR;obtain ⟨r5,r6⟩:=r4 b o ha;have fu:(i+1)*t.size≤(g.hd id 0 []).cap*t.size:=fa _ (by omega);rw [cY] at fu;have hl:∀ k,k<v.cells.toList.length→g.lab b (o+i*t.size+j+k)=some (id,[]):=by intro k hk;have:=(r5 (i*t.size+(j+k)) (by omega)).1;rw [show o+i*t.size+j+k=o+(i*t.size+(j+k)) by omega];exact this
 have K:=HK (w:=w) hl;have EH:id∉used:=(pj.1 eK).1;have CL:id / 1024≠site:=fun e=>hs (e▸hU)
 let σ:Src:=fun p=>match p with
  | []=>none
  | (k',d)::s=>if k'=i then σe ((k',d)::s) else if own=true then some (id,(k',d)::s,g.hd id vr ((k',d)::s)) else none
 have fv:∀ q az p h,σ q=some (az,p,h)→(σe q=some (az,p,h)∧∃ d s,q=(i,d)::s)∨(az=id∧p=q∧∃ k' d s,q=(k',d)::s∧k'≠i):=by
  intro q az p h e;cases q with
  | nil=>simp [σ] at e
  | cons q s=>
   obtain ⟨k',d⟩:=q;simp only [σ] at e;split at e
   ·rename_i hk; subst hk; exact .inl ⟨e,_,_,rfl⟩
   rename_i hk;split at e
   ·simp only [aF,bE] at e;exact .inr ⟨e.1.symm,e.2.1.symm,_,_,_,rfl,hk⟩
   simp at e
 let D:Nat→Path→Prop:=fun az p=>(az=id∧p≠[])∨az∈used
 let Rt:Nat→Nat→Prop:=fun b o=>g.lab b o=some (id,[])
 have xZ:∀ q az p h,σ q=some (az,p,h)→D az p:=by
  intro q az p h e;rcases fv _ _ _ _ e with ⟨e1,-⟩ | ⟨rfl,rfl,k',d,s,rfl,-⟩
  ·rcases hP.ids _ _ _ _ e1 with ⟨h2,d,s,rfl⟩ | h2
   ·exact .inl ⟨h2,by simp⟩
   exact .inr h2
  exact .inl ⟨rfl,by simp⟩
 have ZE:∀ q az p h,σ q=some (az,p,h)→∀ q' h',σ q'=some (az,p,h')→q'=q:=by
  intro q az p h e q' h' e';rcases fv _ _ _ _ e with ⟨e1,d1,s1,rf⟩ | ⟨ZF,yb,k1,d1,s1,rf,qh⟩<;>rcases fv _ _ _ _ e' with ⟨e2,d2,s2,ka⟩ | ⟨ZG,kx,k2,d2,s2,ka,rh⟩
  ·exact hP.inj eK _ _ _ _ _ _ e2 e1
  ·rcases hP.ids _ _ _ _ e1 with ⟨h2,d,s,h3⟩ | h2
   ·rw [kx,ka] at h3; simp at h3; exact absurd h3.1.1 rh
   exact absurd (ZG▸h2) EH
  ·rcases hP.ids _ _ _ _ e2 with ⟨h2,d,s,h3⟩ | h2
   ·rw [yb,rf] at h3; simp at h3; exact absurd h3.1.1 qh
   exact absurd (ZF▸h2) EH
  rw [← kx,yb]
 have iJ:∀ b' o',g.lab b' o'≠some (id,[])→(w.setCells b (o+i*t.size+j) v.cells.toList).cell? (ad b' o')=w.cell? (ad b' o'):=by
  intro b' o' hn;refine tK b _ _ w _ (fun hb _=>?_);simp only at hb ⊢;subst hb;rcases jP o' (o+i*t.size+j) with h | h
  ·exact .inl h
  rcases jP o' (o+i*t.size+j+v.cells.toList.length) with h' | h'
  ·have:=hl (o'-(o+i*t.size+j)) (by omega);rw [show o+i*t.size+j+(o'-(o+i*t.size+j))=o' by omega] at this;exact absurd this hn
  exact .inr h'
 have CJ:Fr (tW g) w (w.setCells b (o+i*t.size+j) v.cells.toList):=vQ b _ _ w (fun k hk=>⟨id,[],hl k hk,lW⟩)
 let g':=ja g site (fun _ _=>dX) (fun az p=>if az=id then (match σ p with | some (_,_,h)=>h | none=>dX) else dX) (jI D id σ Rt g.lab)
 have pn:g'.hd id 0 []=g.hd id 0 []:=Lb hs hU S.u0;have dz:∀ {T:Nat→Prop},T id→(∀ az∈used,T az)→eJ T g w U g' (w.setCells b (o+i*t.size+j) v.cells.toList) (U' U site):=by
  intro T ZH EI;refine Ez hs (fun b' o' hn v' uc=>⟨by rw [iJ b' o' (by rw [hn]; simp)]; exact uc,fun hr=>by have hr:g.lab b' o'=some (id,[]):=hr; rw [hn] at hr; simp at hr⟩) (fun b' o' az p e tY=>?_);have aA:az≠id:=fun he=>tY (he▸ZH);refine ⟨fun ZI=>?_,fun hr=>?_,iJ b' o' (by rw [e]; simp [aA]),Aj b _ _ w _⟩
  ·rcases ZI with ⟨h2,-⟩ | h2
   ·exact aA h2
   exact tY (EI _ h2)
  have hr:g.lab b' o'=some (id,[]):=hr;rw [e] at hr; simp at hr; exact aA hr.1
 refine ⟨_,g',U' U site,K8 (oa S.bw (.inl ht)) (by simpa using bB) (fun k hk=>?_) h1,dz (by simp [dM]) (fun az gm=>?_),trivial,fun az ob bD=>?_,fun s h=>h,fun b' o' q h=>?_,fun b' o' q hb h=>?_,CJ,fun az h=>?_⟩
 ·obtain ⟨h2,h3,h4⟩:=r5 (i*t.size+(j+k)) (by omega);rw [show o+i*t.size+j+k=o+(i*t.size+(j+k)) by omega];exact ⟨h3,h4⟩
 ·rw [dM]; split
  ·rfl
  rw [lX,if_pos gm]; rfl
 ·rw [dM] at bD;split at bD
  ·rename_i he;subst he;simp only [aF] at bD;subst bD;refine ⟨.inl hU,.inl S.u0,.inr rfl,?_⟩;refine EA (w:=w) (L:=L) (h0:=g.hd id 0 []) g' rfl pn (fun q az p h e=>by simp [e]) (fun q hq e=>by simp [e]) (fun q az p h e=>⟨xZ _ _ _ _ e,ZE _ _ _ _ e,fun b' o' cD=>?_⟩) (fun b' o' cD v' uc=>?_) (by rw [List.length_set]; exact r1) r2 r3 (fun b' o' cD k hk=>?_) (fun b' o' cD k hk=>?_)
   ·have aA:g.lab b' o'≠some (id,[]):=by
     rw [cD];intro he;simp only [aF,bE] at he;rcases xZ _ _ _ _ e with ⟨-,h2⟩ | h2
     ·exact h2 he.2
     exact EH (he.1▸h2)
    exact ⟨aA,iJ b' o' aA,Aj b _ _ w _⟩
   ·rcases CG b' o' cD with hn | ⟨Lv,az,p,hn,pk⟩
    ·have aA:g.lab b' o'≠some (id,[]):=by rw [hn]; simp
     exact ⟨by rw [iJ b' o' aA]; exact uc,CB hn aA⟩
    have aA:g.lab b' o'≠some (id,[]):=by rw [hn]; intro he;simp only [aF,bE] at he;exact EH (he.1▸pk)
    refine ⟨by rw [iJ b' o' aA]; exact uc,Ry hn aA (.inr pk) (fun q h' e=>?_)⟩;rcases fv _ _ _ _ e with ⟨e1,-⟩ | ⟨h2,-⟩
    ·rw [vY Lv] at e1; simp at e1
    exact EH (h2▸pk)
   ·rw [ha] at cD;simp only [aF,bE] at cD;obtain ⟨rfl,rfl⟩:=cD;obtain ⟨a1,a2,a3⟩:=r5 k hk;exact ⟨a1,K.Eo _ _ a2,by rw [K.frozen]; exact a3⟩
   rw [ha] at cD;simp only [aF,bE] at cD;obtain ⟨rfl,rfl⟩:=cD;rw [List.length_set] at hk;by_cases q7:i=k
   ·subst q7;rw [List.getElem_set_self];refine qa t [] i 0 _ _ (fun d s hd=>by simp [σ]) (i_ t [] i 0 _ _ _ (fun d hd=>?_) hE);by_cases cC:j≤d∧d<j+v.cells.toList.length
    ·rw [if_pos cC];have:=Ai b v.cells.toList (o+i*t.size+j) w (fun m hm=>by have:=(r5 (i*t.size+(j+m)) (by omega)).2.1;rw [show o+i*t.size+j+m=o+(i*t.size+(j+m)) by omega];exact this) (d-j) (by omega);rw [show o+i*t.size+j+(d-j)=o+i*t.size+d by omega] at this;rw [this,dU]
    rw [if_neg cC];refine tK b _ _ w _ (fun _ _=>?_);simp only; omega
   rw [List.getElem_set_ne q7];have h6:=r6 k hk;have ZJ:dK g w own id vr t cP [] k 0 xs[k] b (o+k*t.size):=by
    have:∀ (t:Ty) (j:Nat) (x:t.T) (b o:Nat),dK g w own id vr t sk [] k j x b o→dK g w own id vr t cP [] k j x b o:=by
     intro t;induction t with
     | pair s t LD LF=>intro j x b o h; exact ⟨LD _ _ _ _ h.1,LF _ _ _ _ h.2⟩
     | sl t _=>
      intro j x b o h;cases own with
      | false=>exact h
      | true=>
       rcases h with h | h
       ·exact absurd (gV _ _ h).symm q7
       exact .inr h
     | _=>intro j x b o h; exact h
    exact this t 0 _ _ _ h6
   refine i_ t [] k 0 _ _ _ (fun d hd=>?_) (pd (σ:=σ) hL t [] [] k 0 k 0 _ b _ (fun vP d s hd=>?_) ZJ)
   ·refine tK b _ _ w _ (fun _ _=>?_);simp only;rcases Nat.lt_or_gt_of_ne q7 with h | h
    ·have:(i+1)*t.size≤k*t.size:=fa _ h;rw [cY] at this; omega
    have:(k+1)*t.size≤i*t.size:=fa _ h;rw [cY] at this; omega
   simp only [σ,oh];rw [if_neg (fun e=>q7 e.symm),if_pos vP]
  rw [lX] at bD;split at bD<;>simp at bD
 ·have:=CJ.size;rcases t_ h with h | h
  ·have h:g.lab b' o'=some (id,[]):=h;have:=S.b9 _ _ _ h; omega
  cases e:g.lab b' o' with
  | none=>exact absurd e h
  | some q=>have:=S.b9 _ _ _ e; omega
 ·rcases t_ h with h | h
  ·have h:g.lab b' o'=some (id,[]):=h;rw [h]; simp
  exact h
 rw [dM] at h;split at h
 ·rename_i he; rw [← he]; exact lW
 rw [lX] at h;split at h
 ·rename_i hm; exact Ly _ hm
 simp at h
end
end Go.Am
namespace Go.Am
open Go
structure qi (id i:Nat) (u:List Nat) (σ:Src):Prop where
 ids:∀ p az p' h,σ p=some (az,p',h)→(az=id∧p'=p∧∃ d s,p=(i,d)::s)∨az∈u
 inj:(id::u).Nodup→∀ p1 p2 az p' h1 h2,σ p1=some (az,p',h1)→σ p2=some (az,p',h2)→p1=p2
theorem qi.put {id i:Nat} {u:List Nat} {σ:Src} (h:qi id i u σ):RQ id i u σ:=by
 refine ⟨fun p az p' hh e=>?_,h.inj⟩;rcases h.ids _ _ _ _ e with ⟨h1,rfl,h2⟩ | h1
 ·exact .inl ⟨h1,h2⟩
 exact .inr h1
theorem qi.or {id i:Nat} {u v:List Nat} {σ τ:Src} (h1:qi id i u σ) (h2:qi id i v τ):qi id i (u++v) (gU σ τ):=by
 constructor
 ·intro p az p' h e;rcases q_ e with e | ⟨-,e⟩
  ·rcases h1.ids _ _ _ _ e with h | h
   ·exact .inl h
   exact .inr (kO _ h)
  rcases h2.ids _ _ _ _ e with h | h
  ·exact .inl h
  exact .inr (sn _ h)
 intro hn p1 p2 az p' ha hb e1 e2;obtain ⟨n0,n⟩:=pj.1 hn;obtain ⟨n1,n2,n3⟩:=List.nodup_append.1 n;have hu:id∉u:=fun h=>n0 (kO _ h);have hv:id∉v:=fun h=>n0 (sn _ h);have mixed:∀ {q1 q2:Path} {g1 g2:Hd},σ q1=some (az,p',g1)→τ q2=some (az,p',g2)→q1=q2:=by
  intro q1 q2 g1 g2 f1 f2;rcases h1.ids _ _ _ _ f1 with ⟨a1,a2,-⟩ | a1<;>rcases h2.ids _ _ _ _ f2 with ⟨b1,b2,-⟩ | b1
  ·rw [← a2,b2]
  ·exact absurd (a1▸b1) hv
  ·exact absurd (b1▸a1) hu
  exact absurd rfl (n3 _ a1 _ b1)
 rcases q_ e1 with e1 | ⟨-,e1⟩<;>rcases q_ e2 with e2 | ⟨-,e2⟩
 ·exact h1.inj (pj.2 ⟨hu,n1⟩) _ _ _ _ _ _ e1 e2
 ·exact mixed e1 e2
 ·exact (mixed e2 e1).symm
 exact h2.inj (pj.2 ⟨hv,n2⟩) _ _ _ _ _ _ e1 e2
theorem qi.none {id i:Nat} {u:List Nat} : qi id i u ca:=⟨fun _ _ _ _ h=>by simp [ca] at h,fun _ _ _ _ _ _ _ h=>by simp [ca] at h⟩
def vZ (g:Gh) (id vr:Nat) (i j:Nat):Src:=fun p=>(strip [(i,j)] p).map fun s=>(id,(i,j)::s,g.hd id vr ((i,j)::s))
theorem H5 {g:Gh} {id vr i j:Nat} {p:Path} {x:Nat×Path×Hd} (h:vZ g id vr i j p=some x):∃ s,p=(i,j)::s∧x=(id,(i,j)::s,g.hd id vr ((i,j)::s)):=by simp only [vZ,vw] at h;obtain ⟨s,h1,rfl⟩:=h;exact ⟨s,by simpa using En h1,rfl⟩
theorem ZK {g:Gh} {id vr i j:Nat} {s:Path} : vZ g id vr i j ((i,j)::s)=some (id,(i,j)::s,g.hd id vr ((i,j)::s)):=by have:=K6 [(i,j)] s;simp only [oe,oh] at this;simp [vZ,this]
theorem qi.vZ {g:Gh} {id vr i j:Nat} {u:List Nat} : qi id i u (vZ g id vr i j):=by
 refine ⟨fun p az p' h e=>?_,fun _ p1 p2 az p' h1 h2 e1 e2=>?_⟩
 ·obtain ⟨s,rfl,h⟩:=H5 e;simp at h;exact .inl ⟨h.1,h.2.1,j,s,rfl⟩
 obtain ⟨s1,rfl,h1⟩:=H5 e1;obtain ⟨s2,rfl,h2⟩:=H5 e2;simp at h1 h2;rw [← h1.2.1,h2.2.1]
section
variable {P:Program} {c:ba} {g:Gh} {L:bW} {w w':World} {U:Nat→Prop} {sr:St} {a:Act} {site:Nat} {o:Oper} {ρ:Type} {r:ρ} {k:cG→Option ρ} {σ:Src}
theorem ZL (hO:fq g w U sr) (hL:∀ b o,g.lab b o=none→L b o=none) {own:Bool} {id vr lo i:Nat} {vs:List ag} {f:Nat→Option Value} (hv:gk g w U vs f) {sk:Nat→Nat→Bool} : ∀ (d:Nat) (t:Ty) (j:Nat) (x y:t.T) (u:List Nat) (ef:Bool) (b o:Nat),
  lQ sr own d t x j lo vs=some (y,u,ef)→(own=false→∀ id∈u,∀ b o p,g.lab b o=some (id,p)→L b o=none)→(∀ dd,dd<t.size→sk i (j+dd)=true→lo≤j+dd∧j+dd<lo+vs.length)→
  dK g w own id vr t sk [] i j x b o→(∀ id∈u,sr.obj id≠none)∧∃ σ,cQ g L w own σ t [] i j y (fun k=>if lo≤j+k∧j+k<lo+vs.length then f (j+k-lo) else w.cell? (ad b (o+k)))∧K5 [] i j t.size σ∧qi id i u σ:=by
 have leaf:∀ (B:Bool) (d:Nat) (t:Ty) (j:Nat) (x y:t.T) (u:List Nat) (ef:Bool) (b o:Nat),t.size=1→
   (match Nat.ble lo j&&Nat.blt j (lo+vs.length) with
   | false=>some (x,[],false)
   | true=>match vs.drop (j-lo) with
    | v::_=>match take sr own d t [v] with
     | some (y,_,u)=>some (y,u,B)
     | none=>none
    | []=>none)=some (y,u,ef)→(own=false→∀ id∈u,∀ b o p,g.lab b o=some (id,p)→L b o=none)→(∀ dd,dd<t.size→sk i (j+dd)=true→lo≤j+dd∧j+dd<lo+vs.length)→
   dK g w own id vr t sk [] i j x b o→(sk i j=false→dK g w own id vr t sk [] i j x b o→dK g w own id vr t cP [] i j x b o)→
   (∀ id∈u,sr.obj id≠none)∧∃ σ,cQ g L w own σ t [] i j y (fun k=>if lo≤j+k∧j+k<lo+vs.length then f (j+k-lo) else w.cell? (ad b (o+k)))∧K5 [] i j t.size σ∧qi id i u σ:=by
  intro B d t j x y u ef b o h1 e gD gV h qj;split at e
  ·rename_i hb;obtain ⟨rfl,rfl,-⟩:=jH e;have cD:¬ (lo≤j∧j<lo+vs.length):=by
    intro hc;have:(Nat.ble lo j&&Nat.blt j (lo+vs.length))=true:=by simp [dJ]; omega
    rw [this] at hb; exact absurd hb (by simp)
   have ZM:sk i j=false:=by
    cases hq:sk i j with
    | false=>rfl
    | true=>exact absurd (gV 0 (by omega) hq) cD
   have h':=qj ZM h;refine ⟨by simp,?_⟩;have jb:∀ k,k<t.size→(if lo≤j+k∧j+k<lo+vs.length then f (j+k-lo) else w.cell? (ad b (o+k)))=w.cell? (ad b (o+k)):=by
    intro k hk;have:k=0:=by omega
    subst this;rw [if_neg (by simpa using cD)]
   cases own with
   | true=>
    refine ⟨vZ g id vr i j,i_ t [] i j _ _ _ jb (pd hL t [] [] i j i j _ b o (fun _ dd s EJ=>?_) h'),?_,.vZ⟩
    ·have:dd=0:=by omega
     subst this;simp only [oh,dW];exact ZK
    intro p hp;cases e:vZ g id vr i j p with
    | none=>exact absurd e hp
    | some z=>
     obtain ⟨s,rfl,-⟩:=H5 e;exact ⟨0,s,by omega,by simp⟩
   | false=>
    exact ⟨ca,i_ t [] i j _ _ _ jb (pd hL t [] [] i j i j _ b o (fun hf=>by simp at hf) h'),fun p hp=>absurd rfl hp,.none⟩
  rename_i hb;simp only [aw,Nat.ble_eq,dJ] at hb;split at e
  ·rename_i v _ hd;split at e
   ·rename_i y' r' u' ht;obtain ⟨rfl,rfl,-⟩:=jH e;have ax:j-lo<vs.length:=by omega
    have mJ:vs[j-lo]=v:=by have:=congrArg (fun l=>l[0]?) hd;simpa [dU ax] using this
    have hV:gk g w U [v] (fun k=>f (j-lo+k)):=by
     intro k hk;have:k=0:=by simp at hk; exact hk
     subst this;obtain ⟨z,pg,iI⟩:=hv (j-lo) ax;rw [mJ] at iI;exact ⟨z,pg,iI⟩
    obtain ⟨c1,c2,c3,σ,T⟩:=(Ct hO hL own d).1 t [v] y' r' u' _ [] i j hV ht gD;refine ⟨c1,σ,i_ t [] i j _ _ _ (fun k hk=>?_) T.ow,T.nA,fun p az p' h e=>.inr (T.tk.ids _ _ _ _ e),fun hn=>T.tk.inj (pj.1 hn).2⟩;have:k=0:=by omega
    subst this;rw [if_pos (by omega)];congr 1
   simp at e
  simp at e
 intro d;induction d with
 | zero=>intro t j x y u ef b o e; cases t<;>simp [lQ] at e
 | succ d ih=>
  intro t j x y u ef b o e gD gV h;cases t with
  | pair s t=>
   simp only [lQ] at e;split at e
   ·rename_i y1 u1 h1 e1;split at e
    ·rename_i y2 u2 h2 e2;obtain ⟨hy,hu,hh⟩:=jH e;subst hy hu;obtain ⟨b1,eG,c1,d1,p1⟩:=ih s j x.1 y1 u1 h1 b o e1 (fun ho id hi=>gD ho id (kO _ hi)) (fun dd EJ=>gV dd (by simp [Ty.size]; omega)) h.1;obtain ⟨b2,vO,c2,d2,p2⟩:=ih t (j+s.size) x.2 y2 u2 h2 b (o+s.size) e2 (fun ho id hi=>gD ho id (sn _ hi)) (fun dd EJ hq=>by have:=gV (s.size+dd) (by simp [Ty.size]; omega) (by rw [← bL]; exact hq);rw [← bL] at this; exact this) h.2;refine ⟨?_,gU eG vO,⟨?_,?_⟩,?_,p1.or p2⟩
     ·intro az hi;rcases List.mem_append.1 hi with hi | hi
      ·exact b1 az hi
      exact b2 az hi
     ·refine qa s [] i j y1 _ (fun dd ss EJ=>?_) c1;unfold gU;split
      ·rename_i y hy; exact hy.symm
      rename_i hy;rw [hy];cases h2:vO ([]++(i,j+dd)::ss) with
      | none=>rfl
      | some y=>
       obtain ⟨d',s',gC,he⟩:=d2 _ (by rw [h2]; simp);simp at he; omega
     ·refine qa t [] i (j+s.size) y2 _ (fun dd ss EJ=>?_) (i_ t [] i _ y2 _ _ (fun k hk=>?_) c2)
      ·unfold gU;split
       ·rename_i y hy;obtain ⟨d',s',gC,he⟩:=d1 _ (by rw [hy]; simp);simp at he; omega
       rfl
      simp only [bL]
     intro p hp;unfold gU at hp;cases h1:eG p with
     | some y=>
      obtain ⟨d',s',gC,he⟩:=d1 p (by rw [h1]; simp);exact ⟨d',s',by simp only [Ty.size]; omega,he⟩
     | none=>
      rw [h1] at hp;obtain ⟨d',s',gC,he⟩:=d2 p hp;exact ⟨s.size+d',s',by simp only [Ty.size]; omega,by rw [he,bL]⟩
    simp at e
   simp at e
  | sl t=>
   refine leaf true d (.sl t) j x y u ef b o rfl e gD gV h (fun hf h=>?_);cases own with
   | false=>exact h
   | true=>
    rcases h with h | h
    ·rw [hf] at h; simp at h
    exact .inr h
  | bQ t=>exact leaf true d (.bQ t) j x y u ef b o rfl e gD gV h (fun hf h=>h)
  | int k=>exact leaf false d (.int k) j x y u ef b o rfl e gD gV h (fun hf h=>h)
  | bool=>exact leaf false d .bool j x y u ef b o rfl e gD gV h (fun hf h=>h)
  | str=>exact leaf false d .str j x y u ef b o rfl e gD gV h (fun hf h=>h)
  | err=>exact leaf false d .err j x y u ef b o rfl e gD gV h (fun hf h=>h)
theorem ZN {x:ag} {v:Value} (hx:aV g w U x v) (bF:jQ x.cells=true):gk g w U x.cells (fun k=>v.cells.toList[k]?):=by obtain ⟨eQ,-⟩:=AO hx bF;intro k hk;obtain ⟨z,h2,h3⟩:=lU eQ k hk;exact ⟨z,h2,h3⟩
theorem RR (S:dp P c g w U sr a) (hs:¬ U site) {t0:Nat} (ht:0<(c.ti t0).size) {id:Nat} {i j:Nat} {x:ag} {own:Bool} {t:Ty} {vr:Nat} {xs:List t.T} {sk:Nat→Nat→Bool} {y:t.T} {used:List Nat} {ef:Bool} {va v:Value}
  (ha:aV g w U (.fb id 0 [] t i j) va) (hx:aV g w U x v) (hlen:x.cells.length=(c.ti t0).size) (bF:jQ x.cells=true)
  (hR:eN g w own id 0 vr t sk [] xs) (gV:∀ k' j',sk k' j'=true→k'=i∧j≤j'∧j'<j+(c.ti t0).size) (hj:j+(c.ti t0).size≤t.size)
  (he:lQ sr own 50 t (el t xs i) 0 j x.cells=some (y,used,ef)) (eK:(id::used).Nodup) (lW:id / 1024≠19) :
  ∃ w' g' U',(sj t0 va v).run P w = .ok () w'∧dL g w U site ⟨.undef,(id,some (.row own t site (xs.set i y)))::gone used⟩ undef w' g' U':=by
 obtain ⟨hU,-,kR,-,-,hi,b,o,hb,rfl⟩:=ha;have EK:=hR;obtain ⟨r1,r2,r3,r4⟩:=EK;rw [r1] at hi;obtain ⟨r5,r6⟩:=r4 b o hb;have h6:=r6 i hi;rw [← vM hi] at h6
 let L:bW:=if own=true then g.lab else ya g.lab used
 have hL:∀ b o,g.lab b o=none→L b o=none:=by
  intro b o hb;simp only [L]; split
  ·exact hb
  exact RJ hb
 obtain ⟨EG,σ,c1,d1,p1⟩:=ZL (L:=L) S.aX hL (ZN hx bF) 50 t 0 _ y used ef b _ he (fun hf az gm b o p hb=>by simp only [L,hf]; exact RL hb gm)
  (fun dd EJ hq=>by have:=(gV _ _ hq).2; rw [hlen]; exact this) h6
 obtain ⟨eQ,-⟩:=AO hx bF;have eO:v.cells.toList.length=x.cells.length:=mI eQ;have c2:cQ g L w own σ t [] i 0 y (fun k=>if j≤k∧k<j+v.cells.toList.length then v.cells.toList[k-j]? else w.cell? (ad b (o+i*t.size+k))):=by refine i_ t [] i 0 y _ _ (fun k hk=>?_) c1;simp only [jB,eO]
 have CG:∀ b o,L b o=none→g.lab b o=none∨(own=false∧∃ id p,g.lab b o=some (id,p)∧id∈used):=by
  intro b o hb;simp only [L] at hb;split at hb
  ·exact .inl hb
  rename_i hf;rcases RM hb with hb | hb
  ·exact .inl hb
  exact .inr ⟨by simpa using hf,hb⟩
 have hD:∀ p,σ p≠none→∃ d s,p=(i,d)::s:=by intro p hp;obtain ⟨d,s,-,he⟩:=d1 p hp;exact ⟨_,_,by simpa using he⟩
 cases own with
 | true=>exact LC (L:=L) (σe:=σ) S hs ht hx hlen bF hU lW (fun az h=>S.nf _ (EG _ h)) hR (fun k' j' h=>(gV k' j' h).1) hb hi hj hL CG eK (fun hf=>by simp at hf) c2 p1.put hD
 | false=>exact LC (L:=L) (σe:=ca) S hs ht hx hlen bF hU lW (fun az h=>S.nf _ (EG _ h)) hR (fun k' j' h=>(gV k' j' h).1) hb hi hj hL CG eK (fun _ _=>rfl) (HY _ _ _ _ _ _ c2) qi.none.put (fun p hp=>absurd rfl hp)
theorem RS (S:dp P c g w U sr a) (hs:¬ U site) {t0:Nat} (ht:0<(c.ti t0).size) {id ver:Nat} {p:Path} {tt:Ty} {i j:Nat} {x:ag} {own:Bool} {t:Ty} {vr:Nat} {xs:List t.T} {va v:Value}
  (ha:aV g w U (.fb id ver p tt i j) va) (hx:aV g w U x v) (hlen:x.cells.length=(c.ti t0).size) (bF:jQ x.cells=true)
  (ho:sr.obj id=some (.row own t vr xs)) (hp:p=[]∨(own=true∧ver=vr)) (e:An sr site (c.ti t0).size id own t vr xs p tt i j x.cells k=some r) :
  ∃ bq,k bq=some r∧∃ w' g' U',(sj t0 va v).run P w = .ok () w'∧dL g w U site bq undef w' g' U':=by
 unfold An at e;split at e
 case h_2=>simp at e
 rename_i fS;split at e
 case h_2=>simp at e
 rename_i used ef he;split at he
 case h_2=>simp at he
 rename_i hb;rw [aw] at hb;obtain rfl:=Ty.eq_of_beq hb.1;have hj:=gh hb.2;split at e
 case h_2=>simp at e
 rename_i lV;split at e
 case h_2=>simp at e
 rename_i eK;rw [aw,xR] at eK;cases ef with
 | false=>
  have hu:used=[]:=List.isEmpty_iff.1 eK.2;subst hu;obtain ⟨w',h1,h2⟩:=Y1 (site:=site) S ht ha hx hlen bF ho hp fS rfl hj he lV;exact ⟨_,e,w',g,U,h1,h2⟩
 | true=>
  have sD:p=[]:=List.isEmpty_iff.1 eK.2;subst sD;simp only [place,aF] at fS;obtain ⟨rfl,fS⟩:=nU fS;obtain rfl:=eq_of_heq fS;simp only [xG] at lV;obtain ⟨-,lV⟩:=nz lV;obtain rfl:=eq_of_heq lV;have qb:ver=0:=ha.2.2.2.2.1 rfl;subst qb;obtain ⟨-,-,-,hR⟩:=S.aX id _ ho;obtain ⟨w',g',U',h1,h2⟩:=RR S hs ht ha hx hlen bF hR (fun k' j' h=>by simp [cP] at h) hj he eK.1 (S.nf _ (by rw [ho]; simp));exact ⟨_,e,w',g',U',h1,h2⟩
theorem ZO (S:dp P c g w U sr a) (hs:¬ U site) {t0:Nat} {id ver:Nat} {tt:Ty} {i j bi bj:Nat} {x:ag} {t:Ty} {vr:Nat} {xs:List t.T} {va v:Value}
  (ha:aV g w U (.fb id ver [] tt i j) va) (hx:aV g w U x v) (hlen:x.cells.length=(c.ti t0).size) (bF:jQ x.cells=true)
  (ho:sr.obj id=some (.nV t vr xs bi bj)) (e:B5 sr site (c.ti t0).size id t xs bi bj tt i j x.cells k=some r) :
  ∃ bq,k bq=some r∧∃ w' g' U',(sj t0 va v).run P w = .ok () w'∧dL g w U site bq undef w' g' U':=by
 unfold B5 at e;split at e
 ·simp at e
 rename_i hb;simp only [aw,Nat.ble_eq,dJ] at hb;obtain ⟨⟨⟨gj,dE⟩,hj⟩,ht⟩:=hb;obtain rfl:=bm gj;obtain rfl:=Ty.eq_of_beq dE;unfold ab at e;split at e
 case isFalse=>simp at e
 rename_i ZP;subst ZP;split at e
 case h_2=>simp at e
 rename_i he;split at e
 case h_2=>simp at e
 rename_i eK;rw [xR] at eK;have qb:ver=0:=ha.2.2.2.2.1 rfl;subst qb;obtain ⟨-,-,-,hR⟩:=S.aX id _ ho;obtain ⟨w',g',U',h1,h2⟩:=RR S hs ht ha hx hlen bF hR (fun k' j' h=>by simp only [aw] at h;have e1:=bm h.1;have e2:=bm h.2;omega) hj he eK (S.nf _ (by rw [ho]; simp));exact ⟨_,e,w',g',U',h1,h2⟩
end
end Go.Am
namespace Go.Am
open Go
section
variable {P:Program} {c:ba} {g:Gh} {L:bW} {w w':World} {U:Nat→Prop} {sr:St} {a:Act} {site:Nat} {o:Oper} {ρ:Type} {r:ρ} {k:cG→Option ρ} {σ:Src}
def sI (g:Gh) (id vr i jm off len:Nat) (h:Hd):Src:=fun p=>match p with
 | []=>none
 | (i1,j1)::s=>if i1=i then (if j1=jm then (match s with
   | []=>some (id,[(i,jm)],h)
   | (k,j2)::s'=>if k<len then some (id,(i,jm)::(k+off,j2)::s',g.hd id vr ((i,jm)::(k+off,j2)::s')) else none)
  else some (id,(i,j1)::s,g.hd id vr ((i,j1)::s))) else none
theorem H6 {g:Gh} {id vr i jm off len:Nat} {h:Hd} {p:Path} {az:Nat} {p':Path} {h':Hd} (e:sI g id vr i jm off len h p=some (az,p',h')) :
  az=id∧∃ d s,p'=(i,d)::s∧p=(i,d)::p.tail∧((d≠jm∧p.tail=s)∨(d=jm∧((s=[]∧p.tail=[])∨∃ k j2 s',s=(k+off,j2)::s'∧p.tail=(k,j2)::s'))):=by
 cases p with
 | nil=>simp [sI] at e
 | cons p0 s=>
  obtain ⟨i1,j1⟩:=p0;simp only [sI] at e;split at e
  ·rename_i hi;subst hi;split at e
   ·rename_i hj;subst hj;split at e
    ·simp only [aF,bE] at e;exact ⟨e.1.symm,j1,[],e.2.1.symm,rfl,.inr ⟨rfl,.inl ⟨rfl,rfl⟩⟩⟩
    split at e
    ·simp only [aF,bE] at e;exact ⟨e.1.symm,j1,_,e.2.1.symm,rfl,.inr ⟨rfl,.inr ⟨_,_,_,rfl,rfl⟩⟩⟩
    simp at e
   rename_i hj;simp only [aF,bE] at e;exact ⟨e.1.symm,j1,s,e.2.1.symm,rfl,.inl ⟨hj,rfl⟩⟩
  simp at e
theorem ZQ (s t:Ty) (x:(Ty.pair s t).T) (m:Nat):kp (.pair s t) x m=(match Nat.blt m s.size with | true=>kp s x.1 m | false=>kp t x.2 (m-s.size)):=rfl
theorem LG (hL:∀ b o,g.lab b o=none→L b o=none) {id vr i jm off len:Nat} {h:Hd} {u:Ty}
  (mK:∀ ys:List u.T,eN g w true id vr vr u cP [(i,jm)] ys→Cm w g.lab u.size (id,[(i,jm)]) h (fun k x b o=>cQ g L w true (sI g id vr i jm off len h) u [(i,jm)] k 0 x (fun d=>w.cell? (ad b (o+d)))) ((ys.drop off).take len)) :
  ∀ (t:Ty) (j0 m:Nat) (x y:t.T) (b o:Nat) (ys:List u.T),j0+m=jm→kp t x m=some ⟨u,ys⟩→sq t x m (fun _ zs=>some ((zs.drop off).take len))=some y→dK g w true id vr t cP [] i j0 x b o→
  cQ g L w true (sI g id vr i jm off len h) t [] i j0 y (fun k=>if k=m then some h.val else w.cell? (ad b (o+k)))
 | .pair s t,j0,m,x,y,b,o,ys,hj,hc,e,hx=>by
  rw [ZQ] at hc;rw [Re] at e;have RT:∀ (t':Ty) (j1:Nat) (x':t'.T) (b o:Nat),(∀ d,d<t'.size→j1+d≠jm)→dK g w true id vr t' cP [] i j1 x' b o→cQ g L w true (sI g id vr i jm off len h) t' [] i j1 x' (fun k=>w.cell? (ad b (o+k))):=by intro t' j1 x' b o aA h';refine pd hL t' [] [] i j1 i j1 x' b o (fun _ d s hd=>?_) h';simp only [oh,sI];rw [if_pos trivial,if_neg (aA d hd)]
  split at hc
  ·rename_i hb;rw [hb] at e;have hb:m<s.size:=by simpa [dJ] using hb
   simp only at e;split at e
   ·rename_i y1 e1;obtain rfl:=aW e;refine ⟨LG hL mK s j0 m x.1 y1 b o ys hj hc e1 hx.1,?_⟩;have:=RT t (j0+s.size) x.2 b (o+s.size) (fun d hd=>by omega) hx.2;refine i_ t [] i _ _ _ _ (fun k hk=>?_) this;change (if s.size+k=m then some h.val else w.cell? (ad b (o+(s.size+k))))=_;rw [if_neg (by omega),bL]
   simp at e
  rename_i hb;rw [hb] at e;have hb:¬ m<s.size:=by
   intro ax;have:Nat.blt m s.size=true:=by simpa [dJ] using ax
   rw [this] at hb; exact absurd hb (by simp)
  simp only at e;split at e
  ·rename_i y1 e1;obtain rfl:=aW e;refine ⟨?_,?_⟩
   ·have:=RT s j0 x.1 b o (fun d hd=>by omega) hx.1;refine i_ s [] i _ _ _ _ (fun k hk=>?_) this;change (if k=m then some h.val else w.cell? (ad b (o+k)))=_;rw [if_neg (by omega)]
   have:=LG hL mK t (j0+s.size) (m-s.size) x.2 y1 b (o+s.size) ys (by omega) hc e1 hx.2;refine i_ t [] i _ _ _ _ (fun k hk=>?_) this;change (if s.size+k=m then some h.val else w.cell? (ad b (o+(s.size+k))))=_;by_cases cr:k=m-s.size
   ·rw [if_pos (by omega),if_pos cr]
   rw [if_neg (by omega),if_neg cr,bL]
  simp at e
 | .sl t,j0,m,x,y,b,o,ys,hj,hc,e,hx=>by
  cases m with
  | succ m=>rw [Rg] at e; simp at e
  | zero=>
   rw [Rf] at e;have hc:some (⟨t,x⟩:(u:Ty)×List u.T)=some ⟨u,ys⟩:=hc;simp only [aF] at hc;obtain ⟨rfl,hc⟩:=nU hc;obtain rfl:=eq_of_heq hc;have e:((List.drop off (x:List t.T)).take len)=y:=aW e;rw [dW] at hj;subst hj;subst e;rcases hx with hx | ⟨-,hx⟩
   ·simp [cP] at hx
   exact .inl ⟨id,[(i,j0)],h,by simp [sI],by simp,mK x hx⟩
 | .int _,_,m,_,_,_,_,_,_,_,e,_=>by cases m<;>(have e:none=some _:=e; simp at e)
 | .bool,_,m,_,_,_,_,_,_,_,e,_=>by cases m<;>(have e:none=some _:=e; simp at e)
 | .str,_,m,_,_,_,_,_,_,_,e,_=>by cases m<;>(have e:none=some _:=e; simp at e)
 | .err,_,m,_,_,_,_,_,_,_,e,_=>by cases m<;>(have e:none=some _:=e; simp at e)
 | .bQ _,_,m,_,_,_,_,_,_,_,e,_=>by cases m<;>(have e:none=some _:=e; simp at e)
theorem ZR (S:dp P c g w U sr a) (hs:¬ U site) {t0:Nat} (ht:0<(c.ti t0).size) {id ver:Nat} {tt:Ty} {i j az nZ i' j':Nat} {u:Ty} {off len:Nat} {own:Bool} {t:Ty} {vr:Nat} {xs:List t.T} {va v:Value}
  (ha:aV g w U (.fb id ver [] tt i j) va) (hx:aV g w U (.fK az nZ [(i',j')] u off len) v) (hlen:(1:Nat)=(c.ti t0).size)
  (ho:sr.obj id=some (.row own t vr xs)) (e:B4 site id own t vr xs tt i j az nZ i' j' u off len k=some r) :
  ∃ bq,k bq=some r∧∃ w' g' U',(sj t0 va v).run P w = .ok () w'∧dL g w U site bq undef w' g' U':=by
 unfold B4 at e;split at e
 ·simp at e
 rename_i hb;simp only [aw] at hb;obtain ⟨⟨⟨⟨⟨rfl,gj⟩,dE⟩,xX⟩,ZS⟩,H7⟩:=hb;obtain rfl:=bm gj;obtain rfl:=bm dE;obtain rfl:=bm xX;obtain rfl:=Ty.eq_of_beq ZS;unfold ab at e;split at e
 case isFalse=>simp at e
 rename_i ZT;subst ZT;split at e
 case h_2=>simp at e
 rename_i y lV;cases kq:kp tt (el tt xs i) j with
 | none=>rw [kq] at H7; simp at H7
 | some q=>
  obtain ⟨u',ys⟩:=q;rw [kq] at H7;obtain rfl:=Ty.eq_of_beq H7;obtain ⟨hU,-,kR,-,qb,hi,b,o,hb,rfl⟩:=ha;obtain rfl:=qb rfl;have uf:=hx;obtain ⟨-,-,-,cC,-,a0,cp,rfl,h6,h7,h8,h9,q,rfl⟩:=hx;obtain ⟨-,-,nv,hR⟩:=S.aX id _ ho;have EK:=hR;obtain ⟨r1,r2,r3,r4⟩:=EK;rw [r1] at hi;obtain ⟨r5,r6⟩:=r4 b o hb;have LH:=r6 i hi;rw [← vM hi] at LH;obtain ⟨-,-,Zz⟩:=Ej tt [] i 0 _ b _ j u ys LH kq;have xZ:=LG (L:=g.lab) (g:=g) (w:=w) (id:=id) (vr:=nZ) (i:=i) (jm:=j) (off:=off) (len:=len) (h:=⟨q,len,cp⟩) (u:=u) (fun _ _ h=>h) (fun zs hz=>by
   obtain ⟨z1,z2,z3,z4⟩:=hz;rw [z1] at h8;refine ⟨by simp; omega,h7,fun hn=>?_,fun b' o' LI=>?_⟩
   ·rcases mM cp with hz | hz
    ·exact hz
    obtain ⟨b1,o1,-,hh⟩:=h9 hz;have hn:q=none:=hn;rw [hn] at hh; simp at hh
   have LI:q=some (b',o'):=LI;subst LI;rcases mM cp with hz | hz
   ·exact ⟨fun k hk=>by have hk:k<cp*u.size:=hk; rw [hz] at hk; simp at hk,fun k hk=>by simp at hk; omega⟩
   obtain ⟨b1,o1,kr,jG⟩:=h9 hz;simp only [HQ,aF,Addr.mk.injEq] at jG;obtain ⟨rfl,rfl,-⟩:=jG;obtain ⟨z5,z6⟩:=z4 b' o1 kr;have hle:off*u.size+cp*u.size=(g.hd id nZ [(i,j)]).cap*u.size:=by rw [← h6,cY]
   refine ⟨fun k hk=>?_,fun k hk=>?_⟩
   ·have hk:k<cp*u.size:=hk;have:=z5 (off*u.size+k) (by omega);rwa [← bL] at this
   simp only [List.length_take,List.length_drop] at hk;have HF:=z6 (off+k) (by omega);simp only [vv,xF];rw [cY,← bL] at HF;refine pd (fun _ _ h=>h) u [(i,j)] [(i,j)] (off+k) 0 k 0 _ b' _ (fun _ d s hd=>?_) HF;simp only [oe,oh,sI];rw [if_pos trivial,if_pos trivial,if_pos (by omega),HN k off]) tt 0 j _ y b _ ys (by omega) kq lV LH
  have v_:(⟨q,len,cp⟩:Hd).val = .slice (q.map fun p=>ad p.1 p.2) len cp:=rfl;have jb:(Value.slice (q.map fun p=>ad p.1 p.2) len cp).cells.toList=[(⟨q,len,cp⟩:Hd).val]:=rfl;obtain ⟨w',g',U',h1,h2⟩:=LC (L:=g.lab) (site:=site) (own:=true) (used:=[]) (t:=tt) (xs:=xs) (y:=y) (j:=j) (σe:=sI g id nZ i j off len ⟨q,len,cp⟩) S hs ht (x:=.fK id nZ [(i,j)] u off len) uf (by simpa [ag.cells] using hlen) rfl hU (S.nf _ (by rw [ho]; simp)) (fun _ h=>by simp at h) hR (fun k' j' h=>by simp [cP] at h) hb hi (by omega) (fun _ _ h=>h) (fun b o h=>.inl h) (by simp) (fun hf=>by simp at hf)
   (by
    refine i_ tt [] i 0 y _ _ (fun k hk=>?_) xZ;rw [jb];by_cases RU:k=j
    ·subst RU; simp
    rw [if_neg (by simp; omega),if_neg RU])
   ⟨fun p az p' h e=>by
    left
    obtain ⟨h1,d,s,h2,-⟩:=H6 e;exact ⟨h1,d,s,h2⟩,fun _ p1 p2 az p' h1 h2 e1 e2=>by
    obtain ⟨-,d1,s1,a1,b1,c1⟩:=H6 e1;obtain ⟨-,d2,s2,a2,b2,c2⟩:=H6 e2;rw [a1] at a2;simp only [List.cons.injEq,bE,true_and] at a2;obtain ⟨rfl,rfl⟩:=a2;have ht:p1.tail=p2.tail:=by
     rcases c1 with ⟨c3,t1⟩ | ⟨LJ,c1⟩<;>rcases c2 with ⟨c4,t2⟩ | ⟨oq,c2⟩
     ·rw [t1,t2]
     ·exact absurd oq c3
     ·exact absurd LJ c4
     rcases c1 with ⟨h3,t1⟩ | ⟨k1,j1,s1',h3,t1⟩<;>rcases c2 with ⟨h4,t2⟩ | ⟨k2,j2,s2',h4,t2⟩
     ·rw [t1,t2]
     ·rw [h3] at h4; simp at h4
     ·rw [h3] at h4; simp at h4
     rw [h3] at h4;simp only [List.cons.injEq,bE] at h4;obtain ⟨⟨h5,rfl⟩,rfl⟩:=h4;have:k1=k2:=by omega
     subst this;rw [t1,t2]
    rw [b1,b2,ht]⟩ (fun p hp=>by
    cases e:sI g id nZ i j off len ⟨q,len,cp⟩ p with
    | none=>exact absurd e hp
    | some z=>
     obtain ⟨az,p',h'⟩:=z;obtain ⟨-,d,s,-,h2,-⟩:=H6 e;exact ⟨_,_,h2⟩)
  exact ⟨_,e,w',g',U',h1,h2⟩
theorem ZU (S:dp P c g w U sr a) (hs:¬ U site) {t0:Nat} (ht:0<(c.ti t0).size) {ad x:ag} {va v:Value} (ha:aV g w U ad va) (hx:aV g w U x v) (e:B6 sr site (c.ti t0).size ad x k=some r) :
  ∃ bq,k bq=some r∧∃ w' g' U',(sj t0 va v).run P w = .ok () w'∧dL g w U site bq undef w' g' U':=by
 unfold B6 at e;split at e
 ·simp at e
 rename_i hb;rw [aw] at hb;have hlen:=bm hb.1;have bF:=hb.2;cases ad with
 | bn id j=>
  simp only at e;split at e
  ·rename_i ho;split at e
   ·simp at e
   split at e
   ·rename_i hj;obtain ⟨w',h1,h2⟩:=Y_ (site:=site) S ht ha hx hlen bF ho (gh hj);exact ⟨_,e,w',g,U,h1,h2⟩
   simp at e
  simp at e
 | fb id ver p tt i j=>
  simp only at e;split at e
  ·rename_i t vr xs ho;cases p with
   | nil=>
    simp only at e;split at e
    ·rename_i len;exact ZR S hs ht ha hx (by simpa [ag.cells] using hlen) ho e
    exact RS S hs ht ha hx hlen bF ho (.inl rfl) e
   | cons q p=>
    simp only at e;split at e
    ·simp at e
    rename_i dE;rw [aw] at dE;exact RS S hs ht ha hx hlen bF ho (.inr ⟨dE.1,bm dE.2⟩) e
  ·rename_i t vr xs _ _ ho;cases p with
   | nil=>exact ZO S hs ha hx hlen bF ho e
   | cons q p=>simp at e
  simp at e
 | _=>simp at e
end
end Go.Am
namespace Go.Am
open Go
section
variable {P:Program} {c:ba} {g:Gh} {L:bW} {w w':World} {U:Nat→Prop} {sr:St} {a:Act} {site:Nat} {o:Oper} {ρ:Type} {r:ρ} {k:cG→Option ρ}
theorem LK {own tX:Bool} {id vr:Nat} {σ:Src} : ∀ (t:Ty) (q:Path) (i j:Nat) (x:t.T) (f:Nat→Option Value) (sk:Nat→Nat→Bool) (p:Path) (i' j':Nat) (b o:Nat),t.plain=true→
  (∀ k,k<t.size→w'.cell? (ad b (o+k))=f k)→cQ g L w tX σ t q i j x f→dK g w' own id vr t sk p i' j' x b o
 | .int _,q,i,j,x,f,sk,p,i',j',b,o,hp,hc,h=>by have h0:=hc 0 (by simp [Ty.size]); exact h0.trans h
 | .bool,q,i,j,x,f,sk,p,i',j',b,o,hp,hc,h=>by have h0:=hc 0 (by simp [Ty.size]); exact h0.trans h
 | .str,q,i,j,x,f,sk,p,i',j',b,o,hp,hc,h=>by have h0:=hc 0 (by simp [Ty.size]); exact h0.trans h
 | .err,q,i,j,x,f,sk,p,i',j',b,o,hp,hc,h=>by have h0:=hc 0 (by simp [Ty.size]);obtain ⟨v,h1,h2⟩:=h;exact ⟨v,h0.trans h1,h2⟩
 | .bQ _,q,i,j,x,f,sk,p,i',j',b,o,hp,hc,h=>by simp [Ty.plain] at hp
 | .sl _,q,i,j,x,f,sk,p,i',j',b,o,hp,hc,h=>by simp [Ty.plain] at hp
 | .pair s t,q,i,j,x,f,sk,p,i',j',b,o,hp,hc,h=>by simp only [Ty.plain,aw] at hp;refine ⟨LK s q i j x.1 f sk p i' j' b o hp.1 (fun k hk=>hc k (by simp [Ty.size]; omega)) h.1,LK t q i (j+s.size) x.2 _ sk p i' (j'+s.size) b (o+s.size) hp.2 (fun k hk=>?_) h.2⟩;have:=hc (s.size+k) (by simp [Ty.size]; omega);rwa [← bL] at this
theorem ZV {t ty e:TypeId} {i:TypeInfo} (ht:P.underlying t=some (.slice e)) (hi:P.info? e=some i) {da xa:Option Addr} {dl dc m xl xc:Nat} (hm:min xl dl=m) {news:List Value} {ts:Array TypeId} (gn:ts[0]? = some t)
  (hl:news.length=m*i.size) (hx:0<m→∃ b o,xa=some (ad b o)∧∀ j u,news[j]? = some u→w.cell? (ad b (o+j))=some u)
  (h1:∀ u∈news,u.oneCell'=true) {b o:Nat} (hd:0<m→da=some (ad b o)) (gC:∃ q:Option (Nat×Nat),da=q.map fun p=>ad p.1 p.2)
  (hc:∀ j,j<news.length→(w.cell? (ad b (o+j))).isSome=true∧w.frozen? (ad b (o+j))=false) :
  (Cx ts ty #[.slice da dl dc,.slice xa xl xc]).run P w = .ok (.int .i64 (m:Int)) (w.setCells b o news):=by
 have hf:(Cy i.size m (.slice xa xl xc)).run P w = .ok news.toArray w:=by
  rcases mM m with rfl | hp
  ·have:news=[]:=vR (by simpa using hl);subst this;cases xa<;>simp [Cy,loadCells,loadCellsFrom]
  obtain ⟨b',o',rfl,hj⟩:=hx hp;exact run_firstCells_some w i.size m (ad b' o') xl xc news hl (fun j v hv=>by rw [Addr.add_lit]; exact hj j v hv)
 have dz:=run_storeCells_cells (P:=P) b o news 0 w (fun j hj=>by rw [dW]; exact (hc j hj).1) (fun j hj=>by rw [dW]; exact (hc j hj).2) h1;rw [dW] at dz;have LL:Nat.min xl dl=m:=hm;rcases mM m with rfl | hp
 ·have:news=[]:=vR (by simpa using hl);subst this;obtain ⟨q,rfl⟩:=gC;cases q with
  | none=>simp [Cx,gn,run_underlying ht,Cz,sizeOf,typeInfo,hi,LL,hf,goInt,World.setCells]
  | some q=>
   have ZW:(storeCells (ad q.1 q.2) ([]:List Value)).run P w = .ok () w:=rfl;simp [Cx,gn,run_underlying ht,Cz,sizeOf,typeInfo,hi,LL,hf,goInt,World.setCells,ZW]
 rw [hd hp];simp [Cx,gn,run_underlying ht,Cz,sizeOf,typeInfo,hi,LL,hf,goInt,dz]
theorem RV (S:dp P c g w U sr a) {t0 ty:Nat} (hk:(c.ti t0).kind = .slice) {id off len:Nat} {own:Bool} {t:Ty} {vr:Nat} {xs:List t.T} {x:ag} {da:Option Addr} {dc:Nat} {vx:Value} {ts:Array TypeId} (gn:ts[0]? = some t0)
  (pq:0<(c.ti (c.ti t0).elem).size) (bB:(c.ti (c.ti t0).elem).size=t.size) (ho:sr.obj id=some (.row own t vr xs)) (hx:aV g w U x vx) (hlen:off+len≤xs.length)
  (hd:0<len→∃ b o,(g.hd id 0 []).addr=some (b,o)∧da=some (ad b (o+off*t.size))) (gC:∃ q:Option (Nat×Nat),da=q.map fun p=>ad p.1 p.2)
  (e:At sr id own t vr xs off len x k=some r):∃ bq,k bq=some r∧∃ v w',(Cx ts ty #[.slice da len dc,vx]).run P w = .ok v w'∧dL g w U site bq v w' g U:=by
 unfold At at e;cases hp:t.plain with
 | false=>rw [hp] at e; simp at e
 | true=>
 rw [hp] at e;cases LM:sr.list x with
 | none=>rw [LM] at e; simp at e
 | some uy=>
 rw [LM] at e;obtain ⟨u,ys⟩:=uy;simp only at e;cases hz:Ty.cast (.sl u) (.sl t) ys with
 | none=>rw [hz] at e; simp at e
 | some zs=>
 rw [hz] at e;simp only at e;obtain ⟨rfl,hz⟩:=nz hz;obtain rfl:=eq_of_heq hz;refine ⟨_,e,?_⟩;obtain ⟨hU,kR,nv,hR⟩:=S.aX id _ ho;obtain ⟨xa,xc,rfl,EL⟩:=RB S.aX hx LM;have EK:=hR;obtain ⟨r1,r2,r3,r4⟩:=EK;have fw:=u.size_pos;have hT:=oa S.bw (.inl pq);obtain ⟨ti,hi,ZX,-⟩:=hT.info;obtain ⟨m,hm⟩:∃ m,min ys.length len=m:=⟨_,rfl⟩
 obtain ⟨b,o',hb⟩:∃ b o',0<len→(g.hd id 0 []).addr=some (b,o')∧da=some (ad b (o'+off*u.size)):=by
  rcases mM len with h | h
  ·exact ⟨0,0,fun hp=>by omega⟩
  obtain ⟨b,o',h1,h2⟩:=hd h; exact ⟨b,o',fun _=>⟨h1,h2⟩⟩
 obtain ⟨f,hf⟩:∃ f:Nat→Nat→Option Value,(∀ k (hk:k<ys.length),cQ g g.lab w own ca u [] k 0 ys[k] (f k))∧(0<m→∃ b1 o1,xa=some (ad b1 o1)∧∀ k d,f k d=w.cell? (ad b1 (o1+k*u.size+d))):=by
  rcases mM ys.length with h | h
  ·exact ⟨fun _ _=>none,fun k hk=>by omega,fun h2=>by omega⟩
  obtain ⟨b1,o1,h2,h3⟩:=EL h;refine ⟨fun k d=>w.cell? (ad b1 (o1+k*u.size+d)),fun k hk=>?_,fun _=>⟨b1,o1,h2,fun _ _=>rfl⟩⟩;rcases h3 k hk with h5 | ⟨tX,id,vr,p,k',h5⟩
  ·exact HV _ [] _ 0 _ b1 _ hp h5
  exact HW _ [] _ 0 _ _ _ b1 _ hp h5
 obtain ⟨CF,yd⟩:=hf
 let news:List Value:=(List.range (m*u.size)).map fun j=>(f (j / u.size) (j % u.size)).getD undef
 have qg:news.length=m*u.size:=by simp [news]
 have ZY:m≤ys.length:=by omega
 have hml:m≤len:=by omega
 have ZZ:∀ j,j<m*u.size→j / u.size<m:=fun j hj=>by rw [Rr fw]; exact hj
 have xQ:∀ j,j<m*u.size→∃ v,f (j / u.size) (j % u.size)=some v∧v.oneCell'=true:=fun j hj=>
  HU u [] _ 0 _ _ (CF (j / u.size) (nk (ZZ j hj) ZY)) (j % u.size) (Nat.mod_lt _ fw)
 have LN:∀ j,j<m*u.size→news[j]? = f (j / u.size) (j % u.size):=by intro j hj;obtain ⟨v,h1,-⟩:=xQ j hj;simp [news,xV,List.getElem?_range hj,h1]
 have xZ:0<m→∃ b o,xa=some (ad b o)∧∀ j u,news[j]? = some u→w.cell? (ad b (o+j))=some u:=by intro h;obtain ⟨b1,o1,h2,h3⟩:=yd h;refine ⟨b1,o1,h2,fun j v hj=>?_⟩;have RW:=(dV.1 hj).1;rw [qg] at RW;rw [LN j RW,h3] at hj;rw [← hj,bL,HP,Nat.div_add_mod]
 have qk:∀ v∈news,v.oneCell'=true:=by intro v hv;obtain ⟨j,hj,rfl⟩:=sF.1 hv;obtain ⟨z,h1,h2⟩:=xQ j (by omega);have h3:=LN j (by omega);rw [dU hj,h1] at h3;rw [aW h3]; exact h2
 have Z_:(off+m)*u.size≤(g.hd id 0 []).cap*u.size:=fa _ (by omega);rw [cY] at Z_;have mK:∀ j,j<news.length→g.lab b (o'+off*u.size+j)=some (id,[])∧(w.cell? (ad b (o'+off*u.size+j))).isSome=true∧w.frozen? (ad b (o'+off*u.size+j))=false:=by
  intro j hj;have EM:0<m:=by
   rcases mM m with h | h
   ·rw [qg,h] at hj; simp at hj
   exact h
  have:=(r4 b o' (hb (by omega)).1).1 (off*u.size+j) (by omega);rw [bL]; exact this
 have df:=ZV (P:=P) (w:=w) (ty:=ty) (xl:=ys.length) (dl:=len) (dc:=dc) (xc:=xc) (sC S.bw hk) hi hm gn (by rw [qg,ZX,bB]) xZ qk (b:=b) (o:=o'+off*u.size) (fun h=>(hb (by omega)).2) gC
  (fun j hj=>(mK j hj).2)
 have hl:∀ j,j<news.length→g.lab b (o'+off*u.size+j)=some (id,[]):=fun j hj=>(mK j hj).1;have K:=HK (w:=w) hl;have dz:∀ {T:Nat→Prop},T id→eJ T g w U g (w.setCells b (o'+off*u.size) news) U:=fun hT=>K9 hT hl;refine ⟨_,_,df,dz (by simp [look]),?_,fun az o2 e2=>?_,fun s hs=>.inl hs,fun b' o2 q h=>?_,fun b o q hb h=>by rw [h]; simp,?_,?_⟩
 ·show Value.int .i64 (m:Int) = .int .i64 _;rw [hm]
 ·simp only [look] at e2;split at e2
  ·rename_i xU;obtain rfl:=bm xU;simp only [aF] at e2;obtain rfl:=e2;refine ⟨hU,kR,nv,?_⟩;have CK:(xs.take off++(ys.take len++xs.drop (off+min ys.length len))).length=xs.length:=by simp; omega
   refine ⟨by rw [CK]; exact r1,r2,r3,fun b2 o2 dE=>?_⟩;obtain ⟨r5,r6⟩:=r4 b2 o2 dE;refine ⟨fun k hk=>?_,fun k hk=>?_⟩
   ·obtain ⟨a1,a2,a3⟩:=r5 k hk;exact ⟨a1,K.Eo _ _ a2,by rw [K.frozen]; exact a3⟩
   rw [CK] at hk;by_cases cC:off≤k∧k<off+m
   ·have sJ:=(hb (by omega)).1;rw [dE] at sJ;simp only [aF,bE] at sJ;obtain ⟨rfl,rfl⟩:=sJ;have od:(xs.take off++(ys.take len++xs.drop (off+min ys.length len)))[k]'(by rw [CK]; exact hk)=ys[k-off]'(by omega):=by rw [Ak (by simp; omega),B_ (by simp; omega),vv];congr 1; simp; omega
    rw [od];refine LK u [] (k-off) 0 _ _ _ _ _ _ _ _ hp (fun d oq=>?_) (CF (k-off) (by omega));have hj:(k-off)*u.size+d<m*u.size:=by have:(k-off+1)*u.size≤m*u.size:=fa _ (by omega);rw [cY] at this; omega
    have Z0:o2+k*u.size+d=o2+off*u.size+((k-off)*u.size+d):=by
     have:k*u.size=off*u.size+(k-off)*u.size:=by rw [← cY]; congr 1; omega
     omega
    have h5:=Ai b2 news (o2+off*u.size) w (fun j hj=>(mK j hj).2.1) ((k-off)*u.size+d) (by omega);rw [Z0];refine Eq.trans h5 ?_;have h6:=LN _ hj;rw [dU (by omega)] at h6;rw [h6];congr 1
    ·rw [HN,Nat.add_mul_div_right _ _ fw,Nat.div_eq_of_lt oq,jB]
    rw [HN,Rq,HO oq]
   have od:(xs.take off++(ys.take len++xs.drop (off+min ys.length len)))[k]'(by rw [CK]; exact hk)=xs[k]:=by
    by_cases h7:k<off
    ·rw [B_ (by simp; omega),vv]
    rw [Ak (by simp; omega),Ak (by simp; omega),xF];congr 1; simp; omega
   rw [od];refine pe K u _ _ k 0 _ b2 _ (fun d oq=>?_) (fun d s oq=>by intro he; have:=congrArg lr he; simp at this) (r6 k hk);refine tK b _ _ w _ (fun RX _=>?_);simp only at RX ⊢;subst RX;rw [qg];rcases mM m with EM | EM
   ·rw [EM]; omega
   have sJ:=(hb (by omega)).1;rw [dE] at sJ;simp only [aF,bE] at sJ;obtain ⟨-,rfl⟩:=sJ;rcases jP k off with h | h
   ·have:(k+1)*u.size≤off*u.size:=fa _ h;rw [cY] at this; omega
   have:(off+m)*u.size≤k*u.size:=fa _ (by omega);rw [cY] at this; omega
  simp [look] at e2
 ·have:=S.b9 b' o2 q h;have hs:=(vQ (F:=fun _ _=>True) b news (o'+off*u.size) w (fun _ _=>trivial)).size;exact nk this hs
 ·exact vQ b _ _ w (fun k hk=>⟨id,[],hl k hk,S.nf id (by rw [ho]; simp)⟩)
 exact fun az h=>by rw [Cu h]; exact S.nf id (by rw [ho]; simp)
theorem Z1 (S:dp P c g w U sr a) {t0 ty:Nat} (hk:(c.ti t0).kind = .slice) (pq:0<(c.ti (c.ti t0).elem).size) {d x:ag} {vd vx:Value} {ts:Array TypeId} (gn:ts[0]? = some t0) (hd:aV g w U d vd) (hx:aV g w U x vx)
  (e:Cf (c.ti (c.ti t0).elem).size sr d x k=some r):∃ bq,k bq=some r∧∃ v w',(Cx ts ty #[vd,vx]).run P w = .ok v w'∧dL g w U site bq v w' g U:=by
 unfold Cf at e;split at e
 ·rename_i id ver tt;split at e
  ·rename_i own t vr xs ho;split at e
   ·rename_i hb;obtain ⟨hU,KX,kR,cC,sD,rfl⟩:=hd;obtain rfl:=sD rfl;obtain ⟨-,-,-,r1,r2,r3,r4⟩:=S.aX id _ ho;unfold Hd.val;rw [r1];refine RV S hk gn pq (bm hb) ho hx (by omega) (fun hp=>?_) ⟨_,rfl⟩ e;cases ha:(g.hd id 0 []).addr with
    | none=>have:=r3 ha; omega
    | some q=>obtain ⟨b,o'⟩:=q; exact ⟨b,o',rfl,by simp⟩
   simp at e
  simp at e
 ·rename_i id ver tt _ _;split at e
  ·rename_i own t vr xs ho;split at e
   ·rename_i hb;rw [aw] at hb;obtain rfl:=Ty.eq_of_beq hb.2;obtain ⟨hU,KX,kR,cC,sD,da,dc,rfl,h6,h7,h8,h9,AH⟩:=hd;obtain rfl:=sD rfl;obtain ⟨-,-,-,r1,r2,r3,r4⟩:=S.aX id _ ho;exact RV S hk gn pq (bm hb.1) ho hx (by omega) (fun hp=>h9 (by omega)) AH e
   simp at e
  simp at e
 simp at e
end
end Go.Am
namespace Go.Am
open Go
section
variable {P:Program} {c:ba} {g:Gh} {L:bW} {w w':World} {U:Nat→Prop} {sr:St} {a:Act} {site:Nat} {o:Oper} {ρ:Type} {r:ρ} {k:cG→Option ρ}
theorem RY (zero:Array Value) (n i:Nat) (h:i<n*zero.size):(sE zero n)[i]? = some zero[i % zero.size]!:=by simp [sE,h]
theorem Z2 (S:dp P c g w U sr a) (hs:¬ U site) {t u ty:Nat} {e:Ty} {kk kn:IntKind} {n:Int} (hk:(c.ti t).kind = .slice) (hu:(c.ti u).kind = .int kn) (he:(c.ti (c.ti t).elem).ty=some e) (hb:0<(c.ti (c.ti t).elem).bytes)
  (hn:0<n∧n*((c.ti (c.ti t).elem).bytes:Int)≤(bo:Int)) :
  ∃ v w' g' U',(ph #[t,u] ty #[.slice none 0 0,.int kk n]).run P w = .ok v w'∧
   dL g w U site ⟨.own (site*1024) 0 [] e,[(site*1024,some (.row true e site (List.replicate n.toNat e.zero)))]⟩ v w' g' U':=by
 have h0:site≠0:=by rintro rfl; exact hs S.u0
 have hd:=sC S.bw hk;have hT:nu P (c.ti t).elem (c.ti (c.ti t).elem):=by
  unfold ba.ti at he ⊢;generalize (match look c.bw t with | some i=>i | none=>(⟨false,0,0,[],.other,0,none,[],false⟩:mD)).elem=x at he ⊢;cases e2:look c.bw x with
  | none=>rw [e2] at he; simp at he
  | some i=>exact S.bw x i e2
 obtain ⟨pg,iI⟩:=hT.ty e he;obtain ⟨z,hz,hr,hv,ti,oi,vS,gn,ub⟩:=AS hT;have fw:=e.size_pos;have qc:z.cells.size=e.size:=by rw [hz,iI]
 have Rz:(bo:Int)=140737488355328:=rfl;obtain ⟨m,rfl⟩:∃ m:Nat,n=(m:Int):=⟨n.toNat,by omega⟩
 have EM:0<m:=by omega
 have hmb:m*(c.ti (c.ti t).elem).bytes≤140737488355328:=by
  have h2:((m*(c.ti (c.ti t).elem).bytes:Nat):Int)≤140737488355328:=by rw [Int.natCast_mul]; exact hn.2
  omega
 have hle:m≤m*(c.ti (c.ti t).elem).bytes:=Nat.le_mul_of_pos_right _ hb;have Z3:CA m 0=m:=by unfold CA;rw [if_pos (by omega)]
 have Z4:=HD S.bw hu;have bB:ti.size=e.size:=by rw [gn,iI]
 have df:=Lib.run_append_grow_zeros (P:=P) w t u ty (c.ti t).elem ti z kk kn hd Z4 oi vS none 0 0 [] (run_firstCells_none w.drew ti.size 0 0 0) m EM (by omega) (by omega) (by omega) (by rw [ub]; omega) (by rw [jB,Z3,ub]; omega);simp only [jB] at df;have CC:=grownCap_ge w m 0 (c.ti t).elem;generalize grownCap w m 0 (c.ti t).elem=cp at df CC;have B:=Rm w (([]:List Value).toArray++sE z.cells m++sE z.cells (cp-m)) (c.ti t).elem;have ED:∀ i,i<cp*e.size→(([]:List Value).toArray++sE z.cells m++sE z.cells (cp-m))[i]? = some z.cells[i % z.cells.size]!:=by
  intro i hi;have Z5:(sE z.cells m).size=m*e.size:=by simp [sE,qc]
  rw [Et,Et];simp only [List.size_toArray,bh,Nat.not_lt_zero,if_false,Nat.sub_zero,Array.size_append,jB,Z5];by_cases h1:i<m*e.size
  ·rw [if_pos h1,RY _ _ _ (by rw [qc]; exact h1)]
  rw [if_neg h1];have h2:(cp-m)*e.size=cp*e.size-m*e.size:=Nat.sub_mul _ _ _;rw [RY _ _ _ (by rw [qc]; omega)];have:(i-m*e.size) % z.cells.size=i % z.cells.size:=by
   rw [qc];have:i=(i-m*e.size)+m*e.size:=by omega
   conv=>rhs; rw [this]
   rw [Rq]
  rw [this]
 refine ⟨_,_,ja g site (fun _ _=>⟨some (w.heap.size,0),m,cp⟩) (fun _ _=>dX) (jI (fun _ _=>False) (site*1024) ca (fun b o=>b=w.heap.size∧o<cp*e.size) g.lab),U' U site,df,?_⟩;generalize (([]:List Value).toArray++sE z.cells m++sE z.cells (cp-m))=arr at B ED df ⊢;have EB:∀ b o,g.lab b o=none→∀ v,w.cell? (ad b o)=some v→(w.drew.alloc (.cells arr (c.ti t).elem)).cell? (ad b o)=some v∧¬ (b=w.heap.size∧o<cp*e.size):=by intro b o hl v hv;have:=AQ hv;exact ⟨by rw [B.cB (by omega)]; exact hv,by omega⟩
 have dz:∀ {T:Nat→Prop},eJ T g w U (ja g site (fun _ _=>⟨some (w.heap.size,0),m,cp⟩) (fun _ _=>dX) (jI (fun _ _=>False) (site*1024) ca (fun b o=>b=w.heap.size∧o<cp*e.size) g.lab)) (w.drew.alloc (.cells arr (c.ti t).elem)) (U' U site):=
  Ez hs EB (fun b o id p h _=>by have:=S.b9 _ _ _ h;exact ⟨fun h=>h,by omega,B.cB (by omega) o,B.Es (by omega) o⟩)
 refine ⟨dz,⟨.inr (j9 site),.inl S.u0,.inl S.u0,trivial,fun _=>rfl,?_⟩,fun id ob bD=>?_,fun s h=>h,fun b o q h=>?_,fun b o q hb h=>?_,B.fr _,fun id h=>by rw [Cu h,j9]; rintro rfl; exact hs S.AD⟩
 ·rw [tZ h0]; rfl
 ·simp only [look] at bD;split at bD
  ·rename_i hb;obtain rfl:=bm hb;simp only [aF] at bD;subst bD;refine ⟨.inr (j9 site),.inl S.u0,.inr rfl,?_⟩;refine EA (w:=w) (L:=g.lab) (h0:=⟨some (w.heap.size,0),m,cp⟩) _ rfl (tZ h0 _) (fun q id p h e=>by simp [ca] at e) (fun q hq e=>rfl) (fun q id p h e=>by simp [ca] at e) (fun b o hl v hv=>?_) (by simp) CC (by simp) (fun b o hb k hk=>?_) (fun b o hb k hk=>?_)
   ·obtain ⟨a1,a2⟩:=EB b o hl v hv;exact ⟨a1,CB hl a2⟩
   ·simp only [aF,bE] at hb;obtain ⟨rfl,rfl⟩:=hb;refine ⟨⟨rfl,by simpa using hk⟩,?_,B.HM _⟩;rw [B.new,ED _ (by simpa using hk)]; rfl
   simp only [aF,bE] at hb;obtain ⟨rfl,rfl⟩:=hb;simp only [Rp] at hk;have hk:k<m:=by omega
   rw [Ro];have uc:=hv g w U;rw [pg] at uc;refine HS e [] k 0 z.cells.toList _ uc (fun d hd=>?_);have ax:k*e.size+d<cp*e.size:=by have:(k+1)*e.size≤cp*e.size:=fa _ (by omega);rw [cY] at this; omega
   rw [B.new];simp only [jB];rw [ED _ ax];rw [qc,show (k*e.size+d) % e.size=d by rw [HP,Nat.mul_add_mod,HO hd]];rw [getElem!_def,qe];have:d<z.cells.size:=by omega
   rw [qd this]
  simp [look] at bD
 ·rw [B.size];rcases t_ h with ⟨rfl,-⟩ | h
  ·omega
  cases h2:g.lab b o with
  | none=>exact absurd h2 h
  | some q=>have:=S.b9 _ _ _ h2; omega
 rcases t_ h with ⟨rfl,-⟩ | h
 ·omega
 exact h
end
end Go.Am
namespace Go.Am
open Go
section
variable {P:Program} {c:ba} {g:Gh} {L:bW} {w w':World} {U:Nat→Prop} {sr:St} {a:Act} {site:Nat} {o:Oper} {ρ:Type} {r:ρ} {k:cG→Option ρ}
theorem Z6 (S:dp P c g w U sr a) {t ty:Nat} (hk:(c.ti t).kind = .slice) (ku:0<(c.ti (c.ti t).elem).bytes) {s x:ag} {vs vx:Value} (eQ:aV g w U s vs) (hx:aV g w U x vx)
  (e:B9 (c.ti (c.ti t).elem).bytes sr (c.ti (c.ti t).elem).ty s x k=some r) :
  ∃ bq,k bq=some r∧∃ v' w' g' U',(ph #[t,t] ty #[vs,vx]).run P w = .ok v' w'∧dL g w U site bq v' w' g' U':=by
 unfold B9 at e;split at e
 case h_2=>simp at e
 rename_i id _ u hu;split at e
 case h_2=>simp at e
 rename_i ho;split at e
 case h_2=>simp at e
 rename_i ys bB vX;obtain rfl:=bm bB;unfold ab at e;split at e
 case isFalse=>simp at e
 rename_i po;refine ⟨_,e,?_⟩;obtain ⟨-,-,a0,cc,rfl,AL,eO,b,o,ha,kS⟩:=eQ;obtain ⟨b',o',hh,-,-⟩:=xS S.aX ho;have EN:=kS (.inr rfl);clear kS;rw [hh] at ha eO;simp only [aF,bE] at ha;obtain ⟨rfl,rfl⟩:=ha;have fw:=u.size_pos;simp only [jB,Ey,dW,bh] at eO EN;obtain rfl:cc=0:=by
  rcases Nat.mul_eq_zero.1 eO with h | h
  ·exact h
  omega
 subst EN;obtain ⟨-,eG,hT⟩:=CD (L:=g.lab) S.aX (fun _ _ h=>h) hx 0 (fun _ id hi=>by simp at hi) vX;obtain ⟨xa,xc,rfl,CI⟩:=hT.sl;have CH:nu P (c.ti t).elem (c.ti (c.ti t).elem):=by
  have he:=hu;unfold ba.ti at he ⊢;generalize (match look c.bw t with | some i=>i | none=>(⟨false,0,0,[],.other,0,none,[],false⟩:mD)).elem=x at he ⊢;cases e2:look c.bw x with
  | none=>rw [e2] at he; simp at he
  | some i=>exact S.bw x i e2
 obtain ⟨pg,iI⟩:=CH.ty u hu;have hd:=sC S.bw hk;obtain ⟨z,hz,hr,hv,ti,oi,vS,gn,ub⟩:=AS CH;have AV:ti.size=u.size:=by rw [gn,iI]
 obtain ⟨news,qg,sH,Lu⟩:∃ news:List Value,news.length=ys.length*u.size∧(0<ys.length→∃ b o,xa=some (ad b o)∧(∀ j u',news[j]? = some u'→w.cell? (ad b (o+j))=some u')∧∀ k (hk:k<ys.length),cQ g g.lab w false eG u [] (0+k) 0 ys[k] (fun d=>w.cell? (ad b (o+k*u.size+d))))∧∀ y∈news,y.oneCell'=true:=by
  rcases mM ys.length with hy | hy
  ·exact ⟨[],by simp [hy],fun h=>by omega,by simp⟩
  obtain ⟨b,o,e1,e2⟩:=CI hy;have e3:=RE e2;refine ⟨oj w b o (ys.length*u.size),by simp [oj],fun _=>⟨b,o,e1,fun j u' hj=>?_,e2⟩,fun y hy=>?_⟩
  ·have ax:j<ys.length*u.size:=by have:=(dV.1 hj).1;simpa [oj] using this
   obtain ⟨v,hv,-⟩:=e3 j ax;exact (Lq hj (by rw [hv]; rfl)).1
  obtain ⟨j,hj,hy⟩:=sF.1 hy;simp only [oj,List.length_map,List.length_range] at hj;obtain ⟨v,hv,h1⟩:=e3 j hj;simp only [oj,og,AT,hv,Option.getD_some] at hy;rw [← hy]; exact h1
 have EC:=RA (P:=P) (w:=w) (ty:=ty) (h:=⟨some (b',o'),0,0⟩) (olds:=[]) (news:=news) (xa:=xa) (m:=ys.length) (xc:=xc) hd oi vS (by rw [hz,gn]) (by rw [ub]; exact ku) (cj _) (by simp) (by simp)
  (fun b o hb=>⟨by simp,fun k hk=>by simp at hk⟩) (by rw [AV]; exact qg) (fun hy=>let ⟨b,o,e1,e2,_⟩:=sH hy; ⟨b,o,e1,e2⟩) Lu (by rw [ub]; simpa using po)
 rw [AV] at EC;rcases EC with ⟨b,o,ha,hr,hs⟩ | ⟨ha,hm,hl,hs⟩ | ⟨cap,arr,w',B,hc,RG,hl,hs⟩
 ·have ye:ys.length=0:=by have hr:0+ys.length≤0:=hr;omega
  have hy:ys=[]:=vR ye;have Z7:news=[]:=vR (by rw [qg,ye]; simp);subst Z7;refine ⟨_,_,g,U,hs,.same S.b9 ⟨⟨some (ad b o),0,0,by simp [ye],by simp [ye],cj _,by simp,fun h=>by simp [hy] at h⟩,by simp⟩⟩
 ·simp at ha
 obtain ⟨rest,hl⟩:=hl;have od:∀ j v,news[j]? = some v→w'.cell? (ad w.heap.size j)=some v:=by
  intro j v hj;rw [B.new];have:arr[j]? = arr.toList[j]?:=by simp
  rw [this,hl,oh,Ev (dV.1 hj).1]; exact hj
 have CM:∀ o,g.lab w.heap.size o=none:=fun o=>by
  cases h:g.lab w.heap.size o with
  | none=>rfl
  | some q=>have:=S.b9 _ _ _ h; omega
 have dz:∀ {T:Nat→Prop},eJ T g w U g w' U:=⟨fun _ h=>h,fun _ _ _ _ _=>rfl,fun b o hn v hv=>⟨by rw [B.cB (Lg (AQ hv))]; exact hv,hn⟩,fun b o id p h _=>⟨h,B.cB (Lg (S.b9 _ _ _ h)) o,B.Es (Lg (S.b9 _ _ _ h)) o⟩⟩
 have AW:∀ b o,g.lab b o=none→∀ v,w.cell? (ad b o)=some v→w'.cell? (ad b o)=some v∧g.lab b o=none:=(dz (T:=fun _=>False)).shr;have Z8:∀ (t:Ty) (q:Path) (i j:Nat) (x:t.T) (f:Nat→Option Value) (o:Nat),(∀ d v,d<t.size→f d=some v→w'.cell? (ad w.heap.size (o+d))=some v)→cQ g g.lab w false eG t q i j x f→Sh g.lab w' t x w.heap.size o:=by
  intro t;induction t with
  | int kk=>intro q i j x f o hf h; exact ⟨hf 0 _ (by simp [Ty.size]) h,CM _⟩
  | bool=>intro q i j x f o hf h; exact ⟨hf 0 _ (by simp [Ty.size]) h,CM _⟩
  | str=>intro q i j x f o hf h; exact ⟨hf 0 _ (by simp [Ty.size]) h,CM _⟩
  | err=>intro q i j x f o hf h; obtain ⟨v,h1,h2⟩:=h; exact ⟨⟨v,hf 0 _ (by simp [Ty.size]) h1,h2⟩,CM _⟩
  | pair s t LD LF=>
   intro q i j x f o hf h;refine ⟨LD q i j x.1 f o (fun d v hd hv=>hf d v (by simp [Ty.size]; omega) hv) h.1,LF q i _ x.2 _ (o+s.size) (fun d v hd hv=>?_) h.2⟩;rw [bL]; exact hf _ v (by simp [Ty.size]; omega) hv
  | sl t ih=>intro q i j x f o hf h; obtain ⟨v,h1,h2⟩:=h; exact ⟨⟨v,hf 0 _ (by simp [Ty.size]) h1,ix (gb AW t) h2⟩,CM _⟩
  | bQ t ih=>intro q i j x f o hf h; obtain ⟨v,h1,h2,h3⟩:=h; exact ⟨⟨v,hf 0 _ (by simp [Ty.size]) h1,ix (gb AW t) h2,h3⟩,CM _⟩
 refine ⟨_,_,g,U,hs,dz,⟨⟨some (ad w.heap.size 0),_,cap,rfl,by simp,hc,by simp,fun aA=>⟨w.heap.size,0,rfl,fun i hi=>?_⟩⟩,by simp⟩,fun id ob bD=>by simp [look] at bD,fun s h=>.inl h,fun b o q h=>by have:=S.b9 _ _ _ h; rw [B.size]; omega,fun b o q hb h=>by rw [h]; simp,B.fr _,fun id h=>by simp [look] at h⟩;have hi:i<ys.length:=hi;obtain ⟨b,o,e1,e2,e3⟩:=sH (by omega);refine Z8 u [] (0+i) 0 _ _ _ (fun d v hd hv=>?_) (e3 i hi);have ax:i*u.size+d<news.length:=by rw [qg];have:(i+1)*u.size≤ys.length*u.size:=fa _ (by omega);rw [cY] at this; omega
 rw [jB];refine od _ v ?_;rw [dU ax];have:=e2 (i*u.size+d) _ (dU ax);have hv:w.cell? (ad b (o+i*u.size+d))=some v:=hv;rw [bL,this] at hv;exact hv
theorem Z9 (S:dp P c g w U sr a) (hs:¬ U site) {t ty:Nat} (hk:(c.ti t).kind = .slice) (ku:0<(c.ti (c.ti t).elem).bytes) {s x:ag} {vs vx:Value} (eQ:aV g w U s vs) (hx:aV g w U x vx)
  (e:Ca (c.ti (c.ti t).elem).bytes sr site (c.ti (c.ti t).elem).ty s x k=some r) :
  ∃ bq,k bq=some r∧∃ v' w' g' U',(ph #[t,t] ty #[vs,vx]).run P w = .ok v' w'∧dL g w U site bq v' w' g' U':=by
 unfold Ca at e;split at e
 case h_2=>simp at e
 rename_i u hu;split at e
 case h_2=>simp at e
 rename_i ys hb vX;unfold ab at e;split at e
 case isFalse=>simp at e
 rename_i po;refine ⟨_,e,?_⟩;have CH:nu P (c.ti t).elem (c.ti (c.ti t).elem):=by
  have he:=hu;unfold ba.ti at he ⊢;generalize (match look c.bw t with | some i=>i | none=>(⟨false,0,0,[],.other,0,none,[],false⟩:mD)).elem=x at he ⊢;cases e2:look c.bw x with
  | none=>rw [e2] at he; simp at he
  | some i=>exact S.bw x i e2
 obtain ⟨-,iI⟩:=CH.ty u hu;obtain ⟨-,eG,hT⟩:=CD (L:=g.lab) S.aX (fun _ _ h=>h) hx (lr ([]:List u.T)) (fun _ id hi=>by simp at hi) vX;have aaa:∀ q,eG q=none:=fun q=>by
  cases h:eG q with
  | none=>rfl
  | some y=>obtain ⟨id,p,h'⟩:=y; have:=hT.tk.ids _ _ _ _ h; simp at this
 have fin:∀ (h:Hd),vs=h.val→h.len=0→h.cap=0→∃ v' w' g' U',(ph #[t,t] ty #[vs,vx]).run P w = .ok v' w'∧dL g w U site ⟨.own (site*1024) 0 [] u,[(site*1024,some (.row false u site ys))]⟩ v' w' g' U':=by
  intro h hv h1 h2;subst hv;obtain ⟨v',w',g',df,A⟩:=H_ (L:=g.lab) (own:=false) (ty:=ty) (σ0:=ca) S hs hk ku iI (Do:=fun _ _=>False) (fun _ _=>dX) (h:=h) (xs:=[]) h1 (by omega) (fun _=>h2)
   (fun b o hb k hk=>by rw [h2] at hk; simp at hk) (fun b o hb k hk=>by simp at hk) (fun q id p h' e=>by simp [ca] at e) (fun q q' id p h1 h2 e=>by simp [ca] at e) (fun p hp=>absurd rfl hp) hT
   (fun id hi p hu=>hu) (by simp) (fun _=>⟨fun q=>rfl,aaa⟩) (fun b o hb=>.inl hb) (by simpa using po) (fun id p h=>h.elim)
  exact ⟨v',w',g',_,df,H2 S hs A (fun az p hD=>by rcases hD with hD | hD; exact hD.elim; simp at hD) (fun az ob bD=>by simp [look] at bD) (fun az h=>by simp [look] at h)⟩
 split at hb
 ·exact fin dX (by rw [show vs=_ from eQ]; rfl) rfl rfl
 ·rename_i id _;split at hb
  ·rename_i ho;obtain rfl:=bm hb;obtain ⟨-,-,a0,cc,rfl,AL,eO,b,o,ha,kS⟩:=eQ;obtain ⟨b',o',hh,-,-⟩:=xS S.aX ho;have EN:=kS (.inr rfl);clear kS;rw [hh] at ha eO;simp only [aF,bE] at ha;obtain ⟨rfl,rfl⟩:=ha;have fw:=u.size_pos;simp only [jB,Ey,dW,bh] at eO EN;obtain rfl:cc=0:=by
    rcases Nat.mul_eq_zero.1 eO with h | h
    ·exact h
    omega
   subst EN;exact fin ⟨some (b',o'),0,0⟩ (by simp [Hd.val]) rfl rfl
  simp at hb
 simp at hb
theorem RZ {ow:Bool} (S:dp P c g w U sr a) (hs:¬ U site) {t:Nat} {x:ag} {v:Value} {lo hi:Option Operand} (hk:(c.ti t).kind = .slice) (hz:0<(c.ti (c.ti t).elem).size) (hx:aV g w U x v)
  (e:Au ow (c.ti (c.ti t).elem).size sr site x lo hi k=some r) :
  ∃ bq,k bq=some r∧∃ v' w' g' U',(Instr.sliceAt t v (lo.map a.eval) (hi.map a.eval) none).run P w = .ok v' w'∧dL g w U site bq v' w' g' U':=by
 have h0:site≠0:=by rintro rfl; exact hs S.u0
 unfold Au at e;obtain ⟨z,e,v',df,nv⟩:=Q7 S hk hz hx e;simp only at e;split at e
 case h_2=>simp at e
 rename_i id _ tt;split at e
 case h_2=>simp at e
 rename_i ho;split at e
 case h_2=>simp at e
 rename_i hb;obtain rfl:=Ty.eq_of_beq hb;refine ⟨_,e,v',w,?_⟩;obtain ⟨h1,h2,h3,-,h5,a0,cc,rfl,hc,-,-,ha,q,rfl⟩:=nv;obtain rfl:=h5 rfl;obtain ⟨hU,kR,nv,r1,r2,r3,r4⟩:=S.aX id _ ho;rw [jB] at hc;have hq:0<cc→∃ b o,(g.hd id 0 []).addr=some (b,o)∧q=some (b,o):=by
  intro h;obtain ⟨b,o,e1,e2⟩:=ha h;refine ⟨b,o,e1,?_⟩;cases q with
  | none=>simp at e2
  | some q=>
   simp only [HQ,aF,Addr.mk.injEq,Ey,dW] at e2;obtain ⟨e3,e4,-⟩:=e2;rw [← e3,← e4]
 have lW:id / 1024≠19:=S.nf id (by rw [ho]; simp);have nB:∀ b o,q=some (b,o)→∀ k,k<cc*tt.size→g.lab b (o+k)=some (id,[])∧(w.cell? (ad b (o+k))).isSome=true∧w.frozen? (ad b (o+k))=false:=by intro b o wa k hk;have ud:0<cc:=Nat.pos_of_ne_zero (fun h=>by rw [h] at hk; simp at hk);obtain ⟨b',o',e1,e2⟩:=hq ud;rw [e2] at wa;simp only [aF,bE] at wa;obtain ⟨rfl,rfl⟩:=wa;exact (r4 _ _ e1).1 k (by rw [← hc]; exact hk)
 refine ⟨ja g site (fun _ _=>⟨q,0,cc⟩) (fun _ _=>dX) (jI (fun az _=>az=id) (site*1024) ca (fun b o=>∃ o0,q=some (b,o0)∧o0≤o∧o<o0+cc*tt.size) g.lab),U' U site,df,?_⟩;have hR:∀ b o,(∃ o0,q=some (b,o0)∧o0≤o∧o<o0+cc*tt.size)→g.lab b o=some (id,[]):=by rintro b o ⟨o0,e1,e2,e3⟩;have:=(nB b o0 e1 (o-o0) (by omega)).1;rwa [show o0+(o-o0)=o by omega] at this
 have dz:∀ {T:Nat→Prop},T id→eJ T g w U (ja g site (fun _ _=>⟨q,0,cc⟩) (fun _ _=>dX) (jI (fun az _=>az=id) (site*1024) ca (fun b o=>∃ o0,q=some (b,o0)∧o0≤o∧o<o0+cc*tt.size) g.lab)) w (U' U site):=by
  intro T hT;refine Ez hs (fun b o hn v hv=>⟨hv,fun hr=>by rw [hR b o hr] at hn; simp at hn⟩) (fun b o az p h hT'=>?_);have aA:az≠id:=by rintro rfl; exact hT' hT
  exact ⟨aA,fun hr=>by rw [hR b o hr] at h; simp at h; exact aA h.1.symm,rfl,rfl⟩
 refine ⟨dz (by simp only [look]; split<;>simp),⟨.inr (j9 site),.inl S.u0,.inl S.u0,trivial,fun _=>rfl,?_⟩,fun az ob bD=>?_,fun s h=>h,fun b o q h=>?_,fun b o q hb h=>?_,Fr.refl _ _,fun az h=>?_⟩
 ·rw [tZ h0]; rfl
 ·simp only [look] at bD;split at bD
  ·rename_i hb;obtain rfl:=bm hb;simp only [aF] at bD;subst bD;refine ⟨.inr (j9 site),.inl S.u0,.inr rfl,?_⟩;refine EA (w:=w) (L:=fun _ _=>some (0,[])) (h0:=⟨q,0,cc⟩) _ rfl (tZ h0 _) (fun q id p h e=>by simp [ca] at e) (fun q hq e=>rfl) (fun q id p h e=>by simp [ca] at e) (fun b o hl v hv=>by simp at hl) rfl (Nat.zero_le _) (fun h=>?_) (fun b o hb k hk=>?_) (fun b o hb k hk=>by simp at hk)
   ·rcases mM cc with ud | ud
    ·exact ud
    obtain ⟨b,o,-,e2⟩:=hq ud;rw [show q=none from h] at e2; simp at e2
   obtain ⟨-,a2,a3⟩:=nB b o hb k hk;exact ⟨⟨o,hb,by omega,by have hk:k<cc*tt.size:=hk; omega⟩,a2,a3⟩
  split at bD<;>simp at bD
 ·rcases t_ h with hr | h
  ·exact S.b9 _ _ _ (hR _ _ hr)
  cases h2:g.lab b o with
  | none=>exact absurd h2 h
  | some q=>exact S.b9 _ _ _ h2
 ·rcases t_ h with hr | h
  ·rw [hR _ _ hr]; simp
  exact h
 simp only [look] at h;split at h
 ·rename_i hb;obtain rfl:=bm hb;rw [j9]; rintro rfl; exact hs S.AD
 split at h
 ·rename_i hb;obtain rfl:=bm hb;exact lW
 simp at h
end
end Go.Am
