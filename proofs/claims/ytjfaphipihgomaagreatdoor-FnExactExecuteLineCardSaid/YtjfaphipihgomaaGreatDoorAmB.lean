/- The abstract machine is right: rows that are made, appended to and written. No condition. -/
import Derived.Test.YtjfaphipihgomaaGreatDoorAmA
import Derived.Lib.AppendZerosOnto
set_option linter.unusedVariables false
set_option linter.unusedSimpArgs false
open Array renaming getElem?_append → Fv, getElem?_eq_getElem → s_, getElem?_toList → s4, length_toList → IM
open Bool renaming and_eq_true → aB
open Go.Builtin renaming append_ → p_, copy_ → Du, firstCells → Dv, lenOf → Dw, nextslicecap → Dx, zeroCells → tC
open Go.Instr renaming buildSlice → Mk, storeAt → th
open Go.World renaming cell?_setCells_in → Bd, cell?_setCells_out → uQ, frozen?_setCells → Be
open List renaming cons_append → pI, eq_nil_of_length_eq_zero → yz, getElem?_append_left → Fw, getElem?_append_right → Fx, getElem?_eq_getElem → eX, getElem?_eq_some_iff → eE, getElem?_map → yX, getElem_append_left → CW, getElem_append_right → Bf, getElem_drop → CQ, getElem_map → p5, getElem_range → CL, getElem_replicate → SE, getElem_take → Ba, length → mK, length_nil → bP, length_replicate → SF, map_cons → mM, mem_append_left → lH, mem_append_right → wb, mem_cons_of_mem → kD, mem_iff_getElem → tD, ne_nil_of_length_pos → Ml, nil_append → qO, nodup_cons → qK
open Nat renaming add_assoc → cg, add_comm → Lx, add_mul → dH, add_mul_mod_self_right → SG, add_zero → eG, blt_eq → eH, div_lt_iff_lt_mul → SI, eq_of_beq_eq_true → bB, eq_of_mul_eq_mul_right → SJ, eq_zero_or_pos → oK, le_of_ble_eq_true → gz, le_refl → cx, lt_of_lt_of_le → oL, lt_or_ge → kj, mod_eq_of_lt → IN, mul_comm → IP, mul_le_mul_right → fk, ne_of_lt → Mm, zero_add → kg, zero_mul → HS
open Option renaming map_eq_some_iff → yx, map_some → Ly
open Option.some renaming inj → aZ, injEq → aN
open Prod.mk renaming inj → Mn, injEq → bS
open Sigma.mk renaming inj → qI
namespace Go.Am
open Go
theorem SK (off:Nat):∀ (vs:List Value) (n:Nat) (arr:Array Value),(vs.zipIdx n).foldl (fun (cs:Array Value) (p:Value×Nat)=>cs.setIfInBounds (off+p.2) p.1) arr=(vs.zipIdx n).foldl (fun (cs:Array Value) (p:Value×Nat)=>cs.setIfInBounds (off+p.2) p.1) arr∧
  ((vs.zipIdx n).foldl (fun (cs:Array Value) (p:Value×Nat)=>cs.setIfInBounds (off+p.2) p.1) arr).size=arr.size∧
  ∀ k,((vs.zipIdx n).foldl (fun (cs:Array Value) (p:Value×Nat)=>cs.setIfInBounds (off+p.2) p.1) arr)[k]? = if off+n≤k∧k<off+n+vs.length∧k<arr.size then vs[k-(off+n)]? else arr[k]?
 | [],n,arr=>⟨rfl,rfl,fun k=>by simp; omega⟩
 | v::vs,n,arr=>by
  obtain ⟨-,h1,h2⟩:=SK off vs (n+1) (arr.setIfInBounds (off+n) v);refine ⟨rfl,by simp_all,fun k=>?_⟩;simp only [List.zipIdx_cons,List.foldl_cons]
  grind
section
variable {P:Program} {c:bd} {g:Gh} {w w':World} {U:Nat→Prop} {sr:St} {a:Act} {site:Nat} {o:Oper} {ρ:Type} {r:ρ} {k:cK→Option ρ} {arr:Array Value} {e:TypeId}
theorem Mo (S:dC P c g w U sr a) (pl:Nat→Option (Nat×Nat)):∀ (ps:List (Nat×Operand)) (zs cs:List ah) (arr:Array Value),cz g w U zs arr.toList→
  tw pl (ps.map fun p=>(p.1,sr.ev p.2)) zs=some cs→∃ yY,Instr.fill pl arr (ps.map fun p=>(p.1,a.eval p.2))=some yY∧cz g w U cs yY.toList
 | [],zs,cs,arr,hz,h=>by simp only [List.map_nil,tw,aN] at h;subst h;exact ⟨arr,rfl,hz⟩
 | (i,x)::ps,zs,cs,arr,hz,h=>by
  simp only [mM,tw] at h;split at h
  ·rename_i off size gg;split at h
   ·rename_i hb;simp only [aB,Nat.ble_eq] at hb;obtain ⟨⟨gG,eK⟩,SL⟩:=hb;have gG:=bB gG;obtain ⟨hv,-⟩:=BG (S.ev x) eK;have hl:=mU hv;have A2:=mU hz;have bF:(a.eval x).cells.size=size:=by rw [← gG,← hl]; simp
    simp only [Instr.fill,gg,mM,bF,ne_eq,not_true_eq_false,decide_false,Bool.false_or,decide_eq_true_eq];rw [if_neg (by grind)];have Zg:(a.eval x).cells.zipIdx.foldl (fun (cs:Array Value) (p:Value×Nat)=>cs.setIfInBounds (off+p.2) p.1) arr=((a.eval x).cells.toList.zipIdx 0).foldl (fun (cs:Array Value) (p:Value×Nat)=>cs.setIfInBounds (off+p.2) p.1) arr:=by rw [← Array.foldl_toList]; simp
    obtain ⟨-,f1,f2⟩:=SK off (a.eval x).cells.toList 0 arr;refine Mo S pl ps _ cs _ ?_ h;refine wE ?_ ?_
    ·rw [uM,← A2]
     grind
    intro m h1 h2;rw [uM] at h1;have g1:=IK zs off (sr.ev x).cells m (by omega);rw [eX (by omega)] at g1;have g2:=f2 m;rw [← Zg] at g2;have g3:=eX h2;simp only [s4] at g3;have g4:=g3.symm.trans g2;simp only [eG,IM] at g4 A2;by_cases cU:off≤m∧m<off+(sr.ev x).cells.length
    ·rw [if_pos cU] at g1;rw [if_pos (by omega)] at g4;obtain ⟨y,h3,h4⟩:=mi hv (m-off) (by omega)
     grind
    rw [if_neg cU] at g1;rw [if_neg (by omega)] at g4;obtain ⟨y,h3,h4⟩:=mi hz m h1
    grind
   grind
  grind
theorem aaj (S:dC P c g w U sr a) {t:Nat} {parts:Array (Nat×Operand)} {cs:List ah} (hk:(c.ti t).kind = .struct) (hf:(c.ti t).fields.all (fun f=>Nat.blt 0 (c.ti f.2).size)=true)
  (h:tw (De c (c.ti t)) (parts.toList.map fun p=>(p.1,sr.ev p.2)) (c.ti t).zero=some cs) :
  Ok P g w U (.agg cs) (Instr.build t (parts.map fun (i,x)=>(i,a.eval x))):=by
 have hT:=Dl S.bm hk (by simp);obtain ⟨z,hz,hr,hv,ti,qL,wI,-⟩:=BK hT;obtain ⟨d,h1,h2,-⟩:=hT.desc;rw [hk] at h2;obtain ⟨fs,rfl,h3⟩:=h2;obtain ⟨yY,h4,h5⟩:=Mo S (De c (c.ti t)) parts.toList _ cs z.cells (hv g w U) h;have c8:∀ f∈fs.toList,0<(c.ti f.type).size:=by
  intro f Mq;have qW:(f.offset,f.type)∈(c.ti t).fields:=by rw [← h3]; exact List.mem_map_of_mem Mq
  have:=List.all_eq_true.1 hf _ qW;simpa [eH] using this
 have hm:∀ (l:List Field),(∀ f∈l,0<(c.ti f.type).size)→l.mapM (fun f=>(P.info? f.type).map fun i=>(f.offset,i.size))=some (l.map fun f=>(f.offset,(c.ti f.type).size)):=by
  intro l;induction l with
  | nil=>grind
  | cons f l ih=>
   intro hl;obtain ⟨i,e1,e2,-⟩:=(oS S.bm (.inl (hl f (by simp)))).info
   grind
 have gg:(fun (n:Nat)=>(fs.toList.map fun f=>(f.offset,(c.ti f.type).size))[n]?)=De c (c.ti t):=by funext n;unfold De;rw [← h3];simp only [yX,s4];cases fs[n]?<;>rfl
 have hb:P.built t (parts.map fun (i,x)=>(i,a.eval x)).toList=some yY:=by
  unfold Program.built;rw [qL,h1];simp only [wI,hm fs.toList c8];have e1:(fun (n:Nat)=>(fs.toList.map fun f=>(f.offset,(c.ti f.type).size)).toArray[n]?)=De c (c.ti t):=by rw [← gg]; funext n; simp
  rw [e1,← h4];simp
 exact ⟨.agg yY,run_build w t _ _ hb,yY.toList,by simp,h5⟩
theorem Ry (n:Nat) (cs:List ah):(wv n cs).length=n*cs.length:=by simp [wv]
theorem aak (n:Nat) (cs:List ah):∀ k,k<n*cs.length→(wv n cs)[k]? = cs[k % cs.length]?:=by
 induction n with
 | zero=>omega
 | succ n ih=>
  intro k hk;have e:wv (n+1) cs=cs++wv n cs:=by simp [wv,List.replicate_succ]
  rw [e];by_cases aF:k<cs.length
  ·rw [Fw aF,IN aF]
  rw [Fx (by omega),ih (k-cs.length) (by grind)];rw [← Nat.mod_eq_sub_mod (by omega)]
theorem aal {n:Nat} {zs:List ah} {z:Array Value} (h:cz g w U zs z.toList) (hp:0<zs.length) :
  cz g w U (wv n zs) ((Array.range (n*zs.length)).map (z[· % z.size]!)).toList:=by
 have hl:=mU h;simp only [IM] at hl;refine wE (by simp [Ry]) (fun k h1 h2=>?_);have h3:=aak n zs k (by grind);have hm:k % zs.length<zs.length:=Nat.mod_lt _ hp;obtain ⟨y,h4,h5⟩:=mi h (k % zs.length) hm
 grind
theorem aam (S:dC P c g w U sr a) (hs:¬ U site) {t len:Nat} {parts:Array (Nat×Operand)} {cs:List ah} (hk:(c.ti t).kind = .slice) (he:0<(c.ti (c.ti t).elem).size)
  (hlen:len*(c.ti (c.ti t).elem).size≤100000)
  (h:tw (fun n=>some (n*(c.ti (c.ti t).elem).size,(c.ti (c.ti t).elem).size)) (parts.toList.map fun p=>(p.1,sr.ev p.2)) (wv len (c.ti (c.ti t).elem).zero)=some cs) :
  ∃ v w' g' U',(Mk t len (parts.map fun (i,x)=>(i,a.eval x))).run P w = .ok v w'∧
   dP g w U site ⟨.fJ (site*1024) 0 len (c.ti (c.ti t).elem).size,[(site*1024,some (.cells [] cs))]⟩ v w' g' U':=by
 have hd:=tx S.bm hk;have hT:=oS S.bm (.inl he);obtain ⟨z,hz,hr,hv,-⟩:=BK hT;have A2:(c.ti (c.ti t).elem).zero.length=(c.ti (c.ti t).elem).size:=by have:=mU (hv g w U); rw [← this,← hz]; simp
 have Mr:=aal (n:=len) (z:=z.cells) (hv g w U) (by omega);rw [A2] at Mr;obtain ⟨yY,h4,h5⟩:=Mo S _ parts.toList _ cs _ Mr h;have fx:cs.length=len*(c.ti (c.ti t).elem).size:=by
  have:∀ (ps:List (Nat×ah)) (zs cs:List ah),tw (fun n=>some (n*(c.ti (c.ti t).elem).size,(c.ti (c.ti t).elem).size)) ps zs=some cs→cs.length=zs.length:=by
   intro ps;induction ps with
   | nil=>intro zs cs h; simp [tw] at h; rw [h]
   | cons p ps ih=>
    intro zs cs h;simp only [tw] at h;split at h
    ·rw [ih _ _ h,uM]
    grind
  rw [this _ _ _ h,Ry,A2]
 have B:=HQ w yY (c.ti t).elem;obtain ⟨g',U',hp⟩:=Dt S hs B h5 (x:=.fJ (site*1024) 0 len (c.ti (c.ti t).elem).size) (v:=.slice (some (ad w.heap.size 0)) len len)
  (fun g' hg=>⟨.inr (kz site),.inl S.u0,_,_,rfl,cx _,by grind,_,_,by rw [hg],by simp⟩)
 refine ⟨_,_,g',U',?_,hp⟩;have SM:(parts.map fun (i,x)=>(i,a.eval x)).toList=parts.toList.map fun p=>(p.1,a.eval p.2):=by simp
 by_cases h0:len*(c.ti (c.ti t).elem).size=0
 ·have hz':((Array.range (len*(c.ti (c.ti t).elem).size)).map (z.cells[· % z.cells.size]!)) = #[]:=by rw [h0]; simp [Array.range_zero']
  rw [hz'] at h4;have aG:¬ (len*(c.ti (c.ti t).elem).size>2 ^ 24):=by omega
  simp only [Mk,Sem.run_bind,run_underlying hd,yR hT,Result.andThen_ok,Sem.run_ite,aG,if_false,h0,if_true,Sem.run_pure,SM];simp [h4,newRow,Array.range_zero']
 have aG:¬ (len*(c.ti (c.ti t).elem).size>2 ^ 24):=by omega
 simp only [Mk,Sem.run_bind,run_underlying hd,yR hT,Result.andThen_ok,Sem.run_ite,aG,if_false,h0,Sem.run_pure,hr,SM];simp [h4,newRow]
end
end Go.Am
namespace Go.Am
open Go
open Classical in
noncomputable def jL (D:Nat→Path→Prop) (N:Nat) (σ:Src) (Rt:Nat→Nat→Prop) (l:b9):b9:=fun b o=>
 if Rt b o then some (N,[]) else match l b o with
  | none=>none
  | some (id,p)=>if D id p then (if h:∃ q hd,σ q=some (id,p,hd) then some (N,h.choose) else none) else some (id,p)
section
variable {D:Nat→Path→Prop} {N:Nat} {σ:Src} {Rt:Nat→Nat→Prop} {l:b9} {b o:Nat}
theorem aan (h:Rt b o):jL D N σ Rt l b o=some (N,[]):=by simp [jL,h]
theorem Dy (h:l b o=none) (hr:¬ Rt b o):jL D N σ Rt l b o=none:=by simp [jL,h,hr]
theorem SN {id:Nat} {p:Path} (h:l b o=some (id,p)) (hr:¬ Rt b o) (hd:¬ D id p):jL D N σ Rt l b o=some (id,p):=by simp [jL,h,hr,hd]
theorem aao {id:Nat} {p q:Path} {hh:Hd} (h:l b o=some (id,p)) (hr:¬ Rt b o) (hd:D id p) (fQ:σ q=some (id,p,hh)) (hi:∀ q' h',σ q'=some (id,p,h')→q'=q) :
  jL D N σ Rt l b o=some (N,q):=by
 have hex:∃ q hd,σ q=some (id,p,hd):=⟨q,hh,fQ⟩
 simp only [jL,hr,if_false,h,hd,if_true,hex,dif_pos]
 grind
theorem SO {id:Nat} {p:Path} (h:l b o=some (id,p)) (hr:¬ Rt b o) (hd:D id p) (fQ:∀ q h',σ q≠some (id,p,h')):jL D N σ Rt l b o=none:=by have hex:¬ ∃ q hd,σ q=some (id,p,hd):=fun ⟨q,hh,e⟩=>fQ q hh e;simp only [jL,hr,if_false,h,hd,if_true,hex,dif_neg,not_false_eq_true]
theorem aap {q:Nat×Path} (h:jL D N σ Rt l b o=some q):Rt b o∨l b o≠none:=by
 by_cases hr:Rt b o
 ·grind
 refine .inr (fun hn=>?_);rw [Dy hn hr] at h; simp at h
end
section
variable {P:Program} {c:bd} {g:Gh} {L:b9} {w w':World} {U:Nat→Prop} {sr:St} {a:Act} {site:Nat} {o:Oper} {ρ:Type} {r:ρ} {k:cK→Option ρ} {D:Nat→Path→Prop} {N:Nat} {σ:Src} {Rt:Nat→Nat→Prop} {R H:Nat→Path→Hd}
theorem vb {l:b9} {b o:Nat} {q:Nat×Path} (h:(jh g site R H (jL D N σ Rt l)).lab b o=some q):Rt b o∨l b o≠none:=aap h
theorem Fy {T:Nat→Prop} (hs:¬ U site) (h1:∀ b o,g.lab b o=none→∀ v,w.cell? (ad b o)=some v→w'.cell? (ad b o)=some v∧¬ Rt b o)
  (h2:∀ b o id p,g.lab b o=some (id,p)→¬ T id→¬ D id p∧¬ Rt b o∧w'.cell? (ad b o)=w.cell? (ad b o)∧w'.frozen? (ad b o)=w.frozen? (ad b o)) :
  eV T g w U (jh g site R H (jL D N σ Rt g.lab)) w' (U' U site):=by
 refine ⟨fun s h=>.inl h,fun id ver p a1 a2=>Mi hs a1 a2,fun b o hn v hv=>?_,fun b o id p h hT=>?_⟩
 ·obtain ⟨a1,a2⟩:=h1 b o hn v hv;exact ⟨a1,Dy hn a2⟩
 obtain ⟨a1,a2,a3,a4⟩:=h2 b o id p h hT;exact ⟨SN h a2 a1,a3,a4⟩
theorem Fz {own:Bool} {t:Ty} {xs:List t.T} {h0:Hd} (g':Gh) (hg:g'=jh g site R H (jL D N σ Rt g.lab)) (p6:g'.hd N 0 []=h0)
  (hH:∀ q id p h,σ q=some (id,p,h)→H N q=h) (hHn:∀ q,q≠[]→σ q=none→H N q=eh)
  (A3:∀ q id p h,σ q=some (id,p,h)→D id p∧(∀ q' h',σ q'=some (id,p,h')→q'=q)∧∀ b o,g.lab b o=some (id,p)→¬ Rt b o∧w'.cell? (ad b o)=w.cell? (ad b o)∧w'.frozen? (ad b o)=w.frozen? (ad b o))
  (hL:∀ b o,L b o=none→∀ v,w.cell? (ad b o)=some v→w'.cell? (ad b o)=some v∧jL D N σ Rt g.lab b o=none)
  (hlen:h0.len=xs.length) (fF:h0.len≤h0.cap) (vc:h0.addr=none→h0.cap=0)
  (jM:∀ b o,h0.addr=some (b,o)→∀ k,k<h0.cap*t.size→Rt b (o+k)∧(w'.cell? (ad b (o+k))).isSome=true∧w'.frozen? (ad b (o+k))=false)
  (hx:∀ b o,h0.addr=some (b,o)→∀ k (hk:k<xs.length),df g L w own σ t [] k 0 xs[k] (fun d=>w'.cell? (ad b (o+k*t.size+d)))) :
  eZ g' w' own N 0 site t de [] xs:=by
 subst hg;unfold eZ;rw [p6];refine ⟨hlen,fF,vc,fun b o hb=>⟨fun k hk=>?_,fun k hk=>?_⟩⟩
 ·obtain ⟨a1,a2,a3⟩:=jM b o hb k hk;exact ⟨aan a1,a2,a3⟩
 have Rn:Ren g L w (jh g site R H (jL D N σ Rt g.lab)) w' σ N site:=by
  refine ⟨fun q id p h e=>?_,fun q hq e=>?_,fun q id p h b o e hl=>?_,fun b o hl v hv=>hL b o hl v hv⟩
  ·rw [Mj]; exact hH q id p h e
  ·rw [Mj]; exact hHn q hq e
  obtain ⟨a1,a2,a3⟩:=A3 q id p h e;obtain ⟨a4,a5,a6⟩:=a3 b o hl;exact ⟨aao hl a4 a1 e a2,a5,a6⟩
 exact Bz Rn t [] k 0 _ _ b (o+k*t.size) (fun d hd=>rfl) (hx b o hb k hk)
theorem IQ {own:Bool} {g0:Gh} {w0:World} {U0:Nat→Prop} : ∀ (t:Ty) (q:Path) (i j:Nat) (l:List Value) (f:Nat→Option Value),cz g0 w0 U0 (Bv t) l→(∀ k,k<t.size→f k=l[k]?)→df g L w own cn t q i j t.zero f
 | .int k,q,i,j,l,f,h,hf=>by obtain ⟨x,r,rfl,rfl,rfl⟩:=h; exact (hf 0 (by simp [Ty.size])).trans rfl
 | .bool,q,i,j,l,f,h,hf=>by obtain ⟨x,r,rfl,rfl,rfl⟩:=h; exact (hf 0 (by simp [Ty.size])).trans rfl
 | .str,q,i,j,l,f,h,hf=>by obtain ⟨x,r,rfl,rfl,rfl⟩:=h; exact (hf 0 (by simp [Ty.size])).trans rfl
 | .err,q,i,j,l,f,h,hf=>by obtain ⟨x,r,rfl,h1,rfl⟩:=h; exact ⟨x,(hf 0 (by simp [Ty.size])).trans rfl,h1⟩
 | .bW t,q,i,j,l,f,h,hf=>by obtain ⟨x,r,rfl,rfl,rfl⟩:=h;exact ⟨_,(hf 0 (by simp [Ty.size])).trans rfl,⟨none,0,0,rfl,rfl,cx _,fun _=>rfl,fun hn=>absurd rfl hn⟩,⟨fun _=>⟨0,0,rfl⟩,fun _=>rfl⟩⟩
 | .sl t,q,i,j,l,f,h,hf=>by
  obtain ⟨x,r,rfl,rfl,rfl⟩:=h;have h0:=(hf 0 (by simp [Ty.size])).trans rfl;cases own with
  | true=>exact .inr ⟨rfl,h0,rfl⟩
  | false=>exact ⟨_,h0,none,0,0,rfl,rfl,cx _,fun _=>rfl,fun hn=>absurd rfl hn⟩
 | .pair s t,q,i,j,l,f,h,hf=>by
  have A2:∀ t:Ty,(Bv t).length=t.size:=by
   intro t;induction t with
   | pair a b ia ib=>simp [Bv,Ty.size,ia,ib]
   | _=>rfl
  have aaq:∀ (xs ys:List ah) (l:List Value),cz g0 w0 U0 (xs++ys) l→cz g0 w0 U0 xs (l.take xs.length)∧cz g0 w0 U0 ys (l.drop xs.length):=by
   intro xs;induction xs with
   | nil=>intro ys l h; exact ⟨rfl,h⟩
   | cons x xs ih=>
    intro ys l h;obtain ⟨y,r,rfl,h1,h2⟩:=h;obtain ⟨h3,h4⟩:=ih ys r h2;exact ⟨⟨y,_,rfl,h1,h3⟩,h4⟩
  obtain ⟨h1,h2⟩:=aaq _ _ _ h;rw [A2] at h1 h2;refine ⟨IQ s q i j _ f h1 (fun k hk=>?_),IQ t q i (j+s.size) _ _ h2 (fun k hk=>?_)⟩
  ·rw [hf k (by simp [Ty.size]; omega),List.getElem?_take,if_pos hk]
  rw [hf _ (by simp [Ty.size]; omega),List.getElem?_drop]
theorem aar {ow:Bool} (S:dC P c g w U sr a) (hs:¬ U site) {t:Nat} {e:Ty} {kl kc:IntKind} {n:Int} (hk:(c.ti t).kind = .slice) (he:(c.ti (c.ti t).elem).ty=some e) (hb:0<(c.ti (c.ti t).elem).bytes)
  (hn:0≤n∧n*((c.ti (c.ti t).elem).bytes:Int)≤(bn:Int)) :
  ∃ v w' g' U',(Instr.makeSlice t (.int kl n) (.int kc n)).run P w = .ok v w'∧
   dP g w U site ⟨.own (site*1024) 0 [] e,[(site*1024,some (.row ow e site (List.replicate n.toNat e.zero)))]⟩ v w' g' U':=by
 have h0:site≠0:=by rintro rfl; exact hs S.u0
 have hd:=tx S.bm hk;have hT:nM P (c.ti t).elem (c.ti (c.ti t).elem):=by
  unfold bd.ti at he ⊢;generalize (match look c.bm t with | some i=>i | none=>(⟨false,0,0,[],.other,0,none,[],false⟩:mP)).elem=x at he ⊢;cases e2:look c.bm x with
  | none=>rw [e2] at he; simp at he
  | some i=>exact S.bm x i e2
 obtain ⟨pZ,iT⟩:=hT.ty e he;obtain ⟨z,hz,hr,hv,ti,qL,wI,gV,yA⟩:=BK hT;have fG:=e.size_pos;have rQ:z.cells.size=e.size:=by rw [hz,iT]
 have SP:(bn:Int)=140737488355328:=rfl;have hle:n*1≤n*((c.ti (c.ti t).elem).bytes:Int):=Int.mul_le_mul_of_nonneg_left (by omega) hn.1;have dG:=run_make (P:=P) w t (c.ti t).elem ti z hd qL wI kl kc n n hn.1 (Int.le_refl _) (by rw [yA];have:((c.ti (c.ti t).elem).bytes:Int)*n=n*((c.ti (c.ti t).elem).bytes:Int):=Int.mul_comm _ _;omega) (by omega);have B:=HQ w (madeCells z.cells (n.toNat*ti.size)) (c.ti t).elem;have bF:ti.size=e.size:=by rw [gV,iT]
 rw [bF] at dG B;refine ⟨_,_,jh g site (fun _ _=>⟨some (w.heap.size,0),n.toNat,n.toNat⟩) (fun _ _=>eh) (jL (fun _ _=>False) (site*1024) cn (fun b o=>b=w.heap.size∧o<n.toNat*e.size) g.lab),U' U site,dG,?_⟩;have FA:∀ b o,g.lab b o=none→∀ v,w.cell? (ad b o)=some v→(w.alloc (.cells (madeCells z.cells (n.toNat*e.size)) (c.ti t).elem)).cell? (ad b o)=some v∧¬ (b=w.heap.size∧o<n.toNat*e.size):=by intro b o hl v hv;have:=BI hv;exact ⟨by rw [B.cI (by omega)]; exact hv,by omega⟩
 have dK:∀ {T:Nat→Prop},eV T g w U (jh g site (fun _ _=>⟨some (w.heap.size,0),n.toNat,n.toNat⟩) (fun _ _=>eh) (jL (fun _ _=>False) (site*1024) cn (fun b o=>b=w.heap.size∧o<n.toNat*e.size) g.lab)) (w.alloc (.cells (madeCells z.cells (n.toNat*e.size)) (c.ti t).elem)) (U' U site):=
  Fy hs FA (fun b o id p h _=>by have:=S.cm _ _ _ h;exact ⟨fun h=>h,by omega,B.cI (by omega) o,B.Fu (by omega) o⟩)
 refine ⟨dK,⟨.inr (kz site),.inl S.u0,.inl S.u0,trivial,fun _=>rfl,?_⟩,fun id ob bQ=>?_,fun s h=>h,fun b o q h=>?_,fun b o q hb h=>?_,B.fr _,fun id h=>by rw [Ds h,kz]; rintro rfl; exact hs S.Bu⟩
 ·rw [u9 h0]; rfl
 ·simp only [look] at bQ;split at bQ
  ·rename_i hb;obtain rfl:=bB hb;simp only [aN] at bQ;subst bQ;refine ⟨.inr (kz site),.inl S.u0,.inr rfl,?_⟩;refine Fz (w:=w) (L:=g.lab) (h0:=⟨some (w.heap.size,0),n.toNat,n.toNat⟩) _ rfl (u9 h0 _) (fun q id p h e=>by simp [cn] at e) (fun q hq e=>rfl) (fun q id p h e=>by simp [cn] at e) (fun b o hl v hv=>?_) (by simp) (cx _) (by simp) (fun b o hb k hk=>?_) (fun b o hb k hk=>?_)
   ·obtain ⟨a1,a2⟩:=FA b o hl v hv;exact ⟨a1,Dy hl a2⟩
   ·simp only [aN,bS] at hb;obtain ⟨rfl,rfl⟩:=hb;refine ⟨⟨rfl,by simpa using hk⟩,?_,B.IL _⟩;rw [B.new,s_ (by rw [size_madeCells]; simpa using hk)]; rfl
   simp only [aN,bS] at hb;obtain ⟨rfl,rfl⟩:=hb;simp only [SF] at hk;rw [SE];have wJ:=hv g w U;rw [pZ] at wJ;refine IQ e [] k 0 z.cells.toList _ wJ (fun d hd=>?_);have aF:k*e.size+d<n.toNat*e.size:=by have:(k+1)*e.size≤n.toNat*e.size:=fk _ hk;rw [dH] at this; omega
   rw [B.new];simp only [madeCells,Array.getElem?_map,kg];rw [Array.getElem?_range,if_pos aF];simp only [Ly];rw [rQ,show (k*e.size+d) % e.size=d by rw [IP,Nat.mul_add_mod,IN hd]]
   grind
  grind
 ·rw [B.size];rcases vb h with ⟨rfl,-⟩ | h
  ·omega
  cases h2:g.lab b o with
  | none=>grind
  | some q=>have:=S.cm _ _ _ h2; omega
 rcases vb h with ⟨rfl,-⟩ | h
 ·omega
 omega
end
end Go.Am
namespace Go.Am
open Go
inductive aas (P:Program) (w:World) (size:Nat) (e:TypeId) (h:Hd) (olds news:List Value) (m:Nat) (s:Sem Value):Prop
 | room (b o:Nat) (ha:h.addr=some (b,o)) (hr:h.len+m≤h.cap) (hs:s.run P w = .ok (.slice (some (ad b o)) (h.len+m) h.cap) (w.setCells b (o+h.len*size) news))
 | nil (ha:h.addr=none) (hm:m=0) (hl:h.len=0) (hs:s.run P w = .ok (.slice none 0 0) w)
 | grow (cap:Nat) (arr:Array Value) (w':World) (B:kZ w w' arr e) (hc:h.len+m≤cap) (ha:arr.size=cap*size) (hl:∃ rest,arr.toList=olds++news++rest) (hs:s.run P w = .ok (.slice (some (ad w.heap.size 0)) (h.len+m) cap) w')
theorem Ms {P:Program} {w:World} {size m xc:Nat} {xa:Option Addr} {news:List Value} (hl:news.length=m*size) (hx:0<m→∃ b o,xa=some (ad b o)∧∀ j u,news[j]? = some u→w.cell? (ad b (o+j))=some u) :
  (Dv size m (.slice xa m xc)).run P w = .ok news.toArray w:=by
 rcases oK m with rfl | hm
 ·have:news=[]:=yz (by omega);subst this;cases xa<;>simp [Dv,loadCells,loadCellsFrom]
 obtain ⟨b,o,rfl,hj⟩:=hx hm;exact run_firstCells_some w size m (ad b o) m xc news hl (fun j v hv=>by rw [Addr.add_lit]; exact hj j v hv)
theorem SQ {P:Program} {w:World} {t ty e:TypeId} {i:TypeInfo} {z:Value} (ht:P.underlying t=some (.slice e)) (hi:P.info? e=some i) (hz:i.zero=some z) (rQ:z.cells.size=i.size) (k_:0<i.bytes)
  {h:Hd} {olds news:List Value} {xa:Option Addr} {m xc:Nat} (hc:h.len≤h.cap) (hn:h.addr=none→h.cap=0) (tE:olds.length=h.len*i.size)
  (ho:∀ b o,h.addr=some (b,o)→(∀ j u,olds[j]? = some u→w.cell? (ad b (o+j))=some u)∧∀ k,k<h.cap*i.size→(w.cell? (ad b (o+k))).isSome=true∧w.frozen? (ad b (o+k))=false)
  (hl:news.length=m*i.size) (hx:0<m→∃ b o,xa=some (ad b o)∧∀ j u,news[j]? = some u→w.cell? (ad b (o+j))=some u) (h1:∀ u∈news,u.oneCell'=true) (qP:(h.len+m)*i.bytes≤bn) :
  aas P w i.size e h olds news m (p_ #[t,t] ty #[h.val,.slice xa m xc]):=by
 have SP:bn=140737488355328:=rfl;have hle:(h.len+m)*1≤(h.len+m)*i.bytes:=Nat.mul_le_mul_left _ k_;have hf:=Ms (P:=P) (xc:=xc) hl hx;have IT:(Dv i.size m (.slice xa m xc)).run P w.drew = .ok news.toArray w.drew:=Ms hl hx;by_cases BL:h.len+m≤h.cap
 ·cases ha:h.addr with
  | none=>
   have fF:=hn ha;have hm:m=0:=by omega
   have hlen:h.len=0:=by omega
   refine .nil ha hm hlen ?_;have hv:h.val = .slice none 0 0:=by simp [Hd.val,ha,hlen,fF]
   subst hm;have aG:news=[]:=yz (by omega);subst aG;rw [hv];simp [p_,run_underlying ht,sizeOf,typeInfo,hi,Dw,hf]
  | some a=>
   obtain ⟨b,o⟩:=a;refine .room b o ha BL ?_;have hv:h.val = .slice (some (ad b o)) h.len h.cap:=by simp [Hd.val,ha]
   obtain ⟨-,jM⟩:=ho b o ha;have aat:h.len*i.size+news.length≤h.cap*i.size:=by rw [hl,← dH]; exact fk _ BL
   have dK:=run_storeCells_cells (P:=P) b (o+h.len*i.size) news 0 w (fun j hj=>by rw [eG,cg]; exact (jM _ (by omega)).1) (fun j hj=>by rw [eG,cg]; exact (jM _ (by omega)).2) h1;rw [hv];simp [p_,run_underlying ht,sizeOf,typeInfo,hi,Dw,BL,hf,Addr.add_lit];simp_all
 have hm:0<m:=by omega
 have aau:Dx (h.len+m) h.cap≤2*(h.len+m):=nextslicecap_le (by omega);have h48:Dx (h.len+m) h.cap*i.bytes≤281474976710656:=by have:Dx (h.len+m) h.cap*i.bytes≤(2*(h.len+m))*i.bytes:=fk _ aau;rw [Nat.mul_assoc] at this;omega
 have Dz:=grownCap_ge w (h.len+m) h.cap e;have rW:(Dv i.size h.len h.val).run P w.drew = .ok olds.toArray w.drew:=by
  refine Ms tE (fun hp=>?_);cases ha:h.addr with
  | none=>grind
  | some a=>obtain ⟨b,o⟩:=a; exact ⟨b,o,by simp,(ho b o ha).1⟩
 refine .grow (grownCap w (h.len+m) h.cap e) (olds.toArray++(news.toArray++tC z.cells (grownCap w (h.len+m) h.cap e-(h.len+m)))) _ (SD w _ e) Dz ?_ ⟨_,by simp; rfl⟩ ?_
 ·simp only [Array.size_append,List.size_toArray,size_zeroCells,rQ,tE,hl];rw [← cg,← dH,← dH]
  grind
 have ep:¬ (h.len+m≤h.cap):=BL;have aav:¬ (9223372036854775807<((h.len:Int)+(m:Int))):=by omega
 have aaw:¬ (281474976710656<Dx (h.len+m) h.cap*i.bytes):=by omega
 have hv:h.val = .slice (h.addr.map fun p=>ad p.1 p.2) h.len h.cap:=rfl;rw [hv] at rW ⊢;simp [p_,run_underlying ht,sizeOf,typeInfo,zeroValue,hi,hz,Dw,ep,aav,aaw,Question.forced,IT,rW,newRow,grownCap]
section
variable {P:Program} {c:bd} {g:Gh} {L:b9} {w w':World} {U:Nat→Prop} {sr:St} {a:Act} {site:Nat} {o:Oper} {ρ:Type} {r:ρ} {k:cK→Option ρ} {σ:Src}
theorem IU {own:Bool} : ∀ (t:Ty) (q:Path) (i j:Nat) (x:t.T) (f:Nat→Option Value),df g L w own σ t q i j x f→∀ k,k<t.size→∃ v,f k=some v∧v.oneCell'=true
 | .int _,q,i,j,x,f,h,k,hk=>by
  have:k=0:=by simp [Ty.size] at hk; exact hk
  subst this; exact ⟨_,h,rfl⟩
 | .bool,q,i,j,x,f,h,k,hk=>by
  have:k=0:=by simp [Ty.size] at hk; exact hk
  subst this; exact ⟨_,h,rfl⟩
 | .str,q,i,j,x,f,h,k,hk=>by
  have:k=0:=by simp [Ty.size] at hk; exact hk
  subst this; exact ⟨_,h,rfl⟩
 | .err,q,i,j,x,f,h,k,hk=>by
  have:k=0:=by simp [Ty.size] at hk; exact hk
  subst this;obtain ⟨v,h1,h2⟩:=h;refine ⟨v,h1,?_⟩;rcases Bw h2 with ⟨-,rfl⟩ | ⟨-,ti,x,rfl⟩<;>rfl
 | .bW _,q,i,j,x,f,h,k,hk=>by
  have:k=0:=by simp [Ty.size] at hk; exact hk
  subst this;obtain ⟨v,h1,⟨_,_,_,rfl,-⟩,-⟩:=h;exact ⟨_,h1,rfl⟩
 | .sl _,q,i,j,x,f,h,k,hk=>by
  have:k=0:=by simp [Ty.size] at hk; exact hk
  subst this;cases own with
  | false=>obtain ⟨v,h1,_,_,_,rfl,-⟩:=h; exact ⟨_,h1,rfl⟩
  | true=>
   rcases h with ⟨_,_,_,-,h1,-⟩ | ⟨-,h1,-⟩
   ·exact ⟨_,h1,rfl⟩
   exact ⟨_,h1,rfl⟩
 | .pair s t,q,i,j,x,f,h,k,hk=>by
  by_cases hs:k<s.size
  ·exact IU s q i j x.1 f h.1 k hs
  obtain ⟨v,h1,h2⟩:=IU t q i (j+s.size) x.2 _ h.2 (k-s.size) (by simp [Ty.size] at hk; omega)
  grind
theorem IV {own:Bool} {lab:b9} : ∀ (t:Ty) (q:Path) (i j:Nat) (x:t.T) (b o:Nat),t.plain=true→Sh lab w t x b o→df g L w own cn t q i j x (fun d=>w.cell? (ad b (o+d)))
 | .int _,q,i,j,x,b,o,hp,h=>h.1
 | .bool,q,i,j,x,b,o,hp,h=>h.1
 | .str,q,i,j,x,b,o,hp,h=>h.1
 | .err,q,i,j,x,b,o,hp,h=>h.1
 | .bW _,q,i,j,x,b,o,hp,h=>by simp [Ty.plain] at hp
 | .sl _,q,i,j,x,b,o,hp,h=>by simp [Ty.plain] at hp
 | .pair s t,q,i,j,x,b,o,hp,h=>by
  simp only [Ty.plain,aB] at hp;refine ⟨IV s q i j x.1 b o hp.1 h.1,?_⟩;have:df g L w own cn t q i (j+s.size) x.2 (fun d=>w.cell? (ad b (o+s.size+d))):=IV t q i (j+s.size) x.2 b (o+s.size) hp.2 h.2
  grind
theorem IW {own u7:Bool} {id vr:Nat} {p:Path} : ∀ (t:Ty) (q:Path) (i j i' j':Nat) (x:t.T) (b o:Nat),t.plain=true→dO g w u7 id vr t de p i' j' x b o→df g L w own cn t q i j x (fun d=>w.cell? (ad b (o+d)))
 | .int _,q,i,j,i',j',x,b,o,hp,h=>h
 | .bool,q,i,j,i',j',x,b,o,hp,h=>h
 | .str,q,i,j,i',j',x,b,o,hp,h=>h
 | .err,q,i,j,i',j',x,b,o,hp,h=>h
 | .bW _,q,i,j,i',j',x,b,o,hp,h=>by simp [Ty.plain] at hp
 | .sl _,q,i,j,i',j',x,b,o,hp,h=>by simp [Ty.plain] at hp
 | .pair s t,q,i,j,i',j',x,b,o,hp,h=>by
  simp only [Ty.plain,aB] at hp;refine ⟨IW s q i j i' j' x.1 b o hp.1 h.1,?_⟩;have:df g L w own cn t q i (j+s.size) x.2 (fun d=>w.cell? (ad b (o+s.size+d))):=IW t q i (j+s.size) i' (j'+s.size) x.2 b (o+s.size) hp.2 h.2
  grind
theorem IX {lab:b9} (hL:∀ b o,lab b o=none→L b o=none):∀ (t:Ty) (q:Path) (i j:Nat) (x:t.T) (b o:Nat),Sh lab w t x b o→df g L w false cn t q i j x (fun d=>w.cell? (ad b (o+d)))
 | .int _,q,i,j,x,b,o,h=>h.1
 | .bool,q,i,j,x,b,o,h=>h.1
 | .str,q,i,j,x,b,o,h=>h.1
 | .err,q,i,j,x,b,o,h=>h.1
 | .bW t,q,i,j,x,b,o,h=>by obtain ⟨⟨v,h1,h2,h3⟩,-⟩:=h;exact ⟨v,h1,iI (gq (fun b o hl v hv=>⟨hv,hL b o hl⟩) t) h2,h3⟩
 | .sl t,q,i,j,x,b,o,h=>by obtain ⟨⟨v,h1,h2⟩,-⟩:=h;exact ⟨v,h1,iI (gq (fun b o hl v hv=>⟨hv,hL b o hl⟩) t) h2⟩
 | .pair s t,q,i,j,x,b,o,h=>by
  refine ⟨IX hL s q i j x.1 b o h.1,?_⟩;have:df g L w false cn t q i (j+s.size) x.2 (fun d=>w.cell? (ad b (o+s.size+d))):=IX hL t q i (j+s.size) x.2 b (o+s.size) h.2
  grind
structure wK (g:Gh) (L:b9) (w:World) (own:Bool) (t:Ty) (i0:Nat) (vx:Value) (ys:List t.T) (v:List Nat) (σ:Src):Prop where
 sl:∃ xa xc,vx = .slice xa ys.length xc∧(0<ys.length→∃ b o,xa=some (ad b o)∧∀ k (hk:k<ys.length),df g L w own σ t [] (i0+k) 0 ys[k] (fun d=>w.cell? (ad b (o+k*t.size+d))))
 nP:IF [] i0 ys.length σ
 tk:Tk v σ
theorem SR (hO:fA g w U sr) {x:ah} {vx:Value} (hx:aV g w U x vx) {u:Ty} {xs:List u.T} (e:sr.list x=some ⟨u,xs⟩) :
  ∃ xa xc,vx = .slice xa xs.length xc∧(0<xs.length→∃ b o,xa=some (ad b o)∧∀ k (hk:k<xs.length),Sh g.lab w u xs[k] b (o+k*u.size)∨∃ u7 id vr p k',dO g w u7 id vr u de p k' 0 xs[k] b (o+k*u.size)):=by
 unfold St.list at e;split at e
 ·simp only [aN] at e;obtain ⟨rfl,e⟩:=qI e;obtain rfl:=eq_of_heq e;obtain ⟨a,len,cap,rfl,rfl,h2,h3,h4⟩:=hx;refine ⟨a,cap,rfl,fun hp=>?_⟩;obtain ⟨b,o,rfl,h5⟩:=h4 (Ml hp)
  grind
 ·simp only [aN] at e;obtain ⟨rfl,e⟩:=qI e;obtain rfl:=eq_of_heq e;obtain ⟨⟨a,len,cap,rfl,rfl,h2,h3,h4⟩,-⟩:=hx;refine ⟨a,cap,rfl,fun hp=>?_⟩;obtain ⟨b,o,rfl,h5⟩:=h4 (Ml hp)
  grind
 ·rename_i id ver p tt;obtain ⟨h1,h2,h3,h4,h5,rfl⟩:=hx;obtain ⟨own,t,vr,qJ,-,-,⟨r1,r2,r3,r4⟩,-⟩:=Bx hO h5 h4 e;refine ⟨_,_,by unfold Hd.val; rw [r1],fun hp=>?_⟩;cases ha:(g.hd id ver p).addr with
  | none=>grind
  | some q=>
   obtain ⟨b,o⟩:=q;exact ⟨b,o,by simp,fun k hk=>.inr ⟨_,_,_,_,_,(r4 b o ha).2 k hk⟩⟩
 ·rename_i id ver p tt off len;split at e
  ·rename_i ys hr;split at e
   ·rename_i hb;obtain rfl:=Ty.eq_of_beq hb;simp only [aN] at e;obtain ⟨rfl,e⟩:=qI e;obtain rfl:=eq_of_heq e;obtain ⟨h1,h2,h3,h4,h5,a,cp,rfl,h6,h7,h8,h9,By⟩:=hx;obtain ⟨own,t,vr,qJ,-,-,⟨r1,r2,r3,r4⟩,-⟩:=Bx hO h5 h4 hr;have hlen:((ys.drop off).take len).length=len:=by simp; omega
    refine ⟨a,cp,by grind,fun hp=>?_⟩;obtain ⟨b,o,ha,rfl⟩:=h9 (by omega);refine ⟨b,o+off*tt.size,rfl,fun k hk=>.inr ⟨own,id,vr,p,off+k,?_⟩⟩;have:=(r4 b o ha).2 (off+k) (by omega)
    grind
   grind
  grind
 grind
theorem Mt (hL:∀ b o,g.lab b o=none→L b o=none) {id vr:Nat} {p:Path} : ∀ (t:Ty) (q:Path) (i j i' j':Nat) (x:t.T) (b o:Nat),dO g w false id vr t de p i' j' x b o→df g L w false cn t q i j x (fun d=>w.cell? (ad b (o+d)))
 | .int _,q,i,j,i',j',x,b,o,h=>h
 | .bool,q,i,j,i',j',x,b,o,h=>h
 | .str,q,i,j,i',j',x,b,o,h=>h
 | .err,q,i,j,i',j',x,b,o,h=>h
 | .bW t,q,i,j,i',j',x,b,o,h=>by obtain ⟨v,h1,h2,h3⟩:=h;exact ⟨v,h1,iI (gq (fun b o hl v hv=>⟨hv,hL b o hl⟩) t) h2,h3⟩
 | .sl t,q,i,j,i',j',x,b,o,h=>by obtain ⟨v,h1,h2⟩:=h;exact ⟨v,h1,iI (gq (fun b o hl v hv=>⟨hv,hL b o hl⟩) t) h2⟩
 | .pair s t,q,i,j,i',j',x,b,o,h=>by
  refine ⟨Mt hL s q i j i' j' x.1 b o h.1,?_⟩;have:df g L w false cn t q i (j+s.size) x.2 (fun d=>w.cell? (ad b (o+s.size+d))):=Mt hL t q i (j+s.size) i' (j'+s.size) x.2 b (o+s.size) h.2
  grind
theorem aax (hO:fA g w U sr) {x:ah} {vx:Value} (hx:aV g w U x vx) {t:Ty} {ys:List t.T} (e:sr.E3 t x=some ys) :
  ∃ xa xc,vx = .slice xa ys.length xc∧(0<ys.length→∃ b o,xa=some (ad b o)∧∀ k (hk:k<ys.length),∃ id vr p k',dO g w false id vr t de p k' 0 ys[k] b (o+k*t.size)):=by
 unfold St.E3 at e;split at e
 ·rename_i id _ tt off len;split at e
  ·rename_i ho;split at e
   ·rename_i hl;obtain ⟨rfl,e⟩:=nO e;obtain rfl:=eq_of_heq e;unfold St.list at hl;simp only at hl;split at hl
    ·rename_i zs hr;split at hl
     ·rename_i hb;obtain rfl:=Ty.eq_of_beq hb;simp only [aN] at hl;obtain ⟨rfl,hl⟩:=qI hl;obtain rfl:=eq_of_heq hl;obtain ⟨h1,h2,h3,h4,h5,a,cp,rfl,h6,h7,h8,h9,By⟩:=hx;obtain ⟨own,t,vr,xs1,iJ,-,⟨r1,r2,r3,r4⟩,-⟩:=Bx hO h5 h4 hr;have yy:own=false:=by rw [ho] at iJ;simp only [aN,dL.row.injEq] at iJ;exact iJ.1.symm
      subst yy;have hlen:((zs.drop off).take len).length=len:=by simp; omega
      refine ⟨a,cp,by grind,fun hp=>?_⟩;obtain ⟨b,o,ha,rfl⟩:=h9 (by omega);refine ⟨b,o+off*tt.size,rfl,fun k hk=>⟨id,vr,[],off+k,?_⟩⟩;have:=(r4 b o ha).2 (off+k) (by omega)
      grind
     grind
    grind
   grind
  grind
 grind
theorem DB (hO:fA g w U sr) (hL:∀ b o,g.lab b o=none→L b o=none) {own:Bool} {t:Ty} {x:ah} {vx:Value} (hx:aV g w U x vx) {ys:List t.T} {v:List Nat} (i0:Nat)
  (gJ:own=false→∀ id∈v,∀ b o p,g.lab b o=some (id,p)→L b o=none) (e:sr.tail own t x=some (ys,v)) :
  (∀ id∈v,sr.obj id≠none)∧∃ σ,wK g L w own t i0 vx ys v σ:=by
 have aay:∀ {u:Ty} {xs:List u.T},t.plain=true→sr.list x=some ⟨u,xs⟩→Ty.cast (.sl u) (.sl t) xs=some ys→v=[]→(∀ id∈v,sr.obj id≠none)∧∃ σ,wK g L w own t i0 vx ys v σ:=by
  intro u xs hp hl Mu hv;subst hv;obtain ⟨rfl,Mu⟩:=nO Mu;obtain rfl:=eq_of_heq Mu;obtain ⟨xa,xc,h1,h2⟩:=SR hO hx hl;refine ⟨by simp,cn,⟨xa,xc,h1,fun fG=>?_⟩,fun p hp=>absurd rfl hp,.none⟩;obtain ⟨b,o,h3,h4⟩:=h2 fG;refine ⟨b,o,h3,fun k hk=>?_⟩;rcases h4 k hk with h5 | ⟨u7,id,vr,p,k',h5⟩
  ·exact IV _ [] _ 0 _ b _ hp h5
  exact IW _ [] _ 0 _ _ _ b _ hp h5
 have SS:∀ {xs:List t.T} {r:List ah},take sr own 50 (.sl t) [x]=some (xs,r,v)→xs=ys→(∀ id∈v,sr.obj id≠none)∧∃ σ,wK g L w own t i0 vx ys v σ:=by
  intro xs r he kH;subst kH;cases x with
  | nil=>
   simp only [take] at he;obtain ⟨rfl,rfl,rfl⟩:=jK he;obtain rfl:=hx;exact ⟨by simp,cn,⟨none,0,rfl,fun hp=>absurd hp (by simp)⟩,fun p hp=>absurd rfl hp,.none⟩
  | sh u zs=>
   cases own with
   | true=>simp [take] at he
   | false=>
    simp only [take] at he;split at he
    ·rename_i ys hz;obtain ⟨rfl,rfl,rfl⟩:=jK he;obtain ⟨rfl,hz⟩:=nO hz;obtain rfl:=eq_of_heq hz;obtain ⟨a,len,cap,rfl,rfl,h2,h3,h4⟩:=hx;refine ⟨by simp,cn,⟨a,cap,rfl,fun hp=>?_⟩,fun p hp=>absurd rfl hp,.none⟩;obtain ⟨b,o,rfl,h5⟩:=h4 (Ml hp);exact ⟨b,o,rfl,fun k hk=>IX hL _ _ _ _ _ _ _ (h5 k hk)⟩
    grind
  | fJ id off len sz=>
   cases off with
   | succ off=>simp [take] at he
   | zero=>
    simp only [take] at he;split at he
    ·rename_i eo ho;split at he
     ·rename_i hb;rw [aB] at hb;obtain ⟨gG,eK⟩:=hb;obtain rfl:=bB gG;have eK:=bB eK;split at he
      ·rename_i ys u' e';obtain ⟨rfl,rfl,rfl⟩:=jK he;obtain ⟨-,-,a,cc,rfl,BD,fx,b,o,ha,lh⟩:=hx;obtain ⟨b',o',hh,dr,oT⟩:=yU hO ho;have lh:=lh (.inr rfl);rw [hh] at ha fx;simp only [aN,bS] at ha;obtain ⟨rfl,rfl⟩:=ha;simp only [kg,HS,eG] at fx lh;have fG:=t.size_pos;obtain rfl:cc=len:=SJ fG (by omega);subst lh;obtain ⟨b1,b2,BE,T⟩:=(Dr hO hL own 49).2 t cc eo ys u' _ [] i0 oT e' (fun ho id hi=>gJ ho id (kD _ hi));refine ⟨fun aE hi=>?_,BE,⟨some (ad b' o'),cc,by rw [T.len],fun hp=>⟨b',o',rfl,fun k hk=>?_⟩⟩,?_,?_,?_⟩
       ·grind
       ·have:=T.ow k hk
        grind
       ·rw [T.len]; exact T.nP
       ·intro p aE p' h he;exact kD _ (T.tk.ids _ _ _ _ he)
       intro hn;exact T.tk.inj (qK.1 hn).2
      grind
     grind
    grind
  | own id ver p tt=>
   cases p with
   | cons q p=>simp [take] at he
   | nil=>
    simp only [take] at he;split at he
    ·rename_i o u' vr l8 ho;split at he
     ·grind
     rename_i yy;split at he
     ·rename_i ys hz;obtain ⟨rfl,rfl,rfl⟩:=jK he;obtain ⟨rfl,hz⟩:=nO hz;obtain rfl:=eq_of_heq hz;obtain ⟨-,-,-,-,qV,rfl⟩:=hx;obtain rfl:=qV rfl;obtain ⟨-,-,-,hR⟩:=hO id _ ho;obtain ⟨r1,r2,r3,r4⟩:=hR;have wL:0<l8.length→∃ b o,(g.hd id 0 []).addr=some (b,o):=by
       intro hp;cases ha:(g.hd id 0 []).addr with
       | none=>grind
       | some q=>grind
      cases own with
      | true=>
       have iJ:o=true:=by cases o<;>simp_all
       subst iJ
       let σ:Src:=fun p=>match p with | []=>none | (k',j)::s=>if i0≤k'∧k'<i0+l8.length then some (id,(k'-i0,j)::s,g.hd id vr ((k'-i0,j)::s)) else none
       refine ⟨by grind,σ,⟨_,_,by unfold Hd.val; rw [r1],fun hp=>?_⟩,?_,?_,?_⟩
       ·obtain ⟨b,o,ha⟩:=wL hp;obtain ⟨r5,r6⟩:=r4 b o ha;refine ⟨b,o,by grind,fun k hk=>pW hL u' [] [] k 0 (i0+k) 0 _ b _ (fun _ d s hd=>?_) (r6 k hk)⟩
        grind
       ·intro p hp;cases p with
        | nil=>grind
        | cons q s=>
         obtain ⟨k',j⟩:=q;simp only [σ] at hp;split at hp
         ·rename_i hk; exact ⟨k'-i0,j,s,by omega,by grind⟩
         grind
       ·grind
       grind
      | false=>
       have hd:=gJ rfl id (by simp);refine ⟨by grind,cn,⟨_,_,by unfold Hd.val; rw [r1],fun hp=>?_⟩,fun p hp=>absurd rfl hp,.none⟩;obtain ⟨b,o,ha⟩:=wL hp;obtain ⟨r5,r6⟩:=r4 b o ha;refine ⟨b,o,by grind,fun k hk=>IX (lab:=L) (fun _ _ h=>h) _ _ _ _ _ b _ (BA hL hd u' _ k 0 _ b _ (fun d h_=>?_) (r6 k hk))⟩;have hle:(k+1)*u'.size≤(g.hd id 0 []).cap*u'.size:=fk _ (by omega);rw [dH] at hle;obtain ⟨a1,-,-⟩:=r5 (k*u'.size+d) (by omega)
       grind
     grind
    grind
  | _=>simp [take] at he
 have SU:(match t.plain with
  | true=>match sr.list x with
   | some ⟨u,xs⟩=>match Ty.cast (.sl u) (.sl t) xs with | some ys=>some (ys,[]) | none=>none
   | none=>none
  | false=>LS own (sr.E3 t x) (match take sr own 50 (.sl t) [x] with | some (xs,_,u)=>some (xs,u) | none=>none))=some (ys,v)→(∀ id∈v,sr.obj id≠none)∧∃ σ,wK g L w own t i0 vx ys v σ:=by
  intro e;split at e
  ·rename_i hp;split at e
   ·rename_i u xs hl;split at e
    ·rename_i zs hz;simp only [aN,bS] at e;obtain ⟨rfl,rfl⟩:=e;exact aay hp hl hz rfl
    grind
   grind
  have hT:(match take sr own 50 (.sl t) [x] with | some (xs,_,u)=>some (xs,u) | none=>none)=some (ys,v)→(∀ id∈v,sr.obj id≠none)∧∃ σ,wK g L w own t i0 vx ys v σ:=by
   intro e;split at e
   ·rename_i xs r u he;have e:=Mn (aZ e);obtain ⟨h1,rfl⟩:=e;exact SS he h1
   grind
  cases Mv:sr.E3 t x with
  | none=>
   rw [Mv] at e;exact hT (by unfold LS at e; cases own<;>exact e)
  | some zs=>
   rw [Mv] at e;cases own with
   | true=>exact hT e
   | false=>
    have e:some (zs,([]:List Nat))=some (ys,v):=e;have e:=Mn (aZ e);obtain ⟨rfl,rfl⟩:=e;obtain ⟨xa,xc,h1,h2⟩:=aax hO hx Mv;refine ⟨by simp,cn,⟨xa,xc,h1,fun fG=>?_⟩,fun p hp=>absurd rfl hp,.none⟩;obtain ⟨b,o,h3,h4⟩:=h2 fG;refine ⟨b,o,h3,fun k hk=>?_⟩;obtain ⟨id,vr,p,k',h5⟩:=h4 k hk;exact Mt hL _ [] _ 0 _ _ _ b _ h5
 cases x with
 | nil=>
  simp only [St.tail,aN,bS] at e;obtain ⟨rfl,rfl⟩:=e;obtain rfl:=hx;exact ⟨by simp,cn,⟨none,0,rfl,fun hp=>absurd hp (by simp)⟩,fun p hp=>absurd rfl hp,.none⟩
 | fJ id off len sz=>
  cases off with
  | zero=>
   simp only [St.tail] at e;split at e
   ·rename_i xs r u he;have e:=Mn (aZ e);obtain ⟨h1,rfl⟩:=e;exact SS he h1
   grind
  | succ off=>exact SU e
 | _=>exact SU e
end
end Go.Am
namespace Go.Am
open Go
def oU (w:World) (b o n:Nat):List Value:=(List.range n).map fun k=>(w.cell? (ad b (o+k))).getD undef
section
variable {P:Program} {c:bd} {g:Gh} {L:b9} {w w':World} {U:Nat→Prop} {sr:St} {a:Act} {site:Nat} {o:Oper} {ρ:Type} {r:ρ} {k:cK→Option ρ} {σ:Src}
theorem Mw {b o n:Nat} {k:Nat} {v:Value} (h:(oU w b o n)[k]? = some v) (hs:(w.cell? (ad b (o+k))).isSome=true):w.cell? (ad b (o+k))=some v∧k<n:=by
 simp only [oU,yX] at h;obtain ⟨j,h1,h2⟩:=yx.1 h;have h3:=eE.1 h1;obtain ⟨h4,h5⟩:=h3;simp at h4 h5;subst h5;obtain ⟨u,hu⟩:=Option.isSome_iff_exists.1 hs
 grind
theorem IY {σ τ:Src} : ∀ (t:Ty) (q:Path) (i j:Nat) (x:t.T) (f:Nat→Option Value),df g L w false σ t q i j x f→df g L w false τ t q i j x f
 | .int _,_,_,_,_,_,h=>h
 | .bool,_,_,_,_,_,h=>h
 | .str,_,_,_,_,_,h=>h
 | .err,_,_,_,_,_,h=>h
 | .bW _,_,_,_,_,_,h=>h
 | .sl _,_,_,_,_,_,h=>h
 | .pair s t,q,i,j,x,f,h=>⟨IY s q i j x.1 f h.1,IY t q i (j+s.size) x.2 _ h.2⟩
theorem SV {own:Bool} {u:Ty} {xs:List u.T} {i0 b o:Nat} (h:∀ k (hk:k<xs.length),df g L w own σ u [] (i0+k) 0 xs[k] (fun d=>w.cell? (ad b (o+k*u.size+d)))) :
  ∀ j,j<xs.length*u.size→∃ v,w.cell? (ad b (o+j))=some v∧v.oneCell'=true:=by
 intro j hj;have hp:=u.size_pos;have hk:j / u.size<xs.length:=by rw [SI hp]; exact hj
 obtain ⟨v,h1,h2⟩:=IU u [] _ 0 _ _ (h (j / u.size) hk) (j % u.size) (Nat.mod_lt _ hp);refine ⟨v,?_,h2⟩;have:o+j / u.size*u.size+j % u.size=o+j:=by rw [cg,IP,Nat.div_add_mod]
 grind
structure Mx (g:Gh) (w:World) (U:Nat→Prop) (site:Nat) (own:Bool) (u:Ty) (zs:List u.T) (D:Nat→Path→Prop) (Ho:Nat→Path→Hd) (v:Value) (w':World) (g':Gh):Prop where
 val:v=(g'.hd (site*1024) 0 []).val
 row:eZ g' w' own (site*1024) 0 site u de [] zs
 jg:∀ T:Nat→Prop,(∀ id p,D id p→T id)→eV T g w U g' w' (U' U site)
 iG:∀ b o id p,g.lab b o=some (id,p)→¬ D id p→g'.lab b o=some (id,p)∧w'.cell? (ad b o)=w.cell? (ad b o)∧w'.frozen? (ad b o)=w.frozen? (ad b o)
 IZ:∀ id p,id≠site*1024→g'.hd id site p=Ho id p
 cm:∀ b o q,g'.lab b o=some q→b<w'.heap.size
 cI:∀ b o q,b<w.heap.size→g'.lab b o=some q→g.lab b o≠none
 fr:Fr (u6 g) w w'
theorem I_ (S:dC P c g w U sr a) (hs:¬ U site) {t ty:Nat} (hk:(c.ti t).kind = .slice) (k_:0<(c.ti (c.ti t).elem).bytes) {u:Ty} (bF:(c.ti (c.ti t).elem).size=u.size) {own:Bool} {h:Hd} {xs ys:List u.T} {vx:Value} {v:List Nat} {σ0 eU:Src}
  {Do:Nat→Path→Prop} (Ho:Nat→Path→Hd)
  (hlen:h.len=xs.length) (fF:h.len≤h.cap) (vc:h.addr=none→h.cap=0)
  (jM:∀ b o,h.addr=some (b,o)→∀ k,k<h.cap*u.size→(w.cell? (ad b (o+k))).isSome=true∧w.frozen? (ad b (o+k))=false∧∃ id p,g.lab b (o+k)=some (id,p)∧Do id p∧∀ q h',σ0 q≠some (id,p,h'))
  (hold:∀ b o,h.addr=some (b,o)→∀ k (hk:k<xs.length),df g L w own σ0 u [] k 0 xs[k] (fun d=>w.cell? (ad b (o+k*u.size+d))))
  (qQ:∀ q id p h',σ0 q=some (id,p,h')→Do id p) (hi0:∀ q q' id p h1 h2,σ0 q=some (id,p,h1)→σ0 q'=some (id,p,h2)→q=q') (My:IF [] 0 xs.length σ0)
  (hT:wK g L w own u xs.length vx ys v eU) (DC:∀ id∈v,∀ p,¬ Do id p) (eW:v.Nodup) (DD:own=false→(∀ q,σ0 q=none)∧∀ q,eU q=none)
  (DE:∀ b o,L b o=none→g.lab b o=none∨(own=false∧∃ id p,g.lab b o=some (id,p)∧id∈v))
  (qP:(xs.length+ys.length)*(c.ti (c.ti t).elem).bytes≤bn) (mW:∀ id p,Do id p→id / 1024≠19) :
  ∃ v' w' g',(p_ #[t,t] ty #[h.val,vx]).run P w = .ok v' w'∧Mx g w U site own u (xs++ys) (fun id p=>Do id p∨id∈v) Ho v' w' g':=by
 have h0:site≠0:=by rintro rfl; exact hs S.u0
 have hd:=tx S.bm hk;have hp:=u.size_pos;have DF:=oS S.bm (t:=(c.ti t).elem) (.inl (by omega));obtain ⟨z,hz,hr,hv,ti,qL,wI,gV,yA⟩:=BK DF;have CM:ti.size=u.size:=by rw [gV,bF]
 obtain ⟨xa,xc,rfl,DG⟩:=hT.sl;obtain ⟨news,s5,tB,Lw⟩:∃ news:List Value,news.length=ys.length*u.size∧(0<ys.length→∃ b o,xa=some (ad b o)∧(∀ j u',news[j]? = some u'→w.cell? (ad b (o+j))=some u')∧∀ k (hk:k<ys.length),df g L w own eU u [] (xs.length+k) 0 ys[k] (fun d=>w.cell? (ad b (o+k*u.size+d))))∧∀ y∈news,y.oneCell'=true:=by
  rcases oK ys.length with hy | hy
  ·exact ⟨[],by simp [hy],fun h=>by omega,by simp⟩
  obtain ⟨b,o,e1,e2⟩:=DG hy;have e3:=SV e2;refine ⟨oU w b o (ys.length*u.size),by simp [oU],fun _=>⟨b,o,e1,fun j u' hj=>?_,e2⟩,fun y hy=>?_⟩
  ·have aF:j<ys.length*u.size:=by have:=(eE.1 hj).1;simpa [oU] using this
   obtain ⟨v,hv,-⟩:=e3 j aF;exact (Mw hj (by rw [hv]; rfl)).1
  obtain ⟨j,hj,hy⟩:=tD.1 hy;simp only [oU,List.length_map,List.length_range] at hj;obtain ⟨v,hv,h1⟩:=e3 j hj;simp only [oU,p5,CL,hv,Option.getD_some] at hy;rw [← hy]; exact h1
 obtain ⟨olds,tE,iO⟩:∃ olds:List Value,olds.length=h.len*u.size∧∀ b o,h.addr=some (b,o)→∀ j u',olds[j]? = some u'→w.cell? (ad b (o+j))=some u':=by
  cases ha:h.addr with
  | none=>have:=vc ha; exact ⟨[],by grind,by simp⟩
  | some q=>
   obtain ⟨b,o⟩:=q;refine ⟨oU w b o (h.len*u.size),by simp [oU],fun b' o' hb j u' hj=>?_⟩;simp only [aN,bS] at hb;obtain ⟨rfl,rfl⟩:=hb;have aF:j<h.len*u.size:=by have:=(eE.1 hj).1;simpa [oU] using this
   have hle:h.len*u.size≤h.cap*u.size:=fk _ fF;exact (Mw hj (jM b o ha j (by omega)).1).1
 have FB:=SQ (P:=P) (w:=w) (ty:=ty) (h:=h) (olds:=olds) (news:=news) (xa:=xa) (m:=ys.length) (xc:=xc) hd qL wI (by rw [hz,gV]) (by rw [yA]; exact k_) fF vc (by rw [CM]; exact tE)
  (fun b o hb=>⟨iO b o hb,fun k hk=>by rw [CM] at hk; exact ⟨(jM b o hb k hk).1,(jM b o hb k hk).2.1⟩⟩) (by rw [CM]; exact s5) (fun hy=>let ⟨b,o,e1,e2,_⟩:=tB hy; ⟨b,o,e1,e2⟩) Lw (by rw [hlen,yA]; exact qP)
 rw [CM] at FB;have fQ:∀ q id p h',ic σ0 eU q=some (id,p,h')→(Do id p∨id∈v)∧∀ q' yZ,ic σ0 eU q'=some (id,p,yZ)→q'=q:=by
  intro q id p h' e;rcases rX e with e | ⟨-,e⟩
  ·refine ⟨.inl (qQ _ _ _ _ e),fun q' yZ e'=>?_⟩;rcases rX e' with e' | ⟨-,e'⟩
   ·exact hi0 _ _ _ _ _ _ e' e
   exact absurd (qQ _ _ _ _ e) (DC _ (hT.tk.ids _ _ _ _ e') _)
  refine ⟨.inr (hT.tk.ids _ _ _ _ e),fun q' yZ e'=>?_⟩;rcases rX e' with e' | ⟨-,e'⟩
  ·exact absurd (qQ _ _ _ _ e') (DC _ (hT.tk.ids _ _ _ _ e) _)
  exact hT.tk.inj eW _ _ _ _ _ _ e' e
 have p6:∀ b o,h.addr=some (b,o)→∀ k,k<h.cap*u.size→∃ id p,g.lab b (o+k)=some (id,p)∧Do id p∧∀ q h',ic σ0 eU q≠some (id,p,h'):=by
  intro b o hb k hk;obtain ⟨-,-,id,p,e1,e2,e3⟩:=jM b o hb k hk;refine ⟨id,p,e1,e2,fun q h' e=>?_⟩;rcases rX e with e | ⟨-,e⟩
  ·exact e3 _ _ e
  exact DC _ (hT.tk.ids _ _ _ _ e) _ e2
 have yB:∀ k d s,k<xs.length→ic σ0 eU ((k,d)::s)=σ0 ((k,d)::s):=by
  intro k d s hk;unfold ic;split
  ·rename_i hx; exact hx.symm
  rename_i hx;rw [hx];cases e:eU ((k,d)::s) with
  | none=>rfl
  | some y=>
   obtain ⟨k',d',s',-,he⟩:=hT.nP _ (by rw [e]; simp);simp at he; omega
 have ve:∀ k d s,ic σ0 eU ((xs.length+k,d)::s)=eU ((xs.length+k,d)::s):=by
  intro k d s;unfold ic;split
  ·rename_i y hx;obtain ⟨k',d',s',cO,he⟩:=My _ (by rw [hx]; simp);simp at he; omega
  rfl
 have aG:ic σ0 eU []=none:=by
  cases e:ic σ0 eU [] with
  | none=>rfl
  | some y=>
   rcases rX e with e | ⟨-,e⟩
   ·obtain ⟨_,_,_,_,he⟩:=My _ (by rw [e]; simp);simp at he
   obtain ⟨_,_,_,_,he⟩:=hT.nP _ (by rw [e]; simp);simp at he
 let D:Nat→Path→Prop:=fun id p=>Do id p∨id∈v
 let H:Nat→Path→Hd:=fun id p=>if id=site*1024 then (match ic σ0 eU p with | some (_,_,h)=>h | none=>eh) else Ho id p
 have fin:∀ (h':Hd) (Rt:Nat→Nat→Prop) (w':World),h'.len=xs.length+ys.length→h'.len≤h'.cap→(h'.addr=none→h'.cap=0)→
   (∀ b o,Rt b o→b<w'.heap.size∧(b<w.heap.size→g.lab b o≠none))→w.heap.size≤w'.heap.size→Fr (u6 g) w w'→
   (∀ b o,g.lab b o=none→∀ v,w.cell? (ad b o)=some v→w'.cell? (ad b o)=some v∧¬ Rt b o)→
   (∀ b o id p,g.lab b o=some (id,p)→(¬ Do id p∨∃ q yZ,ic σ0 eU q=some (id,p,yZ))→¬ Rt b o∧w'.cell? (ad b o)=w.cell? (ad b o)∧w'.frozen? (ad b o)=w.frozen? (ad b o))→
   (∀ b o,h'.addr=some (b,o)→(∀ k,k<h'.cap*u.size→Rt b (o+k)∧(w'.cell? (ad b (o+k))).isSome=true∧w'.frozen? (ad b (o+k))=false)∧
    (∀ k,k<xs.length*u.size→∀ b0 o0,h.addr=some (b0,o0)→w'.cell? (ad b (o+k))=w.cell? (ad b0 (o0+k)))∧
    (∀ k,k<ys.length*u.size→w'.cell? (ad b (o+xs.length*u.size+k))=news[k]?))→
   Mx g w U site own u (xs++ys) D Ho h'.val w' (jh g site (fun _ _=>h') H (jL D (site*1024) (ic σ0 eU) Rt g.lab)):=by
  intro h' Rt w' a1 a2 a3 a4 a5 a6 a7 a8 a9;refine ⟨by rw [u9 h0],?_,fun T hTD=>?_,fun b o id p e wM=>?_,fun id p aaz=>?_,fun b o q e=>?_,fun b o q hb e=>?_,a6⟩
  ·refine Fz (w:=w) (L:=L) (h0:=h') _ rfl (u9 h0 _) (fun q id p hh e=>?_) (fun q hq e=>?_) (fun q id p hh e=>?_) (fun b o hl v hv=>?_) (by rw [a1]; simp) a2 a3 (fun b o hb=>(a9 b o hb).1) (fun b o hb k hk=>?_)
   ·simp only [H,if_true]; rw [e]
   ·simp only [H,if_true]; rw [e]
   ·exact ⟨(fQ _ _ _ _ e).1,(fQ _ _ _ _ e).2,fun b o hl=>a8 b o id p hl (.inr ⟨_,_,e⟩)⟩
   ·rcases DE b o hl with jW | ⟨Rz,id,p,jW,hid⟩
    ·obtain ⟨b1,b2⟩:=a7 b o jW v hv;exact ⟨b1,Dy jW b2⟩
    obtain ⟨b1,b2,b3⟩:=a8 b o id p jW (.inl (DC id hid p));refine ⟨by rw [b2]; exact hv,SO jW b1 (.inr hid) (fun q hh e=>?_)⟩;obtain ⟨f0,f1⟩:=DD Rz;rcases rX e with e | ⟨-,e⟩
    ·rw [f0] at e; simp at e
    grind
   obtain ⟨b1,b2,b3⟩:=a9 b o hb;by_cases I0:k<xs.length
   ·rw [CW I0];have wL:∃ b0 o0,h.addr=some (b0,o0):=by
     cases ha:h.addr with
     | none=>have:=vc ha; omega
     | some q=>exact ⟨_,_,rfl⟩
    obtain ⟨b0,o0,ha⟩:=wL;refine qU u [] k 0 _ _ (fun d s hd=>by simpa using yB k (0+d) s I0) (km u [] k 0 _ _ _ (fun d hd=>?_) (hold b0 o0 ha k I0));have hle:(k+1)*u.size≤xs.length*u.size:=fk _ I0;rw [dH] at hle;rw [cg,b2 (k*u.size+d) (by omega) b0 o0 ha,cg]
   rw [Bf (by omega)];have SW:k-xs.length<ys.length:=by simp at hk; omega
   obtain ⟨bx,ox,e1,e2,e3⟩:=tB (by omega);have e4:=e3 (k-xs.length) SW;rw [show xs.length+(k-xs.length)=k by omega] at e4;refine qU u [] k 0 _ _ (fun d s hd=>by have:=ve (k-xs.length) (0+d) s;rw [show xs.length+(k-xs.length)=k by omega] at this;simpa using this) (km u [] k 0 _ _ _ (fun d hd=>?_) e4);have hle:(k-xs.length+1)*u.size≤ys.length*u.size:=fk _ SW;rw [dH] at hle;have hmul:k*u.size=xs.length*u.size+(k-xs.length)*u.size:=by rw [← dH]; congr 1; omega
   have b4:=b3 ((k-xs.length)*u.size+d) (by omega);have aF:(k-xs.length)*u.size+d<news.length:=by rw [s5]; omega
   rw [show o+k*u.size+d=o+xs.length*u.size+((k-xs.length)*u.size+d) by omega,b4,eX aF];have:=e2 _ _ (eX aF);rw [show ox+(k-xs.length)*u.size+d=ox+((k-xs.length)*u.size+d) by omega];exact this.symm
  ·refine Fy hs a7 (fun b o id p e wH=>?_);have wM:¬ D id p:=fun hD=>wH (hTD id p hD);obtain ⟨c1,c2,c3⟩:=a8 b o id p e (.inl (fun Mz=>wM (.inl Mz)));exact ⟨wM,c1,c2,c3⟩
  ·obtain ⟨c1,c2,c3⟩:=a8 b o id p e (.inl (fun Mz=>wM (.inl Mz)));exact ⟨SN e c1 wM,c2,c3⟩
  ·rw [Mj]; simp [H,aaz]
  ·rcases vb e with e | e
   ·exact (a4 b o e).1
   cases e2:g.lab b o with
   | none=>exact absurd e2 e
   | some q=>have:=S.cm _ _ _ e2; omega
  rcases vb e with e | e
  ·exact (a4 b o e).2 hb
  exact e
 rcases FB with ⟨b,o,ha,BL,dG⟩ | ⟨ha,hm,hl0,dG⟩ | ⟨cap,arr,w',B,Lz,SX,⟨rest,FC⟩,dG⟩
 ·
  have cU:∀ b' o',(b'=b∧o≤o'∧o'<o+h.cap*u.size)→∃ id p,g.lab b' o'=some (id,p)∧Do id p∧∀ q h',ic σ0 eU q≠some (id,p,h'):=by rintro b' o' ⟨rfl,h1,h2⟩;have:=p6 b' o ha (o'-o) (by omega);rwa [show o+(o'-o)=o' by omega] at this
  have aat:h.len*u.size+news.length≤h.cap*u.size:=by rw [s5,← dH]; exact fk _ BL
  have jV:∀ b' o',¬ (b'=b∧o+h.len*u.size≤o'∧o'<o+h.len*u.size+news.length)→(w.setCells b (o+h.len*u.size) news).cell? (ad b' o')=w.cell? (ad b' o'):=by
   intro b' o' hn;refine uQ b news _ w _ (fun hb _=>?_);simp only at hb ⊢;rcases kj o' (o+h.len*u.size) with h1 | h1
   ·exact .inl h1
   rcases kj o' (o+h.len*u.size+news.length) with h2 | h2
   ·omega
   omega
  have DH:Fr (u6 g) w (w.setCells b (o+h.len*u.size) news):=by refine wG b news _ w (fun k hk=>?_);obtain ⟨id,p,e,e1,-⟩:=cU b (o+h.len*u.size+k) ⟨rfl,by omega,by omega⟩;exact ⟨id,p,e,mW id p e1⟩
  have wN:=fin ⟨some (b,o),h.len+ys.length,h.cap⟩ (fun b' o'=>b'=b∧o≤o'∧o'<o+h.cap*u.size) _ (by rw [hlen]) BL (by simp)
   (fun b' o' hR=>by obtain ⟨id,p,e,-⟩:=cU b' o' hR;exact ⟨oL (S.cm _ _ _ e) DH.size,fun _=>by rw [e]; simp⟩) DH.size DH
   (fun b' o' hl v hv=>by
    have HT:¬ (b'=b∧o≤o'∧o'<o+h.cap*u.size):=fun hR=>by obtain ⟨id,p,e,-⟩:=cU b' o' hR;rw [e] at hl; simp at hl
    exact ⟨by grind,HT⟩)
   (fun b' o' id p hl hD=>by
    have HT:¬ (b'=b∧o≤o'∧o'<o+h.cap*u.size):=fun hR=>by
     obtain ⟨aE,p',e,e1,e2⟩:=cU b' o' hR;rw [e] at hl;simp only [aN,bS] at hl;obtain ⟨rfl,rfl⟩:=hl;rcases hD with hD | ⟨q,yZ,e3⟩
     ·grind
     grind
    exact ⟨HT,jV b' o' (fun hh=>HT ⟨hh.1,by omega,by omega⟩),Be b news _ w _⟩)
   (fun b' o' hb=>by
    simp only [aN,bS] at hb;obtain ⟨rfl,rfl⟩:=hb;have SY:∀ m,m<news.length→(w.cell? (ad b (o+h.len*u.size+m))).isSome=true:=by intro m hm;rw [cg]; exact (jM b o ha _ (by omega)).1
    refine ⟨fun k hk=>⟨⟨rfl,by omega,by simpa using hk⟩,?_,?_⟩,fun k hk b0 o0 FD=>?_,fun k hk=>?_⟩
    ·by_cases hr:o+h.len*u.size≤o+k∧o+k<o+h.len*u.size+news.length
     ·have:=Bd b news (o+h.len*u.size) w SY (k-h.len*u.size) (by omega);rw [show o+h.len*u.size+(k-h.len*u.size)=o+k by omega] at this;rw [this]; rfl
     grind
    ·rw [Be];exact (jM b o ha k (by simpa using hk)).2.1
    ·rw [ha] at FD;simp only [aN,bS] at FD;obtain ⟨rfl,rfl⟩:=FD;exact jV b (o+k) (fun hh=>by grind)
    rw [← hlen];have:=Bd b news (o+h.len*u.size) w SY k (by omega);rw [this,eX])
  exact ⟨_,_,_,dG,wN⟩
 ·
  have EL:xs.length=0:=by omega
  have wN:=fin eh (fun _ _=>False) w (by simp [eh,EL,hm]) (cx _) (fun _=>rfl) (fun _ _ h=>h.elim) (cx _) (.refl _ _) (fun b o _ v hv=>⟨hv,fun h=>h⟩) (fun _ _ _ _ _ _=>⟨fun h=>h,rfl,rfl⟩) (fun b o hb=>by simp [eh] at hb);exact ⟨_,_,_,dG,wN⟩
 
 have Zh:∀ b' o',b'<w.heap.size→w'.cell? (ad b' o')=w.cell? (ad b' o'):=fun b' o' hb=>B.cI (by omega) o';have wN:=fin ⟨some (w.heap.size,0),h.len+ys.length,cap⟩ (fun b' o'=>b'=w.heap.size∧o'<cap*u.size) w' (by rw [hlen]) Lz (by simp)
  (fun b' o' hR=>⟨by rw [B.size,hR.1]; omega,fun aF=>by omega⟩) (by rw [B.size]; omega) (B.fr _)
  (fun b' o' hl v hv=>by have:=BI hv;exact ⟨by grind,by omega⟩)
  (fun b' o' id p hl hD=>by have:=S.cm _ _ _ hl;exact ⟨by omega,Zh _ _ this,B.Fu (by omega) o'⟩)
  (fun b' o' hb=>by
   simp only [aN,bS] at hb;obtain ⟨rfl,rfl⟩:=hb;have hle:(xs.length+ys.length)*u.size≤cap*u.size:=fk _ (by rw [← hlen]; exact Lz);rw [dH] at hle;have pF:∀ k,w'.cell? (ad w.heap.size (0+k))=(olds++news++rest)[k]?:=by intro k;rw [B.new,kg,← FC]; simp
   refine ⟨fun k hk=>⟨⟨rfl,by simpa using hk⟩,?_,B.IL _⟩,fun k hk b0 o0 FD=>?_,fun k hk=>?_⟩
   ·rw [B.new,kg,s_ (by rw [SX]; simpa using hk)]; rfl
   ·have MA:k<olds.length:=by rw [tE,hlen]; exact hk
    rw [pF,Fw (by grind),Fw MA];have:=iO b0 o0 FD k _ (eX MA);rw [this,eX MA]
   have hkn:k<news.length:=by rw [s5]; exact hk
   have aii:olds.length=xs.length*u.size:=by rw [tE,hlen]
   have h1:=pF (xs.length*u.size+k);rw [← cg] at h1;rw [h1,Fw (by simp; omega),Fx (by omega)];congr 1; omega)
 exact ⟨_,_,_,dG,wN⟩
end
end Go.Am
namespace Go.Am
open Go
theorem mj:∀ (l:List Nat) (id:Nat),look (gone l) id=if id∈l then some none else none
 | [],id=>by simp [gone,look]
 | i::l,id=>by
  have ih:=mj l id;simp only [gone,mM,look] at ih ⊢;split
  ·simp_all
  rename_i h;have aG:¬ id=i:=by rintro rfl; simp at h
  grind
theorem dQ {α:Type} (i:Nat) (x:α) (l:List (Nat×α)) (id:Nat):look ((i,x)::l) id=if i=id then some x else look l id:=by
 simp only [look];by_cases h:i=id
 ·simp_all
 rw [if_neg h];have:Nat.beq i id=false:=by
  cases hb:Nat.beq i id with
  | false=>rfl
  | true=>simp_all
 grind
section
variable {P:Program} {c:bd} {g:Gh} {L:b9} {w w':World} {U:Nat→Prop} {sr:St} {a:Act} {site:Nat} {o:Oper} {ρ:Type} {r:ρ} {k:cK→Option ρ} {σ:Src}
theorem I1 {g':Gh} (S:dC P c g w U sr a) (hs:¬ U site) {own:Bool} {u:Ty} {zs:List u.T} {D:Nat→Path→Prop} {Ho:Nat→Path→Hd} {v:Value} {l:List (Nat×Option dL)}
  (A:Mx g w U site own u zs D Ho v w' g') (hD:∀ id p,D id p→(look l id).isSome=true) (hl:∀ id ob,look l id=some (some ob)→U (id / 1024)∧fy g' w' (U' U site) id ob) (mW:∀ id,(look l id).isSome=true→id / 1024≠19) :
  dP g w U site ⟨.own (site*1024) 0 [] u,(site*1024,some (.row own u site zs))::l⟩ v w' g' (U' U site):=by
 refine ⟨A.jg _ (fun id p h=>?_),⟨.inr (kz site),.inl S.u0,.inl S.u0,trivial,fun _=>rfl,A.val⟩,fun id ob bQ=>?_,fun s h=>h,A.cm,A.cI,A.fr,fun id h=>?_⟩
 ·rw [dQ]; split
  ·rfl
  grind
 ·rw [dQ] at bQ;split at bQ
  ·rename_i h; subst h;simp only [aN] at bQ;subst bQ;exact ⟨.inr (kz site),.inl S.u0,.inr rfl,A.row⟩
  obtain ⟨h1,h2⟩:=hl id ob bQ;exact ⟨.inl h1,h2⟩
 rw [dQ] at h;split at h
 ·rename_i he; rw [← he,kz]; rintro rfl; exact hs S.Bu
 grind
def y_ (l:b9) (v:List Nat):b9:=fun b o=>match l b o with
 | some (id,p)=>if id∈v then none else some (id,p)
 | none=>none
theorem SZ {l:b9} {v:List Nat} {b o:Nat} (h:l b o=none):y_ l v b o=none:=by simp [y_,h]
theorem S_ {l:b9} {v:List Nat} {b o id:Nat} {p:Path} (h:l b o=some (id,p)) (hi:id∈v):y_ l v b o=none:=by simp [y_,h,hi]
theorem S0 {l:b9} {v:List Nat} {b o:Nat} (h:y_ l v b o=none):l b o=none∨∃ id p,l b o=some (id,p)∧id∈v:=by
 unfold y_ at h
 grind
theorem aaA {own:Bool} {t:Ty} {i0:Nat} {vx:Value} {ys:List t.T} {v:List Nat} (h:own=false) (T:wK g L w own t i0 vx ys v σ):wK g L w own t i0 vx ys v cn:=by subst h;obtain ⟨⟨xa,xc,h1,h2⟩,-,-⟩:=T;refine ⟨⟨xa,xc,h1,fun hp=>?_⟩,fun p hp=>absurd rfl hp,.none⟩;obtain ⟨b,o,h3,h4⟩:=h2 hp;exact ⟨b,o,h3,fun k hk=>IY _ _ _ _ _ _ (h4 k hk)⟩
theorem S3 (S:dC P c g w U sr a) (hs:¬ U site) {t ty:Nat} (hk:(c.ti t).kind = .slice) (k_:0<(c.ti (c.ti t).elem).bytes) {u:Ty} (bF:(c.ti (c.ti t).elem).size=u.size) {id:Nat} {own:Bool} {vr:Nat} {qJ xs:List u.T} {x:ah} {vs vx:Value} {off len:Nat}
  (ho:sr.obj id=some (.row own u vr qJ)) (EL:xs=(qJ.drop off).take len) (hx:aV g w U x vx) {h:Hd} (hv:vs=h.val) (hlen:h.len=len) (tE:off+len≤qJ.length) (fF:h.len≤h.cap) (vc:h.addr=none→h.cap=0)
  (wL:0<h.cap→∀ b o,h.addr=some (b,o)→∃ o0,(g.hd id 0 []).addr=some (b,o0)∧o=o0+off*u.size) (hc:off+h.cap=(g.hd id 0 []).cap)
  (e:Bj (c.ti (c.ti t).elem).bytes sr site id own u xs x k=some r) :
  ∃ bu,k bu=some r∧∃ v' w' g' U',(p_ #[t,t] ty #[vs,vx]).run P w = .ok v' w'∧dP g w U site bu v' w' g' U':=by
 subst hv;unfold Bj at e;split at e
 case h_2=>grind
 rename_i ys v wO;split at e
 case h_2=>grind
 rename_i eW;rw [yT,qK] at eW;unfold ab at e;split at e
 case isFalse=>grind
 rename_i qP;obtain ⟨hU,lf,oJ,r1,r2,r3,r4⟩:=S.bb id _ ho;have EN:xs.length=len:=by rw [EL]; simp; omega
 let L:b9:=if own=true then g.lab else y_ g.lab v
 have hL:∀ b o,g.lab b o=none→L b o=none:=by
  intro b o hb;simp only [L]; split
  ·exact hb
  exact SZ hb
 obtain ⟨DI,eU,T⟩:=DB (L:=L) S.bb hL hx xs.length (fun hf aE hi b o p hb=>by simp only [L,hf]; exact S_ hb hi) wO;obtain ⟨eU,T,DD⟩:∃ eU,wK g L w own u xs.length vx ys v eU∧(own=false→∀ q,eU q=none):=by
  cases own with
  | true=>grind
  | false=>exact ⟨cn,aaA rfl T,fun _ _=>rfl⟩
 let σ0:Src:=if own=true then (fun p=>match p with | []=>none | (k',j)::s=>if k'<xs.length then some (id,(k'+off,j)::s,g.hd id vr ((k'+off,j)::s)) else none) else cn
 have qQ:∀ q aE p h',σ0 q=some (aE,p,h')→aE=id∧∃ k' j s,q=(k',j)::s∧k'<xs.length∧p=(k'+off,j)::s:=by
  intro q aE p h' e;simp only [σ0] at e;split at e
  ·grind
  simp [cn] at e
 obtain ⟨v',w',g',dG,A⟩:=I_ (L:=L) (own:=own) (ty:=ty) (σ0:=σ0) S hs hk k_ bF (Do:=fun aE _=>aE=id) (fun aE p=>g.hd aE vr p) (h:=h) (xs:=xs) (by omega) fF vc
  (fun b o hb k' cO=>by
   obtain ⟨o0,h1,rfl⟩:=wL (by grind) b o hb;obtain ⟨r5,r6⟩:=r4 b o0 h1;have hle:off*u.size+h.cap*u.size=(g.hd id 0 []).cap*u.size:=by rw [← hc,dH]
   obtain ⟨a1,a2,a3⟩:=r5 (off*u.size+k') (by omega);rw [← cg] at a1 a2 a3;refine ⟨a2,a3,id,[],a1,rfl,fun q h' e=>?_⟩;obtain ⟨-,k2,j,s,-,-,hp⟩:=qQ _ _ _ _ e
   grind)
  (fun b o hb k' cO=>by
   obtain ⟨o0,h1,rfl⟩:=wL (by omega) b o hb;obtain ⟨r5,r6⟩:=r4 b o0 h1;have h6:=r6 (off+k') (by omega);have hxk:xs[k']=qJ[off+k']:=by subst EL; simp
   rw [hxk];rw [dH,← cg] at h6;cases own with
   | true=>
    refine pW hL u [] [] (off+k') 0 k' 0 _ b _ (fun _ d s hd=>?_) h6
    grind
   | false=>exact pW hL u [] [] (off+k') 0 k' 0 _ b _ (fun hf=>by grind) h6)
  (fun q aE p h' e=>(qQ _ _ _ _ e).1) (fun q q' aE p h1 h2 e1 e2=>by
   obtain ⟨-,k1,j1,s1,rfl,-,yH⟩:=qQ _ _ _ _ e1;obtain ⟨-,k2,j2,s2,rfl,-,mX⟩:=qQ _ _ _ _ e2
   grind)
  (fun p hp=>by
   cases e:σ0 p with
   | none=>grind
   | some y=>
    obtain ⟨aE,p',h'⟩:=y;obtain ⟨-,k1,j1,s1,rfl,tb,-⟩:=qQ _ _ _ _ e
    grind)
  T (fun aE hi p he=>eW.1 (he▸hi)) eW.2 (fun hf=>⟨fun q=>by simp [σ0,hf,cn],DD hf⟩)
  (fun b o hb=>by
   simp only [L] at hb;split at hb
   ·grind
   rename_i hf;rcases S0 hb with hb | hb
   ·grind
   grind) qP (fun aE p h=>by rw [h]; exact S.nf id (by grind))
 refine ⟨_,e,v',w',g',_,dG,I1 S hs A (fun aE p hD=>?_) (fun aE ob bQ=>?_) (fun aE h=>by
  rw [mj] at h;split at h
  ·rename_i hm;rcases List.mem_cons.1 hm with rfl | hm
   ·exact S.nf _ (by grind)
   exact S.nf _ (DI _ hm)
  grind)⟩
 ·rw [mj,if_pos]
  ·rfl
  grind
 rw [mj] at bQ
 grind
theorem S4 (S:dC P c g w U sr a) (hs:¬ U site) {t ty:Nat} (hk:(c.ti t).kind = .slice) (k_:0<(c.ti (c.ti t).elem).bytes) {u:Ty} (bF:(c.ti (c.ti t).elem).size=u.size) {s x:ah} {vs vx:Value}
  (hx:aV g w U x vx) (fj:aV g w U s vs) (aaB:s = .nil∨∃ id off len sz,s = .fJ id off len sz) (e:Bi (c.ti (c.ti t).elem).bytes sr site u s x k=some r) :
  ∃ bu,k bu=some r∧∃ v' w' g' U',(p_ #[t,t] ty #[vs,vx]).run P w = .ok v' w'∧dP g w U site bu v' w' g' U':=by
 unfold Bi at e;split at e
 case h_2=>grind
 rename_i xs rr us gV;split at e
 case h_2=>grind
 rename_i wO;split at e
 case h_2=>grind
 rename_i eW;rw [yT,List.nodup_append] at eW;obtain ⟨RA,hnv,DC⟩:=eW;unfold ab at e;split at e
 case isFalse=>grind
 rename_i qP;obtain ⟨DI,eU,T⟩:=DB (L:=g.lab) S.bb (fun _ _ h=>h) hx (mK (α:=u.T) xs) (fun hf=>by grind) wO;obtain ⟨FE,-⟩:=(Dr (L:=g.lab) S.bb (fun _ _ h=>h) true 50).1 (.sl u) [s] xs rr us (fun _=>some vs) [] 0 0 (fun k hk=>by grind) gV (fun hf=>by grind);have fin:∀ (h:Hd) (σ0:Src),vs=h.val→h.len=mK (α:=u.T) xs→h.len≤h.cap→(h.addr=none→h.cap=0)→
   (∀ b o,h.addr=some (b,o)→∀ k,k<h.cap*u.size→(w.cell? (ad b (o+k))).isSome=true∧w.frozen? (ad b (o+k))=false∧∃ id p,g.lab b (o+k)=some (id,p)∧id∈us∧∀ q h',σ0 q≠some (id,p,h'))→
   (∀ b o,h.addr=some (b,o)→∀ k (hk:k<mK (α:=u.T) xs),df g g.lab w true σ0 u [] k 0 (List.get (α:=u.T) xs ⟨k,hk⟩) (fun d=>w.cell? (ad b (o+k*u.size+d))))→
   (∀ q id p h',σ0 q=some (id,p,h')→id∈us)→(∀ q q' id p h1 h2,σ0 q=some (id,p,h1)→σ0 q'=some (id,p,h2)→q=q')→IF [] 0 (mK (α:=u.T) xs) σ0→
   ∃ bu,k bu=some r∧∃ v' w' g' U',(p_ #[t,t] ty #[vs,vx]).run P w = .ok v' w'∧dP g w U site bu v' w' g' U':=by
  intro h σ0 hv h1 h2 h3 h4 h5 h6 h7 h8;subst hv;obtain ⟨v',w',g',dG,A⟩:=I_ (L:=g.lab) (own:=true) (ty:=ty) (σ0:=σ0) S hs hk k_ bF (Do:=fun aE _=>aE∈us) (fun _ _=>eh) (h:=h) (xs:=xs) h1 h2 h3 h4 h5 h6 h7 h8 T
   (fun id hi p hu=>DC _ hu _ hi rfl) hnv (fun hf=>by grind) (fun b o hb=>.inl hb) qP (fun id p h=>S.nf id (FE id h))
  refine ⟨_,e,v',w',g',_,dG,I1 S hs A (fun aE p hD=>?_) (fun aE ob bQ=>?_) (fun aE h=>by
   rw [mj] at h;split at h
   ·rename_i hm;rcases List.mem_append.1 hm with hm | hm
    ·exact S.nf _ (FE _ hm)
    exact S.nf _ (DI _ hm)
   grind)⟩
  ·rw [mj,if_pos]
   ·rfl
   grind
  rw [mj] at bQ
  grind
 rcases aaB with rfl | ⟨id,off,len,sz,rfl⟩
 ·simp only [take] at gV;obtain ⟨h1,-,h2⟩:=jK gV;have h1:xs=([]:List u.T):=h1.symm;subst h1 h2;refine fin eh cn (by rw [show vs=_ from fj]; rfl) rfl (cx _) (fun _=>rfl) (fun b o hb=>by simp [eh] at hb) (fun b o hb=>by grind) (fun q id p h' e=>by simp [cn] at e) (fun q q' id p h1 h2 e=>by simp [cn] at e) (fun p hp=>absurd rfl hp)
 cases off with
 | succ off=>simp [take] at gV
 | zero=>
  simp only [take] at gV;split at gV
  ·rename_i eo ho;split at gV
   ·rename_i hb;rw [aB] at hb;obtain ⟨gG,eK⟩:=hb;obtain rfl:=bB gG;have eK:=bB eK;split at gV
    ·rename_i l8 u' e';obtain ⟨h1,-,h2⟩:=jK gV;have h1:xs=l8:=h1.symm;subst h1 h2;obtain ⟨-,-,a0,cc,rfl,BD,fx,b,o,ha,lh⟩:=fj;obtain ⟨b',o',hh,dr,oT⟩:=yU S.bb ho;have lh:=lh (.inr rfl);rw [hh] at ha fx;simp only [aN,bS] at ha;obtain ⟨rfl,rfl⟩:=ha;simp only [kg,HS,eG] at fx lh;have fG:=u.size_pos;obtain rfl:cc=len:=SJ fG (by omega);subst lh;obtain ⟨aaC,aaD⟩:=qK.1 RA;obtain ⟨b1,b2,BE,T'⟩:=(Dr S.bb (fun _ _ h=>h) true 49).2 u cc eo xs u' _ [] 0 oT e' (fun hf=>by grind);refine fin ⟨some (b',o'),cc,cc⟩ BE (by simp [Hd.val]) T'.len.symm (cx _) (by simp) (fun b o hb k' cO=>?_) (fun b o hb k' cO=>?_) (fun q aE p h' e=>kD _ (T'.tk.ids _ _ _ _ e)) (fun q q' aE p h1 h2 e1 e2=>T'.tk.inj aaD _ _ _ _ _ _ e1 e2) (by rw [T'.len]; exact T'.nP)
     ·simp only [aN,bS] at hb;obtain ⟨rfl,rfl⟩:=hb;have MB:k'<eo.length:=by rw [← eK]; exact cO
      obtain ⟨y,hy,-⟩:=oT k' MB;have hy:w.cell? (ad b' (o'+k'))=some y:=hy;refine ⟨by grind,(dr k' MB).2,id,[],(dr k' MB).1,by simp,fun q h' e=>aaC (T'.tk.ids _ _ _ _ e)⟩
     simp only [aN,bS] at hb;obtain ⟨rfl,rfl⟩:=hb;have:=T'.ow k' cO
     grind
    grind
   grind
  grind
theorem I2 {g':Gh} {id vr V:Nat} {hole:Path} (hh:∀ p,p≠[]→¬ hole <+: p→g'.hd id V p=g.hd id vr p)
  (dr:∀ b o p,g.lab b o=some (id,p)→¬ hole <+: p→g'.lab b o=some (id,p)∧w'.cell? (ad b o)=w.cell? (ad b o)∧w'.frozen? (ad b o)=w.frozen? (ad b o))
  (BM:∀ b o,g.lab b o=none→∀ v,w.cell? (ad b o)=some v→w'.cell? (ad b o)=some v∧g'.lab b o=none):∀ (t:Ty) (sk:Nat→Nat→Bool) (p:Path) (i j:Nat) (x:t.T) (b o:Nat),
  (∀ k,k<t.size→w'.cell? (ad b (o+k))=w.cell? (ad b (o+k)))→(∀ d,d<t.size→sk i (j+d)=true∨∀ s,¬ hole <+: p++(i,j+d)::s)→dO g w true id vr t de p i j x b o→dO g' w' true id V t sk p i j x b o
 | .int _,sk,p,i,j,x,b,o,hc,hp,h=>by have:=hc 0 (by simp [Ty.size]); exact this.trans h
 | .bool,sk,p,i,j,x,b,o,hc,hp,h=>by have:=hc 0 (by simp [Ty.size]); exact this.trans h
 | .str,sk,p,i,j,x,b,o,hc,hp,h=>by have:=hc 0 (by simp [Ty.size]); exact this.trans h
 | .err,sk,p,i,j,x,b,o,hc,hp,h=>by obtain ⟨v,h1,h2⟩:=h;exact ⟨v,(hc 0 (by simp [Ty.size])).trans h1,h2⟩
 | .bW t,sk,p,i,j,x,b,o,hc,hp,h=>by obtain ⟨v,h1,h2,h3⟩:=h;exact ⟨v,(hc 0 (by simp [Ty.size])).trans h1,iI (gq BM t) h2,h3⟩
 | .pair s t,sk,p,i,j,x,b,o,hc,hp,h=>by
  refine ⟨I2 hh dr BM s sk p i j x.1 b o (fun k hk=>hc k (by simp [Ty.size]; omega)) (fun d hd=>hp d (by simp [Ty.size]; omega)) h.1,
   I2 hh dr BM t sk p i (j+s.size) x.2 b (o+s.size) (fun k hk=>?_) (fun d hd=>?_) h.2⟩
  ·rw [cg]; exact hc _ (by simp [Ty.size]; omega)
  rw [cg]; exact hp _ (by simp [Ty.size]; omega)
 | .sl t,sk,p,i,j,xs,b,o,hc,hp,h=>by
  have h0:=hc 0 (by simp [Ty.size]);rw [eG] at h0;rcases hp 0 (by simp [Ty.size]) with iF | hn
  ·exact .inl iF
  simp only [eG] at hn;rcases h with h | ⟨h1,r1,r2,r3,r4⟩
  ·simp [de] at h
  have hd:=hh (p++[(i,j)]) (by simp) (hn []);refine .inr ⟨by grind,?_⟩;rw [hd];refine ⟨r1,r2,r3,fun b o hb=>?_⟩;obtain ⟨r5,r6⟩:=r4 b o hb;refine ⟨fun k hk=>?_,fun k hk=>?_⟩
  ·grind
  refine I2 hh dr BM t _ _ k 0 _ b _ (fun d hd=>?_) (fun d hd=>.inr (fun s=>?_)) (r6 k hk)
  ·have hle:(k+1)*t.size≤(g.hd id vr (p++[(i,j)])).cap*t.size:=fk _ (by omega);rw [dH] at hle;obtain ⟨a1,-,-⟩:=r5 (k*t.size+d) (by omega)
   grind
  grind
theorem aaE (S:dC P c g w U sr a) (hs:¬ U site) {t ty:Nat} (hk:(c.ti t).kind = .slice) (k_:0<(c.ti (c.ti t).elem).bytes) {id:Nat} {u0:Ty} {vr:Nat} {qJ:List u0.T} {i j:Nat} {x:ah} {vx:Value}
  (ho:sr.obj id=some (.row true u0 vr qJ)) (hx:aV g w U x vx) (hi:i<qJ.length) (bF:∀ u zs,kG u0 (el u0 qJ i) j=some ⟨u,zs⟩→(c.ti (c.ti t).elem).size=u.size)
  (e:C3 (c.ti (c.ti t).elem).bytes sr site id u0 qJ i j x k=some r) :
  ∃ bu,k bu=some r∧∃ v' w' g' U',(p_ #[t,t] ty #[(g.hd id vr [(i,j)]).val,vx]).run P w = .ok v' w'∧dP g w U site bu v' w' g' U':=by
 unfold C3 at e;split at e
 case h_2=>grind
 rename_i u xs kY;split at e
 case h_2=>grind
 rename_i v wO;split at e
 case h_2=>grind
 rename_i eW;rw [yT,qK] at eW;unfold ab at e;split at e
 case isFalse=>grind
 rename_i qP;obtain ⟨hU,lf,oJ,r1,r2,r3,r4⟩:=S.bb id _ ho;obtain ⟨DI,eU,T⟩:=DB (L:=g.lab) S.bb (fun _ _ h=>h) hx xs.length (fun hf=>by grind) wO;have wL:∃ b o,(g.hd id 0 []).addr=some (b,o):=by
  cases ha:(g.hd id 0 []).addr with
  | none=>grind
  | some q=>grind
 obtain ⟨b0,o0,Lk⟩:=wL;obtain ⟨r5,r6⟩:=r4 b0 o0 Lk;have h6:=r6 i hi;rw [← wD hi] at h6;obtain ⟨oE,⟨q1,q2,q3,q4⟩,hjs⟩:=Fl u0 [] i 0 _ b0 _ j u xs h6 kY;simp only [kg,qO] at oE q1 q2 q3 q4
 let σ0:Src:=fun p=>match p with | []=>none | (k',j')::s=>if k'<xs.length then some (id,(i,j)::(k',j')::s,g.hd id vr ((i,j)::(k',j')::s)) else none
 have qQ:∀ q aE p h',σ0 q=some (aE,p,h')→aE=id∧∃ k' j' s,q=(k',j')::s∧k'<xs.length∧p=(i,j)::(k',j')::s:=by
  intro q aE p h' e;cases q with
  | nil=>grind
  | cons a q=>
   grind
 obtain ⟨v',w',g',dG,A⟩:=I_ (L:=g.lab) (own:=true) (ty:=ty) (σ0:=σ0) S hs hk k_ (bF u xs kY) (Do:=fun aE p=>aE=id∧[(i,j)] <+: p) (fun aE p=>g.hd aE vr p) (h:=g.hd id vr [(i,j)]) (xs:=xs) q1 q2 q3
  (fun b o hb k' cO=>by grind)
  (fun b o hb k' cO=>by
   obtain ⟨q5,q6⟩:=q4 b o hb;refine pW (fun _ _ h=>h) u [(i,j)] [] k' 0 k' 0 _ b _ (fun _ d s hd=>?_) (q6 k' cO)
   grind)
  (fun q aE p h' e=>by
   grind) (fun q q' aE p h1 h2 e1 e2=>by
   grind)
  (fun p hp=>by grind)
  T (fun aE hi p he=>eW.1 (he.1▸hi)) eW.2 (fun hf=>by grind) (fun b o hb=>.inl hb) qP (fun aE p h=>by rw [h.1]; exact S.nf id (by grind))
 have aaF:id≠site*1024:=by rintro rfl; rw [kz] at hU; exact hs hU
 refine ⟨_,e,v',w',g',_,dG,I1 S hs A (fun aE p hD=>?_) (fun aE ob bQ=>?_) (fun aE h=>by
  rw [dQ] at h;split at h
  ·rename_i he; rw [← he]; exact S.nf _ (by grind)
  rw [mj] at h;split at h
  ·rename_i hm; exact S.nf _ (DI _ hm)
  grind)⟩
 ·rw [dQ];split
  ·rfl
  rename_i aG;rw [mj,if_pos]
  ·rfl
  grind
 rw [dQ] at bQ;split at bQ
 ·rename_i he;subst he;simp only [aN] at bQ;subst bQ;refine ⟨hU,.inl lf,.inr rfl,?_⟩;have S5:=A.jg (fun aE=>aE=id∨aE∈v) (fun aE p hD=>by grind);have wM:∀ p,¬ [(i,j)] <+: p→¬ ((id=id∧[(i,j)] <+: p)∨id∈v):=by
   rintro p hp (⟨-,h⟩ | h)
   ·grind
   grind
  have p6:g'.hd id 0 []=g.hd id 0 []:=S5.hd id 0 [] hU lf;have vc:¬ [(i,j)] <+: ([]:Path):=by simp
  unfold eZ;rw [p6];refine ⟨r1,r2,r3,fun b o hb=>?_⟩;rw [Lk] at hb;simp only [aN,bS] at hb;obtain ⟨rfl,rfl⟩:=hb;refine ⟨fun k' cO=>?_,fun k' cO=>?_⟩
  ·obtain ⟨a1,a2,a3⟩:=r5 k' cO;obtain ⟨c1,c2,c3⟩:=A.iG _ _ _ _ a1 (wM [] vc)
   grind
  refine I2 (hole:=[(i,j)]) (fun p hp hn=>A.IZ id p aaF) (fun b o p hl hn=>A.iG _ _ _ _ hl (wM p hn)) S5.shr u0 _ [] k' 0 _ _ _ (fun d hd=>?_) (fun d hd=>?_) (r6 k' cO)
  ·have hle:(k'+1)*u0.size≤(g.hd id 0 []).cap*u0.size:=fk _ (by omega);rw [dH] at hle;obtain ⟨a1,-,-⟩:=r5 (k'*u0.size+d) (by omega);rw [← cg] at a1;exact (A.iG _ _ _ _ a1 (wM [] vc)).2.1
  by_cases RB:k'=i∧0+d=j
  ·left; simp [RB.1,RB.2]
  grind
 rw [mj] at bQ
 grind
theorem aaG (S:dC P c g w U sr a) (hs:¬ U site) {t ty:Nat} (hk:(c.ti t).kind = .slice) (k_:0<(c.ti (c.ti t).elem).bytes) {s x:ah} {vs vx:Value} (fj:aV g w U s vs) (hx:aV g w U x vx)
  (e:C4 (c.ti (c.ti t).elem).bytes sr site (c.ti (c.ti t).elem).ty (c.ti (c.ti t).elem).size s x k=some r) :
  ∃ bu,k bu=some r∧∃ v' w' g' U',(p_ #[t,t] ty #[vs,vx]).run P w = .ok v' w'∧dP g w U site bu v' w' g' U':=by
 unfold C4 at e;split at e
 ·grind
 rename_i bF;cases s with
 | nil=>
  simp only at e bF;split at e
  ·rename_i u hu;rw [hu] at bF;exact S4 S hs hk k_ (bB bF) hx fj (.inl rfl) e
  grind
 | fJ id off len sz=>
  simp only at e bF;split at e
  ·rename_i u hu;rw [hu] at bF;exact S4 S hs hk k_ (bB bF) hx fj (.inr ⟨_,_,_,_,rfl⟩) e
  grind
 | own id ver p tt=>
  simp only at e bF;have bF:=bB bF;split at e
  ·rename_i own u vr xs ho;obtain ⟨h1,h2,h3,h4,h5,rfl⟩:=fj;obtain ⟨hU,lf,oJ,r1,r2,r3,r4⟩:=S.bb id _ ho;cases p with
   | nil=>
    obtain rfl:=h5 rfl;have aaH:(c.ti (c.ti t).elem).size=u.size:=by rw [bF]; simp [St.tn,St.rowAt,ho]
    exact S3 S hs hk k_ aaH ho (off:=0) (len:=xs.length) (by simp) hx rfl r1 (by omega) r2 r3 (fun _ b o hb=>⟨o,hb,by simp⟩) (by simp) e
   | cons q p=>
    obtain ⟨i,j⟩:=q;cases p with
    | cons q p=>grind
    | nil=>
     simp only at e;split at e
     ·grind
     rename_i hb;rw [aB] at hb;obtain ⟨rfl,hb⟩:=hb;obtain rfl:=bB hb;have hi:i<xs.length:=by have:=h4.1;rw [show ko ([]:Path) ver=0 from rfl,r1] at this;exact this
     exact aaE S hs hk k_ ho hx hi (fun u' zs hc=>by rw [bF]; simp [St.tn,St.rowAt,ho,place,hc]) e
  grind
 | fS id ver p tt off len=>
  cases p with
  | cons q p=>grind
  | nil=>
   simp only at e bF;have aaI:(c.ti (c.ti t).elem).size=tt.size:=bB bF;split at e
   ·rename_i own u vr xs ho;split at e
    ·rename_i hb;obtain rfl:=Ty.eq_of_beq hb;obtain ⟨h1,h2,h3,h4,h5,a0,cp,rfl,h6,h7,h8,h9,q,rfl⟩:=fj;obtain rfl:=h5 rfl;obtain ⟨hU,lf,oJ,r1,r2,r3,r4⟩:=S.bb id _ ho;refine S3 S hs hk k_ aaI ho (off:=off) (len:=len) rfl hx (h:=⟨q,len,cp⟩) rfl rfl (by omega) h7 (fun hq=>?_) (fun hc b o hb=>?_) h6 e
     ·grind
     grind
    grind
   grind
 | _=>grind
end
end Go.Am
namespace Go.Am
open Go
section
variable {P:Program} {c:bd} {g:Gh} {L:b9} {w w':World} {U:Nat→Prop} {sr:St} {a:Act} {site:Nat} {o:Oper} {ρ:Type} {r:ρ} {k:cK→Option ρ} {σ:Src}
structure S6 (id i:Nat) (u:List Nat) (σ:Src):Prop where
 ids:∀ p aE p' h,σ p=some (aE,p',h)→(aE=id∧∃ d s,p'=(i,d)::s)∨aE∈u
 inj:(id::u).Nodup→∀ p1 p2 aE p' h1 h2,σ p1=some (aE,p',h1)→σ p2=some (aE,p',h2)→p1=p2
theorem MC (S:dC P c g w U sr a) (hs:¬ U site) {t0:Nat} (ht:0<(c.ti t0).size) {id:Nat} {i j:Nat} {x:ah} {own:Bool} {t:Ty} {vr:Nat} {xs:List t.T} {sk:Nat→Nat→Bool} {y:t.T} {used:List Nat} {v:Value} {σe:Src} {b o:Nat}
  (hx:aV g w U x v) (hlen:x.cells.length=(c.ti t0).size) (bK:jZ x.cells=true) (hU:U (id / 1024)) (mW:id / 1024≠19) (RA:∀ id∈used,id / 1024≠19)
  (hR:eZ g w own id 0 vr t sk [] xs) (iF:∀ k' j',sk k' j'=true→k'=i) (ha:(g.hd id 0 []).addr=some (b,o)) (hi:i<xs.length) (hj:j+(c.ti t0).size≤t.size)
  (hL:∀ b o,g.lab b o=none→L b o=none) (DE:∀ b o,L b o=none→g.lab b o=none∨(own=false∧∃ id p,g.lab b o=some (id,p)∧id∈used)) (eW:(id::used).Nodup) (yC:own=false→∀ q,σe q=none)
  (hE:df g L w own σe t [] i 0 y (fun k=>if j≤k∧k<j+v.cells.toList.length then v.cells.toList[k-j]? else w.cell? (ad b (o+i*t.size+k))))
  (hP:S6 id i used σe) (hD:∀ p,σe p≠none→∃ d s,p=(i,d)::s) :
  ∃ w' g' U',(th t0 (.pointer (some (ad b (o+i*t.size+j)))) v).run P w = .ok () w'∧dP g w U site ⟨.undef,(id,some (.row own t site (xs.set i y)))::gone used⟩ undef w' g' U':=by
 obtain ⟨fj,h1⟩:=BG hx bK;have bF:v.cells.toList.length=(c.ti t0).size:=by rw [mU fj,hlen]
 have h0:site≠0:=by rintro rfl; exact hs S.u0
 obtain ⟨r1,r2,r3,r4⟩:=hR;obtain ⟨r5,r6⟩:=r4 b o ha;have fF:(i+1)*t.size≤(g.hd id 0 []).cap*t.size:=fk _ (by omega);rw [dH] at fF;have hl:∀ k,k<v.cells.toList.length→g.lab b (o+i*t.size+j+k)=some (id,[]):=by intro k hk;have:=(r5 (i*t.size+(j+k)) (by omega)).1;rw [show o+i*t.size+j+k=o+(i*t.size+(j+k)) by omega];exact this
 have K:=IJ (w:=w) hl;have Ll:id∉used:=(qK.1 eW).1;have DI:id / 1024≠site:=fun e=>hs (e▸hU)
 let σ:Src:=fun p=>match p with
  | []=>none
  | (k',d)::s=>if k'=i then σe ((k',d)::s) else if own=true then some (id,(k',d)::s,g.hd id vr ((k',d)::s)) else none
 have fQ:∀ q aE p h,σ q=some (aE,p,h)→(σe q=some (aE,p,h)∧∃ d s,q=(i,d)::s)∨(aE=id∧p=q∧∃ k' d s,q=(k',d)::s∧k'≠i):=by
  intro q aE p h e;cases q with
  | nil=>simp [σ] at e
  | cons q s=>
   grind
 let D:Nat→Path→Prop:=fun aE p=>(aE=id∧p≠[])∨aE∈used
 let Rt:Nat→Nat→Prop:=fun b o=>g.lab b o=some (id,[])
 have A3:∀ q aE p h,σ q=some (aE,p,h)→D aE p:=by
  intro q aE p h e;rcases fQ _ _ _ _ e with ⟨e1,-⟩ | ⟨rfl,rfl,k',d,s,rfl,-⟩
  ·rcases hP.ids _ _ _ _ e1 with ⟨h2,d,s,rfl⟩ | h2
   ·grind
   grind
  grind
 have aaJ:∀ q aE p h,σ q=some (aE,p,h)→∀ q' h',σ q'=some (aE,p,h')→q'=q:=by
  intro q aE p h e q' h' e';rcases fQ _ _ _ _ e with ⟨e1,d1,s1,s6⟩ | ⟨ah6,yH,k1,d1,s1,s6,tb⟩<;>rcases fQ _ _ _ _ e' with ⟨e2,d2,s2,kI⟩ | ⟨ah7,mX,k2,d2,s2,kI,lM⟩
  ·exact hP.inj eW _ _ _ _ _ _ e2 e1
  ·rcases hP.ids _ _ _ _ e1 with ⟨h2,d,s,h3⟩ | h2
   ·grind
   grind
  ·rcases hP.ids _ _ _ _ e2 with ⟨h2,d,s,h3⟩ | h2
   ·grind
   grind
  grind
 have jV:∀ b' o',g.lab b' o'≠some (id,[])→(w.setCells b (o+i*t.size+j) v.cells.toList).cell? (ad b' o')=w.cell? (ad b' o'):=by
  intro b' o' hn;refine uQ b _ _ w _ (fun hb _=>?_);simp only at hb ⊢;subst hb;rcases kj o' (o+i*t.size+j) with h | h
  ·omega
  rcases kj o' (o+i*t.size+j+v.cells.toList.length) with h' | h'
  ·have:=hl (o'-(o+i*t.size+j)) (by omega)
   grind
  omega
 have DH:Fr (u6 g) w (w.setCells b (o+i*t.size+j) v.cells.toList):=wG b _ _ w (fun k hk=>⟨id,[],hl k hk,mW⟩)
 let g':=jh g site (fun _ _=>eh) (fun aE p=>if aE=id then (match σ p with | some (_,_,h)=>h | none=>eh) else eh) (jL D id σ Rt g.lab)
 have p6:g'.hd id 0 []=g.hd id 0 []:=Mi hs hU S.u0;have dK:∀ {T:Nat→Prop},T id→(∀ aE∈used,T aE)→eV T g w U g' (w.setCells b (o+i*t.size+j) v.cells.toList) (U' U site):=by
  intro T hT1 H0;refine Fy hs (fun b' o' hn v' wJ=>⟨by grind,fun hr=>by grind⟩) (fun b' o' aE p e wH=>?_);have aG:aE≠id:=fun he=>wH (he▸hT1);refine ⟨fun hD'=>?_,fun hr=>?_,jV b' o' (by grind),Be b _ _ w _⟩
  ·grind
  grind
 refine ⟨_,g',U' U site,Mf (oS S.bm (.inl ht)) (by omega) (fun k hk=>?_) h1,dK (by simp [dQ]) (fun aE gU=>?_),trivial,fun aE ob bQ=>?_,fun s h=>h,fun b' o' q h=>?_,fun b' o' q hb h=>?_,DH,fun aE h=>?_⟩
 ·obtain ⟨h2,h3,h4⟩:=r5 (i*t.size+(j+k)) (by omega)
  grind
 ·rw [dQ]; split
  ·rfl
  rw [mj,if_pos gU]; rfl
 ·rw [dQ] at bQ;split at bQ
  ·rename_i he;subst he;simp only [aN] at bQ;subst bQ;refine ⟨.inl hU,.inl S.u0,.inr rfl,?_⟩;refine Fz (w:=w) (L:=L) (h0:=g.hd id 0 []) g' rfl p6 (fun q aE p h e=>by simp [e]) (fun q hq e=>by simp [e]) (fun q aE p h e=>⟨A3 _ _ _ _ e,aaJ _ _ _ _ e,fun b' o' dh=>?_⟩) (fun b' o' dh v' wJ=>?_) (by rw [List.length_set]; exact r1) r2 r3 (fun b' o' dh k hk=>?_) (fun b' o' dh k hk=>?_)
   ·have aG:g.lab b' o'≠some (id,[]):=by
     rw [dh];intro he;simp only [aN,bS] at he;rcases A3 _ _ _ _ e with ⟨-,h2⟩ | h2
     ·grind
     grind
    exact ⟨aG,jV b' o' aG,Be b _ _ w _⟩
   ·rcases DE b' o' dh with hn | ⟨Rz,aE,p,hn,qW⟩
    ·have aG:g.lab b' o'≠some (id,[]):=by rw [hn]; simp
     exact ⟨by grind,Dy hn aG⟩
    have aG:g.lab b' o'≠some (id,[]):=by rw [hn]; intro he;simp only [aN,bS] at he;exact Ll (he.1▸qW)
    refine ⟨by grind,SO hn aG (.inr qW) (fun q h' e=>?_)⟩
    grind
   ·rw [ha] at dh;simp only [aN,bS] at dh;obtain ⟨rfl,rfl⟩:=dh;obtain ⟨a1,a2,a3⟩:=r5 k hk;exact ⟨a1,K.Fs _ _ a2,by rw [K.frozen]; exact a3⟩
   rw [ha] at dh;simp only [aN,bS] at dh;obtain ⟨rfl,rfl⟩:=dh;rw [List.length_set] at hk;by_cases tz:i=k
   ·subst tz;rw [List.getElem_set_self];refine qU t [] i 0 _ _ (fun d s hd=>by grind) (km t [] i 0 _ _ _ (fun d hd=>?_) hE);by_cases cU:j≤d∧d<j+v.cells.toList.length
    ·rw [if_pos cU];have:=Bd b v.cells.toList (o+i*t.size+j) w (fun m hm=>by
      have:=(r5 (i*t.size+(j+m)) (by omega)).2.1
      grind) (d-j) (by omega)
     grind
    rw [if_neg cU];refine uQ b _ _ w _ (fun _ _=>?_)
    grind
   rw [List.getElem_set_ne tz];have h6:=r6 k hk;have h6':dO g w own id vr t de [] k 0 xs[k] b (o+k*t.size):=by
    have:∀ (t:Ty) (j:Nat) (x:t.T) (b o:Nat),dO g w own id vr t sk [] k j x b o→dO g w own id vr t de [] k j x b o:=by
     intro t;induction t with
     | pair s t MD ME=>intro j x b o h; exact ⟨MD _ _ _ _ h.1,ME _ _ _ _ h.2⟩
     | sl t _=>
      intro j x b o h;cases own with
      | false=>exact h
      | true=>
       rcases h with h | h
       ·grind
       exact .inr h
     | _=>intro j x b o h; exact h
    exact this t 0 _ _ _ h6
   refine km t [] k 0 _ _ _ (fun d hd=>?_) (pW (σ:=σ) hL t [] [] k 0 k 0 _ b _ (fun yy d s hd=>?_) h6')
   ·refine uQ b _ _ w _ (fun _ _=>?_);simp only;rcases Nat.lt_or_gt_of_ne tz with h | h
    ·have:(i+1)*t.size≤k*t.size:=fk _ h
     grind
    have:(k+1)*t.size≤i*t.size:=fk _ h
    grind
   grind
  rw [mj] at bQ
  grind
 ·have:=DH.size;rcases vb h with h | h
  ·have h:g.lab b' o'=some (id,[]):=h;have:=S.cm _ _ _ h; omega
  cases e:g.lab b' o' with
  | none=>grind
  | some q=>have:=S.cm _ _ _ e; omega
 ·rcases vb h with h | h
  ·grind
  omega
 rw [dQ] at h;split at h
 ·omega
 rw [mj] at h
 grind
end
end Go.Am
namespace Go.Am
open Go
structure qX (id i:Nat) (u:List Nat) (σ:Src):Prop where
 ids:∀ p aE p' h,σ p=some (aE,p',h)→(aE=id∧p'=p∧∃ d s,p=(i,d)::s)∨aE∈u
 inj:(id::u).Nodup→∀ p1 p2 aE p' h1 h2,σ p1=some (aE,p',h1)→σ p2=some (aE,p',h2)→p1=p2
theorem qX.put {id i:Nat} {u:List Nat} {σ:Src} (h:qX id i u σ):S6 id i u σ:=by
 refine ⟨fun p aE p' hh e=>?_,h.inj⟩;rcases h.ids _ _ _ _ e with ⟨h1,rfl,h2⟩ | h1
 ·grind
 grind
theorem qX.or {id i:Nat} {u v:List Nat} {σ τ:Src} (h1:qX id i u σ) (h2:qX id i v τ):qX id i (u++v) (ic σ τ):=by
 constructor
 ·intro p aE p' h e;rcases rX e with e | ⟨-,e⟩
  ·rcases h1.ids _ _ _ _ e with h | h
   ·grind
   grind
  rcases h2.ids _ _ _ _ e with h | h
  ·grind
  grind
 intro hn p1 p2 aE p' ha hb e1 e2;obtain ⟨n0,n⟩:=qK.1 hn;obtain ⟨n1,n2,n3⟩:=List.nodup_append.1 n;have hu:id∉u:=fun h=>n0 (lH _ h);have hv:id∉v:=fun h=>n0 (wb _ h);have mixed:∀ {q1 q2:Path} {g1 g2:Hd},σ q1=some (aE,p',g1)→τ q2=some (aE,p',g2)→q1=q2:=by
  intro q1 q2 g1 g2 f1 f2;rcases h1.ids _ _ _ _ f1 with ⟨a1,a2,-⟩ | a1<;>rcases h2.ids _ _ _ _ f2 with ⟨b1,b2,-⟩ | b1
  ·grind
  ·grind
  ·grind
  grind
 rcases rX e1 with e1 | ⟨-,e1⟩<;>rcases rX e2 with e2 | ⟨-,e2⟩
 ·exact h1.inj (qK.2 ⟨hu,n1⟩) _ _ _ _ _ _ e1 e2
 ·grind
 ·grind
 exact h2.inj (qK.2 ⟨hv,n2⟩) _ _ _ _ _ _ e1 e2
theorem qX.none {id i:Nat} {u:List Nat} : qX id i u cn:=⟨fun _ _ _ _ h=>by simp [cn] at h,fun _ _ _ _ _ _ _ h=>by simp [cn] at h⟩
def wP (g:Gh) (id vr:Nat) (i j:Nat):Src:=fun p=>(strip [(i,j)] p).map fun s=>(id,(i,j)::s,g.hd id vr ((i,j)::s))
theorem I3 {g:Gh} {id vr i j:Nat} {p:Path} {x:Nat×Path×Hd} (h:wP g id vr i j p=some x):∃ s,p=(i,j)::s∧x=(id,(i,j)::s,g.hd id vr ((i,j)::s)):=by simp only [wP,yx] at h;obtain ⟨s,h1,rfl⟩:=h;exact ⟨s,by simpa using Fq h1,rfl⟩
theorem aaK {g:Gh} {id vr i j:Nat} {s:Path} : wP g id vr i j ((i,j)::s)=some (id,(i,j)::s,g.hd id vr ((i,j)::s)):=by have:=Md [(i,j)] s;simp only [pI,qO] at this;simp [wP,this]
theorem qX.wP {g:Gh} {id vr i j:Nat} {u:List Nat} : qX id i u (wP g id vr i j):=by
 refine ⟨fun p aE p' h e=>?_,fun _ p1 p2 aE p' h1 h2 e1 e2=>?_⟩
 ·obtain ⟨s,rfl,h⟩:=I3 e
  grind
 obtain ⟨s1,rfl,h1⟩:=I3 e1;obtain ⟨s2,rfl,h2⟩:=I3 e2
 grind
section
variable {P:Program} {c:bd} {g:Gh} {L:b9} {w w':World} {U:Nat→Prop} {sr:St} {a:Act} {site:Nat} {o:Oper} {ρ:Type} {r:ρ} {k:cK→Option ρ} {σ:Src}
theorem aaL (hO:fA g w U sr) (hL:∀ b o,g.lab b o=none→L b o=none) {own:Bool} {id vr lo i:Nat} {vs:List ah} {f:Nat→Option Value} (hv:gB g w U vs f) {sk:Nat→Nat→Bool} : ∀ (d:Nat) (t:Ty) (j:Nat) (x y:t.T) (u:List Nat) (ei:Bool) (b o:Nat),
  me sr own d t x j lo vs=some (y,u,ei)→(own=false→∀ id∈u,∀ b o p,g.lab b o=some (id,p)→L b o=none)→(∀ dd,dd<t.size→sk i (j+dd)=true→lo≤j+dd∧j+dd<lo+vs.length)→
  dO g w own id vr t sk [] i j x b o→(∀ id∈u,sr.obj id≠none)∧∃ σ,df g L w own σ t [] i j y (fun k=>if lo≤j+k∧j+k<lo+vs.length then f (j+k-lo) else w.cell? (ad b (o+k)))∧Mc [] i j t.size σ∧qX id i u σ:=by
 have leaf:∀ (B:Bool) (d:Nat) (t:Ty) (j:Nat) (x y:t.T) (u:List Nat) (ei:Bool) (b o:Nat),t.size=1→
   (match Nat.ble lo j&&Nat.blt j (lo+vs.length) with
   | false=>some (x,[],false)
   | true=>match vs.drop (j-lo) with
    | v::_=>match take sr own d t [v] with
     | some (y,_,u)=>some (y,u,B)
     | none=>none
    | []=>none)=some (y,u,ei)→(own=false→∀ id∈u,∀ b o p,g.lab b o=some (id,p)→L b o=none)→(∀ dd,dd<t.size→sk i (j+dd)=true→lo≤j+dd∧j+dd<lo+vs.length)→
   dO g w own id vr t sk [] i j x b o→(sk i j=false→dO g w own id vr t sk [] i j x b o→dO g w own id vr t de [] i j x b o)→
   (∀ id∈u,sr.obj id≠none)∧∃ σ,df g L w own σ t [] i j y (fun k=>if lo≤j+k∧j+k<lo+vs.length then f (j+k-lo) else w.cell? (ad b (o+k)))∧Mc [] i j t.size σ∧qX id i u σ:=by
  intro B d t j x y u ei b o h1 e gJ iF h tc;split at e
  ·rename_i hb;obtain ⟨rfl,rfl,-⟩:=jK e;have dh:¬ (lo≤j∧j<lo+vs.length):=by
    intro hc;have:(Nat.ble lo j&&Nat.blt j (lo+vs.length))=true:=by simp [eH]; omega
    rw [this] at hb; exact absurd hb (by simp)
   have aaM:sk i j=false:=by
    cases hq:sk i j with
    | false=>rfl
    | true=>simp_all
   have h':=tc aaM h;refine ⟨by simp,?_⟩;have jM:∀ k,k<t.size→(if lo≤j+k∧j+k<lo+vs.length then f (j+k-lo) else w.cell? (ad b (o+k)))=w.cell? (ad b (o+k)):=by
    intro k hk;have:k=0:=by omega
    subst this;rw [if_neg (by omega)]
   cases own with
   | true=>
    refine ⟨wP g id vr i j,km t [] i j _ _ _ jM (pW hL t [] [] i j i j _ b o (fun _ dd s FF=>?_) h'),?_,.wP⟩
    ·have:dd=0:=by omega
     subst this;simp only [qO,eG];exact aaK
    intro p hp;cases e:wP g id vr i j p with
    | none=>grind
    | some z=>
     obtain ⟨s,rfl,-⟩:=I3 e;simp_all
   | false=>
    exact ⟨cn,km t [] i j _ _ _ jM (pW hL t [] [] i j i j _ b o (fun hf=>by grind) h'),fun p hp=>absurd rfl hp,.none⟩
  rename_i hb;simp only [aB,Nat.ble_eq,eH] at hb;split at e
  ·rename_i v _ hd;split at e
   ·rename_i y' r' u' ht;obtain ⟨rfl,rfl,-⟩:=jK e;have aF:j-lo<vs.length:=by omega
    have mV:vs[j-lo]=v:=by have:=congrArg (fun l=>l[0]?) hd;simpa [eX aF] using this
    have hV:gB g w U [v] (fun k=>f (j-lo+k)):=by
     intro k hk;have:k=0:=by simp at hk; exact hk
     subst this;obtain ⟨z,pZ,iT⟩:=hv (j-lo) aF;rw [mV] at iT;exact ⟨z,pZ,iT⟩
    obtain ⟨c1,c2,c3,σ,T⟩:=(Dr hO hL own d).1 t [v] y' r' u' _ [] i j hV ht gJ;refine ⟨c1,σ,km t [] i j _ _ _ (fun k hk=>?_) T.ow,T.nP,fun p aE p' h e=>.inr (T.tk.ids _ _ _ _ e),fun hn=>T.tk.inj (qK.1 hn).2⟩
    grind
   grind
  grind
 intro d;induction d with
 | zero=>intro t j x y u ei b o e; cases t<;>simp [me] at e
 | succ d ih=>
  intro t j x y u ei b o e gJ iF h;cases t with
  | pair s t=>
   simp only [me] at e;split at e
   ·rename_i y1 u1 h1 e1;split at e
    ·rename_i y2 u2 h2 e2;obtain ⟨hy,hu,hh⟩:=jK e;subst hy hu;obtain ⟨b1,eU,c1,d1,p1⟩:=ih s j x.1 y1 u1 h1 b o e1 (fun ho id hi=>gJ ho id (lH _ hi)) (fun dd FF=>iF dd (by simp [Ty.size]; omega)) h.1;obtain ⟨b2,wF,c2,d2,p2⟩:=ih t (j+s.size) x.2 y2 u2 h2 b (o+s.size) e2 (fun ho id hi=>gJ ho id (wb _ hi)) (fun dd FF hq=>by have:=iF (s.size+dd) (by simp [Ty.size]; omega) (by grind);omega) h.2;refine ⟨?_,ic eU wF,⟨?_,?_⟩,?_,p1.or p2⟩
     ·grind
     ·refine qU s [] i j y1 _ (fun dd ss FF=>?_) c1;unfold ic;split
      ·grind
      rename_i hy;rw [hy];cases h2:wF ([]++(i,j+dd)::ss) with
      | none=>rfl
      | some y=>
       obtain ⟨d',s',h_,he⟩:=d2 _ (by rw [h2]; simp)
       grind
     ·refine qU t [] i (j+s.size) y2 _ (fun dd ss FF=>?_) (km t [] i _ y2 _ _ (fun k hk=>?_) c2)
      ·unfold ic;split
       ·rename_i y hy;obtain ⟨d',s',h_,he⟩:=d1 _ (by rw [hy]; simp)
        grind
       rfl
      grind
     intro p hp;unfold ic at hp;cases h1:eU p with
     | some y=>
      obtain ⟨d',s',h_,he⟩:=d1 p (by grind);exact ⟨d',s',by simp only [Ty.size]; omega,he⟩
     | none=>
      rw [h1] at hp;obtain ⟨d',s',h_,he⟩:=d2 p hp;exact ⟨s.size+d',s',by simp only [Ty.size]; omega,by grind⟩
    grind
   grind
  | sl t=>
   refine leaf true d (.sl t) j x y u ei b o rfl e gJ iF h (fun hf h=>?_);cases own with
   | false=>exact h
   | true=>
    rcases h with h | h
    ·grind
    exact .inr h
  | bW t=>exact leaf true d (.bW t) j x y u ei b o rfl e gJ iF h (fun hf h=>h)
  | int k=>exact leaf false d (.int k) j x y u ei b o rfl e gJ iF h (fun hf h=>h)
  | bool=>exact leaf false d .bool j x y u ei b o rfl e gJ iF h (fun hf h=>h)
  | str=>exact leaf false d .str j x y u ei b o rfl e gJ iF h (fun hf h=>h)
  | err=>exact leaf false d .err j x y u ei b o rfl e gJ iF h (fun hf h=>h)
theorem aaN {x:ah} {v:Value} (hx:aV g w U x v) (bK:jZ x.cells=true):gB g w U x.cells (fun k=>v.cells.toList[k]?):=by
 obtain ⟨fj,-⟩:=BG hx bK;intro k hk;obtain ⟨z,h2,h3⟩:=mi fj k hk
 grind
theorem S7 (S:dC P c g w U sr a) (hs:¬ U site) {t0:Nat} (ht:0<(c.ti t0).size) {id:Nat} {i j:Nat} {x:ah} {own:Bool} {t:Ty} {vr:Nat} {xs:List t.T} {sk:Nat→Nat→Bool} {y:t.T} {used:List Nat} {ei:Bool} {va v:Value}
  (ha:aV g w U (.fl id 0 [] t i j) va) (hx:aV g w U x v) (hlen:x.cells.length=(c.ti t0).size) (bK:jZ x.cells=true)
  (hR:eZ g w own id 0 vr t sk [] xs) (iF:∀ k' j',sk k' j'=true→k'=i∧j≤j'∧j'<j+(c.ti t0).size) (hj:j+(c.ti t0).size≤t.size)
  (he:me sr own 50 t (el t xs i) 0 j x.cells=some (y,used,ei)) (eW:(id::used).Nodup) (mW:id / 1024≠19) :
  ∃ w' g' U',(th t0 va v).run P w = .ok () w'∧dP g w U site ⟨.undef,(id,some (.row own t site (xs.set i y)))::gone used⟩ undef w' g' U':=by
 obtain ⟨hU,-,lf,-,-,hi,b,o,hb,rfl⟩:=ha;have FG:=hR;obtain ⟨r1,r2,r3,r4⟩:=FG;rw [r1] at hi;obtain ⟨r5,r6⟩:=r4 b o hb;have h6:=r6 i hi;rw [← wD hi] at h6
 let L:b9:=if own=true then g.lab else y_ g.lab used
 have hL:∀ b o,g.lab b o=none→L b o=none:=by
  intro b o hb;simp only [L]; split
  ·exact hb
  exact SZ hb
 obtain ⟨FE,σ,c1,d1,p1⟩:=aaL (L:=L) S.bb hL (aaN hx bK) 50 t 0 _ y used ei b _ he (fun hf aE gU b o p hb=>by simp only [L,hf]; exact S_ hb gU)
  (fun dd FF hq=>by grind) h6
 obtain ⟨fj,-⟩:=BG hx bK;have fx:v.cells.toList.length=x.cells.length:=mU fj;have c2:df g L w own σ t [] i 0 y (fun k=>if j≤k∧k<j+v.cells.toList.length then v.cells.toList[k-j]? else w.cell? (ad b (o+i*t.size+k))):=by refine km t [] i 0 y _ _ (fun k hk=>?_) c1;simp only [kg,fx]
 have DE:∀ b o,L b o=none→g.lab b o=none∨(own=false∧∃ id p,g.lab b o=some (id,p)∧id∈used):=by
  intro b o hb;simp only [L] at hb;split at hb
  ·grind
  rename_i hf;rcases S0 hb with hb | hb
  ·grind
  grind
 have hD:∀ p,σ p≠none→∃ d s,p=(i,d)::s:=by intro p hp;obtain ⟨d,s,-,he⟩:=d1 p hp;exact ⟨_,_,by simpa using he⟩
 cases own with
 | true=>exact MC (L:=L) (σe:=σ) S hs ht hx hlen bK hU mW (fun aE h=>S.nf _ (FE _ h)) hR (fun k' j' h=>(iF k' j' h).1) hb hi hj hL DE eW (fun hf=>by grind) c2 p1.put hD
 | false=>exact MC (L:=L) (σe:=cn) S hs ht hx hlen bK hU mW (fun aE h=>S.nf _ (FE _ h)) hR (fun k' j' h=>(iF k' j' h).1) hb hi hj hL DE eW (fun _ _=>rfl) (IY _ _ _ _ _ _ c2) qX.none.put (fun p hp=>absurd rfl hp)
theorem S8 (S:dC P c g w U sr a) (hs:¬ U site) {t0:Nat} (ht:0<(c.ti t0).size) {id ver:Nat} {p:Path} {tt:Ty} {i j:Nat} {x:ah} {own:Bool} {t:Ty} {vr:Nat} {xs:List t.T} {va v:Value}
  (ha:aV g w U (.fl id ver p tt i j) va) (hx:aV g w U x v) (hlen:x.cells.length=(c.ti t0).size) (bK:jZ x.cells=true)
  (ho:sr.obj id=some (.row own t vr xs)) (hp:p=[]∨(own=true∧ver=vr)) (e:Bh sr site (c.ti t0).size id own t vr xs p tt i j x.cells k=some r) :
  ∃ bu,k bu=some r∧∃ w' g' U',(th t0 va v).run P w = .ok () w'∧dP g w U site bu undef w' g' U':=by
 unfold Bh at e;split at e
 case h_2=>grind
 rename_i gg;split at e
 case h_2=>grind
 rename_i used ei he;split at he
 case h_2=>grind
 rename_i hb;rw [aB] at hb;obtain rfl:=Ty.eq_of_beq hb.1;have hj:=gz hb.2;split at e
 case h_2=>grind
 rename_i mL;split at e
 case h_2=>grind
 rename_i eW;rw [aB,yT] at eW;cases ei with
 | false=>
  have hu:used=[]:=List.isEmpty_iff.1 eW.2;subst hu;obtain ⟨w',h1,h2⟩:=aae (site:=site) S ht ha hx hlen bK ho hp gg rfl hj he mL;exact ⟨_,e,w',g,U,h1,h2⟩
 | true=>
  have tA:p=[]:=List.isEmpty_iff.1 eW.2;subst tA;simp only [place,aN] at gg;obtain ⟨rfl,gg⟩:=qI gg;obtain rfl:=eq_of_heq gg;simp only [yK] at mL;obtain ⟨-,mL⟩:=nO mL;obtain rfl:=eq_of_heq mL;have qV:ver=0:=ha.2.2.2.2.1 rfl;subst qV;obtain ⟨-,-,-,hR⟩:=S.bb id _ ho;obtain ⟨w',g',U',h1,h2⟩:=S7 S hs ht ha hx hlen bK hR (fun k' j' h=>by simp [de] at h) hj he eW.1 (S.nf _ (by grind))
  grind
theorem aaO (S:dC P c g w U sr a) (hs:¬ U site) {t0:Nat} {id ver:Nat} {tt:Ty} {i j bi bj:Nat} {x:ah} {t:Ty} {vr:Nat} {xs:List t.T} {va v:Value}
  (ha:aV g w U (.fl id ver [] tt i j) va) (hx:aV g w U x v) (hlen:x.cells.length=(c.ti t0).size) (bK:jZ x.cells=true)
  (ho:sr.obj id=some (.oM t vr xs bi bj)) (e:C1 sr site (c.ti t0).size id t xs bi bj tt i j x.cells k=some r) :
  ∃ bu,k bu=some r∧∃ w' g' U',(th t0 va v).run P w = .ok () w'∧dP g w U site bu undef w' g' U':=by
 unfold C1 at e;split at e
 ·grind
 rename_i hb;simp only [aB,Nat.ble_eq,eH] at hb;obtain ⟨⟨⟨gG,eK⟩,hj⟩,ht⟩:=hb;obtain rfl:=bB gG;obtain rfl:=Ty.eq_of_beq eK;unfold ab at e;split at e
 case isFalse=>grind
 rename_i hbi;subst hbi;split at e
 case h_2=>grind
 rename_i he;split at e
 case h_2=>grind
 rename_i eW;rw [yT] at eW;have qV:ver=0:=ha.2.2.2.2.1 rfl;subst qV;obtain ⟨-,-,-,hR⟩:=S.bb id _ ho;obtain ⟨w',g',U',h1,h2⟩:=S7 S hs ht ha hx hlen bK hR (fun k' j' h=>by simp_all) hj he eW (S.nf _ (by grind))
 grind
end
end Go.Am
namespace Go.Am
open Go
section
variable {P:Program} {c:bd} {g:Gh} {L:b9} {w w':World} {U:Nat→Prop} {sr:St} {a:Act} {site:Nat} {o:Oper} {ρ:Type} {r:ρ} {k:cK→Option ρ} {σ:Src}
def tF (g:Gh) (id vr i jm off len:Nat) (h:Hd):Src:=fun p=>match p with
 | []=>none
 | (i1,j1)::s=>if i1=i then (if j1=jm then (match s with
   | []=>some (id,[(i,jm)],h)
   | (k,j2)::s'=>if k<len then some (id,(i,jm)::(k+off,j2)::s',g.hd id vr ((i,jm)::(k+off,j2)::s')) else none)
  else some (id,(i,j1)::s,g.hd id vr ((i,j1)::s))) else none
theorem I4 {g:Gh} {id vr i jm off len:Nat} {h:Hd} {p:Path} {aE:Nat} {p':Path} {h':Hd} (e:tF g id vr i jm off len h p=some (aE,p',h')) :
  aE=id∧∃ d s,p'=(i,d)::s∧p=(i,d)::p.tail∧((d≠jm∧p.tail=s)∨(d=jm∧((s=[]∧p.tail=[])∨∃ k j2 s',s=(k+off,j2)::s'∧p.tail=(k,j2)::s'))):=by
 cases p with
 | nil=>simp [tF] at e
 | cons p0 s=>
  obtain ⟨i1,j1⟩:=p0;simp only [tF] at e;split at e
  ·rename_i hi;subst hi;split at e
   ·rename_i hj;subst hj;split at e
    ·grind
    split at e
    ·grind
    grind
   grind
  grind
theorem aaP (s t:Ty) (x:(Ty.pair s t).T) (m:Nat):kG (.pair s t) x m=(match Nat.blt m s.size with | true=>kG s x.1 m | false=>kG t x.2 (m-s.size)):=rfl
theorem MF (hL:∀ b o,g.lab b o=none→L b o=none) {id vr i jm off len:Nat} {h:Hd} {u:Ty}
  (oF:∀ ys:List u.T,eZ g w true id vr vr u de [(i,jm)] ys→Dk w g.lab u.size (id,[(i,jm)]) h (fun k x b o=>df g L w true (tF g id vr i jm off len h) u [(i,jm)] k 0 x (fun d=>w.cell? (ad b (o+d)))) ((ys.drop off).take len)) :
  ∀ (t:Ty) (j0 m:Nat) (x y:t.T) (b o:Nat) (ys:List u.T),j0+m=jm→kG t x m=some ⟨u,ys⟩→tl t x m (fun _ zs=>some ((zs.drop off).take len))=some y→dO g w true id vr t de [] i j0 x b o→
  df g L w true (tF g id vr i jm off len h) t [] i j0 y (fun k=>if k=m then some h.val else w.cell? (ad b (o+k)))
 | .pair s t,j0,m,x,y,b,o,ys,hj,hc,e,hx=>by
  rw [aaP] at hc;rw [Sy] at e;have S9:∀ (t':Ty) (j1:Nat) (x':t'.T) (b o:Nat),(∀ d,d<t'.size→j1+d≠jm)→dO g w true id vr t' de [] i j1 x' b o→df g L w true (tF g id vr i jm off len h) t' [] i j1 x' (fun k=>w.cell? (ad b (o+k))):=by intro t' j1 x' b o aG h';refine pW hL t' [] [] i j1 i j1 x' b o (fun _ d s hd=>?_) h';simp only [qO,tF];rw [if_pos trivial,if_neg (aG d hd)]
  split at hc
  ·rename_i hb;rw [hb] at e;have hb:m<s.size:=by simpa [eH] using hb
   simp only at e;split at e
   ·rename_i y1 e1;obtain rfl:=aZ e;refine ⟨MF hL oF s j0 m x.1 y1 b o ys hj hc e1 hx.1,?_⟩;have:=S9 t (j0+s.size) x.2 b (o+s.size) (fun d hd=>by omega) hx.2
    grind
   grind
  rename_i hb;rw [hb] at e;have hb:¬ m<s.size:=by
   intro aF;have:Nat.blt m s.size=true:=by simpa [eH] using aF
   rw [this] at hb; exact absurd hb (by simp)
  simp only at e;split at e
  ·rename_i y1 e1;obtain rfl:=aZ e;refine ⟨?_,?_⟩
   ·have:=S9 s j0 x.1 b o (fun d hd=>by omega) hx.1;refine km s [] i _ _ _ _ (fun k hk=>?_) this
    grind
   have:=MF hL oF t (j0+s.size) (m-s.size) x.2 y1 b (o+s.size) ys (by omega) hc e1 hx.2
   grind
  grind
 | .sl t,j0,m,x,y,b,o,ys,hj,hc,e,hx=>by
  cases m with
  | succ m=>rw [SA] at e; simp at e
  | zero=>
   rw [Sz] at e;have hc:some (⟨t,x⟩:(u:Ty)×List u.T)=some ⟨u,ys⟩:=hc;simp only [aN] at hc;obtain ⟨rfl,hc⟩:=qI hc;obtain rfl:=eq_of_heq hc;have e:((List.drop off (x:List t.T)).take len)=y:=aZ e;rw [eG] at hj;subst hj;subst e;rcases hx with hx | ⟨-,hx⟩
   ·simp [de] at hx
   exact .inl ⟨id,[(i,j0)],h,by simp [tF],by simp,oF x hx⟩
 | .int _,_,m,_,_,_,_,_,_,_,e,_=>by cases m<;>(have e:none=some _:=e; simp at e)
 | .bool,_,m,_,_,_,_,_,_,_,e,_=>by cases m<;>(have e:none=some _:=e; simp at e)
 | .str,_,m,_,_,_,_,_,_,_,e,_=>by cases m<;>(have e:none=some _:=e; simp at e)
 | .err,_,m,_,_,_,_,_,_,_,e,_=>by cases m<;>(have e:none=some _:=e; simp at e)
 | .bW _,_,m,_,_,_,_,_,_,_,e,_=>by cases m<;>(have e:none=some _:=e; simp at e)
theorem aaQ (S:dC P c g w U sr a) (hs:¬ U site) {t0:Nat} (ht:0<(c.ti t0).size) {id ver:Nat} {tt:Ty} {i j aE oI i' j':Nat} {u:Ty} {off len:Nat} {own:Bool} {t:Ty} {vr:Nat} {xs:List t.T} {va v:Value}
  (ha:aV g w U (.fl id ver [] tt i j) va) (hx:aV g w U (.fS aE oI [(i',j')] u off len) v) (hlen:(1:Nat)=(c.ti t0).size)
  (ho:sr.obj id=some (.row own t vr xs)) (e:C0 site id own t vr xs tt i j aE oI i' j' u off len k=some r) :
  ∃ bu,k bu=some r∧∃ w' g' U',(th t0 va v).run P w = .ok () w'∧dP g w U site bu undef w' g' U':=by
 unfold C0 at e;split at e
 ·grind
 rename_i hb;simp only [aB] at hb;obtain ⟨⟨⟨⟨⟨rfl,gG⟩,eK⟩,SL⟩,hb4⟩,LB⟩:=hb;obtain rfl:=bB gG;obtain rfl:=bB eK;obtain rfl:=bB SL;obtain rfl:=Ty.eq_of_beq hb4;unfold ab at e;split at e
 case isFalse=>grind
 rename_i hii;subst hii;split at e
 case h_2=>grind
 rename_i y mL;cases kY:kG tt (el tt xs i) j with
 | none=>grind
 | some q=>
  obtain ⟨u',ys⟩:=q;rw [kY] at LB;obtain rfl:=Ty.eq_of_beq LB;obtain ⟨hU,-,lf,-,qV,hi,b,o,hb,rfl⟩:=ha;obtain rfl:=qV rfl;have vf:=hx;obtain ⟨-,-,-,cU,-,a0,cp,rfl,h6,h7,h8,h9,q,rfl⟩:=hx;obtain ⟨-,-,oJ,hR⟩:=S.bb id _ ho;have FG:=hR;obtain ⟨r1,r2,r3,r4⟩:=FG;rw [r1] at hi;obtain ⟨r5,r6⟩:=r4 b o hb;have MG:=r6 i hi;rw [← wD hi] at MG;obtain ⟨-,-,hjs⟩:=Fl tt [] i 0 _ b _ j u ys MG kY;have A3:=MF (L:=g.lab) (g:=g) (w:=w) (id:=id) (vr:=oI) (i:=i) (jm:=j) (off:=off) (len:=len) (h:=⟨q,len,cp⟩) (u:=u) (fun _ _ h=>h) (fun zs hz=>by
   obtain ⟨z1,z2,z3,z4⟩:=hz;rw [z1] at h8;refine ⟨by grind,h7,fun hn=>?_,fun b' o' MH=>?_⟩
   ·grind
   have MH:q=some (b',o'):=MH;subst MH;rcases oK cp with hz | hz
   ·grind
   obtain ⟨b1,o1,lE,ki⟩:=h9 hz;simp only [Ly,aN,Addr.mk.injEq] at ki;obtain ⟨rfl,rfl,-⟩:=ki;obtain ⟨z5,z6⟩:=z4 b' o1 lE;have hle:off*u.size+cp*u.size=(g.hd id oI [(i,j)]).cap*u.size:=by rw [← h6,dH]
   refine ⟨fun k hk=>?_,fun k hk=>?_⟩
   ·have hk:k<cp*u.size:=hk;have:=z5 (off*u.size+k) (by omega)
    grind
   simp only [List.length_take,List.length_drop] at hk;have IE:=z6 (off+k) (by omega);simp only [Ba,CQ];rw [dH,← cg] at IE;refine pW (fun _ _ h=>h) u [(i,j)] [(i,j)] (off+k) 0 k 0 _ b' _ (fun _ d s hd=>?_) IE;simp only [pI,qO,tF]
   grind) tt 0 j _ y b _ ys (by omega) kY mL MG
  have wQ:(⟨q,len,cp⟩:Hd).val = .slice (q.map fun p=>ad p.1 p.2) len cp:=rfl;have jM:(Value.slice (q.map fun p=>ad p.1 p.2) len cp).cells.toList=[(⟨q,len,cp⟩:Hd).val]:=rfl;obtain ⟨w',g',U',h1,h2⟩:=MC (L:=g.lab) (site:=site) (own:=true) (used:=[]) (t:=tt) (xs:=xs) (y:=y) (j:=j) (σe:=tF g id oI i j off len ⟨q,len,cp⟩) S hs ht (x:=.fS id oI [(i,j)] u off len) vf (by simpa [ah.cells] using hlen) rfl hU (S.nf _ (by grind)) (fun _ h=>by grind) hR (fun k' j' h=>by simp [de] at h) hb hi (by omega) (fun _ _ h=>h) (fun b o h=>.inl h) (by simp) (fun hf=>by grind)
   (by grind)
   ⟨fun p aE p' h e=>by
    left
    obtain ⟨h1,d,s,h2,-⟩:=I4 e
    grind,fun _ p1 p2 aE p' h1 h2 e1 e2=>by
    obtain ⟨-,d1,s1,a1,b1,c1⟩:=I4 e1;obtain ⟨-,d2,s2,a2,b2,c2⟩:=I4 e2
    grind⟩ (fun p hp=>by
    cases e:tF g id oI i j off len ⟨q,len,cp⟩ p with
    | none=>grind
    | some z=>
     obtain ⟨aE,p',h'⟩:=z;obtain ⟨-,d,s,-,h2,-⟩:=I4 e
     grind)
  exact ⟨_,e,w',g',U',h1,h2⟩
theorem aaR (S:dC P c g w U sr a) (hs:¬ U site) {t0:Nat} (ht:0<(c.ti t0).size) {ad x:ah} {va v:Value} (ha:aV g w U ad va) (hx:aV g w U x v) (e:C2 sr site (c.ti t0).size ad x k=some r) :
  ∃ bu,k bu=some r∧∃ w' g' U',(th t0 va v).run P w = .ok () w'∧dP g w U site bu undef w' g' U':=by
 unfold C2 at e;split at e
 ·grind
 rename_i hb;rw [aB] at hb;have hlen:=bB hb.1;have bK:=hb.2;cases ad with
 | bt id j=>
  simp only at e;split at e
  ·rename_i ho;split at e
   ·grind
   split at e
   ·rename_i hj;obtain ⟨w',h1,h2⟩:=aad (site:=site) S ht ha hx hlen bK ho (gz hj)
    grind
   grind
  grind
 | fl id ver p tt i j=>
  simp only at e;split at e
  ·rename_i t vr xs ho;cases p with
   | nil=>
    simp only at e;split at e
    ·rename_i len;exact aaQ S hs ht ha hx (by simpa [ah.cells] using hlen) ho e
    exact S8 S hs ht ha hx hlen bK ho (.inl rfl) e
   | cons q p=>
    simp only at e;split at e
    ·grind
    rename_i eK;rw [aB] at eK;exact S8 S hs ht ha hx hlen bK ho (.inr ⟨eK.1,bB eK.2⟩) e
  ·rename_i t vr xs _ _ ho;cases p with
   | nil=>exact aaO S hs ha hx hlen bK ho e
   | cons q p=>grind
  grind
 | _=>grind
end
end Go.Am
namespace Go.Am
open Go
section
variable {P:Program} {c:bd} {g:Gh} {L:b9} {w w':World} {U:Nat→Prop} {sr:St} {a:Act} {site:Nat} {o:Oper} {ρ:Type} {r:ρ} {k:cK→Option ρ}
theorem MI {own u7:Bool} {id vr:Nat} {σ:Src} : ∀ (t:Ty) (q:Path) (i j:Nat) (x:t.T) (f:Nat→Option Value) (sk:Nat→Nat→Bool) (p:Path) (i' j':Nat) (b o:Nat),t.plain=true→
  (∀ k,k<t.size→w'.cell? (ad b (o+k))=f k)→df g L w u7 σ t q i j x f→dO g w' own id vr t sk p i' j' x b o
 | .int _,q,i,j,x,f,sk,p,i',j',b,o,hp,hc,h=>by have h0:=hc 0 (by simp [Ty.size]); exact h0.trans h
 | .bool,q,i,j,x,f,sk,p,i',j',b,o,hp,hc,h=>by have h0:=hc 0 (by simp [Ty.size]); exact h0.trans h
 | .str,q,i,j,x,f,sk,p,i',j',b,o,hp,hc,h=>by have h0:=hc 0 (by simp [Ty.size]); exact h0.trans h
 | .err,q,i,j,x,f,sk,p,i',j',b,o,hp,hc,h=>by have h0:=hc 0 (by simp [Ty.size]);obtain ⟨v,h1,h2⟩:=h;exact ⟨v,h0.trans h1,h2⟩
 | .bW _,q,i,j,x,f,sk,p,i',j',b,o,hp,hc,h=>by simp [Ty.plain] at hp
 | .sl _,q,i,j,x,f,sk,p,i',j',b,o,hp,hc,h=>by simp [Ty.plain] at hp
 | .pair s t,q,i,j,x,f,sk,p,i',j',b,o,hp,hc,h=>by
  simp only [Ty.plain,aB] at hp;refine ⟨MI s q i j x.1 f sk p i' j' b o hp.1 (fun k hk=>hc k (by simp [Ty.size]; omega)) h.1,MI t q i (j+s.size) x.2 _ sk p i' (j'+s.size) b (o+s.size) hp.2 (fun k hk=>?_) h.2⟩;have:=hc (s.size+k) (by simp [Ty.size]; omega)
  grind
theorem aaS {t ty e:TypeId} {i:TypeInfo} (ht:P.underlying t=some (.slice e)) (hi:P.info? e=some i) {da xa:Option Addr} {dl dc m xl xc:Nat} (hm:min xl dl=m) {news:List Value} {ts:Array TypeId} (gV:ts[0]? = some t)
  (hl:news.length=m*i.size) (hx:0<m→∃ b o,xa=some (ad b o)∧∀ j u,news[j]? = some u→w.cell? (ad b (o+j))=some u)
  (h1:∀ u∈news,u.oneCell'=true) {b o:Nat} (hd:0<m→da=some (ad b o)) (h_:∃ q:Option (Nat×Nat),da=q.map fun p=>ad p.1 p.2)
  (hc:∀ j,j<news.length→(w.cell? (ad b (o+j))).isSome=true∧w.frozen? (ad b (o+j))=false) :
  (Du ts ty #[.slice da dl dc,.slice xa xl xc]).run P w = .ok (.int .i64 (m:Int)) (w.setCells b o news):=by
 have hf:(Dv i.size m (.slice xa xl xc)).run P w = .ok news.toArray w:=by
  rcases oK m with rfl | hp
  ·have:news=[]:=yz (by simpa using hl);subst this;cases xa<;>simp [Dv,loadCells,loadCellsFrom]
  obtain ⟨b',o',rfl,hj⟩:=hx hp;exact run_firstCells_some w i.size m (ad b' o') xl xc news hl (fun j v hv=>by rw [Addr.add_lit]; exact hj j v hv)
 have dK:=run_storeCells_cells (P:=P) b o news 0 w (fun j hj=>by grind) (fun j hj=>by grind) h1;rw [eG] at dK;have MK:Nat.min xl dl=m:=hm;rcases oK m with rfl | hp
 ·have:news=[]:=yz (by omega);subst this;obtain ⟨q,rfl⟩:=h_;cases q with
  | none=>simp [Du,gV,run_underlying ht,Dw,sizeOf,typeInfo,hi,MK,hf,goInt,World.setCells]
  | some q=>
   have aaT:(storeCells (ad q.1 q.2) ([]:List Value)).run P w = .ok () w:=rfl;simp [Du,gV,run_underlying ht,Dw,sizeOf,typeInfo,hi,MK,hf,goInt,World.setCells,aaT]
 rw [hd hp];simp [Du,gV,run_underlying ht,Dw,sizeOf,typeInfo,hi,MK,hf,goInt,dK]
theorem Ta (S:dC P c g w U sr a) {t0 ty:Nat} (hk:(c.ti t0).kind = .slice) {id off len:Nat} {own:Bool} {t:Ty} {vr:Nat} {xs:List t.T} {x:ah} {da:Option Addr} {dc:Nat} {vx:Value} {ts:Array TypeId} (gV:ts[0]? = some t0)
  (p7:0<(c.ti (c.ti t0).elem).size) (bF:(c.ti (c.ti t0).elem).size=t.size) (ho:sr.obj id=some (.row own t vr xs)) (hx:aV g w U x vx) (hlen:off+len≤xs.length)
  (hd:0<len→∃ b o,(g.hd id 0 []).addr=some (b,o)∧da=some (ad b (o+off*t.size))) (h_:∃ q:Option (Nat×Nat),da=q.map fun p=>ad p.1 p.2)
  (e:Bm sr id own t vr xs off len x k=some r):∃ bu,k bu=some r∧∃ v w',(Du ts ty #[.slice da len dc,vx]).run P w = .ok v w'∧dP g w U site bu v w' g U:=by
 unfold Bm at e;cases hp:t.plain with
 | false=>grind
 | true=>
 rw [hp] at e;cases RC:sr.list x with
 | none=>grind
 | some uy=>
 rw [RC] at e;obtain ⟨u,ys⟩:=uy;simp only at e;cases hz:Ty.cast (.sl u) (.sl t) ys with
 | none=>grind
 | some zs=>
 rw [hz] at e;simp only at e;obtain ⟨rfl,hz⟩:=nO hz;obtain rfl:=eq_of_heq hz;refine ⟨_,e,?_⟩;obtain ⟨hU,lf,oJ,hR⟩:=S.bb id _ ho;obtain ⟨xa,xc,rfl,HU⟩:=SR S.bb hx RC;have FG:=hR;obtain ⟨r1,r2,r3,r4⟩:=FG;have fG:=u.size_pos;have hT:=oS S.bm (.inl p7);obtain ⟨ti,hi,his,-⟩:=hT.info;obtain ⟨m,hm⟩:∃ m,min ys.length len=m:=⟨_,rfl⟩
 obtain ⟨b,o',hb⟩:∃ b o',0<len→(g.hd id 0 []).addr=some (b,o')∧da=some (ad b (o'+off*u.size)):=by
  rcases oK len with h | h
  ·exact ⟨0,0,fun hp=>by omega⟩
  obtain ⟨b,o',h1,h2⟩:=hd h; exact ⟨b,o',fun _=>⟨h1,h2⟩⟩
 obtain ⟨f,hf⟩:∃ f:Nat→Nat→Option Value,(∀ k (hk:k<ys.length),df g g.lab w own cn u [] k 0 ys[k] (f k))∧(0<m→∃ b1 o1,xa=some (ad b1 o1)∧∀ k d,f k d=w.cell? (ad b1 (o1+k*u.size+d))):=by
  rcases oK ys.length with h | h
  ·exact ⟨fun _ _=>none,fun k hk=>by omega,fun h2=>by omega⟩
  obtain ⟨b1,o1,h2,h3⟩:=HU h;refine ⟨fun k d=>w.cell? (ad b1 (o1+k*u.size+d)),fun k hk=>?_,fun _=>⟨b1,o1,h2,fun _ _=>rfl⟩⟩;rcases h3 k hk with h5 | ⟨u7,id,vr,p,k',h5⟩
  ·exact IV _ [] _ 0 _ b1 _ hp h5
  exact IW _ [] _ 0 _ _ _ b1 _ hp h5
 obtain ⟨DD,y0⟩:=hf
 let news:List Value:=(List.range (m*u.size)).map fun j=>(f (j / u.size) (j % u.size)).getD undef
 have s5:news.length=m*u.size:=by simp [news]
 have hmy:m≤ys.length:=by omega
 have hml:m≤len:=by omega
 have hkm:∀ j,j<m*u.size→j / u.size<m:=fun j hj=>by rw [SI fG]; exact hj
 have yS:∀ j,j<m*u.size→∃ v,f (j / u.size) (j % u.size)=some v∧v.oneCell'=true:=fun j hj=>
  IU u [] _ 0 _ _ (DD (j / u.size) (oL (hkm j hj) hmy)) (j % u.size) (Nat.mod_lt _ fG)
 have ML:∀ j,j<m*u.size→news[j]? = f (j / u.size) (j % u.size):=by intro j hj;obtain ⟨v,h1,-⟩:=yS j hj;simp [news,yX,List.getElem?_range hj,h1]
 have A3:0<m→∃ b o,xa=some (ad b o)∧∀ j u,news[j]? = some u→w.cell? (ad b (o+j))=some u:=by intro h;obtain ⟨b1,o1,h2,h3⟩:=y0 h;refine ⟨b1,o1,h2,fun j v hj=>?_⟩;have Tb:=(eE.1 hj).1;rw [s5] at Tb;rw [ML j Tb,h3] at hj;rw [← hj,cg,IP,Nat.div_add_mod]
 have qY:∀ v∈news,v.oneCell'=true:=by intro v hv;obtain ⟨j,hj,rfl⟩:=tD.1 hv;obtain ⟨z,h1,h2⟩:=yS j (by omega);have h3:=ML j (by omega);rw [eX hj,h1] at h3;rw [aZ h3]; exact h2
 have aaU:(off+m)*u.size≤(g.hd id 0 []).cap*u.size:=fk _ (by omega);rw [dH] at aaU;have oF:∀ j,j<news.length→g.lab b (o'+off*u.size+j)=some (id,[])∧(w.cell? (ad b (o'+off*u.size+j))).isSome=true∧w.frozen? (ad b (o'+off*u.size+j))=false:=by
  intro j hj;have HV:0<m:=by
   rcases oK m with h | h
   ·grind
   exact h
  have:=(r4 b o' (hb (by omega)).1).1 (off*u.size+j) (by omega);rw [cg]; exact this
 have dG:=aaS (P:=P) (w:=w) (ty:=ty) (xl:=ys.length) (dl:=len) (dc:=dc) (xc:=xc) (tx S.bm hk) hi hm gV (by grind) A3 qY (b:=b) (o:=o'+off*u.size) (fun h=>(hb (by omega)).2) h_
  (fun j hj=>(oF j hj).2)
 have hl:∀ j,j<news.length→g.lab b (o'+off*u.size+j)=some (id,[]):=fun j hj=>(oF j hj).1;have K:=IJ (w:=w) hl;have dK:∀ {T:Nat→Prop},T id→eV T g w U g (w.setCells b (o'+off*u.size) news) U:=fun hT=>Mg hT hl;refine ⟨_,_,dG,dK (by simp [look]),?_,fun aE o2 e2=>?_,fun s hs=>.inl hs,fun b' o2 q h=>?_,fun b o q hb h=>by grind,?_,?_⟩
 ·show Value.int .i64 (m:Int) = .int .i64 _;rw [hm]
 ·simp only [look] at e2;split at e2
  ·rename_i yW;obtain rfl:=bB yW;simp only [aN] at e2;obtain rfl:=e2;refine ⟨hU,lf,oJ,?_⟩;have EN:(xs.take off++(ys.take len++xs.drop (off+min ys.length len))).length=xs.length:=by simp; omega
   refine ⟨by rw [EN]; exact r1,r2,r3,fun b2 o2 eK=>?_⟩;obtain ⟨r5,r6⟩:=r4 b2 o2 eK;refine ⟨fun k hk=>?_,fun k hk=>?_⟩
   ·obtain ⟨a1,a2,a3⟩:=r5 k hk;exact ⟨a1,K.Fs _ _ a2,by rw [K.frozen]; exact a3⟩
   rw [EN] at hk;by_cases cU:off≤k∧k<off+m
   ·have tG:=(hb (by omega)).1;rw [eK] at tG;simp only [aN,bS] at tG;obtain ⟨rfl,rfl⟩:=tG;have pF:(xs.take off++(ys.take len++xs.drop (off+min ys.length len)))[k]'(by rw [EN]; exact hk)=ys[k-off]'(by omega):=by rw [Bf (by grind),CW (by grind),Ba];congr 1; simp; omega
    rw [pF];refine MI u [] (k-off) 0 _ _ _ _ _ _ _ _ hp (fun d pJ=>?_) (DD (k-off) (by omega));have hj:(k-off)*u.size+d<m*u.size:=by have:(k-off+1)*u.size≤m*u.size:=fk _ (by omega);rw [dH] at this; omega
    have aaV:o2+k*u.size+d=o2+off*u.size+((k-off)*u.size+d):=by
     have:k*u.size=off*u.size+(k-off)*u.size:=by rw [← dH]; congr 1; omega
     omega
    have h5:=Bd b2 news (o2+off*u.size) w (fun j hj=>(oF j hj).2.1) ((k-off)*u.size+d) (by omega);rw [aaV];refine Eq.trans h5 ?_;have h6:=ML _ hj;rw [eX (by omega)] at h6;rw [h6];congr 1
    ·rw [Lx,Nat.add_mul_div_right _ _ fG,Nat.div_eq_of_lt pJ,kg]
    rw [Lx,SG,IN pJ]
   have pF:(xs.take off++(ys.take len++xs.drop (off+min ys.length len)))[k]'(by rw [EN]; exact hk)=xs[k]:=by
    by_cases h7:k<off
    ·rw [CW (by grind),Ba]
    rw [Bf (by simp; omega),Bf (by grind),CQ];congr 1; simp; omega
   rw [pF];refine pX K u _ _ k 0 _ b2 _ (fun d pJ=>?_) (fun d s pJ=>by grind) (r6 k hk);refine uQ b _ _ w _ (fun Tc _=>?_);simp only at Tc ⊢;subst Tc;rw [s5];rcases oK m with HV | HV
   ·grind
   have tG:=(hb (by omega)).1;rw [eK] at tG;simp only [aN,bS] at tG;obtain ⟨-,rfl⟩:=tG;rcases kj k off with h | h
   ·have:(k+1)*u.size≤off*u.size:=fk _ h
    grind
   have:(off+m)*u.size≤k*u.size:=fk _ (by omega)
   grind
  grind
 ·have:=S.cm b' o2 q h;have hs:=(wG (F:=fun _ _=>True) b news (o'+off*u.size) w (fun _ _=>trivial)).size;omega
 ·exact wG b _ _ w (fun k hk=>⟨id,[],hl k hk,S.nf id (by grind)⟩)
 exact fun aE h=>by rw [Ds h]; exact S.nf id (by grind)
theorem aaW (S:dC P c g w U sr a) {t0 ty:Nat} (hk:(c.ti t0).kind = .slice) (p7:0<(c.ti (c.ti t0).elem).size) {d x:ah} {vd vx:Value} {ts:Array TypeId} (gV:ts[0]? = some t0) (hd:aV g w U d vd) (hx:aV g w U x vx)
  (e:Dc (c.ti (c.ti t0).elem).size sr d x k=some r):∃ bu,k bu=some r∧∃ v w',(Du ts ty #[vd,vx]).run P w = .ok v w'∧dP g w U site bu v w' g U:=by
 unfold Dc at e;split at e
 ·rename_i id ver tt;split at e
  ·rename_i own t vr xs ho;split at e
   ·rename_i hb;obtain ⟨hU,L7,lf,cU,tA,rfl⟩:=hd;obtain rfl:=tA rfl;obtain ⟨-,-,-,r1,r2,r3,r4⟩:=S.bb id _ ho;unfold Hd.val;rw [r1];refine Ta S hk gV p7 (bB hb) ho hx (by omega) (fun hp=>?_) ⟨_,rfl⟩ e;cases ha:(g.hd id 0 []).addr with
    | none=>grind
    | some q=>grind
   grind
  grind
 ·rename_i id ver tt _ _;split at e
  ·rename_i own t vr xs ho;split at e
   ·rename_i hb;rw [aB] at hb;obtain rfl:=Ty.eq_of_beq hb.2;obtain ⟨hU,L7,lf,cU,tA,da,dc,rfl,h6,h7,h8,h9,By⟩:=hd;obtain rfl:=tA rfl;obtain ⟨-,-,-,r1,r2,r3,r4⟩:=S.bb id _ ho;exact Ta S hk gV p7 (bB hb.1) ho hx (by omega) (fun hp=>h9 (by omega)) By e
   grind
  grind
 grind
end
end Go.Am
namespace Go.Am
open Go
section
variable {P:Program} {c:bd} {g:Gh} {L:b9} {w w':World} {U:Nat→Prop} {sr:St} {a:Act} {site:Nat} {o:Oper} {ρ:Type} {r:ρ} {k:cK→Option ρ}
theorem Td (zero:Array Value) (n i:Nat) (h:i<n*zero.size):(tC zero n)[i]? = some zero[i % zero.size]!:=by simp [tC,h]
theorem aaX (S:dC P c g w U sr a) (hs:¬ U site) {t u ty:Nat} {e:Ty} {kk kn:IntKind} {n:Int} (hk:(c.ti t).kind = .slice) (hu:(c.ti u).kind = .int kn) (he:(c.ti (c.ti t).elem).ty=some e) (hb:0<(c.ti (c.ti t).elem).bytes)
  (hn:0<n∧n*((c.ti (c.ti t).elem).bytes:Int)≤(bn:Int)) :
  ∃ v w' g' U',(p_ #[t,u] ty #[.slice none 0 0,.int kk n]).run P w = .ok v w'∧
   dP g w U site ⟨.own (site*1024) 0 [] e,[(site*1024,some (.row true e site (List.replicate n.toNat e.zero)))]⟩ v w' g' U':=by
 have h0:site≠0:=by rintro rfl; exact hs S.u0
 have hd:=tx S.bm hk;have hT:nM P (c.ti t).elem (c.ti (c.ti t).elem):=by
  unfold bd.ti at he ⊢;generalize (match look c.bm t with | some i=>i | none=>(⟨false,0,0,[],.other,0,none,[],false⟩:mP)).elem=x at he ⊢;cases e2:look c.bm x with
  | none=>rw [e2] at he; simp at he
  | some i=>exact S.bm x i e2
 obtain ⟨pZ,iT⟩:=hT.ty e he;obtain ⟨z,hz,hr,hv,ti,qL,wI,gV,yA⟩:=BK hT;have fG:=e.size_pos;have rQ:z.cells.size=e.size:=by rw [hz,iT]
 have SP:(bn:Int)=140737488355328:=rfl;obtain ⟨m,rfl⟩:∃ m:Nat,n=(m:Int):=⟨n.toNat,by omega⟩
 have HV:0<m:=by omega
 have hmb:m*(c.ti (c.ti t).elem).bytes≤140737488355328:=by
  have h2:((m*(c.ti (c.ti t).elem).bytes:Nat):Int)≤140737488355328:=by rw [Int.natCast_mul]; exact hn.2
  omega
 have hle:m≤m*(c.ti (c.ti t).elem).bytes:=Nat.le_mul_of_pos_right _ hb;have hnc:Dx m 0=m:=by unfold Dx;rw [if_pos (by omega)]
 have htn:=IC S.bm hu;have bF:ti.size=e.size:=by rw [gV,iT]
 have dG:=Lib.run_append_grow_zeros (P:=P) w t u ty (c.ti t).elem ti z kk kn hd htn qL wI none 0 0 [] (run_firstCells_none w.drew ti.size 0 0 0) m HV (by omega) (by omega) (by omega) (by grind) (by grind);simp only [kg] at dG;have Dz:=grownCap_ge w m 0 (c.ti t).elem;generalize grownCap w m 0 (c.ti t).elem=cp at dG Dz;have B:=SD w (([]:List Value).toArray++tC z.cells m++tC z.cells (cp-m)) (c.ti t).elem;have FC:∀ i,i<cp*e.size→(([]:List Value).toArray++tC z.cells m++tC z.cells (cp-m))[i]? = some z.cells[i % z.cells.size]!:=by
  intro i hi;have aaY:(tC z.cells m).size=m*e.size:=by simp [tC,rQ]
  rw [Fv,Fv];simp only [List.size_toArray,bP,Nat.not_lt_zero,if_false,Nat.sub_zero,Array.size_append,kg,aaY];by_cases h1:i<m*e.size
  ·rw [if_pos h1,Td _ _ _ (by grind)]
  rw [if_neg h1];have h2:(cp-m)*e.size=cp*e.size-m*e.size:=Nat.sub_mul _ _ _;rw [Td _ _ _ (by grind)];have:(i-m*e.size) % z.cells.size=i % z.cells.size:=by
   rw [rQ];have:i=(i-m*e.size)+m*e.size:=by omega
   conv=>rhs; rw [this]
   rw [SG]
  grind
 refine ⟨_,_,jh g site (fun _ _=>⟨some (w.heap.size,0),m,cp⟩) (fun _ _=>eh) (jL (fun _ _=>False) (site*1024) cn (fun b o=>b=w.heap.size∧o<cp*e.size) g.lab),U' U site,dG,?_⟩;generalize (([]:List Value).toArray++tC z.cells m++tC z.cells (cp-m))=arr at B FC dG ⊢;have FA:∀ b o,g.lab b o=none→∀ v,w.cell? (ad b o)=some v→(w.drew.alloc (.cells arr (c.ti t).elem)).cell? (ad b o)=some v∧¬ (b=w.heap.size∧o<cp*e.size):=by intro b o hl v hv;have:=BI hv;exact ⟨by rw [B.cI (by omega)]; exact hv,by omega⟩
 have dK:∀ {T:Nat→Prop},eV T g w U (jh g site (fun _ _=>⟨some (w.heap.size,0),m,cp⟩) (fun _ _=>eh) (jL (fun _ _=>False) (site*1024) cn (fun b o=>b=w.heap.size∧o<cp*e.size) g.lab)) (w.drew.alloc (.cells arr (c.ti t).elem)) (U' U site):=
  Fy hs FA (fun b o id p h _=>by have:=S.cm _ _ _ h;exact ⟨fun h=>h,by omega,B.cI (by omega) o,B.Fu (by omega) o⟩)
 refine ⟨dK,⟨.inr (kz site),.inl S.u0,.inl S.u0,trivial,fun _=>rfl,?_⟩,fun id ob bQ=>?_,fun s h=>h,fun b o q h=>?_,fun b o q hb h=>?_,B.fr _,fun id h=>by rw [Ds h,kz]; rintro rfl; exact hs S.Bu⟩
 ·rw [u9 h0]; rfl
 ·simp only [look] at bQ;split at bQ
  ·rename_i hb;obtain rfl:=bB hb;simp only [aN] at bQ;subst bQ;refine ⟨.inr (kz site),.inl S.u0,.inr rfl,?_⟩;refine Fz (w:=w) (L:=g.lab) (h0:=⟨some (w.heap.size,0),m,cp⟩) _ rfl (u9 h0 _) (fun q id p h e=>by simp [cn] at e) (fun q hq e=>rfl) (fun q id p h e=>by simp [cn] at e) (fun b o hl v hv=>?_) (by simp) Dz (by simp) (fun b o hb k hk=>?_) (fun b o hb k hk=>?_)
   ·obtain ⟨a1,a2⟩:=FA b o hl v hv;exact ⟨a1,Dy hl a2⟩
   ·simp only [aN,bS] at hb;obtain ⟨rfl,rfl⟩:=hb;refine ⟨⟨rfl,by grind⟩,?_,B.IL _⟩;rw [B.new,FC _ (by grind)]; rfl
   simp only [aN,bS] at hb;obtain ⟨rfl,rfl⟩:=hb;simp only [SF] at hk;have hk:k<m:=by omega
   rw [SE];have wJ:=hv g w U;rw [pZ] at wJ;refine IQ e [] k 0 z.cells.toList _ wJ (fun d hd=>?_);have aF:k*e.size+d<cp*e.size:=by have:(k+1)*e.size≤cp*e.size:=fk _ (by omega);rw [dH] at this; omega
   rw [B.new];simp only [kg];rw [FC _ aF];rw [rQ,show (k*e.size+d) % e.size=d by rw [IP,Nat.mul_add_mod,IN hd]]
   grind
  grind
 ·rw [B.size];rcases vb h with ⟨rfl,-⟩ | h
  ·omega
  cases h2:g.lab b o with
  | none=>grind
  | some q=>have:=S.cm _ _ _ h2; omega
 rcases vb h with ⟨rfl,-⟩ | h
 ·omega
 omega
end
end Go.Am
namespace Go.Am
open Go
section
variable {P:Program} {c:bd} {g:Gh} {L:b9} {w w':World} {U:Nat→Prop} {sr:St} {a:Act} {site:Nat} {o:Oper} {ρ:Type} {r:ρ} {k:cK→Option ρ}
theorem aaZ (S:dC P c g w U sr a) {t ty:Nat} (hk:(c.ti t).kind = .slice) (k_:0<(c.ti (c.ti t).elem).bytes) {s x:ah} {vs vx:Value} (fj:aV g w U s vs) (hx:aV g w U x vx)
  (e:C5 (c.ti (c.ti t).elem).bytes sr (c.ti (c.ti t).elem).ty s x k=some r) :
  ∃ bu,k bu=some r∧∃ v' w' g' U',(p_ #[t,t] ty #[vs,vx]).run P w = .ok v' w'∧dP g w U site bu v' w' g' U':=by
 unfold C5 at e;split at e
 case h_2=>grind
 rename_i id _ u hu;split at e
 case h_2=>grind
 rename_i ho;split at e
 case h_2=>grind
 rename_i ys bF wO;obtain rfl:=bB bF;unfold ab at e;split at e
 case isFalse=>grind
 rename_i qP;refine ⟨_,e,?_⟩;obtain ⟨-,-,a0,cc,rfl,BD,fx,b,o,ha,lh⟩:=fj;obtain ⟨b',o',hh,-,-⟩:=yU S.bb ho;have FH:=lh (.inr rfl);clear lh;rw [hh] at ha fx;simp only [aN,bS] at ha;obtain ⟨rfl,rfl⟩:=ha;have fG:=u.size_pos;simp only [kg,HS,eG,bP] at fx FH;obtain rfl:cc=0:=by
  rcases Nat.mul_eq_zero.1 fx with h | h
  ·exact h
  omega
 subst FH;obtain ⟨-,eU,hT⟩:=DB (L:=g.lab) S.bb (fun _ _ h=>h) hx 0 (fun _ id hi=>by grind) wO;obtain ⟨xa,xc,rfl,DG⟩:=hT.sl;have DF:nM P (c.ti t).elem (c.ti (c.ti t).elem):=by
  have he:=hu;unfold bd.ti at he ⊢;generalize (match look c.bm t with | some i=>i | none=>(⟨false,0,0,[],.other,0,none,[],false⟩:mP)).elem=x at he ⊢;cases e2:look c.bm x with
  | none=>grind
  | some i=>exact S.bm x i e2
 obtain ⟨pZ,iT⟩:=DF.ty u hu;have hd:=tx S.bm hk;obtain ⟨z,hz,hr,hv,ti,qL,wI,gV,yA⟩:=BK DF;have CM:ti.size=u.size:=by rw [gV,iT]
 obtain ⟨news,s5,tB,Lw⟩:∃ news:List Value,news.length=ys.length*u.size∧(0<ys.length→∃ b o,xa=some (ad b o)∧(∀ j u',news[j]? = some u'→w.cell? (ad b (o+j))=some u')∧∀ k (hk:k<ys.length),df g g.lab w false eU u [] (0+k) 0 ys[k] (fun d=>w.cell? (ad b (o+k*u.size+d))))∧∀ y∈news,y.oneCell'=true:=by
  rcases oK ys.length with hy | hy
  ·simp_all
  obtain ⟨b,o,e1,e2⟩:=DG hy;have e3:=SV e2;refine ⟨oU w b o (ys.length*u.size),by simp [oU],fun _=>⟨b,o,e1,fun j u' hj=>?_,e2⟩,fun y hy=>?_⟩
  ·have aF:j<ys.length*u.size:=by have:=(eE.1 hj).1;simpa [oU] using this
   obtain ⟨v,hv,-⟩:=e3 j aF;exact (Mw hj (by grind)).1
  obtain ⟨j,hj,hy⟩:=tD.1 hy;simp only [oU,List.length_map,List.length_range] at hj;obtain ⟨v,hv,h1⟩:=e3 j hj;simp only [oU,p5,CL,hv,Option.getD_some] at hy
  grind
 have FB:=SQ (P:=P) (w:=w) (ty:=ty) (h:=⟨some (b',o'),0,0⟩) (olds:=[]) (news:=news) (xa:=xa) (m:=ys.length) (xc:=xc) hd qL wI (by omega) (by omega) (cx _) (by simp) (by simp)
  (fun b o hb=>⟨by simp,fun k hk=>by grind⟩) (by grind) (fun hy=>let ⟨b,o,e1,e2,_⟩:=tB hy; ⟨b,o,e1,e2⟩) Lw (by grind)
 rw [CM] at FB;rcases FB with ⟨b,o,ha,hr,hs⟩ | ⟨ha,hm,hl,hs⟩ | ⟨cap,arr,w',B,hc,SX,hl,hs⟩
 ·have BN:ys.length=0:=by have hr:0+ys.length≤0:=hr;omega
  have hy:ys=[]:=yz BN;have hnn:news=[]:=yz (by grind);subst hnn;refine ⟨_,_,g,U,hs,.same S.cm ⟨⟨some (ad b o),0,0,by grind,by grind,cx _,by simp,fun h=>by grind⟩,by simp⟩⟩
 ·grind
 obtain ⟨rest,hl⟩:=hl;have pF:∀ j v,news[j]? = some v→w'.cell? (ad w.heap.size j)=some v:=by
  intro j v hj;rw [B.new];have:arr[j]? = arr.toList[j]?:=by simp
  rw [this,hl,qO,Fw (eE.1 hj).1]; exact hj
 have DJ:∀ o,g.lab w.heap.size o=none:=fun o=>by
  cases h:g.lab w.heap.size o with
  | none=>rfl
  | some q=>have:=S.cm _ _ _ h; omega
 have dK:∀ {T:Nat→Prop},eV T g w U g w' U:=⟨fun _ h=>h,fun _ _ _ _ _=>rfl,fun b o hn v hv=>⟨by rw [B.cI (Mm (BI hv))]; exact hv,hn⟩,fun b o id p h _=>⟨h,B.cI (Mm (S.cm _ _ _ h)) o,B.Fu (Mm (S.cm _ _ _ h)) o⟩⟩
 have BM:∀ b o,g.lab b o=none→∀ v,w.cell? (ad b o)=some v→w'.cell? (ad b o)=some v∧g.lab b o=none:=(dK (T:=fun _=>False)).shr;have hSh:∀ (t:Ty) (q:Path) (i j:Nat) (x:t.T) (f:Nat→Option Value) (o:Nat),(∀ d v,d<t.size→f d=some v→w'.cell? (ad w.heap.size (o+d))=some v)→df g g.lab w false eU t q i j x f→Sh g.lab w' t x w.heap.size o:=by
  intro t;induction t with
  | int kk=>intro q i j x f o hf h; exact ⟨hf 0 _ (by simp [Ty.size]) h,DJ _⟩
  | bool=>intro q i j x f o hf h; exact ⟨hf 0 _ (by simp [Ty.size]) h,DJ _⟩
  | str=>intro q i j x f o hf h; exact ⟨hf 0 _ (by simp [Ty.size]) h,DJ _⟩
  | err=>intro q i j x f o hf h; obtain ⟨v,h1,h2⟩:=h; exact ⟨⟨v,hf 0 _ (by simp [Ty.size]) h1,h2⟩,DJ _⟩
  | pair s t MD ME=>
   intro q i j x f o hf h;refine ⟨MD q i j x.1 f o (fun d v hd hv=>hf d v (by simp [Ty.size]; omega) hv) h.1,ME q i _ x.2 _ (o+s.size) (fun d v hd hv=>?_) h.2⟩;rw [cg]; exact hf _ v (by simp [Ty.size]; omega) hv
  | sl t ih=>intro q i j x f o hf h; obtain ⟨v,h1,h2⟩:=h; exact ⟨⟨v,hf 0 _ (by simp [Ty.size]) h1,iI (gq BM t) h2⟩,DJ _⟩
  | bW t ih=>intro q i j x f o hf h; obtain ⟨v,h1,h2,h3⟩:=h; exact ⟨⟨v,hf 0 _ (by simp [Ty.size]) h1,iI (gq BM t) h2,h3⟩,DJ _⟩
 refine ⟨_,_,g,U,hs,dK,⟨⟨some (ad w.heap.size 0),_,cap,rfl,by simp,hc,by simp,fun aG=>⟨w.heap.size,0,rfl,fun i hi=>?_⟩⟩,by simp⟩,fun id ob bQ=>by simp [look] at bQ,fun s h=>.inl h,fun b o q h=>by have:=S.cm _ _ _ h; rw [B.size]; omega,fun b o q hb h=>by grind,B.fr _,fun id h=>by simp [look] at h⟩;have hi:i<ys.length:=hi;obtain ⟨b,o,e1,e2,e3⟩:=tB (by omega);refine hSh u [] (0+i) 0 _ _ _ (fun d v hd hv=>?_) (e3 i hi);have aF:i*u.size+d<news.length:=by rw [s5];have:(i+1)*u.size≤ys.length*u.size:=fk _ (by omega);rw [dH] at this; omega
 grind
theorem aa_ (S:dC P c g w U sr a) (hs:¬ U site) {t ty:Nat} (hk:(c.ti t).kind = .slice) (k_:0<(c.ti (c.ti t).elem).bytes) {s x:ah} {vs vx:Value} (fj:aV g w U s vs) (hx:aV g w U x vx)
  (e:C6 (c.ti (c.ti t).elem).bytes sr site (c.ti (c.ti t).elem).ty s x k=some r) :
  ∃ bu,k bu=some r∧∃ v' w' g' U',(p_ #[t,t] ty #[vs,vx]).run P w = .ok v' w'∧dP g w U site bu v' w' g' U':=by
 unfold C6 at e;split at e
 case h_2=>grind
 rename_i u hu;split at e
 case h_2=>grind
 rename_i ys hb wO;unfold ab at e;split at e
 case isFalse=>grind
 rename_i qP;refine ⟨_,e,?_⟩;have DF:nM P (c.ti t).elem (c.ti (c.ti t).elem):=by
  have he:=hu;unfold bd.ti at he ⊢;generalize (match look c.bm t with | some i=>i | none=>(⟨false,0,0,[],.other,0,none,[],false⟩:mP)).elem=x at he ⊢;cases e2:look c.bm x with
  | none=>grind
  | some i=>exact S.bm x i e2
 obtain ⟨-,iT⟩:=DF.ty u hu;obtain ⟨-,eU,hT⟩:=DB (L:=g.lab) S.bb (fun _ _ h=>h) hx (mK ([]:List u.T)) (fun _ id hi=>by grind) wO;have aa0:∀ q,eU q=none:=fun q=>by
  cases h:eU q with
  | none=>rfl
  | some y=>obtain ⟨id,p,h'⟩:=y; have:=hT.tk.ids _ _ _ _ h; simp at this
 have fin:∀ (h:Hd),vs=h.val→h.len=0→h.cap=0→∃ v' w' g' U',(p_ #[t,t] ty #[vs,vx]).run P w = .ok v' w'∧dP g w U site ⟨.own (site*1024) 0 [] u,[(site*1024,some (.row false u site ys))]⟩ v' w' g' U':=by
  intro h hv h1 h2;subst hv;obtain ⟨v',w',g',dG,A⟩:=I_ (L:=g.lab) (own:=false) (ty:=ty) (σ0:=cn) S hs hk k_ iT (Do:=fun _ _=>False) (fun _ _=>eh) (h:=h) (xs:=[]) h1 (by omega) (fun _=>h2)
   (fun b o hb k hk=>by grind) (fun b o hb k hk=>by grind) (fun q id p h' e=>by simp [cn] at e) (fun q q' id p h1 h2 e=>by simp [cn] at e) (fun p hp=>absurd rfl hp) hT
   (fun id hi p hu=>hu) (by simp) (fun _=>⟨fun q=>rfl,aa0⟩) (fun b o hb=>.inl hb) (by grind) (fun id p h=>h.elim)
  exact ⟨v',w',g',_,dG,I1 S hs A (fun aE p hD=>by rcases hD with hD | hD; exact hD.elim; simp at hD) (fun aE ob bQ=>by simp [look] at bQ) (fun aE h=>by simp [look] at h)⟩
 split at hb
 ·exact fin eh (by rw [show vs=_ from fj]; rfl) rfl rfl
 ·rename_i id _;split at hb
  ·rename_i ho;obtain rfl:=bB hb;obtain ⟨-,-,a0,cc,rfl,BD,fx,b,o,ha,lh⟩:=fj;obtain ⟨b',o',hh,-,-⟩:=yU S.bb ho;have FH:=lh (.inr rfl);clear lh;rw [hh] at ha fx;simp only [aN,bS] at ha;obtain ⟨rfl,rfl⟩:=ha;have fG:=u.size_pos;simp only [kg,HS,eG,bP] at fx FH;obtain rfl:cc=0:=by
    rcases Nat.mul_eq_zero.1 fx with h | h
    ·exact h
    omega
   subst FH;exact fin ⟨some (b',o'),0,0⟩ (by simp [Hd.val]) rfl rfl
  grind
 grind
theorem Te {ow:Bool} (S:dC P c g w U sr a) (hs:¬ U site) {t:Nat} {x:ah} {v:Value} {lo hi:Option Operand} (hk:(c.ti t).kind = .slice) (hz:0<(c.ti (c.ti t).elem).size) (hx:aV g w U x v)
  (e:Bn ow (c.ti (c.ti t).elem).size sr site x lo hi k=some r) :
  ∃ bu,k bu=some r∧∃ v' w' g' U',(Instr.sliceAt t v (lo.map a.eval) (hi.map a.eval) none).run P w = .ok v' w'∧dP g w U site bu v' w' g' U':=by
 have h0:site≠0:=by rintro rfl; exact hs S.u0
 unfold Bn at e;obtain ⟨z,e,v',dG,oJ⟩:=Ss S hk hz hx e;simp only at e;split at e
 case h_2=>grind
 rename_i id _ tt;split at e
 case h_2=>grind
 rename_i ho;split at e
 case h_2=>grind
 rename_i hb;obtain rfl:=Ty.eq_of_beq hb;refine ⟨_,e,v',w,?_⟩;obtain ⟨h1,h2,h3,-,h5,a0,cc,rfl,hc,-,-,ha,q,rfl⟩:=oJ;obtain rfl:=h5 rfl;obtain ⟨hU,lf,oJ,r1,r2,r3,r4⟩:=S.bb id _ ho;rw [kg] at hc;have hq:0<cc→∃ b o,(g.hd id 0 []).addr=some (b,o)∧q=some (b,o):=by
  intro h;obtain ⟨b,o,e1,e2⟩:=ha h;refine ⟨b,o,e1,?_⟩;cases q with
  | none=>grind
  | some q=>
   grind
 have mW:id / 1024≠19:=S.nf id (by grind);have oE:∀ b o,q=some (b,o)→∀ k,k<cc*tt.size→g.lab b (o+k)=some (id,[])∧(w.cell? (ad b (o+k))).isSome=true∧w.frozen? (ad b (o+k))=false:=by intro b o BO k hk;have yB:0<cc:=Nat.pos_of_ne_zero (fun h=>by grind);obtain ⟨b',o',e1,e2⟩:=hq yB;rw [e2] at BO;simp only [aN,bS] at BO;obtain ⟨rfl,rfl⟩:=BO;exact (r4 _ _ e1).1 k (by grind)
 refine ⟨jh g site (fun _ _=>⟨q,0,cc⟩) (fun _ _=>eh) (jL (fun aE _=>aE=id) (site*1024) cn (fun b o=>∃ o0,q=some (b,o0)∧o0≤o∧o<o0+cc*tt.size) g.lab),U' U site,dG,?_⟩;have hR:∀ b o,(∃ o0,q=some (b,o0)∧o0≤o∧o<o0+cc*tt.size)→g.lab b o=some (id,[]):=by rintro b o ⟨o0,e1,e2,e3⟩;have:=(oE b o0 e1 (o-o0) (by omega)).1;rwa [show o0+(o-o0)=o by omega] at this
 have dK:∀ {T:Nat→Prop},T id→eV T g w U (jh g site (fun _ _=>⟨q,0,cc⟩) (fun _ _=>eh) (jL (fun aE _=>aE=id) (site*1024) cn (fun b o=>∃ o0,q=some (b,o0)∧o0≤o∧o<o0+cc*tt.size) g.lab)) w (U' U site):=by
  intro T hT;refine Fy hs (fun b o hn v hv=>⟨hv,fun hr=>by grind⟩) (fun b o aE p h hT'=>?_);have aG:aE≠id:=by rintro rfl; exact hT' hT
  exact ⟨aG,fun hr=>by grind,rfl,rfl⟩
 refine ⟨dK (by simp only [look]; split<;>simp),⟨.inr (kz site),.inl S.u0,.inl S.u0,trivial,fun _=>rfl,?_⟩,fun aE ob bQ=>?_,fun s h=>h,fun b o q h=>?_,fun b o q hb h=>?_,Fr.refl _ _,fun aE h=>?_⟩
 ·rw [u9 h0]; rfl
 ·simp only [look] at bQ;split at bQ
  ·rename_i hb;obtain rfl:=bB hb;simp only [aN] at bQ;subst bQ;refine ⟨.inr (kz site),.inl S.u0,.inr rfl,?_⟩;refine Fz (w:=w) (L:=fun _ _=>some (0,[])) (h0:=⟨q,0,cc⟩) _ rfl (u9 h0 _) (fun q id p h e=>by simp [cn] at e) (fun q hq e=>rfl) (fun q id p h e=>by simp [cn] at e) (fun b o hl v hv=>by grind) rfl (Nat.zero_le _) (fun h=>?_) (fun b o hb k hk=>?_) (fun b o hb k hk=>by grind)
   ·grind
   grind
  grind
 ·rcases vb h with hr | h
  ·exact S.cm _ _ _ (hR _ _ hr)
  cases h2:g.lab b o with
  | none=>grind
  | some q=>exact S.cm _ _ _ h2
 ·rcases vb h with hr | h
  ·grind
  omega
 simp only [look] at h;split at h
 ·rename_i hb;obtain rfl:=bB hb;rw [kz]; rintro rfl; exact hs S.Bu
 split at h
 ·simp_all
 grind
end
end Go.Am
