/- Functions of the program, each as a plain Lean function. No condition. -/
import Derived.Test.YtjfaphipihgomaaGreatDoorTxtShelf
import Derived.WalkKit
open Go Go.Am
noncomputable section
set_option linter.unusedVariables false
set_option maxRecDepth 100000
set_option linter.unusedSimpArgs false
open Bool renaming and_eq_true → aB, false_eq_true → fM, not_false → gT, not_true → bo
open Go.IntKind renaming wrap → Ht
open Go.Lib renaming decDigits → fU, decDigits_one → qC, itoa → aj
open Go.Proofs.Tryz renaming func256 → Hu, ntmps256 → KF, prog → aL
open Int renaming lt_irrefl → bH, tdiv_eq_ediv_of_nonneg → W4, toNat_natCast → az
open List renaming append_assoc → nR, length_append → cY, length_cons → bh, length_nil → bP, map_cons → mM, mem_of_mem_take → ZF, range → bD, replicate → ga, take_length → mN, take_succ_eq_append_getElem → jt
open UInt8 renaming ofNat → eS
namespace Go.AmT
open Go.Proofs Go.Proofs.Tryz
def cf.bq:List (Nat×LA):=[(7,⟨[(0,.int .i64),(3,.str)],[],[],[]⟩)]
def cf.la:LA:=⟨[(0,.int .i64)],[],[],[]⟩
def cf.lb:LA:=⟨[(0,.str)],[],[],[]⟩
def cf.B (n:Nat) (slf:(Int)→Option ((BB)×Unit)) (a0:Int):Option ((BB)×Unit):=br (decide (a0<0)) ((slf (ag (0-a0))).bind fun r2=>ab (([45]:BB).length+r2.1.length<ca) (some (([45]:BB)++r2.1,()))) (iter n (fun fa x5=>br (decide (0<x5.1)) (ab ((([(Ht .u8 (ag (48+(x5.1.tmod 10))))]:List Int).map fun n=>eS n.toNat).length+x5.2.1.length<ca) (fa (ag (x5.1.tdiv 10),(([(Ht .u8 (ag (48+(x5.1.tmod 10))))]:List Int).map fun n=>eS n.toNat)++x5.2.1,()))) (some (x5.2.1,()))) (ag (a0.tdiv 10),([(Ht .u8 (ag (48+(a0.tmod 10))))]:List Int).map fun n=>eS n.toNat,()))
def cf.F (n:Nat):Nat→(Int)→Option ((BB)×Unit)
 | 0=>fun _=>none
 | d+1=>cf.B n (cf.F n d)
def cf.f (n:Nat) (a0:Int):Option ((BB)×Unit):=cf.F n n a0
def cf.pv (n:Nat) (slf:(Int)→Option ((BB)×Unit)):cM:=⟨cf.la,cf.lb,fun x=>slf x.1⟩
def cf.ae (n:Nat):cM:=⟨cf.la,cf.lb,fun x=>cf.f n x.1⟩
def cf.cfg (n:Nat) (slf:(Int)→Option ((BB)×Unit)):bd:=⟨m_,[],[(61,cf.pv n slf)],[]⟩
theorem cf.eq:∀ (n:Nat) (slf:(Int)→Option ((BB)×Unit)) (a0:Int) (mp:Mp),cM.run (cf.cfg n slf) n f61 (cT f61 cf.bq) cf.la cf.lb (a0,mp)=cf.B n slf a0:=by intros;kernel_rfl
theorem cf.av:ck aL 61:=cD func61 (by kernel_rfl) (by kernel_rfl)
theorem cf.ug (n:Nat):∀ d,oY aL 61 (cf.pv n (cf.F n d))
 | 0=>fun _ _ h=>nomatch h
 | d+1=>DV (fn:=f61) (M:=cf.pv n (cf.F n (d+1))) (c:=cf.cfg n (cf.F n d)) (vl mixed (tP (.of (c:=cf.cfg n (cf.F n d)) trivial) (.of (c:=cf.cfg n (cf.F n d)) ⟨⟨cf.ug n d,cf.av⟩,trivial⟩)) (cB kL)) (cB kL) func61 (fun x=>(cf.eq n (cf.F n d) x.1 x.2).symm)
theorem cf.sound (n:Nat):oY aL 61 (cf.ae n):=cf.ug n n
def sD.f (n:Nat) (a0:List Int):Option ((BB)×Unit):=(fL.f n a0).bind fun r1=>br (!r1.1) (some ([],())) (br (decide ((a0.length:Int)=0)) (some ([46],())) (ab ((0:Int)≤0∧0<(a0.length:Int)) ((cf.f n (a0.getD 0 0)).bind fun r2=>ab ((0:Int)≤1∧(1:Int)≤(a0.length:Int)∧(a0.length:Int)≤(a0.length:Int)) (iter n (fun ni x8=>br (decide (x8.2.1<(((a0.take (a0.length:Int).toNat).drop 1).length:Int))) (ab (0≤x8.2.1∧x8.2.1<(((a0.take (a0.length:Int).toNat).drop 1).length:Int)) (let v10:=(((a0.take (a0.length:Int).toNat).drop 1).getD x8.2.1.toNat 0); ab (x8.1.length+([44]:BB).length<ca) ((cf.f n v10).bind fun cW=>ab ((x8.1++([44]:BB)).length+cW.1.length<ca) (ni ((x8.1++([44]:BB))++cW.1,ag (x8.2.1+1),()))))) (some (x8.1,()))) (r2.1,0,())))))
def sD.ae (n:Nat):ar:=⟨[.val IS],[.val .str],fun x=>sD.f n x.1⟩
theorem sD.ok (n:Nat):aH 65 (sD.ae n):=aJ n [(10,⟨[(3,.str),(19,.int .i64)],[],[17,18],[]⟩)] [] (ai ⟨fL.sound n,fL.av⟩ aC) (dI ⟨cf.sound n,cf.av⟩ aD) func65
def dV.f (n:Nat) (a0:Int):Option (BB×Unit):=zt a0
def dV.ae (n:Nat):ar:=⟨[.val (.int .i64)],[.val .str],fun x=>dV.f n x.1⟩
theorem dV.av:ck aL 164:=cD func164 (by kernel_rfl) (by kernel_rfl)
theorem dV.sound (n:Nat):Sound aL 164 (dV.ae n):=ac_ (by kernel_rfl) (fun m h0 h1 w ht=>Tryz.strconv_Itoa m h0 h1 w ht)
def om.f (n:Nat) (a0:List (BB)) (a1:BB):Option (BB×Unit):=Gr a0 a1
def om.ae (n:Nat):ar:=⟨[.val (.sl .str),.val .str],[.val .str],fun x=>om.f n x.1 x.2.1⟩
theorem om.av:ck aL 165:=cD func165 (by kernel_rfl) (by kernel_rfl)
theorem om.sound (n:Nat):Sound aL 165 (om.ae n):=ac1 Tryz.strings_Join_none Tryz.strings_Join
def lW.f (n:Nat) (a0:List Int):Option ((BB)×Unit):=(fb.f n a0).bind fun r1=>br (!r1.1) (some ([],())) (br (decide ((a0.length:Int)=0)) (some ([46],())) (iter n (fun ml x7=>br (decide (x7.1<(a0.length:Int))) (ab (0≤x7.1∧x7.1<(a0.length:Int)) ((dV.f n (a0.getD x7.1.toNat 0)).bind fun r9=>ab ((x7.2.1.length+([r9.1]:List (BB)).length)*16≤bn) (ml (ag (x7.1+1),x7.2.1++[r9.1],())))) ((om.f n x7.2.1 ([44]:BB)).bind fun gi=>some (gi.1,()))) (0,[],())))
def lW.ae (n:Nat):ar:=⟨[.val IS],[.val .str],fun x=>lW.f n x.1⟩
theorem lW.ok (n:Nat):aH 173 (lW.ae n):=aJ n [(10,⟨[(3,.own 1000 .str),(15,.int .i64)],[(1000,.row true .str)],[13,14],[]⟩)] [] (ai ⟨fb.sound n,fb.av⟩ (ai ⟨dV.sound n,dV.av⟩ (ai ⟨om.sound n,om.av⟩ aC))) aD func173
def Ap.f (n:Nat) (a0:List Int):Option ((BB)×Unit):=iter n (fun fC x6=>br (decide (x6.2.1<(a0.length:Int))) (ab (0≤x6.2.1∧x6.2.1<(a0.length:Int)) ((dV.f n (a0.getD x6.2.1.toNat 0)).bind fun r8=>ab (r8.1.length+([32]:BB).length<ca) (ab (x6.1.length+(r8.1++([32]:BB)).length<ca) (fC (x6.1++(r8.1++([32]:BB)),ag (x6.2.1+1),()))))) (some (x6.1,()))) ([],0,())
def Ap.ae (n:Nat):ar:=⟨[.val IS],[.val .str],fun x=>Ap.f n x.1⟩
theorem Ap.ok (n:Nat):aH 213 (Ap.ae n):=aJ n [(4,⟨[(3,.str),(8,.int .i64)],[],[6,7],[]⟩)] [] (ai ⟨dV.sound n,dV.av⟩ aC) aD func213
end Go.AmT
namespace Go.AmT
variable {v x:Int} {n:Nat}
theorem ka {m:Nat} {ρ:Type} {x:Option ρ} (h:m≤1000000000000):ab (m<ca) x=x:=af (by simp only [ca]; omega)
theorem afO {k:Nat} (h:k<10):eS (Ht .u8 (ag (48+(k:Int)))).toNat=eS (48+k):=by
 have c:k=0∨k=1∨k=2∨k=3∨k=4∨k=5∨k=6∨k=7∨k=8∨k=9:=by omega
 rcases c with h | h | h | h | h | h | h | h | h | h<;>(subst h; decide)
theorem W5 (h:0≤v):eS (Ht .u8 (ag (48+v.tmod 10))).toNat=eS (48+v.toNat % 10):=by rw [Int.tmod_eq_emod_of_nonneg h,show v % 10=((v.toNat % 10:Nat):Int) by omega];exact afO (by omega)
theorem Aq {u:Nat} (h:¬ u<10):fU u=fU (u / 10)++[eS (48+u % 10)]:=by rw [fU,dif_neg h]
theorem xW:∀ (k u:Nat),u<10 ^ (k+1)→(fU u).length≤k+1
 | 0,u,h=>by rw [qC (by omega)]; simp
 | k+1,u,h=>by
  by_cases hu:u<10
  ·rw [qC hu]; simp
  rw [Aq hu];rw [Nat.pow_succ] at h;have:=xW k (u / 10) (by omega)
  grind
def Cp (v:Int):BB:=if v=0 then [] else fU v.toNat
theorem W6 (h:0≤v):fU v.toNat=Cp (v / 10)++[eS (48+v.toNat % 10)]:=by
 unfold Cp;by_cases hu:v.toNat<10
 ·rw [if_pos (by omega),qC hu,Nat.mod_eq_of_lt hu]; rfl
 rw [if_neg (by omega),Aq hu,show (v / 10).toNat=v.toNat / 10 by omega]
theorem afP (h:0<v):Cp v=Cp (v / 10)++[eS (48+v.toNat % 10)]:=by
 rw [← W6 (by omega)];unfold Cp
 grind
theorem W7 {slf:Int→Option (BB×Unit)} (hn:1048576<n) (h0:0≤x) (h1:x≤1000000):W (cf.B n slf x) (fun r=>r.1=fU x.toNat):=by
 unfold cf.B;rw [au (by omega)];have hd:x.tdiv 10=x / 10:=W4 h0;rw [hd,bM (n:=x / 10) (by omega) (by omega)];simp only [mM,List.map_nil];have hL:=xW 6 x.toNat (by omega);refine acR (fun y=>0≤y.1∧y.1≤100000∧Cp y.1++y.2.1=fU x.toNat) (fun y=>y.1.toNat) (fun ih y hy hS=>?_) ⟨by omega,by omega,by rw [W5 h0,W6 h0]⟩ (by omega);obtain ⟨v,out,⟨⟩⟩:=y;obtain ⟨a0,a1,a2⟩:=hy;simp only at a0 a1 a2;by_cases hv:0<v
 ·simp only [aM hv];have hd:v.tdiv 10=v / 10:=W4 a0;have hl:out.length≤7:=by have:=congrArg List.length a2;rw [cY] at this;omega
  rw [hd,bM (n:=v / 10) (by omega) (by omega),ka (by grind)];refine hS _ ⟨by omega,by omega,?_⟩ (by omega);show Cp (v / 10)++([_]++out)=_;rw [W5 a0,← nR,← afP hv,a2]
 simp only [au hv];rw [ao];show out=_;rw [← a2,show v=0 by omega];rfl
theorem fv (h0 : -1000000≤x) (h1:x≤1000000):(aj x).length≤8:=by
 unfold aj;split
 ·have:=xW 6 x.natAbs (by omega)
  grind
 have:=xW 6 x.toNat (by omega);omega
theorem W8 (h0 : -999999999≤x) (h1:x≤999999999):(aj x).length≤10:=by
 unfold aj;split
 ·have:=xW 8 x.natAbs (by omega)
  grind
 have:=xW 8 x.toNat (by omega);omega
theorem sE (hn:1048576<n) (h0 : -1000000≤x) (h1:x≤1000000):cf.f n x=some (aj x,()):=by
 have hL:=fv h0 h1;have:W (cf.f n x) (fun r=>r.1=aj x):=by
  obtain ⟨m,rfl⟩:∃ m,n=m+2:=⟨n-2,by omega⟩
  show W (cf.B (m+2) (cf.F (m+2) (m+1)) x) _;by_cases hx:0≤x
  ·refine bA (W7 hn hx h1) (fun r hr=>?_);rw [hr,aj,if_neg (by omega)]
  unfold cf.B;rw [aM (by omega),bM (n:=0-x) (by omega) (by omega),dt];refine bA (show W (cf.B (m+2) (cf.F (m+2) m) (0-x)) (fun r=>r.1=fU (0-x).toNat) from W7 hn (by omega) (by omega)) (fun r hr=>?_);have hl:=xW 6 (0-x).toNat (by omega);rw [hr,ka (by grind),ao,aj,if_pos (by omega),show (0-x).toNat=x.natAbs by omega];rfl
 obtain ⟨⟨r,⟨⟩⟩,e,h⟩:=this
 grind
theorem mC (h:tok x=true) : -1000000≤x∧x≤1000000:=by simp only [tok,aB,decide_eq_true_eq] at h;omega
def sF (y:Int):BB:=[44]++aj y
def eB:List Int→BB
 | []=>[46]
 | x::r=>aj x++(r.map sF).flatten
def fmtS (s:List Int):BB:=if bX s then eB s else []
theorem kq {α:Type} (g:α→BB) (B:Nat):∀ (l:List α),(∀ x∈l,(g x).length≤B)→(l.map g).flatten.length≤B*l.length
 | [],_=>by simp
 | x::l,h=>by have h1:=h x (by simp);have h2:=kq g B l (fun y hy=>h y (by grind));simp only [mM,List.flatten_cons,cY,bh,Nat.mul_add];omega
theorem Qc {α:Type} (g:α→BB) (l:List α) (i:Nat) (h:i<l.length):((l.take (i+1)).map g).flatten=((l.take i).map g).flatten++g l[i]:=by
 rw [jt h]
 grind
theorem pz {q:List Int} (h:bX q=true):q.length≤400∧∀ x∈q,tok x=true:=by simp only [bX,aB,decide_eq_true_eq,List.all_eq_true] at h;exact h
theorem Qd (h:tok x=true):(sF x).length≤9:=by
 have:=fv (mC h).1 (mC h).2;unfold sF
 grind
theorem Es (s:List Int):(fmtS s).length≤4000:=by
 unfold fmtS;split
 ·rename_i h;obtain ⟨hl,ht⟩:=pz h;cases s with
  | nil=>simp [eB]
  | cons x r=>
   have h1:=fv (mC (ht x (by simp))).1 (mC (ht x (by simp))).2;have h2:=kq sF 9 r (fun y hy=>Qd (ht y (by grind)));simp only [bh] at hl;simp only [eB,cY];omega
 simp
theorem Qe {α γ ρ:Type} (g:α→BB) (l:List α) (t0:BB) {F:(γ→Option ρ)→γ→Option ρ} (st:BB→Int→γ) {R:Option ρ}
  (h1:∀ ih (i:Nat),i<l.length→F ih (st (t0++((l.take i).map g).flatten) (i:Int))=ih (st (t0++((l.take (i+1)).map g).flatten) ((i+1:Nat):Int)))
  (h2:∀ ih,F ih (st (t0++(l.map g).flatten) (l.length:Int))=R) {n:Nat} (hn:l.length<n):iter n F (st t0 0)=R:=by
 have:=mu (F:=F) (fun i=>st (t0++((l.take i).map g).flatten) (i:Int)) l.length (R:=R) (fun ih i hi=>h1 ih i hi) (fun ih=>by grind) hn
 grind
theorem KG {s:List Int} (hs:s.length≤1048576) (hn:1048576<n):sD.f n s=some (fmtS s,()):=by
 unfold sD.f;rw [xg hs hn,aq];cases hk:bX s
 ·rw [gT,ax]; simp [fmtS,hk]
 obtain ⟨hl,ht⟩:=pz hk;rw [bo,aw];cases s with
 | nil=>simp [br,fmtS,hk,eB]
 | cons x r=>
  have e0:fmtS (x::r)=aj x++(r.map sF).flatten:=by simp [fmtS,hk,eB]
  have t0:=mC (ht x (by simp));have h1:=fv t0.1 t0.2;rw [au (by grind),af (by simp)];have e1:(x::r).getD 0 0=x:=rfl;rw [e1,sE hn t0.1 t0.2,aq,af (by grind)];have e2:((x::r).take ((x::r).length:Int).toNat).drop 1=r:=by rw [az,mN]; rfl
  rw [e2,e0];simp only [bh] at hl;have hm:∀ i,((r.take i).map sF).flatten.length≤3600:=fun i=>by
   have h2:=kq sF 9 (r.take i) (fun y hy=>Qd (ht y (by grind)))
   grind
  refine Qe sF r (aj x) (fun t i=>(t,i,())) (fun ih i hi=>?_) (fun ih=>?_) (by omega)
  ·have aF:(i:Int)<(r.length:Int):=by omega
   simp only [aM aF,az];have hx:=ht (r.getD i 0) (by grind);have W9:=hm i;have hc:=Qd hx;have hi2:=fv (mC hx).1 (mC hx).2;rw [af (by omega),ka (by grind),sE hn (mC hx).1 (mC hx).2,aq,ka (by grind),ba (by omega)];rw [Qc sF r i hi,aU hi];simp only [sF,nR]
  simp only [au (bH _)]
theorem afQ (h0 : -999999999≤x) (h1:x≤999999999):dV.f n x=some (aj x,()):=by unfold dV.f zt;rw [if_pos (by omega)];rfl
theorem ui (h0 : -1000000≤x) (h1:x≤1000000):dV.f n x=some (aj x,()):=by unfold dV.f zt;rw [if_pos (by omega)];rfl
theorem Qf {xs:List (BB)} {sep:BB} (h0:xs.length≤1000000) (h1:(Lib.join xs sep).length≤1000000):om.f n xs sep=some (Lib.join xs sep,()):=by unfold om.f Gr;rw [if_pos (by omega)];rfl
theorem afR (x:Int) (r:List Int):Lib.join ((x::r).map aj) [44]=eB (x::r):=by rw [mM,Lib.join_cons,Lib.joinTail,List.map_map];rfl
theorem KH {s:List Int} (hs:s.length≤1048576) (hn:1048576<n):lW.f n s=some (fmtS s,()):=by
 have hB:=iR;unfold lW.f;rw [vo hs hn,aq];cases hk:bX s
 ·rw [gT,ax]; simp [fmtS,hk]
 obtain ⟨hl,ht⟩:=pz hk;rw [bo,aw];cases s with
 | nil=>simp [br,fmtS,hk,eB]
 | cons x r=>
  rw [au (by grind)];have e0:fmtS (x::r)=Lib.join ((x::r).map aj) [44]:=by rw [afR]; simp [fmtS,hk]
  have hf:=Es (x::r);rw [e0] at hf;refine vz (x::r) aj (fun i l=>(i,l,())) (fun ih i hi l pO=>?_) (fun ih=>?_) (by omega)
  ·have aF:(i:Int)<((x::r).length:Int):=by omega
   have hx:=mC (ht (x::r)[i] (List.getElem_mem _));simp only [aM aF,az];rw [af (by omega),aU hi,ui hx.1 hx.2,aq,af (by grind),ba (by omega)]
  simp only [au (bH _)];rw [Qf (by grind) (by omega),aq,e0]
theorem Hv {γ ρ:Type} (g:Nat→BB) (len B:Nat) (t0:BB) (hB:∀ i,i<len→(g i).length≤B) {F:(γ→Option ρ)→γ→Option ρ} (st:BB→Int→γ) {R:Option ρ}
  (h1:∀ ih (i:Nat) (t:BB),i<len→t.length≤t0.length+B*i→F ih (st t (i:Int))=ih (st (t++g i) ((i+1:Nat):Int)))
  (h2:∀ ih,F ih (st (t0++((bD len).map g).flatten) (len:Int))=R) {n:Nat} (hn:len<n):iter n F (st t0 0)=R:=by
 have hl:∀ i,i≤len→((bD i).map g).flatten.length≤B*i:=fun i hi=>by
  have:=kq g B (bD i) (fun x hx=>hB x (by grind))
  grind
 have:=mu (F:=F) (fun i=>st (t0++((bD i).map g).flatten) (i:Int)) len (R:=R) (fun ih i hi=>by show F ih (st (t0++((bD i).map g).flatten) (i:Int))=_;rw [h1 ih i _ hi (by grind),List.range_succ];simp) (fun ih=>h2 ih) hn
 grind
theorem afS {α β γ ρ:Type} (l:List α) (g:α→β) (s0:List β) (st:Int→List β→γ) {F:(γ→Option ρ)→γ→Option ρ} {R:Option ρ}
  (h1:∀ ih i (hi:i<l.length) (s:List β),s.length=s0.length+i→F ih (st i s)=ih (st ((i+1:Nat):Int) (s++[g l[i]])))
  (h2:∀ ih,F ih (st l.length (s0++l.map g))=R) {n:Nat} (hn:l.length<n):iter n F (st 0 s0)=R:=by
 have:=mu (F:=F) (fun i=>st (i:Int) (s0++(l.take i).map g)) l.length (R:=R) (fun ih i hi=>by
  show F ih (st (i:Int) (s0++(l.take i).map g))=_;rw [h1 ih i hi _ (by grind),jt hi,List.map_append,nR]; rfl) (fun ih=>by
  grind) hn
 grind
theorem afT {a b c d:Int} (hn:1048576<n) (ha : -1000000≤a∧a≤1000000) (hb : -1000000≤b∧b≤1000000) (hc : -1000000≤c∧c≤1000000) (hd : -1000000≤d∧d≤1000000) :
  Ap.f n [a,b,c,d]=some (aj a++[32]++(aj b++[32])++(aj c++[32])++(aj d++[32]),()):=by
 have la:=fv ha.1 ha.2;have lb:=fv hb.1 hb.2;have lc:=fv hc.1 hc.2;have ld:=fv hd.1 hd.2;unfold Ap.f;have e:aj a++[32]++(aj b++[32])++(aj c++[32])++(aj d++[32])=[]++(([a,b,c,d]:List Int).map fun y=>aj y++[32]).flatten:=by simp
 rw [e];have c8:∀ i,i<4→∃ y,([a,b,c,d]:List Int).getD i 0=y∧-1000000≤y∧y≤1000000:=fun i hi=>by
  have:i=0∨i=1∨i=2∨i=3:=by omega
  rcases this with rfl | rfl | rfl | rfl
  ·grind
  ·grind
  ·grind
  grind
 have hm:∀ i,((([a,b,c,d]:List Int).take i).map fun y=>aj y++[32]).flatten.length≤36:=fun i=>by
  have h1:=kq (fun y=>aj y++[32]) 9 (([a,b,c,d]:List Int).take i) (fun y hy=>by grind)
  grind
 refine Qe (fun y=>aj y++[32]) [a,b,c,d] [] (fun t i=>(t,i,())) (fun ih i hi=>?_) (fun ih=>?_) (by grind)
 ·simp only [bh,bP] at hi;obtain ⟨y,hy,h0,h1⟩:=c8 i (by omega);have W9:=hm i;have hyl:=fv h0 h1;have aF:(i:Int)<(([a,b,c,d]:List Int).length:Int):=by simp only [bh,bP]; omega
  simp only [aM aF,az];rw [af (by omega),hy,ui h0 h1,aq,ka (by grind),ka (by grind),ba (by omega)];rw [Qc (fun y=>aj y++[32]) [a,b,c,d] i (by omega)]
  grind
 simp only [au (bH _)]
theorem Ls {α:Type} {P:α→Prop} {l:List α} {x:α} (h:∀ a∈l,P a) (hx:P x):∀ a∈l++[x],P a:=by grind
end Go.AmT
namespace Go.AmT
open Go.Proofs Go.Proofs.Tryz
def xX.f (n:Nat)  : Option (List (BB)×Unit):=some ([[],[114,101,97,100],[119,114,105,116,101],[115,101,116],[97,100,100],[115,117,98],[109,117,108],[114,101,115,116],[106,117,109,112],[122,101,114,111],[98,101,108,111,119],[104,97,108,116]],())
def xX.ae (n:Nat):ar:=⟨[],[.val (.sl .str)],fun x=>xX.f n ⟩
theorem xX.ok (n:Nat):aH 242 (xX.ae n):=aJ n [] [] aC aD func242
def vK.f (n:Nat) (a0:Int):Option (List Bool×Unit):=cut (br (decide (a0=4)) (some (.inr (decide (a0=4),()))) (br (decide (a0=5)) (some (.inr (decide (a0=5),()))) (br (decide (a0=6)) (some (.inr (decide (a0=6),()))) (some (.inr (decide (a0=7),())))))) fun y1=>br y1.1 (some ([true,true,true],())) (br (decide (a0=8)) (some ([false,true,false],())) (br (decide (a0=11)) (some ([false,false,false],())) (some ([true,true,false],()))))
def vK.ae (n:Nat):ar:=⟨[.val I],[.val (.sl .bool)],fun x=>vK.f n x.1⟩
theorem vK.ok (n:Nat):aH 243 (vK.ae n):=aJ n [(4,⟨[(4,.bool)],[],[3],[]⟩)] [] aC aD func243
def sG.f (n:Nat) (a0:Instr):Option (Bool×Unit):=ab (24=24∧0≤24∧24*(32:Int)≤(bn:Int)) ((mm.f n (3,3,ga 24 ((0,0,0,0):Instr)) a0).bind fun r1=>some (r1.1,()))
def sG.ae (n:Nat):ar:=⟨[.val cV],[.val .bool],fun x=>sG.f n x.1⟩
theorem sG.ok (n:Nat):aH 244 (sG.ae n):=aJ n [] [] (ai ⟨mm.sound n,mm.av⟩ aC) aD func244
def uj.f (n:Nat) (a0:Instr):Option ((BB)×Unit):=(sG.f n a0).bind fun r1=>br (!r1.1) (some ([],())) ((xX.f n ).bind fun r2=>ab (0≤a0.1∧a0.1<(r2.1.length:Int)) ((vK.f n a0.1).bind fun r3=>iter n (fun oa bT=>br (decide (bT.2.1<3)) (ab (0≤bT.2.1∧bT.2.1<(bT.2.2.1.length:Int)) (ab (0≤bT.2.1∧bT.2.1<(r3.1.length:Int)) (br (r3.1.getD bT.2.1.toNat false) (ab (bT.1.length+([32]:BB).length<ca) ((cf.f n (bT.2.2.1.getD bT.2.1.toNat 0)).bind fun fq=>ab ((bT.1++([32]:BB)).length+fq.1.length<ca) (oa ((bT.1++([32]:BB))++fq.1,ag (bT.2.1+1),bT.2.2.1,())))) (oa (bT.1,ag (bT.2.1+1),bT.2.2.1,()))))) (some (bT.1,()))) (r2.1.getD a0.1.toNat [],0,[a0.2.1,a0.2.2.1,a0.2.2.2],())))
def uj.ae (n:Nat):ar:=⟨[.val cV],[.val .str],fun x=>uj.f n x.1⟩
theorem uj.ok (n:Nat):aH 245 (uj.ae n):=aJ n [(8,⟨[(3,.str),(24,.own 1000 I),(26,.int .i64)],[(1000,.row true I)],[4,25],[]⟩)] [] (ai (sG.ok n) (ai (xX.ok n) (ai (vK.ok n) aC))) (dI ⟨cf.sound n,cf.av⟩ aD) func245
def uk.f (n:Nat)  : Option (List (BB)×Unit):=some ([[],[114,101,97,100],[119,114,105,116,101],[115,101,116],[97,100,100],[115,117,98],[109,117,108],[114,101,115,116],[106,117,109,112],[122,101,114,111],[98,101,108,111,119],[104,97,108,116]],())
def uk.ae (n:Nat):ar:=⟨[],[.val (.sl .str)],fun x=>uk.f n ⟩
theorem uk.ok (n:Nat):aH 255 (uk.ae n):=aJ n [] [] aC aD func255
theorem Hw.av:ck aL 256:=cD Hu (by kernel_rfl) (by kernel_rfl)
theorem Hw.Xa:Jy aL 256:={
 a:=fun w b o op hc h=>by
  simp only [k9,decide_eq_true_eq] at h;rcases h with rfl | rfl | rfl | rfl | rfl<;>
  ·go_enter Hu,KF
   go_wp2
   go_region
   go_wp2
   go_ret
   exact ⟨rfl,219,rfl,rfl,rfl,rfl⟩
 b:=fun w b o op hc h=>by
  simp only [j4,decide_eq_true_eq] at h;rcases h with rfl | rfl | rfl | rfl<;>
  ·go_enter Hu,KF
   go_wp2
   go_region
   go_wp2
   go_ret
   exact ⟨rfl,219,rfl,rfl,rfl,rfl⟩
 c:=fun w b o op hc h=>by
  simp only [nK,decide_eq_true_eq] at h;subst h
  ·go_enter Hu,KF
   go_wp2
   go_ret
   exact ⟨rfl,219,rfl,rfl,rfl,rfl⟩
 n:=fun w b o op hc h h' yZ=>by
  simp only [k9,j4,nK,decide_eq_false_iff_not,not_or] at h h' yZ;obtain ⟨h1,h2,h3,h9,lE⟩:=h;obtain ⟨h4,h5,h6,h7⟩:=h'
  go_enter Hu,KF
  go_wp2
  go_ret
  exact ⟨rfl,rfl⟩ }
def iu.bq:List (Nat×LA):=[(500007,⟨[],[],[],[]⟩)]
def iu.f (n:Nat) (a0:Instr):Option ((BB)×Unit):=(lP.f n a0 3 3 24).bind fun r1=>br (!r1.1) (some ([],())) ((uk.f n ).bind fun r2=>ab (0≤a0.1∧a0.1<(r2.1.length:Int)) (br (k9 a0.1) ((dV.f n a0.2.1).bind fun r3=>ab (([32]:BB).length+r3.1.length<ca) (ab ((r2.1.getD a0.1.toNat []).length+(([32]:BB)++r3.1).length<ca) ((dV.f n a0.2.2.1).bind fun r4=>ab (([32]:BB).length+r4.1.length<ca) (ab (((r2.1.getD a0.1.toNat [])++(([32]:BB)++r3.1)).length+(([32]:BB)++r4.1).length<ca) (some (((r2.1.getD a0.1.toNat [])++(([32]:BB)++r3.1))++(([32]:BB)++r4.1),())))))) (br (j4 a0.1) ((dV.f n a0.2.1).bind fun r5=>ab (([32]:BB).length+r5.1.length<ca) (ab ((r2.1.getD a0.1.toNat []).length+(([32]:BB)++r5.1).length<ca) ((dV.f n a0.2.2.1).bind fun r6=>ab (([32]:BB).length+r6.1.length<ca) (ab (((r2.1.getD a0.1.toNat [])++(([32]:BB)++r5.1)).length+(([32]:BB)++r6.1).length<ca) ((dV.f n a0.2.2.2).bind fun r7=>ab (([32]:BB).length+r7.1.length<ca) (ab ((((r2.1.getD a0.1.toNat [])++(([32]:BB)++r5.1))++(([32]:BB)++r6.1)).length+(([32]:BB)++r7.1).length<ca) (some ((((r2.1.getD a0.1.toNat [])++(([32]:BB)++r5.1))++(([32]:BB)++r6.1))++(([32]:BB)++r7.1),())))))))) (br (nK a0.1) ((dV.f n a0.2.2.1).bind fun r8=>ab (([32]:BB).length+r8.1.length<ca) (ab ((r2.1.getD a0.1.toNat []).length+(([32]:BB)++r8.1).length<ca) (some ((r2.1.getD a0.1.toNat [])++(([32]:BB)++r8.1),())))) (some (r2.1.getD a0.1.toNat [],()))))))
def iu.ae (n:Nat):ar:=⟨[.val cV],[.val .str],fun x=>iu.f n x.1⟩
def iu.cfg (n:Nat):bd:=⟨m_,[(250,lP.ae n),(255,uk.ae n),(164,dV.ae n)],[],[3000256]⟩
theorem iu.eq:∀ (n:Nat) (a0:Instr),Dj (iu.cfg n) n f257 (cT f257 iu.bq) [.val cV] [.val .str] (a0,())=iu.f n a0:=by intros;kernel_rfl
theorem iu.av:ck aL 257:=cD func257 (by kernel_rfl) (by kernel_rfl)
theorem iu.sound (n:Nat):Sound aL 257 (iu.ae n):=Nc (fn:=f257) (m:=iu.ae n) (c:=iu.cfg n) (vl mixed (tP (.of (c:=iu.cfg n) ⟨⟨lP.sound n,lP.av⟩,⟨uk.ok n,⟨⟨dV.sound n,dV.av⟩,trivial⟩⟩⟩ (TY (f:=256) rfl Hw.Xa Hw.av)) (.of (c:=iu.cfg n) trivial)) (cB kL)) (cB kL) func257 (fun x=>(iu.eq n x.1).symm)
end Go.AmT
namespace Go.AmT
variable {x:Instr}
def jy:List (BB):=[[],[114,101,97,100],[119,114,105,116,101],[115,101,116],[97,100,100],[115,117,98],[109,117,108],[114,101,115,116],[106,117,109,112],[122,101,114,111],[98,101,108,111,119],[104,97,108,116]]
theorem Qg (n:Nat):xX.f n=some (jy,()):=rfl
theorem KI (n:Nat):uk.f n=some (jy,()):=rfl
def fh (op:Int):BB:=jy.getD op.toNat []
theorem HX {op:Int} (h:1≤op∧op≤11):op=1∨op=2∨op=3∨op=4∨op=5∨op=6∨op=7∨op=8∨op=9∨op=10∨op=11:=by omega
theorem Qh {op:Int} (h:1≤op∧op≤11):(fh op).length≤5:=by rcases HX h with rfl | rfl | rfl | rfl | rfl | rfl | rfl | rfl | rfl | rfl | rfl<;>decide
def kU (op:Int):List Bool:=if j4 op then [true,true,true] else if op=8 then [false,true,false] else if op=11 then [false,false,false] else [true,true,false]
theorem Qi (n:Nat) (op:Int):vK.f n op=some (kU op,()):=by
 have e:(br (decide (op=4)) (some (Sum.inr (α:=List Bool×Unit) (decide (op=4),()))) (br (decide (op=5)) (some (.inr (decide (op=5),()))) (br (decide (op=6)) (some (.inr (decide (op=6),()))) (some (.inr (decide (op=7),()))))))=some (.inr (j4 op,())):=by
  unfold j4;by_cases h4:op=4
  ·subst h4; rfl
  by_cases h5:op=5
  ·subst h5; rfl
  by_cases h6:op=6
  ·subst h6; rfl
  rw [au h4,au h5,au h6];simp [h4,h5,h6]
 unfold vK.f kU;rw [e];simp only [bg];cases j4 op
 ·simp only [aw,fM,if_false];by_cases h8:op=8
  ·rw [aM h8,if_pos h8]
  rw [au h8,if_neg h8];by_cases ki:op=11
  ·rw [aM ki,if_pos ki]
  rw [au ki,if_neg ki]
 rfl
def Cq (x:Int):Prop:=-1000000≤x∧x≤1000000
structure KJ (x:Instr):Prop where
 op:1≤x.1∧x.1≤11
 a:Cq x.2.1
 b:Cq x.2.2.1
 c:Cq x.2.2.2
 nc:j4 x.1=false→x.2.2.2=0
 na:k9 x.1=false→j4 x.1=false→x.2.1=0
 nb:x.1=11→x.2.2.1=0
theorem Ar {ins outs size:Int} (h:fH ins outs size x=true) (hi:ins≤3) (ho:outs≤3) (hs:size≤24):KJ x:=by
 obtain ⟨op,a,b,c⟩:=x;unfold fH at h;simp only [gF,tok] at h;have key:(1≤op∧op≤11):=by
  by_cases h0:1≤op∧op≤11
  ·exact h0
  grind
 rcases HX key with rfl | rfl | rfl | rfl | rfl | rfl | rfl | rfl | rfl | rfl | rfl<;>
 ·simp (config:={ decide:=true }) only [if_true,if_false,aB,decide_eq_true_eq,or_true,true_or,or_false,false_or] at h;refine ⟨⟨?_,?_⟩,⟨?_,?_⟩,⟨?_,?_⟩,⟨?_,?_⟩,fun hb=>?_,fun ha hb=>?_,fun he=>?_⟩<;>(try dsimp only at *)<;>first | omega | (exfalso; revert hb; decide) | (exfalso; revert ha; decide)
def lX (n:Int):BB:=[32]++aj n
def du (x:Instr):BB:=
 fh x.1++(if k9 x.1 then lX x.2.1++lX x.2.2.1 else if j4 x.1 then lX x.2.1++(lX x.2.2.1++lX x.2.2.2) else if nK x.1 then lX x.2.2.1 else [])
def nr (x:Instr):BB:=if fH 3 3 24 x then du x else []
theorem KL {n:Int} (h:Cq n):(lX n).length≤9:=by have:=fv h.1 h.2;simp only [lX,cY,bh,bP];omega
theorem Qj (h:KJ x):(du x).length≤40:=by
 have h0:=Qh h.op;have ha:=KL h.a;have hb:=KL h.b;have hc:=KL h.c;unfold du
 grind
theorem Xb (x:Instr):(nr x).length≤40:=by
 unfold nr;split
 ·rename_i h; exact Qj (Ar h (by omega) (by omega) (by omega))
 simp
theorem Qk {n:Nat} (hn:1048576<n):uj.f n x=some (nr x,()):=by
 have hm:=iR;unfold uj.f sG.f nr;have hf:=OB n (3,3,ga 24 ((0,0,0,0):Instr)) x ⟨by decide,by decide⟩ ⟨by decide,by decide⟩;rw [af (by omega),hf,aq,aq];have RR:(((3,3,ga 24 ((0,0,0,0):Instr)):Program).2.2.length:Int)=24:=by simp
 rw [RR];cases hk:fH 3 3 24 x
 ·simp only [gT,ax];rfl
 have O:=Ar hk (by omega) (by omega) (by omega);simp only [bo,aw,if_true];have aP:=O.op;have qN:(jy.length:Int)=12:=rfl;rw [Qg,aq];dsimp only;rw [af (by omega),Qi,aq];dsimp only;have ES:(kU x.1).length=3:=by
  unfold kU
  repeat' split
  all_goals rfl
 have sm:∀ i,i<3→Cq ([x.2.1,x.2.2.1,x.2.2.2].getD i 0):=fun i hi=>by
  have:i=0∨i=1∨i=2:=by omega
  rcases this with rfl | rfl | rfl
  ·exact O.a
  ·exact O.b
  exact O.c
 have RI:fh x.1++((bD 3).map fun i=>if (kU x.1).getD i false then lX ([x.2.1,x.2.2.1,x.2.2.2].getD i 0) else []).flatten=du x:=by unfold du;congr 1;show (if (kU x.1).getD 0 false then lX x.2.1 else [])++((if (kU x.1).getD 1 false then lX x.2.2.1 else [])++((if (kU x.1).getD 2 false then lX x.2.2.2 else [])++[]))=_;rcases HX aP with h | h | h | h | h | h | h | h | h | h | h<;>(rw [h]; simp [kU,k9,j4,nK])
 rw [← RI];refine Hv (fun i=>if (kU x.1).getD i false then lX ([x.2.1,x.2.2.1,x.2.2.2].getD i 0) else []) 3 9 (fh x.1) (fun i hi=>?_) (fun t i=>(t,i,[x.2.1,x.2.2.1,x.2.2.2],())) (fun ih i t hi ht=>?_) (fun ih=>?_) (by omega)
 ·split
  ·exact KL (sm i hi)
  simp
 ·have h0:=Qh aP;have hs:=sm i hi;have hl:=fv hs.1 hs.2;simp only [aM (show (i:Int)<3 by omega),az];rw [af (by grind),af (by omega)];cases hu:(kU x.1).getD i false
  ·rw [aw,ba (by omega)];simp
  rw [ax,ka (by grind),sE hn hs.1 hs.2,aq,ka (by grind),ba (by omega)];simp [lX]
 simp only [au (show ¬ ((3:Nat):Int)<3 by omega)]
theorem Et {n:Nat} : iu.f n x=some (nr x,()):=by
 unfold iu.f nr;rw [Vn,aq];cases hk:fH 3 3 24 x
 ·simp only [gT,ax];rfl
 have O:=Ar hk (by omega) (by omega) (by omega);simp only [bo,aw,if_true];have aP:=O.op;have qN:(jy.length:Int)=12:=rfl;have h0:=Qh aP;have ha:=fv O.a.1 O.a.2;have hb:=fv O.b.1 O.b.2;have hc:=fv O.c.1 O.c.2;rw [KI,aq];dsimp only;rw [af (by omega)];show br (k9 x.1) ((dV.f n x.2.1).bind _) _=_;unfold du;have h0':(jy.getD x.1.toNat []).length≤5:=h0;rw [ui O.a.1 O.a.2,ui O.b.1 O.b.2,ui O.c.1 O.c.2];simp only [aq];have L:∀ {m:Nat} {ρ:Type} {y:Option ρ},m≤1000→ab (m<ca) y=y:=fun h=>ka (by omega);cases k9 x.1
 ·cases j4 x.1
  ·cases nK x.1
   ·simp [br,fh]
   simp only [ax,aw,fM,if_false,if_true];rw [L (by grind),L (by grind)];rfl
  simp only [ax,aw,fM,if_false,if_true];rw [L (by grind),L (by grind),L (by grind),L (by grind),L (by grind),L (by grind)];simp only [fh,lX,nR]
 simp only [ax,if_true];rw [L (by grind),L (by grind),L (by grind),L (by grind)];simp only [fh,lX,nR]
end Go.AmT
