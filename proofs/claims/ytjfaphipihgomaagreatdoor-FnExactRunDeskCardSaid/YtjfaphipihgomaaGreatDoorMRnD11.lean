/- Functions of the program, each as a plain Lean function. No condition. -/
import Derived.Test.YtjfaphipihgomaaGreatDoorTxtShelf
import Derived.WalkKit
open Go Go.Am
noncomputable section
set_option linter.unusedVariables false
set_option maxRecDepth 100000
set_option linter.unusedSimpArgs false
open Bool renaming and_eq_true → aw, false_eq_true → fF, not_false → iR, not_true → bf
open Go.IntKind renaming wrap → GB
open Go.Lib renaming decDigits → fP, decDigits_one → pU, itoa → aj
open Go.Proofs.Tryz renaming func256 → GC, ntmps256 → JR, prog → aZ
open Int renaming lt_irrefl → bR, tdiv_eq_ediv_of_nonneg → V5, toNat_natCast → ay
open List renaming append_assoc → lZ, length_append → cg, length_cons → aQ, length_nil → bh, map_cons → mL, mem_of_mem_take → V6, range → bA, replicate → iu, take_length → jj, take_succ_eq_append_getElem → iC
open UInt8 renaming ofNat → dH
namespace Go.AmT
open Go.Proofs Go.Proofs.Tryz
def bX.cE:List (Nat×LA):=[(7,⟨[(0,.int .i64),(3,.str)],[],[],[]⟩)]
def bX.la:LA:=⟨[(0,.int .i64)],[],[],[]⟩
def bX.lb:LA:=⟨[(0,.str)],[],[],[]⟩
def bX.B (n:Nat) (slf:(Int)→Option ((BB)×Unit)) (a0:Int):Option ((BB)×Unit):=br (decide (a0<0)) ((slf (ah (0-a0))).bind fun r2=>ab (([45]:BB).length+r2.1.length<bU) (some (([45]:BB)++r2.1,()))) (iter n (fun jY x5=>br (decide (0<x5.1)) (ab ((([(GB .u8 (ah (48+(x5.1.tmod 10))))]:List Int).map fun n=>dH n.toNat).length+x5.2.1.length<bU) (jY (ah (x5.1.tdiv 10),(([(GB .u8 (ah (48+(x5.1.tmod 10))))]:List Int).map fun n=>dH n.toNat)++x5.2.1,()))) (some (x5.2.1,()))) (ah (a0.tdiv 10),([(GB .u8 (ah (48+(a0.tmod 10))))]:List Int).map fun n=>dH n.toNat,()))
def bX.F (n:Nat):Nat→(Int)→Option ((BB)×Unit)
 | 0=>fun _=>none
 | d+1=>bX.B n (bX.F n d)
def bX.f (n:Nat) (a0:Int):Option ((BB)×Unit):=bX.F n n a0
def bX.oU (n:Nat) (slf:(Int)→Option ((BB)×Unit)):dn:=⟨bX.la,bX.lb,fun x=>slf x.1⟩
def bX.ae (n:Nat):dn:=⟨bX.la,bX.lb,fun x=>bX.f n x.1⟩
def bX.cfg (n:Nat) (slf:(Int)→Option ((BB)×Unit)):ba:=⟨mS,[],[(61,bX.oU n slf)],[]⟩
theorem bX.eq:∀ (n:Nat) (slf:(Int)→Option ((BB)×Unit)) (a0:Int) (mp:Mp),dn.run (bX.cfg n slf) n f61 (fm f61 bX.cE) bX.la bX.lb (a0,mp)=bX.B n slf a0:=by intros;kernel_rfl
theorem bX.aD:dh aZ 61:=eu func61 (by kernel_rfl) (by kernel_rfl)
theorem bX.tg (n:Nat):∀ d,pB aZ 61 (bX.oU n (bX.F n d))
 | 0=>fun _ _ h=>nomatch h
 | d+1=>Fk (fn:=f61) (M:=bX.oU n (bX.F n (d+1))) (c:=bX.cfg n (bX.F n d)) (uz mixed (sU (.of (c:=bX.cfg n (bX.F n d)) trivial) (.of (c:=bX.cfg n (bX.F n d)) ⟨⟨bX.tg n d,bX.aD⟩,trivial⟩)) (eo kC)) (eo kC) func61 (fun x=>(bX.eq n (bX.F n d) x.1 x.2).symm)
theorem bX.sound (n:Nat):pB aZ 61 (bX.ae n):=bX.tg n n
def rP.f (n:Nat) (a0:List Int):Option ((BB)×Unit):=(fE.f n a0).bind fun r1=>br (!r1.1) (some ([],())) (br (decide ((a0.length:Int)=0)) (some ([46],())) (ab ((0:Int)≤0∧0<(a0.length:Int)) ((bX.f n (a0.getD 0 0)).bind fun r2=>ab ((0:Int)≤1∧(1:Int)≤(a0.length:Int)∧(a0.length:Int)≤(a0.length:Int)) (iter n (fun qx x8=>br (decide (x8.2.1<(((a0.take (a0.length:Int).toNat).drop 1).length:Int))) (ab (0≤x8.2.1∧x8.2.1<(((a0.take (a0.length:Int).toNat).drop 1).length:Int)) (let v10:=(((a0.take (a0.length:Int).toNat).drop 1).getD x8.2.1.toNat 0); ab (x8.1.length+([44]:BB).length<bU) ((bX.f n v10).bind fun dT=>ab ((x8.1++([44]:BB)).length+dT.1.length<bU) (qx ((x8.1++([44]:BB))++dT.1,ah (x8.2.1+1),()))))) (some (x8.1,()))) (r2.1,0,())))))
def rP.ae (n:Nat):au:=⟨[.val IS],[.val .str],fun x=>rP.f n x.1⟩
theorem rP.ok (n:Nat):aP 65 (rP.ae n):=aU n [(10,⟨[(3,.str),(19,.int .i64)],[],[17,18],[]⟩)] [] (ai ⟨fE.sound n,fE.aD⟩ aK) (eM ⟨bX.sound n,bX.aD⟩ aL) func65
def dR.f (n:Nat) (a0:Int):Option (BB×Unit):=yB a0
def dR.ae (n:Nat):au:=⟨[.val (.int .i64)],[.val .str],fun x=>dR.f n x.1⟩
theorem dR.aD:dh aZ 164:=eu func164 (by kernel_rfl) (by kernel_rfl)
theorem dR.sound (n:Nat):Sound aZ 164 (dR.ae n):=ab9 (by kernel_rfl) (fun m h0 h1 w ht=>Tryz.strconv_Itoa m h0 h1 w ht)
def nO.f (n:Nat) (a0:List (BB)) (a1:BB):Option (BB×Unit):=FB a0 a1
def nO.ae (n:Nat):au:=⟨[.val (.sl .str),.val .str],[.val .str],fun x=>nO.f n x.1 x.2.1⟩
theorem nO.aD:dh aZ 165:=eu func165 (by kernel_rfl) (by kernel_rfl)
theorem nO.sound (n:Nat):Sound aZ 165 (nO.ae n):=acb Tryz.strings_Join_none Tryz.strings_Join
def lJ.f (n:Nat) (a0:List Int):Option ((BB)×Unit):=(eV.f n a0).bind fun r1=>br (!r1.1) (some ([],())) (br (decide ((a0.length:Int)=0)) (some ([46],())) (iter n (fun yG x7=>br (decide (x7.1<(a0.length:Int))) (ab (0≤x7.1∧x7.1<(a0.length:Int)) ((dR.f n (a0.getD x7.1.toNat 0)).bind fun r9=>ab ((x7.2.1.length+([r9.1]:List (BB)).length)*16≤bo) (yG (ah (x7.1+1),x7.2.1++[r9.1],())))) ((nO.f n x7.2.1 ([44]:BB)).bind fun gv=>some (gv.1,()))) (0,[],())))
def lJ.ae (n:Nat):au:=⟨[.val IS],[.val .str],fun x=>lJ.f n x.1⟩
theorem lJ.ok (n:Nat):aP 173 (lJ.ae n):=aU n [(10,⟨[(3,.own 1000 .str),(15,.int .i64)],[(1000,.row true .str)],[13,14],[]⟩)] [] (ai ⟨eV.sound n,eV.aD⟩ (ai ⟨dR.sound n,dR.aD⟩ (ai ⟨nO.sound n,nO.aD⟩ aK))) aL func173
def zm.f (n:Nat) (a0:List Int):Option ((BB)×Unit):=iter n (fun oI x6=>br (decide (x6.2.1<(a0.length:Int))) (ab (0≤x6.2.1∧x6.2.1<(a0.length:Int)) ((dR.f n (a0.getD x6.2.1.toNat 0)).bind fun r8=>ab (r8.1.length+([32]:BB).length<bU) (ab (x6.1.length+(r8.1++([32]:BB)).length<bU) (oI (x6.1++(r8.1++([32]:BB)),ah (x6.2.1+1),()))))) (some (x6.1,()))) ([],0,())
def zm.ae (n:Nat):au:=⟨[.val IS],[.val .str],fun x=>zm.f n x.1⟩
theorem zm.ok (n:Nat):aP 213 (zm.ae n):=aU n [(4,⟨[(3,.str),(8,.int .i64)],[],[6,7],[]⟩)] [] (ai ⟨dR.sound n,dR.aD⟩ aK) aL func213
end Go.AmT
namespace Go.AmT
variable {v x:Int} {n:Nat}
theorem jq {m:Nat} {ρ:Type} {x:Option ρ} (h:m≤1000000000000):ab (m<bU) x=x:=af (by simp only [bU]; omega)
theorem aen {k:Nat} (h:k<10):dH (GB .u8 (ah (48+(k:Int)))).toNat=dH (48+k):=by
 have c:k=0∨k=1∨k=2∨k=3∨k=4∨k=5∨k=6∨k=7∨k=8∨k=9:=by omega
 rcases c with h | h | h | h | h | h | h | h | h | h<;>(subst h; decide)
theorem V7 (h:0≤v):dH (GB .u8 (ah (48+v.tmod 10))).toNat=dH (48+v.toNat % 10):=by rw [Int.tmod_eq_emod_of_nonneg h,show v % 10=((v.toNat % 10:Nat):Int) by omega];exact aen (by omega)
theorem zn {u:Nat} (h:¬ u<10):fP u=fP (u / 10)++[dH (48+u % 10)]:=by rw [fP,dif_neg h]
theorem w8:∀ (k u:Nat),u<10 ^ (k+1)→(fP u).length≤k+1
 | 0,u,h=>by rw [pU (by simpa using h)]; simp
 | k+1,u,h=>by
  by_cases hu:u<10
  ·rw [pU hu]; simp
  rw [zn hu];rw [Nat.pow_succ] at h;have:=w8 k (u / 10) (by omega);simp;omega
def Bx (v:Int):BB:=if v=0 then [] else fP v.toNat
theorem V8 (h:0≤v):fP v.toNat=Bx (v / 10)++[dH (48+v.toNat % 10)]:=by
 unfold Bx;by_cases hu:v.toNat<10
 ·rw [if_pos (by omega),pU hu,Nat.mod_eq_of_lt hu]; rfl
 rw [if_neg (by omega),zn hu,show (v / 10).toNat=v.toNat / 10 by omega]
theorem aeo (h:0<v):Bx v=Bx (v / 10)++[dH (48+v.toNat % 10)]:=by rw [← V8 (by omega)];unfold Bx;rw [if_neg (by omega)]
theorem V9 {slf:Int→Option (BB×Unit)} (hn:1048576<n) (h0:0≤x) (h1:x≤1000000):W (bX.B n slf x) (fun r=>r.1=fP x.toNat):=by
 unfold bX.B;rw [av (by omega)];have hd:x.tdiv 10=x / 10:=V5 h0;rw [hd,bP (n:=x / 10) (by omega) (by omega)];simp only [mL,List.map_nil];have hL:=w8 6 x.toNat (by omega);refine TA (fun y=>0≤y.1∧y.1≤100000∧Bx y.1++y.2.1=fP x.toNat) (fun y=>y.1.toNat) (fun ih y hy hS=>?_) ⟨by omega,by omega,by rw [V7 h0,V8 h0]⟩ (by show (x / 10).toNat<n; omega);obtain ⟨v,out,⟨⟩⟩:=y;obtain ⟨a0,a1,a2⟩:=hy;simp only at a0 a1 a2;by_cases hv:0<v
 ·simp only [aG hv];have hd:v.tdiv 10=v / 10:=V5 a0;have hl:out.length≤7:=by have:=congrArg List.length a2;rw [cg] at this;omega
  rw [hd,bP (n:=v / 10) (by omega) (by omega),jq (by simp; omega)];refine hS _ ⟨by simp only; omega,by simp only; omega,?_⟩ (by simp only; omega);show Bx (v / 10)++([_]++out)=_;rw [V7 a0,← lZ,← aeo hv,a2]
 simp only [av hv];rw [ak];show out=_;rw [← a2,show v=0 by omega];rfl
theorem fk (h0 : -1000000≤x) (h1:x≤1000000):(aj x).length≤8:=by
 unfold aj;split
 ·have:=w8 6 x.natAbs (by omega);simp;omega
 have:=w8 6 x.toNat (by omega);omega
theorem Wa (h0 : -999999999≤x) (h1:x≤999999999):(aj x).length≤10:=by
 unfold aj;split
 ·have:=w8 8 x.natAbs (by omega);simp;omega
 have:=w8 8 x.toNat (by omega);omega
theorem rQ (hn:1048576<n) (h0 : -1000000≤x) (h1:x≤1000000):bX.f n x=some (aj x,()):=by
 have hL:=fk h0 h1;have:W (bX.f n x) (fun r=>r.1=aj x):=by
  obtain ⟨m,rfl⟩:∃ m,n=m+2:=⟨n-2,by omega⟩
  show W (bX.B (m+2) (bX.F (m+2) (m+1)) x) _;by_cases hx:0≤x
  ·refine bz (V9 hn hx h1) (fun r hr=>?_);rw [hr,aj,if_neg (by omega)]
  unfold bX.B;rw [aG (by omega),bP (n:=0-x) (by omega) (by omega),c8];refine bz (show W (bX.B (m+2) (bX.F (m+2) m) (0-x)) (fun r=>r.1=fP (0-x).toNat) from V9 hn (by omega) (by omega)) (fun r hr=>?_);have hl:=w8 6 (0-x).toNat (by omega);rw [hr,jq (by simp only [aQ,bh]; omega),ak,aj,if_pos (by omega),show (0-x).toNat=x.natAbs by omega];rfl
 obtain ⟨⟨r,⟨⟩⟩,e,h⟩:=this;rw [e];exact congrArg (fun z=>some (z,())) h
theorem ml (h:tok x=true) : -1000000≤x∧x≤1000000:=by simp only [tok,aw,decide_eq_true_eq] at h;omega
def rR (y:Int):BB:=[44]++aj y
def eC:List Int→BB
 | []=>[46]
 | x::r=>aj x++(r.map rR).flatten
def fmtS (s:List Int):BB:=if bS s then eC s else []
theorem j8 {α:Type} (g:α→BB) (B:Nat):∀ (l:List α),(∀ x∈l,(g x).length≤B)→(l.map g).flatten.length≤B*l.length
 | [],_=>by simp
 | x::l,h=>by have h1:=h x (by simp);have h2:=j8 g B l (fun y hy=>h y (by simp [hy]));simp only [mL,List.flatten_cons,cg,aQ,Nat.mul_add];omega
theorem Pf {α:Type} (g:α→BB) (l:List α) (i:Nat) (h:i<l.length):((l.take (i+1)).map g).flatten=((l.take i).map g).flatten++g l[i]:=by rw [iC h];simp only [List.map_append,mL,List.map_nil,List.flatten_append,List.flatten_cons,List.flatten_nil,List.append_nil]
theorem oX {q:List Int} (h:bS q=true):q.length≤400∧∀ x∈q,tok x=true:=by simp only [bS,aw,decide_eq_true_eq,List.all_eq_true] at h;exact h
theorem Pg (h:tok x=true):(rR x).length≤9:=by have:=fk (ml h).1 (ml h).2;unfold rR;simp;omega
theorem DF (s:List Int):(fmtS s).length≤4000:=by
 unfold fmtS;split
 ·rename_i h;obtain ⟨hl,ht⟩:=oX h;cases s with
  | nil=>simp [eC]
  | cons x r=>
   have h1:=fk (ml (ht x (by simp))).1 (ml (ht x (by simp))).2;have h2:=j8 rR 9 r (fun y hy=>Pg (ht y (by simp [hy])));simp only [aQ] at hl;simp only [eC,cg];omega
 simp
theorem Ph {α γ ρ:Type} (g:α→BB) (l:List α) (t0:BB) {F:(γ→Option ρ)→γ→Option ρ} (st:BB→Int→γ) {R:Option ρ}
  (h1:∀ ih (i:Nat),i<l.length→F ih (st (t0++((l.take i).map g).flatten) (i:Int))=ih (st (t0++((l.take (i+1)).map g).flatten) ((i+1:Nat):Int)))
  (h2:∀ ih,F ih (st (t0++(l.map g).flatten) (l.length:Int))=R) {n:Nat} (hn:l.length<n):iter n F (st t0 0)=R:=by
 have:=mc (F:=F) (fun i=>st (t0++((l.take i).map g).flatten) (i:Int)) l.length (R:=R) (fun ih i hi=>h1 ih i hi) (fun ih=>by show F ih (st (t0++((l.take l.length).map g).flatten) (l.length:Int))=R;rw [jj]; exact h2 ih) hn;simpa using this
theorem JT {s:List Int} (hs:s.length≤1048576) (hn:1048576<n):rP.f n s=some (fmtS s,()):=by
 unfold rP.f;rw [wG hs hn,ao];cases hk:bS s
 ·rw [iR,aB]; simp [fmtS,hk]
 obtain ⟨hl,ht⟩:=oX hk;rw [bf,ar];cases s with
 | nil=>simp [br,fmtS,hk,eC]
 | cons x r=>
  have e0:fmtS (x::r)=aj x++(r.map rR).flatten:=by simp [fmtS,hk,eC]
  have t0:=ml (ht x (by simp));have h1:=fk t0.1 t0.2;rw [av (by simp; omega),af (by simp)];have e1:(x::r).getD 0 0=x:=rfl;rw [e1,rQ hn t0.1 t0.2,ao,af (by simp only [aQ]; omega)];have e2:((x::r).take ((x::r).length:Int).toNat).drop 1=r:=by rw [ay,jj]; rfl
  rw [e2,e0];simp only [aQ] at hl;have hm:∀ i,((r.take i).map rR).flatten.length≤3600:=fun i=>by have h2:=j8 rR 9 (r.take i) (fun y hy=>Pg (ht y (by simp [V6 hy])));rw [List.length_take] at h2;have:=Nat.min_le_right i r.length;omega
  refine Ph rR r (aj x) (fun t i=>(t,i,())) (fun ih i hi=>?_) (fun ih=>?_) (by omega)
  ·have ax:(i:Int)<(r.length:Int):=by omega
   simp only [aG ax,ay];have hx:=ht (r.getD i 0) (by rw [aJ hi]; simp);have Wb:=hm i;have hc:=Pg hx;have hi2:=fk (ml hx).1 (ml hx).2;rw [af (by omega),jq (by simp only [cg,aQ,bh]; omega),rQ hn (ml hx).1 (ml hx).2,ao,jq (by simp only [cg,aQ,bh]; omega),a_ (by omega)];rw [Pf rR r i hi,aJ hi];simp only [rR,lZ]
  simp only [av (bR _)]
theorem aep (h0 : -999999999≤x) (h1:x≤999999999):dR.f n x=some (aj x,()):=by unfold dR.f yB;rw [if_pos (by omega)];rfl
theorem tj (h0 : -1000000≤x) (h1:x≤1000000):dR.f n x=some (aj x,()):=by unfold dR.f yB;rw [if_pos (by omega)];rfl
theorem Pj {xs:List (BB)} {sep:BB} (h0:xs.length≤1000000) (h1:(Lib.join xs sep).length≤1000000):nO.f n xs sep=some (Lib.join xs sep,()):=by unfold nO.f FB;rw [if_pos (by omega)];rfl
theorem aeq (x:Int) (r:List Int):Lib.join ((x::r).map aj) [44]=eC (x::r):=by rw [mL,Lib.join_cons,Lib.joinTail,List.map_map];rfl
theorem JU {s:List Int} (hs:s.length≤1048576) (hn:1048576<n):lJ.f n s=some (fmtS s,()):=by
 have hB:=iD;unfold lJ.f;rw [uD hs hn,ao];cases hk:bS s
 ·rw [iR,aB]; simp [fmtS,hk]
 obtain ⟨hl,ht⟩:=oX hk;rw [bf,ar];cases s with
 | nil=>simp [br,fmtS,hk,eC]
 | cons x r=>
  rw [av (by simp; omega)];have e0:fmtS (x::r)=Lib.join ((x::r).map aj) [44]:=by rw [aeq]; simp [fmtS,hk]
  have hf:=DF (x::r);rw [e0] at hf;refine uL (x::r) aj (fun i l=>(i,l,())) (fun ih i hi l oY=>?_) (fun ih=>?_) (by omega)
  ·have ax:(i:Int)<((x::r).length:Int):=by omega
   have hx:=ml (ht (x::r)[i] (List.getElem_mem _));simp only [aG ax,ay];rw [af (by omega),aJ hi,tj hx.1 hx.2,ao,af (by simp only [aQ,bh]; omega),a_ (by omega)]
  simp only [av (bR _)];rw [Pj (by rw [List.length_map]; omega) (by omega),ao,e0]
theorem GD {γ ρ:Type} (g:Nat→BB) (len B:Nat) (t0:BB) (hB:∀ i,i<len→(g i).length≤B) {F:(γ→Option ρ)→γ→Option ρ} (st:BB→Int→γ) {R:Option ρ}
  (h1:∀ ih (i:Nat) (t:BB),i<len→t.length≤t0.length+B*i→F ih (st t (i:Int))=ih (st (t++g i) ((i+1:Nat):Int)))
  (h2:∀ ih,F ih (st (t0++((bA len).map g).flatten) (len:Int))=R) {n:Nat} (hn:len<n):iter n F (st t0 0)=R:=by
 have hl:∀ i,i≤len→((bA i).map g).flatten.length≤B*i:=fun i hi=>by have:=j8 g B (bA i) (fun x hx=>hB x (by have:=List.mem_range.1 hx; omega));rwa [List.length_range] at this
 have:=mc (F:=F) (fun i=>st (t0++((bA i).map g).flatten) (i:Int)) len (R:=R) (fun ih i hi=>by show F ih (st (t0++((bA i).map g).flatten) (i:Int))=_;rw [h1 ih i _ hi (by have:=hl i (by omega); simp only [cg]; omega),List.range_succ];simp) (fun ih=>h2 ih) hn;simpa using this
theorem aer {α β γ ρ:Type} (l:List α) (g:α→β) (s0:List β) (st:Int→List β→γ) {F:(γ→Option ρ)→γ→Option ρ} {R:Option ρ}
  (h1:∀ ih i (hi:i<l.length) (s:List β),s.length=s0.length+i→F ih (st i s)=ih (st ((i+1:Nat):Int) (s++[g l[i]])))
  (h2:∀ ih,F ih (st l.length (s0++l.map g))=R) {n:Nat} (hn:l.length<n):iter n F (st 0 s0)=R:=by
 have:=mc (F:=F) (fun i=>st (i:Int) (s0++(l.take i).map g)) l.length (R:=R) (fun ih i hi=>by
  show F ih (st (i:Int) (s0++(l.take i).map g))=_;rw [h1 ih i hi _ (by simp; omega),iC hi,List.map_append,lZ]; rfl) (fun ih=>by
  show F ih (st (l.length:Int) _)=_;rw [jj]; exact h2 ih) hn
 simpa using this
theorem aes {a b c d:Int} (hn:1048576<n) (ha : -1000000≤a∧a≤1000000) (hb : -1000000≤b∧b≤1000000) (hc : -1000000≤c∧c≤1000000) (hd : -1000000≤d∧d≤1000000) :
  zm.f n [a,b,c,d]=some (aj a++[32]++(aj b++[32])++(aj c++[32])++(aj d++[32]),()):=by
 have la:=fk ha.1 ha.2;have lb:=fk hb.1 hb.2;have lc:=fk hc.1 hc.2;have ld:=fk hd.1 hd.2;unfold zm.f;have e:aj a++[32]++(aj b++[32])++(aj c++[32])++(aj d++[32])=[]++(([a,b,c,d]:List Int).map fun y=>aj y++[32]).flatten:=by simp
 rw [e];have cI:∀ i,i<4→∃ y,([a,b,c,d]:List Int).getD i 0=y∧-1000000≤y∧y≤1000000:=fun i hi=>by
  have:i=0∨i=1∨i=2∨i=3:=by omega
  rcases this with rfl | rfl | rfl | rfl
  ·exact ⟨a,rfl,ha⟩
  ·exact ⟨b,rfl,hb⟩
  ·exact ⟨c,rfl,hc⟩
  exact ⟨d,rfl,hd⟩
 have hm:∀ i,((([a,b,c,d]:List Int).take i).map fun y=>aj y++[32]).flatten.length≤36:=fun i=>by have h1:=j8 (fun y=>aj y++[32]) 9 (([a,b,c,d]:List Int).take i) (fun y hy=>by have hy:=V6 hy;simp only [List.mem_cons,List.not_mem_nil,or_false] at hy;rcases hy with rfl | rfl | rfl | rfl<;>(simp only [cg,aQ,bh]; omega));have h4:([a,b,c,d]:List Int).length=4:=rfl;rw [List.length_take,h4] at h1;omega
 refine Ph (fun y=>aj y++[32]) [a,b,c,d] [] (fun t i=>(t,i,())) (fun ih i hi=>?_) (fun ih=>?_) (by simp; omega)
 ·simp only [aQ,bh] at hi;obtain ⟨y,hy,h0,h1⟩:=cI i (by omega);have Wb:=hm i;have hyl:=fk h0 h1;have ax:(i:Int)<(([a,b,c,d]:List Int).length:Int):=by simp only [aQ,bh]; omega
  simp only [aG ax,ay];rw [af (by simp only [aQ,bh]; omega),hy,tj h0 h1,ao,jq (by simp only [aQ,bh]; omega),jq (by simp only [cg,aQ,bh]; omega),a_ (by omega)];rw [Pf (fun y=>aj y++[32]) [a,b,c,d] i (by simp; omega)];have:([a,b,c,d]:List Int)[i]'(by simp; omega)=y:=by rw [← hy,aJ (by simp; omega)]
  rw [this];simp only [List.nil_append]
 simp only [av (bR _)]
theorem JV {α:Type} {P:α→Prop} {l:List α} {x:α} (h:∀ a∈l,P a) (hx:P x):∀ a∈l++[x],P a:=by
 intro a ha;rcases List.mem_append.1 ha with ha | ha
 ·exact h a ha
 rw [List.mem_singleton.1 ha]; exact hx
end Go.AmT
namespace Go.AmT
open Go.Proofs Go.Proofs.Tryz
def w9.f (n:Nat)  : Option (List (BB)×Unit):=some ([[],[114,101,97,100],[119,114,105,116,101],[115,101,116],[97,100,100],[115,117,98],[109,117,108],[114,101,115,116],[106,117,109,112],[122,101,114,111],[98,101,108,111,119],[104,97,108,116]],())
def w9.ae (n:Nat):au:=⟨[],[.val (.sl .str)],fun x=>w9.f n ⟩
theorem w9.ok (n:Nat):aP 242 (w9.ae n):=aU n [] [] aK aL func242
def u5.f (n:Nat) (a0:Int):Option (List Bool×Unit):=cut (br (decide (a0=4)) (some (.inr (decide (a0=4),()))) (br (decide (a0=5)) (some (.inr (decide (a0=5),()))) (br (decide (a0=6)) (some (.inr (decide (a0=6),()))) (some (.inr (decide (a0=7),())))))) fun y1=>br y1.1 (some ([true,true,true],())) (br (decide (a0=8)) (some ([false,true,false],())) (br (decide (a0=11)) (some ([false,false,false],())) (some ([true,true,false],()))))
def u5.ae (n:Nat):au:=⟨[.val I],[.val (.sl .bool)],fun x=>u5.f n x.1⟩
theorem u5.ok (n:Nat):aP 243 (u5.ae n):=aU n [(4,⟨[(4,.bool)],[],[3],[]⟩)] [] aK aL func243
def rS.f (n:Nat) (a0:Instr):Option (Bool×Unit):=ab (24=24∧0≤24∧24*(32:Int)≤(bo:Int)) ((l8.f n (3,3,iu 24 ((0,0,0,0):Instr)) a0).bind fun r1=>some (r1.1,()))
def rS.ae (n:Nat):au:=⟨[.val dO],[.val .bool],fun x=>rS.f n x.1⟩
theorem rS.ok (n:Nat):aP 244 (rS.ae n):=aU n [] [] (ai ⟨l8.sound n,l8.aD⟩ aK) aL func244
def tl.f (n:Nat) (a0:Instr):Option ((BB)×Unit):=(rS.f n a0).bind fun r1=>br (!r1.1) (some ([],())) ((w9.f n ).bind fun r2=>ab (0≤a0.1∧a0.1<(r2.1.length:Int)) ((u5.f n a0.1).bind fun r3=>iter n (fun nH bO=>br (decide (bO.2.1<3)) (ab (0≤bO.2.1∧bO.2.1<(bO.2.2.1.length:Int)) (ab (0≤bO.2.1∧bO.2.1<(r3.1.length:Int)) (br (r3.1.getD bO.2.1.toNat false) (ab (bO.1.length+([32]:BB).length<bU) ((bX.f n (bO.2.2.1.getD bO.2.1.toNat 0)).bind fun fh=>ab ((bO.1++([32]:BB)).length+fh.1.length<bU) (nH ((bO.1++([32]:BB))++fh.1,ah (bO.2.1+1),bO.2.2.1,())))) (nH (bO.1,ah (bO.2.1+1),bO.2.2.1,()))))) (some (bO.1,()))) (r2.1.getD a0.1.toNat [],0,[a0.2.1,a0.2.2.1,a0.2.2.2],())))
def tl.ae (n:Nat):au:=⟨[.val dO],[.val .str],fun x=>tl.f n x.1⟩
theorem tl.ok (n:Nat):aP 245 (tl.ae n):=aU n [(8,⟨[(3,.str),(24,.own 1000 I),(26,.int .i64)],[(1000,.row true I)],[4,25],[]⟩)] [] (ai (rS.ok n) (ai (w9.ok n) (ai (u5.ok n) aK))) (eM ⟨bX.sound n,bX.aD⟩ aL) func245
def tn.f (n:Nat)  : Option (List (BB)×Unit):=some ([[],[114,101,97,100],[119,114,105,116,101],[115,101,116],[97,100,100],[115,117,98],[109,117,108],[114,101,115,116],[106,117,109,112],[122,101,114,111],[98,101,108,111,119],[104,97,108,116]],())
def tn.ae (n:Nat):au:=⟨[],[.val (.sl .str)],fun x=>tn.f n ⟩
theorem tn.ok (n:Nat):aP 255 (tn.ae n):=aU n [] [] aK aL func255
theorem GF.aD:dh aZ 256:=eu GC (by kernel_rfl) (by kernel_rfl)
theorem GF.Wc:IF aZ 256:={
 a:=fun w b o op hc h=>by
  simp only [kQ,decide_eq_true_eq] at h;rcases h with rfl | rfl | rfl | rfl | rfl<;>
  ·go_enter GC,JR
   go_wp2
   go_region
   go_wp2
   go_ret
   exact ⟨rfl,219,rfl,rfl,rfl,rfl⟩
 b:=fun w b o op hc h=>by
  simp only [jT,decide_eq_true_eq] at h;rcases h with rfl | rfl | rfl | rfl<;>
  ·go_enter GC,JR
   go_wp2
   go_region
   go_wp2
   go_ret
   exact ⟨rfl,219,rfl,rfl,rfl,rfl⟩
 c:=fun w b o op hc h=>by
  simp only [np,decide_eq_true_eq] at h;subst h
  ·go_enter GC,JR
   go_wp2
   go_ret
   exact ⟨rfl,219,rfl,rfl,rfl,rfl⟩
 n:=fun w b o op hc h h' x_=>by
  simp only [kQ,jT,np,decide_eq_false_iff_not,not_or] at h h' x_;obtain ⟨h1,h2,h3,h9,kr⟩:=h;obtain ⟨h4,h5,h6,h7⟩:=h'
  go_enter GC,JR
  go_wp2
  go_ret
  exact ⟨rfl,rfl⟩ }
def g_.cE:List (Nat×LA):=[(500007,⟨[],[],[],[]⟩)]
def g_.f (n:Nat) (a0:Instr):Option ((BB)×Unit):=(lB.f n a0 3 3 24).bind fun r1=>br (!r1.1) (some ([],())) ((tn.f n ).bind fun r2=>ab (0≤a0.1∧a0.1<(r2.1.length:Int)) (br (kQ a0.1) ((dR.f n a0.2.1).bind fun r3=>ab (([32]:BB).length+r3.1.length<bU) (ab ((r2.1.getD a0.1.toNat []).length+(([32]:BB)++r3.1).length<bU) ((dR.f n a0.2.2.1).bind fun r4=>ab (([32]:BB).length+r4.1.length<bU) (ab (((r2.1.getD a0.1.toNat [])++(([32]:BB)++r3.1)).length+(([32]:BB)++r4.1).length<bU) (some (((r2.1.getD a0.1.toNat [])++(([32]:BB)++r3.1))++(([32]:BB)++r4.1),())))))) (br (jT a0.1) ((dR.f n a0.2.1).bind fun r5=>ab (([32]:BB).length+r5.1.length<bU) (ab ((r2.1.getD a0.1.toNat []).length+(([32]:BB)++r5.1).length<bU) ((dR.f n a0.2.2.1).bind fun r6=>ab (([32]:BB).length+r6.1.length<bU) (ab (((r2.1.getD a0.1.toNat [])++(([32]:BB)++r5.1)).length+(([32]:BB)++r6.1).length<bU) ((dR.f n a0.2.2.2).bind fun r7=>ab (([32]:BB).length+r7.1.length<bU) (ab ((((r2.1.getD a0.1.toNat [])++(([32]:BB)++r5.1))++(([32]:BB)++r6.1)).length+(([32]:BB)++r7.1).length<bU) (some ((((r2.1.getD a0.1.toNat [])++(([32]:BB)++r5.1))++(([32]:BB)++r6.1))++(([32]:BB)++r7.1),())))))))) (br (np a0.1) ((dR.f n a0.2.2.1).bind fun r8=>ab (([32]:BB).length+r8.1.length<bU) (ab ((r2.1.getD a0.1.toNat []).length+(([32]:BB)++r8.1).length<bU) (some ((r2.1.getD a0.1.toNat [])++(([32]:BB)++r8.1),())))) (some (r2.1.getD a0.1.toNat [],()))))))
def g_.ae (n:Nat):au:=⟨[.val dO],[.val .str],fun x=>g_.f n x.1⟩
def g_.cfg (n:Nat):ba:=⟨mS,[(250,lB.ae n),(255,tn.ae n),(164,dR.ae n)],[],[3000256]⟩
theorem g_.eq:∀ (n:Nat) (a0:Instr),AA (g_.cfg n) n f257 (fm f257 g_.cE) [.val dO] [.val .str] (a0,())=g_.f n a0:=by intros;kernel_rfl
theorem g_.aD:dh aZ 257:=eu func257 (by kernel_rfl) (by kernel_rfl)
theorem g_.sound (n:Nat):Sound aZ 257 (g_.ae n):=Ix (fn:=f257) (m:=g_.ae n) (c:=g_.cfg n) (uz mixed (sU (.of (c:=g_.cfg n) ⟨⟨lB.sound n,lB.aD⟩,⟨tn.ok n,⟨⟨dR.sound n,dR.aD⟩,trivial⟩⟩⟩ (SQ (f:=256) rfl GF.Wc GF.aD)) (.of (c:=g_.cfg n) trivial)) (eo kC)) (eo kC) func257 (fun x=>(g_.eq n x.1).symm)
end Go.AmT
namespace Go.AmT
variable {x:Instr}
def jr:List (BB):=[[],[114,101,97,100],[119,114,105,116,101],[115,101,116],[97,100,100],[115,117,98],[109,117,108],[114,101,115,116],[106,117,109,112],[122,101,114,111],[98,101,108,111,119],[104,97,108,116]]
theorem Pl (n:Nat):w9.f n=some (jr,()):=rfl
theorem JW (n:Nat):tn.f n=some (jr,()):=rfl
def e_ (op:Int):BB:=jr.getD op.toNat []
theorem GG {op:Int} (h:1≤op∧op≤11):op=1∨op=2∨op=3∨op=4∨op=5∨op=6∨op=7∨op=8∨op=9∨op=10∨op=11:=by omega
theorem Pm {op:Int} (h:1≤op∧op≤11):(e_ op).length≤5:=by rcases GG h with rfl | rfl | rfl | rfl | rfl | rfl | rfl | rfl | rfl | rfl | rfl<;>decide
def kL (op:Int):List Bool:=if jT op then [true,true,true] else if op=8 then [false,true,false] else if op=11 then [false,false,false] else [true,true,false]
theorem Pn (n:Nat) (op:Int):u5.f n op=some (kL op,()):=by
 have e:(br (decide (op=4)) (some (Sum.inr (α:=List Bool×Unit) (decide (op=4),()))) (br (decide (op=5)) (some (.inr (decide (op=5),()))) (br (decide (op=6)) (some (.inr (decide (op=6),()))) (some (.inr (decide (op=7),()))))))=some (.inr (jT op,())):=by
  unfold jT;by_cases h4:op=4
  ·subst h4; rfl
  by_cases h5:op=5
  ·subst h5; rfl
  by_cases h6:op=6
  ·subst h6; rfl
  rw [av h4,av h5,av h6];simp [h4,h5,h6]
 unfold u5.f kL;rw [e];simp only [aY];cases jT op
 ·simp only [ar,fF,if_false];by_cases h8:op=8
  ·rw [aG h8,if_pos h8]
  rw [av h8,if_neg h8];by_cases jG:op=11
  ·rw [aG jG,if_pos jG]
  rw [av jG,if_neg jG]
 rfl
def By (x:Int):Prop:=-1000000≤x∧x≤1000000
structure JX (x:Instr):Prop where
 op:1≤x.1∧x.1≤11
 a:By x.2.1
 b:By x.2.2.1
 c:By x.2.2.2
 nc:jT x.1=false→x.2.2.2=0
 na:kQ x.1=false→jT x.1=false→x.2.1=0
 nb:x.1=11→x.2.2.1=0
theorem zp {ins outs size:Int} (h:fy ins outs size x=true) (hi:ins≤3) (ho:outs≤3) (hs:size≤24):JX x:=by
 obtain ⟨op,a,b,c⟩:=x;unfold fy at h;simp only [gz,tok] at h;have key:(1≤op∧op≤11):=by
  by_cases h0:1≤op∧op≤11
  ·exact h0
  exfalso;rw [if_neg (by omega),if_neg (by omega),if_neg (by omega),if_neg (by omega),if_neg (by omega),if_neg (by omega),if_neg (by omega)] at h;cases h
 rcases GG key with rfl | rfl | rfl | rfl | rfl | rfl | rfl | rfl | rfl | rfl | rfl<;>
 ·simp (config:={ decide:=true }) only [if_true,if_false,aw,decide_eq_true_eq,or_true,true_or,or_false,false_or] at h;refine ⟨⟨?_,?_⟩,⟨?_,?_⟩,⟨?_,?_⟩,⟨?_,?_⟩,fun hb=>?_,fun ha hb=>?_,fun he=>?_⟩<;>(try dsimp only at *)<;>first | omega | (exfalso; revert hb; decide) | (exfalso; revert ha; decide)
def lK (n:Int):BB:=[32]++aj n
def de (x:Instr):BB:=
 e_ x.1++(if kQ x.1 then lK x.2.1++lK x.2.2.1 else if jT x.1 then lK x.2.1++(lK x.2.2.1++lK x.2.2.2) else if np x.1 then lK x.2.2.1 else [])
def m_ (x:Instr):BB:=if fy 3 3 24 x then de x else []
theorem JY {n:Int} (h:By n):(lK n).length≤9:=by have:=fk h.1 h.2;simp only [lK,cg,aQ,bh];omega
theorem Po (h:JX x):(de x).length≤40:=by
 have h0:=Pm h.op;have ha:=JY h.a;have hb:=JY h.b;have hc:=JY h.c;unfold de;rw [cg];split
 ·rw [cg]; omega
 split
 ·rw [cg,cg]; omega
 split
 ·omega
 simp only [bh]; omega
theorem Wd (x:Instr):(m_ x).length≤40:=by
 unfold m_;split
 ·rename_i h; exact Po (zp h (by omega) (by omega) (by omega))
 simp
theorem Pp {n:Nat} (hn:1048576<n):tl.f n x=some (m_ x,()):=by
 have hm:=iD;unfold tl.f rS.f m_;have hf:=NK n (3,3,iu 24 ((0,0,0,0):Instr)) x ⟨by decide,by decide⟩ ⟨by decide,by decide⟩;rw [af (by refine ⟨rfl,?_⟩; omega),hf,ao,ao];have Pq:(((3,3,iu 24 ((0,0,0,0):Instr)):Program).2.2.length:Int)=24:=by simp
 rw [Pq];cases hk:fy 3 3 24 x
 ·simp only [iR,aB];rfl
 have O:=zp hk (by omega) (by omega) (by omega);simp only [bf,ar,if_true];have aH:=O.op;have mm:(jr.length:Int)=12:=rfl;rw [Pl,ao];dsimp only;rw [af (by rw [mm]; omega),Pn,ao];dsimp only;have Bz:(kL x.1).length=3:=by
  unfold kL
  repeat' split
  all_goals rfl
 have sm:∀ i,i<3→By ([x.2.1,x.2.2.1,x.2.2.2].getD i 0):=fun i hi=>by
  have:i=0∨i=1∨i=2:=by omega
  rcases this with rfl | rfl | rfl
  ·exact O.a
  ·exact O.b
  exact O.c
 have NP:e_ x.1++((bA 3).map fun i=>if (kL x.1).getD i false then lK ([x.2.1,x.2.2.1,x.2.2.2].getD i 0) else []).flatten=de x:=by unfold de;congr 1;show (if (kL x.1).getD 0 false then lK x.2.1 else [])++((if (kL x.1).getD 1 false then lK x.2.2.1 else [])++((if (kL x.1).getD 2 false then lK x.2.2.2 else [])++[]))=_;rcases GG aH with h | h | h | h | h | h | h | h | h | h | h<;>(rw [h]; simp [kL,kQ,jT,np])
 rw [← NP];refine GD (fun i=>if (kL x.1).getD i false then lK ([x.2.1,x.2.2.1,x.2.2.2].getD i 0) else []) 3 9 (e_ x.1) (fun i hi=>?_) (fun t i=>(t,i,[x.2.1,x.2.2.1,x.2.2.2],())) (fun ih i t hi ht=>?_) (fun ih=>?_) (by omega)
 ·split
  ·exact JY (sm i hi)
  simp
 ·have h0:=Pm aH;have hs:=sm i hi;have hl:=fk hs.1 hs.2;simp only [aG (show (i:Int)<3 by omega),ay];rw [af (by simp only [aQ,bh]; omega),af (by rw [Bz]; omega)];cases hu:(kL x.1).getD i false
  ·rw [ar,a_ (by omega)];simp
  rw [aB,jq (by simp only [aQ,bh]; omega),rQ hn hs.1 hs.2,ao,jq (by simp only [cg,aQ,bh]; omega),a_ (by omega)];simp [lK]
 simp only [av (show ¬ ((3:Nat):Int)<3 by omega)]
theorem DG {n:Nat} : g_.f n x=some (m_ x,()):=by
 unfold g_.f m_;rw [Uo,ao];cases hk:fy 3 3 24 x
 ·simp only [iR,aB];rfl
 have O:=zp hk (by omega) (by omega) (by omega);simp only [bf,ar,if_true];have aH:=O.op;have mm:(jr.length:Int)=12:=rfl;have h0:=Pm aH;have ha:=fk O.a.1 O.a.2;have hb:=fk O.b.1 O.b.2;have hc:=fk O.c.1 O.c.2;rw [JW,ao];dsimp only;rw [af (by rw [mm]; omega)];show br (kQ x.1) ((dR.f n x.2.1).bind _) _=_;unfold de;have h0':(jr.getD x.1.toNat []).length≤5:=h0;rw [tj O.a.1 O.a.2,tj O.b.1 O.b.2,tj O.c.1 O.c.2];simp only [ao];have L:∀ {m:Nat} {ρ:Type} {y:Option ρ},m≤1000→ab (m<bU) y=y:=fun h=>jq (by omega);cases kQ x.1
 ·cases jT x.1
  ·cases np x.1
   ·simp [br,e_]
   simp only [aB,ar,fF,if_false,if_true];rw [L (by simp only [aQ,bh]; omega),L (by simp only [cg,aQ,bh]; omega)];rfl
  simp only [aB,ar,fF,if_false,if_true];rw [L (by simp only [aQ,bh]; omega),L (by simp only [cg,aQ,bh]; omega),L (by simp only [aQ,bh]; omega),L (by simp only [cg,aQ,bh]; omega),L (by simp only [aQ,bh]; omega),L (by simp only [cg,aQ,bh]; omega)];simp only [e_,lK,lZ]
 simp only [aB,if_true];rw [L (by simp only [aQ,bh]; omega),L (by simp only [cg,aQ,bh]; omega),L (by simp only [aQ,bh]; omega),L (by simp only [cg,aQ,bh]; omega)];simp only [e_,lK,lZ]
end Go.AmT
