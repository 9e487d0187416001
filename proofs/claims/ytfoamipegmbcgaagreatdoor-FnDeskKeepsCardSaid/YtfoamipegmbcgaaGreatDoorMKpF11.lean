/- Functions that the law FnDeskKeeps reaches, each as a plain Lean function, and that each does what that says. No condition. -/
import Derived.Test.YtfoamipegmbcgaaGreatDoorMKpF1
import Derived.Test.YtfoamipegmbcgaaGreatDoorMKpF2
import Derived.Test.YtfoamipegmbcgaaGreatDoorAmE
import Derived.Test.YtfoamipegmbcgaaGreatDoorTxtShelf
import Derived.WalkKit
namespace Go.AmT
noncomputable section
open Go Go.Am Go.Proofs
set_option linter.unusedVariables false
set_option maxRecDepth 100000
def bw.bY:List (Nat×LA):=[(7,⟨[(0,.int .i64),(3,.str)],[],[],[]⟩)]
def bw.la:LA:=⟨[(0,.int .i64)],[],[],[]⟩
def bw.lb:LA:=⟨[(0,.str)],[],[],[]⟩
def bw.B (n:Nat) (slf:(Int)→Option ((List UInt8)×Unit)) (a0:Int):Option ((List UInt8)×Unit):=br (decide (a0<0)) ((slf (ag (0-a0))).bind fun r2=>ab (([45]:List UInt8).length+r2.1.length<aU) (some ((([45]:List UInt8)++r2.1),()))) (iter (α:=(Int×(List UInt8)×Unit)) n (fun gP x5=>br (decide (0<x5.1)) (ab ((([(IntKind.wrap .u8 ((ag (48+(x5.1.tmod 10)))))]:List Int).map fun n=>UInt8.ofNat n.toNat).length+x5.2.1.length<aU) (gP ((ag (x5.1.tdiv 10)),(((([(IntKind.wrap .u8 ((ag (48+(x5.1.tmod 10)))))]:List Int).map fun n=>UInt8.ofNat n.toNat)++x5.2.1),())))) (some (x5.2.1,()))) ((ag (a0.tdiv 10)),((([(IntKind.wrap .u8 ((ag (48+(a0.tmod 10)))))]:List Int).map fun n=>UInt8.ofNat n.toNat),())))
def bw.F (n:Nat):Nat→(Int)→Option ((List UInt8)×Unit)
 | 0=>fun _=>none
 | d+1=>bw.B n (bw.F n d)
def bw.f (n:Nat) (a0:Int):Option ((List UInt8)×Unit):=bw.F n n a0
def bw.xm (n:Nat) (slf:(Int)→Option ((List UInt8)×Unit)):bS:=⟨bw.la,bw.lb,fun x=>slf x.1⟩
def bw.ae (n:Nat):bS:=⟨bw.la,bw.lb,fun x=>bw.f n x.1⟩
def bw.cfg (n:Nat) (slf:(Int)→Option ((List UInt8)×Unit)):aP:=⟨ly,[],[(33,bw.xm n slf)],[]⟩
theorem bw.eq:∀ (n:Nat) (slf:(Int)→Option ((List UInt8)×Unit)) (a0:Int) (mp:Mp),bS.run (bw.cfg n slf) n Tryz.f33 (d_ Tryz.f33 bw.bY) bw.la bw.lb (a0,mp)=bw.B n slf a0:=by
 intros
 kernel_rfl
theorem bw.az:cG Tryz.prog 33:=dz Tryz.func33 (by kernel_rfl) (by kernel_rfl)
theorem bw.B_ (n:Nat):∀ d,qB Tryz.prog 33 (bw.xm n (bw.F n d))
 | 0=>fun _ _ h=>nomatch h
 | d+1=>Gx (fn:=Tryz.f33) (M:=bw.xm n (bw.F n (d+1))) (c:=bw.cfg n (bw.F n d)) (uw mixed (su (.of (c:=bw.cfg n (bw.F n d)) trivial) (.of (c:=bw.cfg n (bw.F n d)) ⟨⟨bw.B_ n d,bw.az⟩,trivial⟩)) (dM km)) (dM km) Tryz.func33 (fun x=>(bw.eq n (bw.F n d) x.1 x.2).symm)
theorem bw.sound (n:Nat):qB Tryz.prog 33 (bw.ae n):=bw.B_ n n
def mI.f (n:Nat) (a0:List Int):Option ((List UInt8)×Unit):=(fP.f n a0).bind fun r1=>br (!r1.1) (some ([],())) (br (decide ((a0.length:Int)=0)) (some ([46],())) (ab ((0:Int)≤0∧(0:Int)<(a0.length:Int)) ((bw.f n (a0.getD 0 0)).bind fun r2=>ab ((0:Int)≤1∧(1:Int)≤(a0.length:Int)∧(a0.length:Int)≤(a0.length:Int)) (iter (α:=((List UInt8)×(Int×Unit))) n (fun pA x8=>br (decide (x8.2.1<(((a0.take (a0.length:Int).toNat).drop 1).length:Int))) (ab (0≤x8.2.1∧x8.2.1<(((a0.take (a0.length:Int).toNat).drop 1).length:Int)) (let v10:=(((a0.take (a0.length:Int).toNat).drop 1).getD x8.2.1.toNat 0); ab (x8.1.length+([44]:List UInt8).length<aU) ((bw.f n v10).bind fun dA=>ab ((x8.1++([44]:List UInt8)).length+dA.1.length<aU) (pA (((x8.1++([44]:List UInt8))++dA.1),((ag (x8.2.1+1)),())))))) (some (x8.1,()))) (r2.1,(0,()))))))
def mI.ae (n:Nat):ar:=⟨[.val IS],[.val .str],fun x=>mI.f n x.1⟩
theorem mI.ok (n:Nat):aN 34 (mI.ae n):=aQ n [(10,⟨[(3,.str),(19,.int .i64)],[],[17,18],[]⟩)] [] (ak ⟨fP.sound n,fP.az⟩ aC) (bA ⟨bw.sound n,bw.az⟩ aD) Tryz.func34
def cY.f (n:Nat) (a0:Int):Option (List UInt8×Unit):=uA a0
def cY.ae (n:Nat):ar:=⟨[.val (.int .i64)],[.val .str],fun x=>cY.f n x.1⟩
theorem cY.az:cG Tryz.prog 50:=dz Tryz.func50 (by kernel_rfl) (by kernel_rfl)
theorem cY.sound (n:Nat):Sound Tryz.prog 50 (cY.ae n):=T5 (by kernel_rfl) (fun m h0 h1 w ht=>Tryz.strconv_Itoa m h0 h1 w ht)
def kO.f (n:Nat) (a0:List (List UInt8)) (a1:List UInt8):Option (List UInt8×Unit):=Bo a0 a1
def kO.ae (n:Nat):ar:=⟨[.val (.sl .str),.val .str],[.val .str],fun x=>kO.f n x.1 x.2.1⟩
theorem kO.az:cG Tryz.prog 51:=dz Tryz.func51 (by kernel_rfl) (by kernel_rfl)
theorem kO.sound (n:Nat):Sound Tryz.prog 51 (kO.ae n):=T7 Tryz.strings_Join_none Tryz.strings_Join
def jx.f (n:Nat) (a0:List Int):Option ((List UInt8)×Unit):=(dG.f n a0).bind fun r1=>br (!r1.1) (some ([],())) (br (decide ((a0.length:Int)=0)) (some ([46],())) (iter (α:=(Int×(List (List UInt8))×Unit)) n (fun HC x7=>br (decide (x7.1<(a0.length:Int))) (ab (0≤x7.1∧x7.1<(a0.length:Int)) ((cY.f n (a0.getD x7.1.toNat 0)).bind fun r9=>ab ((x7.2.1.length+([r9.1]:List (List UInt8)).length)*16≤aW) (HC ((ag (x7.1+1)),((x7.2.1++[r9.1]),()))))) ((kO.f n x7.2.1 ([44]:List UInt8)).bind fun cH=>some (cH.1,()))) (0,([],()))))
def jx.ae (n:Nat):ar:=⟨[.val IS],[.val .str],fun x=>jx.f n x.1⟩
theorem jx.ok (n:Nat):aN 18 (jx.ae n):=aQ n [(10,⟨[(3,.own 1000 .str),(15,.int .i64)],[(1000,.row true .str)],[13,14],[]⟩)] [] (ak ⟨dG.sound n,dG.az⟩ (ak ⟨cY.sound n,cY.az⟩ (ak ⟨kO.sound n,kO.az⟩ aC))) aD Tryz.func18
def vb.f (n:Nat) (a0:List Int):Option ((List UInt8)×Unit):=iter (α:=((List UInt8)×(Int×Unit))) n (fun lA x6=>br (decide (x6.2.1<(a0.length:Int))) (ab (0≤x6.2.1∧x6.2.1<(a0.length:Int)) ((cY.f n (a0.getD x6.2.1.toNat 0)).bind fun r8=>ab (r8.1.length+([32]:List UInt8).length<aU) (ab (x6.1.length+(r8.1++([32]:List UInt8)).length<aU) (lA ((x6.1++(r8.1++([32]:List UInt8))),((ag (x6.2.1+1)),())))))) (some (x6.1,()))) ([],(0,()))
def vb.ae (n:Nat):ar:=⟨[.val IS],[.val .str],fun x=>vb.f n x.1⟩
theorem vb.ok (n:Nat):aN 165 (vb.ae n):=aQ n [(4,⟨[(3,.str),(8,.int .i64)],[],[6,7],[]⟩)] [] (ak ⟨cY.sound n,cY.az⟩ aC) aD Tryz.func165
end
end Go.AmT
namespace Go.AmT
noncomputable section
open Go Go.Am
set_option linter.unusedVariables false
set_option linter.unusedSimpArgs false
theorem eB {m:Nat} {ρ:Type} {x:Option ρ} (h:m≤1000000000000):ab (m<aU) x=x:=ah (by simp only [aU]; omega)
theorem Xu {k:Nat} (h:k<10):UInt8.ofNat (IntKind.wrap .u8 (ag (48+(k:Int)))).toNat=UInt8.ofNat (48+k):=by
 have c:k=0∨k=1∨k=2∨k=3∨k=4∨k=5∨k=6∨k=7∨k=8∨k=9:=by omega
 rcases c with h | h | h | h | h | h | h | h | h | h<;>(subst h; decide)
theorem Ot {v:Int} (h:0≤v):UInt8.ofNat (IntKind.wrap .u8 (ag (48+v.tmod 10))).toNat=UInt8.ofNat (48+v.toNat % 10):=by
 rw [Int.tmod_eq_emod_of_nonneg h,show v % 10=((v.toNat % 10:Nat):Int) by omega]
 exact Xu (by omega)
theorem B5 {u:Nat} (h:¬ u<10):Lib.decDigits u=Lib.decDigits (u / 10)++[UInt8.ofNat (48+u % 10)]:=by rw [Lib.decDigits,dif_neg h]
theorem B6:∀ (k u:Nat),u<10 ^ (k+1)→(Lib.decDigits u).length≤k+1
 | 0,u,h=>by rw [Lib.decDigits_one (by simpa using h)]; simp
 | k+1,u,h=>by
  by_cases hu:u<10
  ·rw [Lib.decDigits_one hu]; simp
  ·rw [B5 hu]
   rw [Nat.pow_succ] at h
   have:=B6 k (u / 10) (by omega)
   simp
   omega
def xo (v:Int):List UInt8:=if v=0 then [] else Lib.decDigits v.toNat
theorem Ou {v:Int} (h:0≤v):Lib.decDigits v.toNat=xo (v / 10)++[UInt8.ofNat (48+v.toNat % 10)]:=by
 unfold xo
 by_cases hu:v.toNat<10
 ·rw [if_pos (by omega),Lib.decDigits_one hu,Nat.mod_eq_of_lt hu]; rfl
 ·rw [if_neg (by omega),B5 hu,show (v / 10).toNat=v.toNat / 10 by omega]
theorem Xv {v:Int} (h:0<v):xo v=xo (v / 10)++[UInt8.ofNat (48+v.toNat % 10)]:=by
 rw [← Ou (by omega)]
 unfold xo
 rw [if_neg (by omega)]
theorem Ov {n:Nat} {x:Int} {slf:Int→Option (List UInt8×Unit)} (hn:1048576<n) (h0:0≤x) (h1:x≤1000000):W (bw.B n slf x) (fun r=>r.1=Lib.decDigits x.toNat):=by
 unfold bw.B
 rw [aK (by omega)]
 have hd:x.tdiv 10=x / 10:=Int.tdiv_eq_ediv_of_nonneg h0
 rw [hd,bo (n:=x / 10) (by omega) (by omega)]
 simp only [List.map_cons,List.map_nil]
 have hL:=B6 6 x.toNat (by omega)
 refine qD (fun y=>0≤y.1∧y.1≤100000∧xo y.1++y.2.1=Lib.decDigits x.toNat) (fun y=>y.1.toNat) (fun ih y hy hS=>?_) ⟨by omega,by omega,by rw [Ot h0,Ou h0]⟩ (by show (x / 10).toNat<n; omega)
 obtain ⟨v,out,⟨⟩⟩:=y
 obtain ⟨a0,a1,a2⟩:=hy
 simp only at a0 a1 a2
 by_cases hv:0<v
 ·simp only [aZ hv]
  have hd:v.tdiv 10=v / 10:=Int.tdiv_eq_ediv_of_nonneg a0
  have hl:out.length≤7:=by
   have:=congrArg List.length a2
   rw [List.length_append] at this
   omega
  rw [hd,bo (n:=v / 10) (by omega) (by omega),eB (by simp; omega)]
  refine hS _ ⟨by simp only; omega,by simp only; omega,?_⟩ (by simp only; omega)
  show xo (v / 10)++([_]++out)=_
  rw [Ot a0,← List.append_assoc,← Xv hv,a2]
 ·simp only [aK hv]
  rw [aj]
  show out=_
  rw [← a2,show v=0 by omega]
  rfl
theorem dB {x:Int} (h0 : -1000000≤x) (h1:x≤1000000):(Lib.itoa x).length≤8:=by
 unfold Lib.itoa
 split
 ·have:=B6 6 x.natAbs (by omega)
  simp
  omega
 ·have:=B6 6 x.toNat (by omega)
  omega
theorem nG {n:Nat} {x:Int} (hn:1048576<n) (h0 : -1000000≤x) (h1:x≤1000000):bw.f n x=some (Lib.itoa x,()):=by
 have hL:=dB h0 h1
 have:W (bw.f n x) (fun r=>r.1=Lib.itoa x):=by
  obtain ⟨m,rfl⟩:∃ m,n=m+2:=⟨n-2,by omega⟩
  show W (bw.B (m+2) (bw.F (m+2) (m+1)) x) _
  by_cases hx:0≤x
  ·refine au (Ov hn hx h1) (fun r hr=>?_)
   rw [hr,Lib.itoa,if_neg (by omega)]
  ·unfold bw.B
   rw [aZ (by omega),bo (n:=0-x) (by omega) (by omega),aB]
   refine au (show W (bw.B (m+2) (bw.F (m+2) m) (0-x)) (fun r=>r.1=Lib.decDigits (0-x).toNat) from Ov hn (by omega) (by omega)) (fun r hr=>?_)
   have hl:=B6 6 (0-x).toNat (by omega)
   rw [hr,eB (by simp only [List.length_cons,List.length_nil]; omega),aj,Lib.itoa,if_pos (by omega),show (0-x).toNat=x.natAbs by omega]
   rfl
 obtain ⟨⟨r,⟨⟩⟩,e,h⟩:=this
 rw [e]
 exact congrArg (fun z=>some (z,())) h
theorem q9 {x:Int} (h:tok x=true) : -1000000≤x∧x≤1000000:=by
 simp only [tok,Bool.and_eq_true,decide_eq_true_eq] at h
 omega
def re (y:Int):List UInt8:=[44]++Lib.itoa y
def rf:List Int→List UInt8
 | []=>[46]
 | x::r=>Lib.itoa x++(r.map re).flatten
def fmtS (s:List Int):List UInt8:=if bG s then rf s else []
theorem gZ {α:Type} (g:α→List UInt8) (B:Nat):∀ (l:List α),(∀ x∈l,(g x).length≤B)→(l.map g).flatten.length≤B*l.length
 | [],_=>by simp
 | x::l,h=>by
  have h1:=h x (by simp)
  have h2:=gZ g B l (fun y hy=>h y (by simp [hy]))
  simp only [List.map_cons,List.flatten_cons,List.length_append,List.length_cons,Nat.mul_add]
  omega
theorem It {α:Type} (g:α→List UInt8) (l:List α) (i:Nat) (h:i<l.length):((l.take (i+1)).map g).flatten=((l.take i).map g).flatten++g l[i]:=by
 rw [List.take_succ_eq_append_getElem h]
 simp only [List.map_append,List.map_cons,List.map_nil,List.flatten_append,List.flatten_cons,List.flatten_nil,List.append_nil]
theorem oH {q:List Int} (h:bG q=true):q.length≤400∧∀ x∈q,tok x=true:=by
 simp only [bG,Bool.and_eq_true,decide_eq_true_eq,List.all_eq_true] at h
 exact h
theorem Iu {x:Int} (h:tok x=true):(re x).length≤9:=by
 have:=dB (q9 h).1 (q9 h).2
 unfold re
 simp
 omega
theorem oI (s:List Int):(fmtS s).length≤4000:=by
 unfold fmtS
 split
 ·rename_i h
  obtain ⟨hl,ht⟩:=oH h
  cases s with
  | nil=>simp [rf]
  | cons x r=>
   have h1:=dB (q9 (ht x (by simp))).1 (q9 (ht x (by simp))).2
   have h2:=gZ re 9 r (fun y hy=>Iu (ht y (by simp [hy])))
   simp only [List.length_cons] at hl
   simp only [rf,List.length_append]
   omega
 ·simp
theorem Iv {α γ ρ:Type} (g:α→List UInt8) (l:List α) (t0:List UInt8) {F:(γ→Option ρ)→γ→Option ρ} (st:List UInt8→Int→γ) {R:Option ρ}
  (h1:∀ ih (i:Nat),i<l.length→F ih (st (t0++((l.take i).map g).flatten) (i:Int))=ih (st (t0++((l.take (i+1)).map g).flatten) ((i+1:Nat):Int)))
  (h2:∀ ih,F ih (st (t0++(l.map g).flatten) (l.length:Int))=R) {n:Nat} (hn:l.length<n):iter n F (st t0 0)=R:=by
 have:=qM (F:=F) (fun i=>st (t0++((l.take i).map g).flatten) (i:Int)) l.length (R:=R) (fun ih i hi=>h1 ih i hi) (fun ih=>by
  show F ih (st (t0++((l.take l.length).map g).flatten) (l.length:Int))=R
  rw [List.take_length]; exact h2 ih) hn
 simpa using this
theorem B7 {n:Nat} {s:List Int} (hs:s.length≤1048576) (hn:1048576<n):mI.f n s=some (fmtS s,()):=by
 unfold mI.f
 rw [BG hs hn,aA]
 cases hk:bG s
 ·rw [Bool.not_false,aL]; simp [fmtS,hk]
 ·obtain ⟨hl,ht⟩:=oH hk
  rw [Bool.not_true,aF]
  cases s with
  | nil=>simp [br,fmtS,hk,rf]
  | cons x r=>
   have e0:fmtS (x::r)=Lib.itoa x++(r.map re).flatten:=by simp [fmtS,hk,rf]
   have t0:=q9 (ht x (by simp))
   have h1:=dB t0.1 t0.2
   rw [aK (by simp; omega),ah (by simp)]
   have e1:(x::r).getD 0 0=x:=rfl
   rw [e1,nG hn t0.1 t0.2,aA,ah (by simp only [List.length_cons]; omega)]
   have e2:((x::r).take ((x::r).length:Int).toNat).drop 1=r:=by rw [Int.toNat_natCast,List.take_length]; rfl
   rw [e2,e0]
   simp only [List.length_cons] at hl
   have hm:∀ i,((r.take i).map re).flatten.length≤3600:=fun i=>by
    have h2:=gZ re 9 (r.take i) (fun y hy=>Iu (ht y (by simp [List.mem_of_mem_take hy])))
    rw [List.length_take] at h2
    have:=Nat.min_le_right i r.length
    omega
   refine Iv re r (Lib.itoa x) (fun t i=>(t,(i,()))) (fun ih i hi=>?_) (fun ih=>?_) (by omega)
   ·have ao:(i:Int)<(r.length:Int):=by omega
    simp only [aZ ao,Int.toNat_natCast]
    have hx:=ht (r.getD i 0) (by rw [aH hi]; simp)
    have Ow:=hm i
    have hc:=Iu hx
    have Ob:=dB (q9 hx).1 (q9 hx).2
    rw [ah (by omega),eB (by simp only [List.length_append,List.length_cons,List.length_nil]; omega),nG hn (q9 hx).1 (q9 hx).2,aA,eB (by simp only [List.length_append,List.length_cons,List.length_nil]; omega),bm (by omega)]
    rw [It re r i hi,aH hi]
    simp only [re,List.append_assoc]
   ·simp only [aK (Int.lt_irrefl _)]
theorem oJ {n:Nat} {x:Int} (h0 : -1000000≤x) (h1:x≤1000000):cY.f n x=some (Lib.itoa x,()):=by
 unfold cY.f uA
 rw [if_pos (by omega)]
 rfl
theorem Iw {n:Nat} {xs:List (List UInt8)} {sep:List UInt8} (h0:xs.length≤1000000) (h1:(Lib.join xs sep).length≤1000000):kO.f n xs sep=some (Lib.join xs sep,()):=by
 unfold kO.f Bo
 rw [if_pos (by omega)]
 rfl
theorem Xw (x:Int) (r:List Int):Lib.join ((x::r).map Lib.itoa) [44]=rf (x::r):=by
 rw [List.map_cons,Lib.join_cons,Lib.joinTail,List.map_map]
 rfl
theorem Eu {n:Nat} {s:List Int} (hs:s.length≤1048576) (hn:1048576<n):jx.f n s=some (fmtS s,()):=by
 have hB:=mr
 unfold jx.f
 rw [uH hs hn,aA]
 cases hk:bG s
 ·rw [Bool.not_false,aL]; simp [fmtS,hk]
 ·obtain ⟨hl,ht⟩:=oH hk
  rw [Bool.not_true,aF]
  cases s with
  | nil=>simp [br,fmtS,hk,rf]
  | cons x r=>
   rw [aK (by simp; omega)]
   have e0:fmtS (x::r)=Lib.join ((x::r).map Lib.itoa) [44]:=by rw [Xw]; simp [fmtS,hk]
   have hf:=oI (x::r)
   rw [e0] at hf
   refine D8 (x::r) Lib.itoa (fun i l=>(i,(l,()))) (fun ih i hi l zE=>?_) (fun ih=>?_) (by omega)
   ·have ao:(i:Int)<((x::r).length:Int):=by omega
    have hx:=q9 (ht (x::r)[i] (List.getElem_mem _))
    simp only [aZ ao,Int.toNat_natCast]
    rw [ah (by omega),aH hi,oJ hx.1 hx.2,aA,ah (by simp only [List.length_cons,List.length_nil]; omega),bm (by omega)]
   ·simp only [aK (Int.lt_irrefl _)]
    rw [Iw (by rw [List.length_map]; omega) (by omega),aA,e0]
theorem xp {γ ρ:Type} (g:Nat→List UInt8) (len B:Nat) (t0:List UInt8) (hB:∀ i,i<len→(g i).length≤B) {F:(γ→Option ρ)→γ→Option ρ} (st:List UInt8→Int→γ) {R:Option ρ}
  (h1:∀ ih (i:Nat) (t:List UInt8),i<len→t.length≤t0.length+B*i→F ih (st t (i:Int))=ih (st (t++g i) ((i+1:Nat):Int)))
  (h2:∀ ih,F ih (st (t0++((List.range len).map g).flatten) (len:Int))=R) {n:Nat} (hn:len<n):iter n F (st t0 0)=R:=by
 have hl:∀ i,i≤len→((List.range i).map g).flatten.length≤B*i:=fun i hi=>by
  have:=gZ g B (List.range i) (fun x hx=>hB x (by have:=List.mem_range.1 hx; omega))
  rwa [List.length_range] at this
 have:=qM (F:=F) (fun i=>st (t0++((List.range i).map g).flatten) (i:Int)) len (R:=R) (fun ih i hi=>by
  show F ih (st (t0++((List.range i).map g).flatten) (i:Int))=_
  rw [h1 ih i _ hi (by have:=hl i (by omega); simp only [List.length_append]; omega),List.range_succ]
  simp) (fun ih=>h2 ih) hn
 simpa using this
theorem Xx {α β γ ρ:Type} (l:List α) (g:α→β) (s0:List β) (st:Int→List β→γ) {F:(γ→Option ρ)→γ→Option ρ} {R:Option ρ}
  (h1:∀ ih i (hi:i<l.length) (s:List β),s.length=s0.length+i→F ih (st i s)=ih (st ((i+1:Nat):Int) (s++[g l[i]])))
  (h2:∀ ih,F ih (st l.length (s0++l.map g))=R) {n:Nat} (hn:l.length<n):iter n F (st 0 s0)=R:=by
 have:=qM (F:=F) (fun i=>st (i:Int) (s0++(l.take i).map g)) l.length (R:=R) (fun ih i hi=>by
  show F ih (st (i:Int) (s0++(l.take i).map g))=_
  rw [h1 ih i hi _ (by simp; omega),List.take_succ_eq_append_getElem hi,List.map_append,List.append_assoc]; rfl) (fun ih=>by
  show F ih (st (l.length:Int) _)=_
  rw [List.take_length]; exact h2 ih) hn
 simpa using this
theorem Xy {n:Nat} {a b c d:Int} (hn:1048576<n) (ha : -1000000≤a∧a≤1000000) (hb : -1000000≤b∧b≤1000000) (hc : -1000000≤c∧c≤1000000) (hd : -1000000≤d∧d≤1000000) :
  vb.f n [a,b,c,d]=some (Lib.itoa a++[32]++(Lib.itoa b++[32])++(Lib.itoa c++[32])++(Lib.itoa d++[32]),()):=by
 have la:=dB ha.1 ha.2
 have lb:=dB hb.1 hb.2
 have lc:=dB hc.1 hc.2
 have ld:=dB hd.1 hd.2
 unfold vb.f
 have e:Lib.itoa a++[32]++(Lib.itoa b++[32])++(Lib.itoa c++[32])++(Lib.itoa d++[32])=[]++(([a,b,c,d]:List Int).map fun y=>Lib.itoa y++[32]).flatten:=by simp
 rw [e]
 have eM:∀ i,i<4→∃ y,([a,b,c,d]:List Int).getD i 0=y∧-1000000≤y∧y≤1000000:=fun i hi=>by
  have:i=0∨i=1∨i=2∨i=3:=by omega
  rcases this with rfl | rfl | rfl | rfl
  ·exact ⟨a,rfl,ha⟩
  ·exact ⟨b,rfl,hb⟩
  ·exact ⟨c,rfl,hc⟩
  ·exact ⟨d,rfl,hd⟩
 have hm:∀ i,((([a,b,c,d]:List Int).take i).map fun y=>Lib.itoa y++[32]).flatten.length≤36:=fun i=>by
  have h1:=gZ (fun y=>Lib.itoa y++[32]) 9 (([a,b,c,d]:List Int).take i) (fun y hy=>by
   have hy:=List.mem_of_mem_take hy
   simp only [List.mem_cons,List.not_mem_nil,or_false] at hy
   rcases hy with rfl | rfl | rfl | rfl<;>(simp only [List.length_append,List.length_cons,List.length_nil]; omega))
  have h4:([a,b,c,d]:List Int).length=4:=rfl
  rw [List.length_take,h4] at h1
  omega
 refine Iv (fun y=>Lib.itoa y++[32]) [a,b,c,d] [] (fun t i=>(t,(i,()))) (fun ih i hi=>?_) (fun ih=>?_) (by simp; omega)
 ·simp only [List.length_cons,List.length_nil] at hi
  obtain ⟨y,hy,h0,h1⟩:=eM i (by omega)
  have Ow:=hm i
  have hyl:=dB h0 h1
  have ao:(i:Int)<(([a,b,c,d]:List Int).length:Int):=by simp only [List.length_cons,List.length_nil]; omega
  simp only [aZ ao,Int.toNat_natCast]
  rw [ah (by simp only [List.length_cons,List.length_nil]; omega),hy,oJ h0 h1,aA,eB (by simp only [List.length_cons,List.length_nil]; omega),eB (by simp only [List.length_append,List.length_cons,List.length_nil]; omega),bm (by omega)]
  rw [It (fun y=>Lib.itoa y++[32]) [a,b,c,d] i (by simp; omega)]
  have:([a,b,c,d]:List Int)[i]'(by simp; omega)=y:=by rw [← hy,aH (by simp; omega)]
  rw [this]
  simp only [List.nil_append]
 ·simp only [aK (Int.lt_irrefl _)]
theorem vc {α:Type} {P:α→Prop} {l:List α} {x:α} (h:∀ a∈l,P a) (hx:P x):∀ a∈l++[x],P a:=by
 intro a ha
 rcases List.mem_append.1 ha with ha | ha
 ·exact h a ha
 ·rw [List.mem_singleton.1 ha]; exact hx
end
end Go.AmT
namespace Go.AmT
noncomputable section
open Go Go.Am Go.Proofs
set_option linter.unusedVariables false
set_option maxRecDepth 100000
def xq.f (n:Nat)  : Option ((List (List UInt8))×Unit):=some ([[],[114,101,97,100],[119,114,105,116,101],[115,101,116],[97,100,100],[115,117,98],[109,117,108],[114,101,115,116],[106,117,109,112],[122,101,114,111],[98,101,108,111,119],[104,97,108,116]],())
def xq.ae (n:Nat):ar:=⟨[],[.val (.sl .str)],fun x=>xq.f n ⟩
theorem xq.ok (n:Nat):aN 137 (xq.ae n):=aQ n [] [] aC aD Tryz.func137
def ve.f (n:Nat) (a0:Int):Option ((List Bool)×Unit):=cut (α:=(Bool×Unit)) (br (decide (a0=4)) (some (.inr ((decide (a0=4)),()))) (br (decide (a0=5)) (some (.inr ((decide (a0=5)),()))) (br (decide (a0=6)) (some (.inr ((decide (a0=6)),()))) (some (.inr ((decide (a0=7)),())))))) fun y1=>br y1.1 (some ([true,true,true],())) (br (decide (a0=8)) (some ([false,true,false],())) (br (decide (a0=11)) (some ([false,false,false],())) (some ([true,true,false],()))))
def ve.ae (n:Nat):ar:=⟨[.val I],[.val (.sl .bool)],fun x=>ve.f n x.1⟩
theorem ve.ok (n:Nat):aN 138 (ve.ae n):=aQ n [(4,⟨[(4,.bool)],[],[3],[]⟩)] [] aC aD Tryz.func138
def xt.f (n:Nat) (a0:Instr):Option (Bool×Unit):=ab (24=24∧0≤24∧24*(32:Int)≤(aW:Int)) ((jN.f n (3,(3,(List.replicate 24 ((0,(0,(0,0))):Instr)))) a0).bind fun r1=>some (r1.1,()))
def xt.ae (n:Nat):ar:=⟨[.val df],[.val .bool],fun x=>xt.f n x.1⟩
theorem xt.ok (n:Nat):aN 136 (xt.ae n):=aQ n [] [] (ak ⟨jN.sound n,jN.az⟩ aC) aD Tryz.func136
def vf.f (n:Nat) (a0:Instr):Option ((List UInt8)×Unit):=(xt.f n a0).bind fun r1=>br (!r1.1) (some ([],())) ((xq.f n ).bind fun r2=>ab (0≤a0.1∧a0.1<(r2.1.length:Int)) ((ve.f n a0.1).bind fun r3=>iter (α:=((List UInt8)×(Int×(List Int)×Unit))) n (fun uJ cU=>br (decide (cU.2.1<3)) (ab (0≤cU.2.1∧cU.2.1<(cU.2.2.1.length:Int)) (ab (0≤cU.2.1∧cU.2.1<(r3.1.length:Int)) (br (r3.1.getD cU.2.1.toNat false) (ab (cU.1.length+([32]:List UInt8).length<aU) ((bw.f n (cU.2.2.1.getD cU.2.1.toNat 0)).bind fun fB=>ab ((cU.1++([32]:List UInt8)).length+fB.1.length<aU) (uJ (((cU.1++([32]:List UInt8))++fB.1),((ag (cU.2.1+1)),(cU.2.2.1,())))))) (uJ (cU.1,((ag (cU.2.1+1)),(cU.2.2.1,()))))))) (some (cU.1,()))) ((r2.1.getD a0.1.toNat []),(0,([a0.2.1,a0.2.2.1,a0.2.2.2],())))))
def vf.ae (n:Nat):ar:=⟨[.val df],[.val .str],fun x=>vf.f n x.1⟩
theorem vf.ok (n:Nat):aN 81 (vf.ae n):=aQ n [(8,⟨[(3,.str),(24,.own 1000 I),(26,.int .i64)],[(1000,.row true I)],[4,25],[]⟩)] [] (ak (xt.ok n) (ak (xq.ok n) (ak (ve.ok n) aC))) (bA ⟨bw.sound n,bw.az⟩ aD) Tryz.func81
def pN.f (n:Nat)  : Option ((List (List UInt8))×Unit):=some ([[],[114,101,97,100],[119,114,105,116,101],[115,101,116],[97,100,100],[115,117,98],[109,117,108],[114,101,115,116],[106,117,109,112],[122,101,114,111],[98,101,108,111,119],[104,97,108,116]],())
def pN.ae (n:Nat):ar:=⟨[],[.val (.sl .str)],fun x=>pN.f n ⟩
theorem pN.ok (n:Nat):aN 196 (pN.ae n):=aQ n [] [] aC aD Tryz.func196
theorem B8.az:cG Tryz.prog 197:=dz Tryz.func197 (by kernel_rfl) (by kernel_rfl)
theorem B8.Ox:DE Tryz.prog 197:={
 a:=fun w b o op hc h=>by
  simp only [jB,decide_eq_true_eq] at h
  rcases h with rfl | rfl | rfl | rfl | rfl<;>
  ·go_enter Tryz.func197,Tryz.ntmps197
   go_wp2
   go_region
   go_wp2
   go_ret
   exact ⟨rfl,196,rfl,rfl,rfl,rfl⟩
 b:=fun w b o op hc h=>by
  simp only [ij,decide_eq_true_eq] at h
  rcases h with rfl | rfl | rfl | rfl<;>
  ·go_enter Tryz.func197,Tryz.ntmps197
   go_wp2
   go_region
   go_wp2
   go_ret
   exact ⟨rfl,196,rfl,rfl,rfl,rfl⟩
 c:=fun w b o op hc h=>by
  simp only [lS,decide_eq_true_eq] at h
  subst h
  ·go_enter Tryz.func197,Tryz.ntmps197
   go_wp2
   go_ret
   exact ⟨rfl,196,rfl,rfl,rfl,rfl⟩
 n:=fun w b o op hc h h' tZ=>by
  simp only [jB,ij,lS,decide_eq_false_iff_not,not_or] at h h' tZ
  obtain ⟨h1,h2,h3,h9,iv⟩:=h
  obtain ⟨h4,h5,h6,h7⟩:=h'
  go_enter Tryz.func197,Tryz.ntmps197
  go_wp2
  go_ret
  exact ⟨rfl,rfl⟩ }
def fv.bY:List (Nat×LA):=[(500007,⟨[],[],[],[]⟩)]
def fv.f (n:Nat) (a0:Instr):Option ((List UInt8)×Unit):=(jr.f n a0 3 3 24).bind fun r1=>br (!r1.1) (some ([],())) ((pN.f n ).bind fun r2=>ab (0≤a0.1∧a0.1<(r2.1.length:Int)) (br (jB a0.1) ((cY.f n a0.2.1).bind fun r3=>ab (([32]:List UInt8).length+r3.1.length<aU) (ab ((r2.1.getD a0.1.toNat []).length+(([32]:List UInt8)++r3.1).length<aU) ((cY.f n a0.2.2.1).bind fun r4=>ab (([32]:List UInt8).length+r4.1.length<aU) (ab (((r2.1.getD a0.1.toNat [])++(([32]:List UInt8)++r3.1)).length+(([32]:List UInt8)++r4.1).length<aU) (some ((((r2.1.getD a0.1.toNat [])++(([32]:List UInt8)++r3.1))++(([32]:List UInt8)++r4.1)),())))))) (br (ij a0.1) ((cY.f n a0.2.1).bind fun r5=>ab (([32]:List UInt8).length+r5.1.length<aU) (ab ((r2.1.getD a0.1.toNat []).length+(([32]:List UInt8)++r5.1).length<aU) ((cY.f n a0.2.2.1).bind fun r6=>ab (([32]:List UInt8).length+r6.1.length<aU) (ab (((r2.1.getD a0.1.toNat [])++(([32]:List UInt8)++r5.1)).length+(([32]:List UInt8)++r6.1).length<aU) ((cY.f n a0.2.2.2).bind fun r7=>ab (([32]:List UInt8).length+r7.1.length<aU) (ab ((((r2.1.getD a0.1.toNat [])++(([32]:List UInt8)++r5.1))++(([32]:List UInt8)++r6.1)).length+(([32]:List UInt8)++r7.1).length<aU) (some (((((r2.1.getD a0.1.toNat [])++(([32]:List UInt8)++r5.1))++(([32]:List UInt8)++r6.1))++(([32]:List UInt8)++r7.1)),())))))))) (br (lS a0.1) ((cY.f n a0.2.2.1).bind fun r8=>ab (([32]:List UInt8).length+r8.1.length<aU) (ab ((r2.1.getD a0.1.toNat []).length+(([32]:List UInt8)++r8.1).length<aU) (some (((r2.1.getD a0.1.toNat [])++(([32]:List UInt8)++r8.1)),())))) (some ((r2.1.getD a0.1.toNat []),()))))))
def fv.ae (n:Nat):ar:=⟨[.val df],[.val .str],fun x=>fv.f n x.1⟩
def fv.cfg (n:Nat):aP:=⟨ly,[(145,jr.ae n),(196,pN.ae n),(50,cY.ae n)],[],[3000197]⟩
theorem fv.eq:∀ (n:Nat) (a0:Instr),wi (fv.cfg n) n Tryz.f198 (d_ Tryz.f198 fv.bY) [.val df] [.val .str] (a0,())=fv.f n a0:=by
 intros
 kernel_rfl
theorem fv.az:cG Tryz.prog 198:=dz Tryz.func198 (by kernel_rfl) (by kernel_rfl)
theorem fv.sound (n:Nat):Sound Tryz.prog 198 (fv.ae n):=Dv (fn:=Tryz.f198) (m:=fv.ae n) (c:=fv.cfg n) (uw mixed (su (.of (c:=fv.cfg n) ⟨⟨jr.sound n,jr.az⟩,⟨pN.ok n,⟨⟨cY.sound n,cY.az⟩,trivial⟩⟩⟩ (K6 (f:=197) rfl B8.Ox B8.az)) (.of (c:=fv.cfg n) trivial)) (dM km)) (dM km) Tryz.func198 (fun x=>(fv.eq n x.1).symm)
end
end Go.AmT
namespace Go.AmT
noncomputable section
open Go Go.Am
set_option linter.unusedVariables false
set_option linter.unusedSimpArgs false
def kt:List (List UInt8):=[[],[114,101,97,100],[119,114,105,116,101],[115,101,116],[97,100,100],[115,117,98],[109,117,108],[114,101,115,116],[106,117,109,112],[122,101,114,111],[98,101,108,111,119],[104,97,108,116]]
theorem Xz (n:Nat):xq.f n=some (kt,()):=rfl
theorem Ev (n:Nat):pN.f n=some (kt,()):=rfl
def ec (op:Int):List UInt8:=kt.getD op.toNat []
theorem B9 {op:Int} (h:1≤op∧op≤11):op=1∨op=2∨op=3∨op=4∨op=5∨op=6∨op=7∨op=8∨op=9∨op=10∨op=11:=by omega
theorem Ix {op:Int} (h:1≤op∧op≤11):(ec op).length≤5:=by
 rcases B9 h with rfl | rfl | rfl | rfl | rfl | rfl | rfl | rfl | rfl | rfl | rfl<;>decide
def pO (op:Int):List Bool:=if ij op then [true,true,true] else if op=8 then [false,true,false] else if op=11 then [false,false,false] else [true,true,false]
theorem XA (n:Nat) (op:Int):ve.f n op=some (pO op,()):=by
 have e:(br (decide (op=4)) (some (Sum.inr (α:=List Bool×Unit) ((decide (op=4)),()))) (br (decide (op=5)) (some (.inr ((decide (op=5)),()))) (br (decide (op=6)) (some (.inr ((decide (op=6)),()))) (some (.inr ((decide (op=7)),()))))))=some (.inr (ij op,())):=by
  unfold ij
  by_cases h4:op=4
  ·subst h4; rfl
  by_cases h5:op=5
  ·subst h5; rfl
  by_cases h6:op=6
  ·subst h6; rfl
  rw [aK h4,aK h5,aK h6]
  simp [h4,h5,h6]
 unfold ve.f pO
 rw [e]
 simp only [bF]
 cases ij op
 ·simp only [aF,Bool.false_eq_true,if_false]
  by_cases h8:op=8
  ·rw [aZ h8,if_pos h8]
  ·rw [aK h8,if_neg h8]
   by_cases gE:op=11
   ·rw [aZ gE,if_pos gE]
   ·rw [aK gE,if_neg gE]
 ·rfl
def zF (x:Int):Prop:=-1000000≤x∧x≤1000000
structure Ew (x:Instr):Prop where
 op:1≤x.1∧x.1≤11
 a:zF x.2.1
 b:zF x.2.2.1
 c:zF x.2.2.2
 nc:ij x.1=false→x.2.2.2=0
 na:jB x.1=false→ij x.1=false→x.2.1=0
 nb:x.1=11→x.2.2.1=0
theorem zG {ins outs size:Int} {x:Instr} (h:eG ins outs size x=true) (hi:ins≤3) (ho:outs≤3) (hs:size≤24):Ew x:=by
 obtain ⟨op,a,b,c⟩:=x
 unfold eG at h
 simp only [eQ,tok] at h
 have key:(1≤op∧op≤11):=by
  by_cases h0:1≤op∧op≤11
  ·exact h0
  ·exfalso
   rw [if_neg (by omega),if_neg (by omega),if_neg (by omega),if_neg (by omega),if_neg (by omega),if_neg (by omega),if_neg (by omega)] at h
   cases h
 rcases B9 key with rfl | rfl | rfl | rfl | rfl | rfl | rfl | rfl | rfl | rfl | rfl<;>
 ·simp (config:={ decide:=true }) only [if_true,if_false,Bool.and_eq_true,decide_eq_true_eq,or_true,true_or,or_false,false_or] at h
  refine ⟨⟨?_,?_⟩,⟨?_,?_⟩,⟨?_,?_⟩,⟨?_,?_⟩,fun hb=>?_,fun ha hb=>?_,fun he=>?_⟩<;>(try dsimp only at *)<;>first | omega | (exfalso; revert hb; decide) | (exfalso; revert ha; decide)
def jy (n:Int):List UInt8:=[32]++Lib.itoa n
def dO (x:Instr):List UInt8:=
 ec x.1++(if jB x.1 then jy x.2.1++jy x.2.2.1 else if ij x.1 then jy x.2.1++(jy x.2.2.1++jy x.2.2.2) else if lS x.1 then jy x.2.2.1 else [])
def lJ (x:Instr):List UInt8:=if eG 3 3 24 x then dO x else []
theorem Ey {n:Int} (h:zF n):(jy n).length≤9:=by
 have:=dB h.1 h.2
 simp only [jy,List.length_append,List.length_cons,List.length_nil]
 omega
theorem Oy {x:Instr} (h:Ew x):(dO x).length≤40:=by
 have h0:=Ix h.op
 have ha:=Ey h.a
 have hb:=Ey h.b
 have hc:=Ey h.c
 unfold dO
 rw [List.length_append]
 split
 ·rw [List.length_append]; omega
 ·split
  ·rw [List.length_append,List.length_append]; omega
  ·split
   ·omega
   ·simp only [List.length_nil]; omega
theorem Oz (x:Instr):(lJ x).length≤40:=by
 unfold lJ
 split
 ·rename_i h; exact Oy (zG h (by omega) (by omega) (by omega))
 ·simp
theorem XB {n:Nat} {x:Instr} (hn:1048576<n):vf.f n x=some (lJ x,()):=by
 have hm:=mr
 unfold vf.f xt.f lJ
 have hf:=Mx n (3,(3,(List.replicate 24 ((0,(0,(0,0))):Instr)))) x ⟨by decide,by decide⟩ ⟨by decide,by decide⟩
 rw [ah (by refine ⟨rfl,?_⟩; omega),hf,aA,aA]
 have XC:(((3,(3,(List.replicate 24 ((0,(0,(0,0))):Instr)))):Program).2.2.length:Int)=24:=by simp
 rw [XC]
 cases hk:eG 3 3 24 x
 ·simp only [Bool.not_false,aL]
  rfl
 ·have O:=zG hk (by omega) (by omega) (by omega)
  simp only [Bool.not_true,aF,if_true]
  have aw:=O.op
  have rh:(kt.length:Int)=12:=rfl
  rw [Xz,aA]
  dsimp only
  rw [ah (by rw [rh]; omega),XA,aA]
  dsimp only
  have OA:(pO x.1).length=3:=by
   unfold pO
   repeat' split
   all_goals rfl
  have sm:∀ i,i<3→zF ([x.2.1,x.2.2.1,x.2.2.2].getD i 0):=fun i hi=>by
   have:i=0∨i=1∨i=2:=by omega
   rcases this with rfl | rfl | rfl
   ·exact O.a
   ·exact O.b
   ·exact O.c
  have HG:ec x.1++((List.range 3).map fun i=>if (pO x.1).getD i false then jy ([x.2.1,x.2.2.1,x.2.2.2].getD i 0) else []).flatten=dO x:=by
   unfold dO
   congr 1
   show (if (pO x.1).getD 0 false then jy x.2.1 else [])++((if (pO x.1).getD 1 false then jy x.2.2.1 else [])++((if (pO x.1).getD 2 false then jy x.2.2.2 else [])++[]))=_
   rcases B9 aw with h | h | h | h | h | h | h | h | h | h | h<;>(rw [h]; simp [pO,jB,ij,lS])
  rw [← HG]
  refine xp (fun i=>if (pO x.1).getD i false then jy ([x.2.1,x.2.2.1,x.2.2.2].getD i 0) else []) 3 9 (ec x.1) (fun i hi=>?_) (fun t i=>(t,(i,([x.2.1,x.2.2.1,x.2.2.2],())))) (fun ih i t hi ht=>?_) (fun ih=>?_) (by omega)
  ·split
   ·exact Ey (sm i hi)
   ·simp
  ·have h0:=Ix aw
   have hs:=sm i hi
   have hl:=dB hs.1 hs.2
   simp only [aZ (show (i:Int)<3 by omega),Int.toNat_natCast]
   rw [ah (by simp only [List.length_cons,List.length_nil]; omega),ah (by rw [OA]; omega)]
   cases hu:(pO x.1).getD i false
   ·rw [aF,bm (by omega)]
    simp
   ·rw [aL,eB (by simp only [List.length_cons,List.length_nil]; omega),nG hn hs.1 hs.2,aA,eB (by simp only [List.length_append,List.length_cons,List.length_nil]; omega),bm (by omega)]
    simp [jy]
  ·simp only [aK (show ¬ ((3:Nat):Int)<3 by omega)]
theorem zH {n:Nat} {x:Instr} : fv.f n x=some (lJ x,()):=by
 unfold fv.f lJ
 rw [Mw,aA]
 cases hk:eG 3 3 24 x
 ·simp only [Bool.not_false,aL]
  rfl
 ·have O:=zG hk (by omega) (by omega) (by omega)
  simp only [Bool.not_true,aF,if_true]
  have aw:=O.op
  have rh:(kt.length:Int)=12:=rfl
  have h0:=Ix aw
  have ha:=dB O.a.1 O.a.2
  have hb:=dB O.b.1 O.b.2
  have hc:=dB O.c.1 O.c.2
  rw [Ev,aA]
  dsimp only
  rw [ah (by rw [rh]; omega)]
  show br (jB x.1) ((cY.f n x.2.1).bind _) _=_
  unfold dO
  have h0':(kt.getD x.1.toNat []).length≤5:=h0
  rw [oJ O.a.1 O.a.2,oJ O.b.1 O.b.2,oJ O.c.1 O.c.2]
  simp only [aA]
  have L:∀ {m:Nat} {ρ:Type} {y:Option ρ},m≤1000→ab (m<aU) y=y:=fun h=>eB (by omega)
  cases jB x.1
  ·cases ij x.1
   ·cases lS x.1
    ·simp [br,ec]
    ·simp only [aL,aF,Bool.false_eq_true,if_false,if_true]
     rw [L (by simp only [List.length_cons,List.length_nil]; omega),L (by simp only [List.length_append,List.length_cons,List.length_nil]; omega)]
     rfl
   ·simp only [aL,aF,Bool.false_eq_true,if_false,if_true]
    rw [L (by simp only [List.length_cons,List.length_nil]; omega),L (by simp only [List.length_append,List.length_cons,List.length_nil]; omega),L (by simp only [List.length_cons,List.length_nil]; omega),L (by simp only [List.length_append,List.length_cons,List.length_nil]; omega),L (by simp only [List.length_cons,List.length_nil]; omega),L (by simp only [List.length_append,List.length_cons,List.length_nil]; omega)]
    simp only [ec,jy,List.append_assoc]
  ·simp only [aL,if_true]
   rw [L (by simp only [List.length_cons,List.length_nil]; omega),L (by simp only [List.length_append,List.length_cons,List.length_nil]; omega),L (by simp only [List.length_cons,List.length_nil]; omega),L (by simp only [List.length_append,List.length_cons,List.length_nil]; omega)]
   simp only [ec,jy,List.append_assoc]
end
end Go.AmT
namespace Go.AmT
noncomputable section
open Go Go.Am Go.Proofs
set_option linter.unusedVariables false
set_option maxRecDepth 100000
def fG.f (n:Nat) (a0:List UInt8) (a1:List UInt8):Option (List (List UInt8)×Unit):=Hb a0 a1
def fG.ae (n:Nat):ar:=⟨[.val .str,.val .str],[.sh (.sl .str)],fun x=>fG.f n x.1 x.2.1⟩
theorem fG.az:cG Tryz.prog 69:=dz Tryz.func69 (by kernel_rfl) (by kernel_rfl)
theorem fG.sound (n:Nat):Sound Tryz.prog 69 (fG.ae n):=Uc (b:=1) (by kernel_rfl) (fun s sep m w hs hm h1=>Tryz.strings_Split s sep m w hs hm h1)
def kP.f (n:Nat) (a0:List UInt8):Option (Int×(Bool×Unit)):=uC a0
def kP.ae (n:Nat):ar:=⟨[.val .str],[.val (.int .i64),.val .err],fun x=>kP.f n x.1⟩
theorem kP.az:cG Tryz.prog 170:=dz Tryz.func170 (by kernel_rfl) (by kernel_rfl)
theorem kP.sound (n:Nat):Sound Tryz.prog 170 (kP.ae n):=Ud (by kernel_rfl) (by kernel_rfl) (fun s h v hv w=>Tryz.strconv_Atoi_ok s h v hv w) (fun s h hv tp p w pw=>(Tryz.strconv_Atoi_syntax_var s h hv tp p w pw).mono fun e w' ⟨N,he,_,_,hb⟩=>⟨_,_,he,hb⟩) (fun s h hv tp p w pw=>(Tryz.strconv_Atoi_range_var s h hv tp p w pw).mono fun e w' ⟨N,he,_,_,hb⟩=>⟨_,_,he,hb⟩)
def dP.f (n:Nat) (a0:List UInt8):Option (Int×(Bool×Unit)):=(kP.f n a0).bind fun r1=>br r1.2.1 ((cY.f n r1.1).bind fun r2=>some (r1.1,((decide (r2.1=a0)),()))) (some (r1.1,(false,())))
def dP.ae (n:Nat):ar:=⟨[.val .str],[.val I,.val .bool],fun x=>dP.f n x.1⟩
theorem dP.ok (n:Nat):aN 122 (dP.ae n):=aQ n [] [] (ak ⟨kP.sound n,kP.az⟩ (ak ⟨cY.sound n,cY.az⟩ aC)) aD Tryz.func122
def vg.f (n:Nat) (a0:List UInt8):Option ((List Int)×(Bool×Unit)):=br (decide (a0=([46]:List UInt8))) (some ([],(true,()))) ((fG.f n a0 ([44]:List UInt8)).bind fun r1=>iter (α:=(Int×(List Int)×Unit)) n (fun Ca eC=>br (decide (eC.1<(r1.1.length:Int))) (ab (0≤eC.1∧eC.1<(r1.1.length:Int)) (let w8:=(r1.1.getD eC.1.toNat []); (dP.f n w8).bind fun dp=>br (!dp.2.1) (some ([],(false,()))) (ab ((eC.2.1.length+([dp.1]:List Int).length)*8≤aW) (Ca ((ag (eC.1+1)),((eC.2.1++[dp.1]),())))))) ((dG.f n eC.2.1).bind fun ko=>br (!ko.1) (some ([],(false,()))) (some (eC.2.1,(true,()))))) (0,([],())))
def vg.ae (n:Nat):ar:=⟨[.val .str],[.val IS,.val .bool],fun x=>vg.f n x.1⟩
theorem vg.ok (n:Nat):aN 71 (vg.ae n):=aQ n [(7,⟨[(4,.own 1000 I),(15,.int .i64)],[(1000,.row true I)],[13,14],[]⟩)] [] (ak ⟨fG.sound n,fG.az⟩ (ak (dP.ok n) (ak ⟨dG.sound n,dG.az⟩ aC))) aD Tryz.func71
end
end Go.AmT
