/- Functions that the law FnDesk reaches, each as a plain Lean function, and that each does what that says. No condition. -/
import Derived.Test.YtfoamipegmbcgaaGreatDoorMDkF1
import Derived.Test.YtfoamipegmbcgaaGreatDoorMDkF2
import Derived.Test.YtfoamipegmbcgaaGreatDoorAmE
import Derived.Test.YtfoamipegmbcgaaGreatDoorTxtShelf
import Derived.WalkKit
namespace Go.AmT
open Go Go.Am Go.Proofs
set_option linter.unusedVariables false
set_option maxRecDepth 100000
def tys17:List (Nat×TInfo):=[(3,⟨false,1,8,[.int .i64 0],.int .i64,0,some I,[],false⟩),
 (5,⟨false,1,1,[.int .u8 0],.int .u8,0,some U8,[],false⟩),
 (9,⟨false,1,16,[.str []],.str,0,some .str,[],false⟩),
 (22,⟨false,1,24,[.nil],.slice,5,some (.sl U8),[],false⟩),
 (32,⟨false,1,24,[.nil],.slice,3,some IS,[],false⟩),
 (48,⟨false,1,24,[.nil],.slice,9,some (.sl .str),[],false⟩)]
theorem tys17_ok:(tys17.all fun p=>tokB Tryz.prog p.1 p.2)=true:=by kernel_rfl
def l1Number.las:List (Nat×LA):=[(7,⟨[(0,.int .i64),(3,.str)],[],[],[]⟩)]
def l1Number.la:LA:=⟨[(0,.int .i64)],[],[],[]⟩
def l1Number.lb:LA:=⟨[(0,.str)],[],[],[]⟩
noncomputable def l1Number.B (n:Nat) (slf:(Int)→Option ((List UInt8)×Unit)) (a0:Int):Option ((List UInt8)×Unit):=br (decide (a0<0)) ((slf (w64 (0-a0))).bind fun r2=>chk (([45]:List UInt8).length+r2.1.length<maxS) (some ((([45]:List UInt8)++r2.1),()))) (iter (α:=(Int×(List UInt8)×Unit)) n (fun ih6 x5=>br (decide (0<x5.1)) (chk ((([(IntKind.wrap .u8 ((w64 (48+(x5.1.tmod 10)))))]:List Int).map fun n=>UInt8.ofNat n.toNat).length+x5.2.1.length<maxS) (ih6 ((w64 (x5.1.tdiv 10)),(((([(IntKind.wrap .u8 ((w64 (48+(x5.1.tmod 10)))))]:List Int).map fun n=>UInt8.ofNat n.toNat)++x5.2.1),())))) (some (x5.2.1,()))) ((w64 (a0.tdiv 10)),((([(IntKind.wrap .u8 ((w64 (48+(a0.tmod 10)))))]:List Int).map fun n=>UInt8.ofNat n.toNat),())))
noncomputable def l1Number.F (n:Nat):Nat→(Int)→Option ((List UInt8)×Unit)
 | 0=>fun _=>none
 | d+1=>l1Number.B n (l1Number.F n d)
noncomputable def l1Number.f (n:Nat) (a0:Int):Option ((List UInt8)×Unit):=l1Number.F n n a0
noncomputable def l1Number.mngI (n:Nat) (slf:(Int)→Option ((List UInt8)×Unit)):LMng:=⟨l1Number.la,l1Number.lb,fun x=>slf x.1⟩
noncomputable def l1Number.mng (n:Nat):LMng:=⟨l1Number.la,l1Number.lb,fun x=>l1Number.f n x.1⟩
noncomputable def l1Number.cfg (n:Nat) (slf:(Int)→Option ((List UInt8)×Unit)):Cfg:=⟨tys17,[],[(33,l1Number.mngI n slf)],[]⟩
theorem l1Number.eq:∀ (n:Nat) (slf:(Int)→Option ((List UInt8)×Unit)) (a0:Int) (mp:Mp),LMng.run (l1Number.cfg n slf) n Tryz.f33 (annOf Tryz.f33 l1Number.las) l1Number.la l1Number.lb (a0,mp)=l1Number.B n slf a0:=by
 intros
 kernel_rfl
theorem l1Number.gof:GoF Tryz.prog 33:=⟨_,Tryz.func33,by kernel_rfl,by kernel_rfl⟩
theorem l1Number.soundF (n:Nat):∀ d,LSound Tryz.prog 33 (l1Number.mngI n (l1Number.F n d))
 | 0=>fun _ _ h=>nomatch h
 | d+1=>runL_sound (fn:=Tryz.f33) (M:=l1Number.mngI n (l1Number.F n (d+1))) (c:=l1Number.cfg n (l1Number.F n d)) (regOK mixed (opOK (.of (c:=l1Number.cfg n (l1Number.F n d)) trivial) (.of (c:=l1Number.cfg n (l1Number.F n d)) ⟨⟨l1Number.soundF n d,l1Number.gof⟩,trivial⟩)) (tysOK tys17_ok)) (tysOK tys17_ok) Tryz.func33 (fun x=>(l1Number.eq n (l1Number.F n d) x.1 x.2).symm)
theorem l1Number.sound (n:Nat):LSound Tryz.prog 33 (l1Number.mng n):=l1Number.soundF n n
def fmtStream.las:List (Nat×LA):=[(10,⟨[(3,.str),(19,.int .i64)],[],[17,18],[]⟩)]
noncomputable def fmtStream.f (n:Nat) (a0:List Int):Option ((List UInt8)×Unit):=(sIsStream.f n a0).bind fun r1=>br (!r1.1) (some ([],())) (br (decide ((a0.length:Int)=0)) (some ([46],())) (chk ((0:Int)≤0∧(0:Int)<(a0.length:Int)) ((l1Number.f n (a0.getD 0 0)).bind fun r2=>chk ((0:Int)≤1∧(1:Int)≤(a0.length:Int)∧(a0.length:Int)≤(a0.length:Int)) (iter (α:=((List UInt8)×(Int×Unit))) n (fun ih9 x8=>br (decide (x8.2.1<(((a0.take (a0.length:Int).toNat).drop 1).length:Int))) (chk (0≤x8.2.1∧x8.2.1<(((a0.take (a0.length:Int).toNat).drop 1).length:Int)) (let v10:=(((a0.take (a0.length:Int).toNat).drop 1).getD x8.2.1.toNat 0); chk (x8.1.length+([44]:List UInt8).length<maxS) ((l1Number.f n v10).bind fun r11=>chk ((x8.1++([44]:List UInt8)).length+r11.1.length<maxS) (ih9 (((x8.1++([44]:List UInt8))++r11.1),((w64 (x8.2.1+1)),())))))) (some (x8.1,()))) (r2.1,(0,()))))))
noncomputable def fmtStream.mng (n:Nat):Mng:=⟨[.val IS],[.val .str],fun x=>fmtStream.f n x.1⟩
noncomputable def fmtStream.cfg (n:Nat):Cfg:=⟨tys17,[(78,sIsStream.mng n)],[(33,l1Number.mng n)],[]⟩
theorem fmtStream.gof:GoF Tryz.prog 34:=⟨_,Tryz.func34,by kernel_rfl,by kernel_rfl⟩
theorem fmtStream.sound (n:Nat):Sound Tryz.prog 34 (fmtStream.mng n):=sndF (c:=fmtStream.cfg n) (n:=n) (an:=annOf Tryz.f34 fmtStream.las) ⟨⟨sIsStream.sound n,sIsStream.gof⟩,trivial⟩ ⟨⟨l1Number.sound n,l1Number.gof⟩,trivial⟩ (tysOK tys17_ok) Tryz.func34 (fun x=>by kernel_rfl)
noncomputable def itoaC.f (n:Nat) (a0:Int):Option (List UInt8×Unit):=itoaR a0
noncomputable def itoaC.mng (n:Nat):Mng:=⟨[.val (.int .i64)],[.val .str],fun x=>itoaC.f n x.1⟩
theorem itoaC.gof:GoF Tryz.prog 50:=⟨_,Tryz.func50,by kernel_rfl,by kernel_rfl⟩
theorem itoaC.sound (n:Nat):Sound Tryz.prog 50 (itoaC.mng n):=itoa_sound (by kernel_rfl) (fun m h0 h1 w ht=>Tryz.strconv_Itoa m h0 h1 w ht)
noncomputable def joinC.f (n:Nat) (a0:List (List UInt8)) (a1:List UInt8):Option (List UInt8×Unit):=joinR a0 a1
noncomputable def joinC.mng (n:Nat):Mng:=⟨[.val (.sl .str),.val .str],[.val .str],fun x=>joinC.f n x.1 x.2.1⟩
theorem joinC.gof:GoF Tryz.prog 51:=⟨_,Tryz.func51,by kernel_rfl,by kernel_rfl⟩
theorem joinC.sound (n:Nat):Sound Tryz.prog 51 (joinC.mng n):=join_sound Tryz.strings_Join_none Tryz.strings_Join
def iFmtStream.las:List (Nat×LA):=[(10,⟨[(3,.own 1000 .str),(15,.int .i64)],[(1000,.row true .str)],[13,14],[]⟩)]
noncomputable def iFmtStream.f (n:Nat) (a0:List Int):Option ((List UInt8)×Unit):=(iIsStream.f n a0).bind fun r1=>br (!r1.1) (some ([],())) (br (decide ((a0.length:Int)=0)) (some ([46],())) (iter (α:=(Int×(List (List UInt8))×Unit)) n (fun ih8 x7=>br (decide (x7.1<(a0.length:Int))) (chk (0≤x7.1∧x7.1<(a0.length:Int)) ((itoaC.f n (a0.getD x7.1.toNat 0)).bind fun r9=>chk ((x7.2.1.length+([r9.1]:List (List UInt8)).length)*16≤maxB) (ih8 ((w64 (x7.1+1)),((x7.2.1++[r9.1]),()))))) ((joinC.f n x7.2.1 ([44]:List UInt8)).bind fun r10=>some (r10.1,()))) (0,([],()))))
noncomputable def iFmtStream.mng (n:Nat):Mng:=⟨[.val IS],[.val .str],fun x=>iFmtStream.f n x.1⟩
noncomputable def iFmtStream.cfg (n:Nat):Cfg:=⟨tys17,[(49,iIsStream.mng n),(50,itoaC.mng n),(51,joinC.mng n)],[],[]⟩
theorem iFmtStream.gof:GoF Tryz.prog 18:=⟨_,Tryz.func18,by kernel_rfl,by kernel_rfl⟩
theorem iFmtStream.sound (n:Nat):Sound Tryz.prog 18 (iFmtStream.mng n):=sndF (c:=iFmtStream.cfg n) (n:=n) (an:=annOf Tryz.f18 iFmtStream.las) ⟨⟨iIsStream.sound n,iIsStream.gof⟩,⟨⟨itoaC.sound n,itoaC.gof⟩,⟨⟨joinC.sound n,joinC.gof⟩,trivial⟩⟩⟩ trivial (tysOK tys17_ok) Tryz.func18 (fun x=>by kernel_rfl)
def iListed.las:List (Nat×LA):=[(4,⟨[(3,.str),(8,.int .i64)],[],[6,7],[]⟩)]
noncomputable def iListed.f (n:Nat) (a0:List Int):Option ((List UInt8)×Unit):=iter (α:=((List UInt8)×(Int×Unit))) n (fun ih7 x6=>br (decide (x6.2.1<(a0.length:Int))) (chk (0≤x6.2.1∧x6.2.1<(a0.length:Int)) ((itoaC.f n (a0.getD x6.2.1.toNat 0)).bind fun r8=>chk (r8.1.length+([32]:List UInt8).length<maxS) (chk (x6.1.length+(r8.1++([32]:List UInt8)).length<maxS) (ih7 ((x6.1++(r8.1++([32]:List UInt8))),((w64 (x6.2.1+1)),())))))) (some (x6.1,()))) ([],(0,()))
noncomputable def iListed.mng (n:Nat):Mng:=⟨[.val IS],[.val .str],fun x=>iListed.f n x.1⟩
noncomputable def iListed.cfg (n:Nat):Cfg:=⟨tys17,[(50,itoaC.mng n)],[],[]⟩
theorem iListed.gof:GoF Tryz.prog 165:=⟨_,Tryz.func165,by kernel_rfl,by kernel_rfl⟩
theorem iListed.sound (n:Nat):Sound Tryz.prog 165 (iListed.mng n):=sndF (c:=iListed.cfg n) (n:=n) (an:=annOf Tryz.f165 iListed.las) ⟨⟨itoaC.sound n,itoaC.gof⟩,trivial⟩ trivial (tysOK tys17_ok) Tryz.func165 (fun x=>by kernel_rfl)
end Go.AmT
namespace Go.AmT
open Go Go.Am
set_option linter.unusedVariables false
set_option linter.unusedSimpArgs false
theorem str_chk {m:Nat} {ρ:Type} {x:Option ρ} (h:m≤1000000000000):chk (m<maxS) x=x:=chk_true (by simp only [maxS]; omega)
theorem byte_k {k:Nat} (h:k<10):UInt8.ofNat (IntKind.wrap .u8 (w64 (48+(k:Int)))).toNat=UInt8.ofNat (48+k):=by
 have c:k=0∨k=1∨k=2∨k=3∨k=4∨k=5∨k=6∨k=7∨k=8∨k=9:=by omega
 rcases c with h | h | h | h | h | h | h | h | h | h<;>(subst h; decide)
theorem byte_eq {v:Int} (h:0≤v):UInt8.ofNat (IntKind.wrap .u8 (w64 (48+v.tmod 10))).toNat=UInt8.ofNat (48+v.toNat % 10):=by
 rw [Int.tmod_eq_emod_of_nonneg h,show v % 10=((v.toNat % 10:Nat):Int) by omega]
 exact byte_k (by omega)
theorem dd_big {u:Nat} (h:¬ u<10):Lib.decDigits u=Lib.decDigits (u / 10)++[UInt8.ofNat (48+u % 10)]:=by rw [Lib.decDigits,dif_neg h]
theorem dd_len:∀ (k u:Nat),u<10 ^ (k+1)→(Lib.decDigits u).length≤k+1
 | 0,u,h=>by rw [Lib.decDigits_one (by simpa using h)]; simp
 | k+1,u,h=>by
  by_cases hu:u<10
  ·rw [Lib.decDigits_one hu]; simp
  ·rw [dd_big hu]
   rw [Nat.pow_succ] at h
   have:=dd_len k (u / 10) (by omega)
   simp
   omega
noncomputable def preD (v:Int):List UInt8:=if v=0 then [] else Lib.decDigits v.toNat
theorem preD_all {v:Int} (h:0≤v):Lib.decDigits v.toNat=preD (v / 10)++[UInt8.ofNat (48+v.toNat % 10)]:=by
 unfold preD
 by_cases hu:v.toNat<10
 ·rw [if_pos (by omega),Lib.decDigits_one hu,Nat.mod_eq_of_lt hu]; rfl
 ·rw [if_neg (by omega),dd_big hu,show (v / 10).toNat=v.toNat / 10 by omega]
theorem preD_step {v:Int} (h:0<v):preD v=preD (v / 10)++[UInt8.ofNat (48+v.toNat % 10)]:=by
 rw [← preD_all (by omega)]
 unfold preD
 rw [if_neg (by omega)]
theorem digits_W {n:Nat} {x:Int} {slf:Int→Option (List UInt8×Unit)} (hn:1048576<n) (h0:0≤x) (h1:x≤1000000):W (l1Number.B n slf x) (fun r=>r.1=Lib.decDigits x.toNat):=by
 unfold l1Number.B
 rw [br_no (by omega)]
 have hd:x.tdiv 10=x / 10:=Int.tdiv_eq_ediv_of_nonneg h0
 rw [hd,w64_id (n:=x / 10) (by omega) (by omega)]
 simp only [List.map_cons,List.map_nil]
 have hL:=dd_len 6 x.toNat (by omega)
 refine W_iter (fun y=>0≤y.1∧y.1≤100000∧preD y.1++y.2.1=Lib.decDigits x.toNat) (fun y=>y.1.toNat) (fun ih y hy hS=>?_) ⟨by omega,by omega,by rw [byte_eq h0,preD_all h0]⟩ (by show (x / 10).toNat<n; omega)
 obtain ⟨v,out,⟨⟩⟩:=y
 obtain ⟨a0,a1,a2⟩:=hy
 simp only at a0 a1 a2
 by_cases hv:0<v
 ·simp only [br_yes hv]
  have hd:v.tdiv 10=v / 10:=Int.tdiv_eq_ediv_of_nonneg a0
  have hl:out.length≤7:=by
   have:=congrArg List.length a2
   rw [List.length_append] at this
   omega
  rw [hd,w64_id (n:=v / 10) (by omega) (by omega),str_chk (by simp; omega)]
  refine hS _ ⟨by simp only; omega,by simp only; omega,?_⟩ (by simp only; omega)
  show preD (v / 10)++([_]++out)=_
  rw [byte_eq a0,← List.append_assoc,← preD_step hv,a2]
 ·simp only [br_no hv]
  rw [W_some]
  show out=_
  rw [← a2,show v=0 by omega]
  rfl
theorem itoa_len {x:Int} (h0 : -1000000≤x) (h1:x≤1000000):(Lib.itoa x).length≤8:=by
 unfold Lib.itoa
 split
 ·have:=dd_len 6 x.natAbs (by omega)
  simp
  omega
 ·have:=dd_len 6 x.toNat (by omega)
  omega
theorem number_spec {n:Nat} {x:Int} (hn:1048576<n) (h0 : -1000000≤x) (h1:x≤1000000):l1Number.f n x=some (Lib.itoa x,()):=by
 have hL:=itoa_len h0 h1
 have:W (l1Number.f n x) (fun r=>r.1=Lib.itoa x):=by
  obtain ⟨m,rfl⟩:∃ m,n=m+2:=⟨n-2,by omega⟩
  show W (l1Number.B (m+2) (l1Number.F (m+2) (m+1)) x) _
  by_cases hx:0≤x
  ·refine W_and (digits_W hn hx h1) (fun r hr=>?_)
   rw [hr,Lib.itoa,if_neg (by omega)]
  ·unfold l1Number.B
   rw [br_yes (by omega),w64_id (n:=0-x) (by omega) (by omega),W_bind]
   refine W_and (show W (l1Number.B (m+2) (l1Number.F (m+2) m) (0-x)) (fun r=>r.1=Lib.decDigits (0-x).toNat) from digits_W hn (by omega) (by omega)) (fun r hr=>?_)
   have hl:=dd_len 6 (0-x).toNat (by omega)
   rw [hr,str_chk (by simp only [List.length_cons,List.length_nil]; omega),W_some,Lib.itoa,if_pos (by omega),show (0-x).toNat=x.natAbs by omega]
   rfl
 obtain ⟨⟨r,⟨⟩⟩,e,h⟩:=this
 rw [e]
 exact congrArg (fun z=>some (z,())) h
theorem tok_sm {x:Int} (h:tok x=true) : -1000000≤x∧x≤1000000:=by
 simp only [tok,Bool.and_eq_true,decide_eq_true_eq] at h
 omega
noncomputable def commaD (y:Int):List UInt8:=[44]++Lib.itoa y
noncomputable def txtS:List Int→List UInt8
 | []=>[46]
 | x::r=>Lib.itoa x++(r.map commaD).flatten
noncomputable def fmtS (s:List Int):List UInt8:=if okS s then txtS s else []
theorem flat_len {α:Type} (g:α→List UInt8) (B:Nat):∀ (l:List α),(∀ x∈l,(g x).length≤B)→(l.map g).flatten.length≤B*l.length
 | [],_=>by simp
 | x::l,h=>by
  have h1:=h x (by simp)
  have h2:=flat_len g B l (fun y hy=>h y (by simp [hy]))
  simp only [List.map_cons,List.flatten_cons,List.length_append,List.length_cons,Nat.mul_add]
  omega
theorem flat_snoc {α:Type} (g:α→List UInt8) (l:List α) (i:Nat) (h:i<l.length):((l.take (i+1)).map g).flatten=((l.take i).map g).flatten++g l[i]:=by
 rw [List.take_succ_eq_append_getElem h]
 simp only [List.map_append,List.map_cons,List.map_nil,List.flatten_append,List.flatten_cons,List.flatten_nil,List.append_nil]
theorem okS_bd {q:List Int} (h:okS q=true):q.length≤400∧∀ x∈q,tok x=true:=by
 simp only [okS,Bool.and_eq_true,decide_eq_true_eq,List.all_eq_true] at h
 exact h
theorem comma_len {x:Int} (h:tok x=true):(commaD x).length≤9:=by
 have:=itoa_len (tok_sm h).1 (tok_sm h).2
 unfold commaD
 simp
 omega
theorem fmtS_len (s:List Int):(fmtS s).length≤4000:=by
 unfold fmtS
 split
 ·rename_i h
  obtain ⟨hl,ht⟩:=okS_bd h
  cases s with
  | nil=>simp [txtS]
  | cons x r=>
   have h1:=itoa_len (tok_sm (ht x (by simp))).1 (tok_sm (ht x (by simp))).2
   have h2:=flat_len commaD 9 r (fun y hy=>comma_len (ht y (by simp [hy])))
   simp only [List.length_cons] at hl
   simp only [txtS,List.length_append]
   omega
 ·simp
theorem cat_list {α γ ρ:Type} (g:α→List UInt8) (l:List α) (t0:List UInt8) {F:(γ→Option ρ)→γ→Option ρ} (st:List UInt8→Int→γ) {R:Option ρ}
  (h1:∀ ih (i:Nat),i<l.length→F ih (st (t0++((l.take i).map g).flatten) (i:Int))=ih (st (t0++((l.take (i+1)).map g).flatten) ((i+1:Nat):Int)))
  (h2:∀ ih,F ih (st (t0++(l.map g).flatten) (l.length:Int))=R) {n:Nat} (hn:l.length<n):iter n F (st t0 0)=R:=by
 have:=iter_line (F:=F) (fun i=>st (t0++((l.take i).map g).flatten) (i:Int)) l.length (R:=R) (fun ih i hi=>h1 ih i hi) (fun ih=>by
  show F ih (st (t0++((l.take l.length).map g).flatten) (l.length:Int))=R
  rw [List.take_length]; exact h2 ih) hn
 simpa using this
theorem fmtStream_spec {n:Nat} {s:List Int} (hs:s.length≤1048576) (hn:1048576<n):fmtStream.f n s=some (fmtS s,()):=by
 unfold fmtStream.f
 rw [sIsStream_spec hs hn,bind_unit]
 cases hk:okS s
 ·rw [Bool.not_false,br_true]; simp [fmtS,hk]
 ·obtain ⟨hl,ht⟩:=okS_bd hk
  rw [Bool.not_true,br_false]
  cases s with
  | nil=>simp [br,fmtS,hk,txtS]
  | cons x r=>
   have e0:fmtS (x::r)=Lib.itoa x++(r.map commaD).flatten:=by simp [fmtS,hk,txtS]
   have t0:=tok_sm (ht x (by simp))
   have h1:=itoa_len t0.1 t0.2
   rw [br_no (by simp; omega),chk_true (by simp)]
   have e1:(x::r).getD 0 0=x:=rfl
   rw [e1,number_spec hn t0.1 t0.2,bind_unit,chk_true (by simp only [List.length_cons]; omega)]
   have e2:((x::r).take ((x::r).length:Int).toNat).drop 1=r:=by rw [Int.toNat_natCast,List.take_length]; rfl
   rw [e2,e0]
   simp only [List.length_cons] at hl
   have hm:∀ i,((r.take i).map commaD).flatten.length≤3600:=fun i=>by
    have h2:=flat_len commaD 9 (r.take i) (fun y hy=>comma_len (ht y (by simp [List.mem_of_mem_take hy])))
    rw [List.length_take] at h2
    have:=Nat.min_le_right i r.length
    omega
   refine cat_list commaD r (Lib.itoa x) (fun t i=>(t,(i,()))) (fun ih i hi=>?_) (fun ih=>?_) (by omega)
   ·have hlt:(i:Int)<(r.length:Int):=by omega
    simp only [br_yes hlt,Int.toNat_natCast]
    have hx:=ht (r.getD i 0) (by rw [getD_lt hi]; simp)
    have hmi:=hm i
    have hc:=comma_len hx
    have hi2:=itoa_len (tok_sm hx).1 (tok_sm hx).2
    rw [chk_true (by omega),str_chk (by simp only [List.length_append,List.length_cons,List.length_nil]; omega),number_spec hn (tok_sm hx).1 (tok_sm hx).2,bind_unit,str_chk (by simp only [List.length_append,List.length_cons,List.length_nil]; omega),w64_succ (by omega)]
    rw [flat_snoc commaD r i hi,getD_lt hi]
    simp only [commaD,List.append_assoc]
   ·simp only [br_no (Int.lt_irrefl _)]
theorem itoaC_spec {n:Nat} {x:Int} (h0 : -1000000≤x) (h1:x≤1000000):itoaC.f n x=some (Lib.itoa x,()):=by
 unfold itoaC.f itoaR
 rw [if_pos (by omega)]
 rfl
theorem joinC_spec {n:Nat} {xs:List (List UInt8)} {sep:List UInt8} (h0:xs.length≤1000000) (h1:(Lib.join xs sep).length≤1000000):joinC.f n xs sep=some (Lib.join xs sep,()):=by
 unfold joinC.f joinR
 rw [if_pos (by omega)]
 rfl
theorem join_txt (x:Int) (r:List Int):Lib.join ((x::r).map Lib.itoa) [44]=txtS (x::r):=by
 rw [List.map_cons,Lib.join_cons,Lib.joinTail,List.map_map]
 rfl
theorem iFmtStream_spec {n:Nat} {s:List Int} (hs:s.length≤1048576) (hn:1048576<n):iFmtStream.f n s=some (fmtS s,()):=by
 have hB:=maxB_eq
 unfold iFmtStream.f
 rw [iIsStream_spec hs hn,bind_unit]
 cases hk:okS s
 ·rw [Bool.not_false,br_true]; simp [fmtS,hk]
 ·obtain ⟨hl,ht⟩:=okS_bd hk
  rw [Bool.not_true,br_false]
  cases s with
  | nil=>simp [br,fmtS,hk,txtS]
  | cons x r=>
   rw [br_no (by simp; omega)]
   have e0:fmtS (x::r)=Lib.join ((x::r).map Lib.itoa) [44]:=by rw [join_txt]; simp [fmtS,hk]
   have hf:=fmtS_len (x::r)
   rw [e0] at hf
   refine push_loopE (x::r) Lib.itoa (fun i l=>(i,(l,()))) (fun ih i hi l hli=>?_) (fun ih=>?_) (by omega)
   ·have hlt:(i:Int)<((x::r).length:Int):=by omega
    have hx:=tok_sm (ht (x::r)[i] (List.getElem_mem _))
    simp only [br_yes hlt,Int.toNat_natCast]
    rw [chk_true (by omega),getD_lt hi,itoaC_spec hx.1 hx.2,bind_unit,chk_true (by simp only [List.length_cons,List.length_nil]; omega),w64_succ (by omega)]
   ·simp only [br_no (Int.lt_irrefl _)]
    rw [joinC_spec (by rw [List.length_map]; omega) (by omega),bind_unit,e0]
theorem cat_loop {γ ρ:Type} (g:Nat→List UInt8) (len B:Nat) (t0:List UInt8) (hB:∀ i,i<len→(g i).length≤B) {F:(γ→Option ρ)→γ→Option ρ} (st:List UInt8→Int→γ) {R:Option ρ}
  (h1:∀ ih (i:Nat) (t:List UInt8),i<len→t.length≤t0.length+B*i→F ih (st t (i:Int))=ih (st (t++g i) ((i+1:Nat):Int)))
  (h2:∀ ih,F ih (st (t0++((List.range len).map g).flatten) (len:Int))=R) {n:Nat} (hn:len<n):iter n F (st t0 0)=R:=by
 have hl:∀ i,i≤len→((List.range i).map g).flatten.length≤B*i:=fun i hi=>by
  have:=flat_len g B (List.range i) (fun x hx=>hB x (by have:=List.mem_range.1 hx; omega))
  rwa [List.length_range] at this
 have:=iter_line (F:=F) (fun i=>st (t0++((List.range i).map g).flatten) (i:Int)) len (R:=R) (fun ih i hi=>by
  show F ih (st (t0++((List.range i).map g).flatten) (i:Int))=_
  rw [h1 ih i _ hi (by have:=hl i (by omega); simp only [List.length_append]; omega),List.range_succ]
  simp) (fun ih=>h2 ih) hn
 simpa using this
theorem push_from {α β γ ρ:Type} (l:List α) (g:α→β) (s0:List β) (st:Int→List β→γ) {F:(γ→Option ρ)→γ→Option ρ} {R:Option ρ}
  (h1:∀ ih i (hi:i<l.length) (s:List β),s.length=s0.length+i→F ih (st i s)=ih (st ((i+1:Nat):Int) (s++[g l[i]])))
  (h2:∀ ih,F ih (st l.length (s0++l.map g))=R) {n:Nat} (hn:l.length<n):iter n F (st 0 s0)=R:=by
 have:=iter_line (F:=F) (fun i=>st (i:Int) (s0++(l.take i).map g)) l.length (R:=R) (fun ih i hi=>by
  show F ih (st (i:Int) (s0++(l.take i).map g))=_
  rw [h1 ih i hi _ (by simp; omega),List.take_succ_eq_append_getElem hi,List.map_append,List.append_assoc]; rfl) (fun ih=>by
  show F ih (st (l.length:Int) _)=_
  rw [List.take_length]; exact h2 ih) hn
 simpa using this
theorem iListed_four {n:Nat} {a b c d:Int} (hn:1048576<n) (ha : -1000000≤a∧a≤1000000) (hb : -1000000≤b∧b≤1000000) (hc : -1000000≤c∧c≤1000000) (hd : -1000000≤d∧d≤1000000) :
  iListed.f n [a,b,c,d]=some (Lib.itoa a++[32]++(Lib.itoa b++[32])++(Lib.itoa c++[32])++(Lib.itoa d++[32]),()):=by
 have la:=itoa_len ha.1 ha.2
 have lb:=itoa_len hb.1 hb.2
 have lc:=itoa_len hc.1 hc.2
 have ld:=itoa_len hd.1 hd.2
 unfold iListed.f
 have e:Lib.itoa a++[32]++(Lib.itoa b++[32])++(Lib.itoa c++[32])++(Lib.itoa d++[32])=[]++(([a,b,c,d]:List Int).map fun y=>Lib.itoa y++[32]).flatten:=by simp
 rw [e]
 have hall:∀ i,i<4→∃ y,([a,b,c,d]:List Int).getD i 0=y∧-1000000≤y∧y≤1000000:=fun i hi=>by
  have:i=0∨i=1∨i=2∨i=3:=by omega
  rcases this with rfl | rfl | rfl | rfl
  ·exact ⟨a,rfl,ha⟩
  ·exact ⟨b,rfl,hb⟩
  ·exact ⟨c,rfl,hc⟩
  ·exact ⟨d,rfl,hd⟩
 have hm:∀ i,((([a,b,c,d]:List Int).take i).map fun y=>Lib.itoa y++[32]).flatten.length≤36:=fun i=>by
  have h1:=flat_len (fun y=>Lib.itoa y++[32]) 9 (([a,b,c,d]:List Int).take i) (fun y hy=>by
   have hy:=List.mem_of_mem_take hy
   simp only [List.mem_cons,List.not_mem_nil,or_false] at hy
   rcases hy with rfl | rfl | rfl | rfl<;>(simp only [List.length_append,List.length_cons,List.length_nil]; omega))
  have h4:([a,b,c,d]:List Int).length=4:=rfl
  rw [List.length_take,h4] at h1
  omega
 refine cat_list (fun y=>Lib.itoa y++[32]) [a,b,c,d] [] (fun t i=>(t,(i,()))) (fun ih i hi=>?_) (fun ih=>?_) (by simp; omega)
 ·simp only [List.length_cons,List.length_nil] at hi
  obtain ⟨y,hy,h0,h1⟩:=hall i (by omega)
  have hmi:=hm i
  have hyl:=itoa_len h0 h1
  have hlt:(i:Int)<(([a,b,c,d]:List Int).length:Int):=by simp only [List.length_cons,List.length_nil]; omega
  simp only [br_yes hlt,Int.toNat_natCast]
  rw [chk_true (by simp only [List.length_cons,List.length_nil]; omega),hy,itoaC_spec h0 h1,bind_unit,str_chk (by simp only [List.length_cons,List.length_nil]; omega),str_chk (by simp only [List.length_append,List.length_cons,List.length_nil]; omega),w64_succ (by omega)]
  rw [flat_snoc (fun y=>Lib.itoa y++[32]) [a,b,c,d] i (by simp; omega)]
  have:([a,b,c,d]:List Int)[i]'(by simp; omega)=y:=by rw [← hy,getD_lt (by simp; omega)]
  rw [this]
  simp only [List.nil_append]
 ·simp only [br_no (Int.lt_irrefl _)]
theorem mem_snoc {α:Type} {P:α→Prop} {l:List α} {x:α} (h:∀ a∈l,P a) (hx:P x):∀ a∈l++[x],P a:=by
 intro a ha
 rcases List.mem_append.1 ha with ha | ha
 ·exact h a ha
 ·rw [List.mem_singleton.1 ha]; exact hx
end Go.AmT
namespace Go.AmT
open Go Go.Am Go.Proofs
set_option linter.unusedVariables false
set_option maxRecDepth 100000
def tys18:List (Nat×TInfo):=[(3,⟨false,1,8,[.int .i64 0],.int .i64,0,some I,[],false⟩),
 (4,⟨false,1,1,[.bool false],.bool,0,some .bool,[],false⟩),
 (9,⟨false,1,16,[.str []],.str,0,some .str,[],false⟩),
 (32,⟨false,1,24,[.nil],.slice,3,some IS,[],false⟩),
 (48,⟨false,1,24,[.nil],.slice,9,some (.sl .str),[],false⟩),
 (66,⟨false,1,24,[.nil],.slice,122,some (.sl tInstr),[],false⟩),
 (68,⟨true,3,40,[.int .i64 0,.int .i64 0,.nil],.struct,0,some tProgram,[(0,3),(1,3),(2,66)],false⟩),
 (122,⟨true,4,32,[.int .i64 0,.int .i64 0,.int .i64 0,.int .i64 0],.struct,0,some tInstr,[(0,3),(1,3),(2,3),(3,3)],false⟩),
 (174,⟨false,1,24,[.nil],.slice,4,some (.sl .bool),[],false⟩),
 (196,⟨false,1,8,[.nilp],.other,0,none,[],false⟩),
 (197,⟨false,1,24,[.nil],.slice,196,none,[],false⟩)]
theorem tys18_ok:(tys18.all fun p=>tokB Tryz.prog p.1 p.2)=true:=by kernel_rfl
def l9Words.las:List (Nat×LA):=[]
noncomputable def l9Words.f (n:Nat)  : Option ((List (List UInt8))×Unit):=some ([[],[114,101,97,100],[119,114,105,116,101],[115,101,116],[97,100,100],[115,117,98],[109,117,108],[114,101,115,116],[106,117,109,112],[122,101,114,111],[98,101,108,111,119],[104,97,108,116]],())
noncomputable def l9Words.mng (n:Nat):Mng:=⟨[],[.val (.sl .str)],fun x=>l9Words.f n ⟩
noncomputable def l9Words.cfg (n:Nat):Cfg:=⟨tys18,[],[],[]⟩
theorem l9Words.gof:GoF Tryz.prog 137:=⟨_,Tryz.func137,by kernel_rfl,by kernel_rfl⟩
theorem l9Words.sound (n:Nat):Sound Tryz.prog 137 (l9Words.mng n):=sndF (c:=l9Words.cfg n) (n:=n) (an:=annOf Tryz.f137 l9Words.las) trivial trivial (tysOK tys18_ok) Tryz.func137 (fun x=>by kernel_rfl)
def l9Uses.las:List (Nat×LA):=[(4,⟨[(4,.bool)],[],[3],[]⟩)]
noncomputable def l9Uses.f (n:Nat) (a0:Int):Option ((List Bool)×Unit):=cut (α:=(Bool×Unit)) (br (decide (a0=4)) (some (.inr ((decide (a0=4)),()))) (br (decide (a0=5)) (some (.inr ((decide (a0=5)),()))) (br (decide (a0=6)) (some (.inr ((decide (a0=6)),()))) (some (.inr ((decide (a0=7)),())))))) fun y1=>br y1.1 (some ([true,true,true],())) (br (decide (a0=8)) (some ([false,true,false],())) (br (decide (a0=11)) (some ([false,false,false],())) (some ([true,true,false],()))))
noncomputable def l9Uses.mng (n:Nat):Mng:=⟨[.val I],[.val (.sl .bool)],fun x=>l9Uses.f n x.1⟩
noncomputable def l9Uses.cfg (n:Nat):Cfg:=⟨tys18,[],[],[]⟩
theorem l9Uses.gof:GoF Tryz.prog 138:=⟨_,Tryz.func138,by kernel_rfl,by kernel_rfl⟩
theorem l9Uses.sound (n:Nat):Sound Tryz.prog 138 (l9Uses.mng n):=sndF (c:=l9Uses.cfg n) (n:=n) (an:=annOf Tryz.f138 l9Uses.las) trivial trivial (tysOK tys18_ok) Tryz.func138 (fun x=>by kernel_rfl)
def l9Fits.las:List (Nat×LA):=[]
noncomputable def l9Fits.f (n:Nat) (a0:Instr):Option (Bool×Unit):=chk (24=24∧0≤24∧24*(32:Int)≤(maxB:Int)) ((sL2Operands.f n (3,(3,(List.replicate 24 ((0,(0,(0,0))):Instr)))) a0).bind fun r1=>some (r1.1,()))
noncomputable def l9Fits.mng (n:Nat):Mng:=⟨[.val tInstr],[.val .bool],fun x=>l9Fits.f n x.1⟩
noncomputable def l9Fits.cfg (n:Nat):Cfg:=⟨tys18,[(134,sL2Operands.mng n)],[],[]⟩
theorem l9Fits.gof:GoF Tryz.prog 136:=⟨_,Tryz.func136,by kernel_rfl,by kernel_rfl⟩
theorem l9Fits.sound (n:Nat):Sound Tryz.prog 136 (l9Fits.mng n):=sndF (c:=l9Fits.cfg n) (n:=n) (an:=annOf Tryz.f136 l9Fits.las) ⟨⟨sL2Operands.sound n,sL2Operands.gof⟩,trivial⟩ trivial (tysOK tys18_ok) Tryz.func136 (fun x=>by kernel_rfl)
def fmtInstr.las:List (Nat×LA):=[(8,⟨[(3,.str),(24,.own 1000 I),(26,.int .i64)],[(1000,.row true I)],[4,25],[]⟩)]
noncomputable def fmtInstr.f (n:Nat) (a0:Instr):Option ((List UInt8)×Unit):=(l9Fits.f n a0).bind fun r1=>br (!r1.1) (some ([],())) ((l9Words.f n ).bind fun r2=>chk (0≤a0.1∧a0.1<(r2.1.length:Int)) ((l9Uses.f n a0.1).bind fun r3=>iter (α:=((List UInt8)×(Int×(List Int)×Unit))) n (fun ih11 x10=>br (decide (x10.2.1<3)) (chk (0≤x10.2.1∧x10.2.1<(x10.2.2.1.length:Int)) (chk (0≤x10.2.1∧x10.2.1<(r3.1.length:Int)) (br (r3.1.getD x10.2.1.toNat false) (chk (x10.1.length+([32]:List UInt8).length<maxS) ((l1Number.f n (x10.2.2.1.getD x10.2.1.toNat 0)).bind fun r12=>chk ((x10.1++([32]:List UInt8)).length+r12.1.length<maxS) (ih11 (((x10.1++([32]:List UInt8))++r12.1),((w64 (x10.2.1+1)),(x10.2.2.1,())))))) (ih11 (x10.1,((w64 (x10.2.1+1)),(x10.2.2.1,()))))))) (some (x10.1,()))) ((r2.1.getD a0.1.toNat []),(0,([a0.2.1,a0.2.2.1,a0.2.2.2],())))))
noncomputable def fmtInstr.mng (n:Nat):Mng:=⟨[.val tInstr],[.val .str],fun x=>fmtInstr.f n x.1⟩
noncomputable def fmtInstr.cfg (n:Nat):Cfg:=⟨tys18,[(136,l9Fits.mng n),(137,l9Words.mng n),(138,l9Uses.mng n)],[(33,l1Number.mng n)],[]⟩
theorem fmtInstr.gof:GoF Tryz.prog 81:=⟨_,Tryz.func81,by kernel_rfl,by kernel_rfl⟩
theorem fmtInstr.sound (n:Nat):Sound Tryz.prog 81 (fmtInstr.mng n):=sndF (c:=fmtInstr.cfg n) (n:=n) (an:=annOf Tryz.f81 fmtInstr.las) ⟨⟨l9Fits.sound n,l9Fits.gof⟩,⟨⟨l9Words.sound n,l9Words.gof⟩,⟨⟨l9Uses.sound n,l9Uses.gof⟩,trivial⟩⟩⟩ ⟨⟨l1Number.sound n,l1Number.gof⟩,trivial⟩ (tysOK tys18_ok) Tryz.func81 (fun x=>by kernel_rfl)
def iOps.las:List (Nat×LA):=[]
noncomputable def iOps.f (n:Nat)  : Option ((List (List UInt8))×Unit):=some ([[],[114,101,97,100],[119,114,105,116,101],[115,101,116],[97,100,100],[115,117,98],[109,117,108],[114,101,115,116],[106,117,109,112],[122,101,114,111],[98,101,108,111,119],[104,97,108,116]],())
noncomputable def iOps.mng (n:Nat):Mng:=⟨[],[.val (.sl .str)],fun x=>iOps.f n ⟩
noncomputable def iOps.cfg (n:Nat):Cfg:=⟨tys18,[],[],[]⟩
theorem iOps.gof:GoF Tryz.prog 196:=⟨_,Tryz.func196,by kernel_rfl,by kernel_rfl⟩
theorem iOps.sound (n:Nat):Sound Tryz.prog 196 (iOps.mng n):=sndF (c:=iOps.cfg n) (n:=n) (an:=annOf Tryz.f196 iOps.las) trivial trivial (tysOK tys18_ok) Tryz.func196 (fun x=>by kernel_rfl)
theorem iPts.gof:GoF Tryz.prog 197:=⟨_,Tryz.func197,by kernel_rfl,by kernel_rfl⟩
theorem iPts.pts:PtsOK Tryz.prog 197:={
 a:=fun w b o op hc h=>by
  simp only [ptsA,decide_eq_true_eq] at h
  rcases h with rfl | rfl | rfl | rfl | rfl<;>
  ·go_enter Tryz.func197,Tryz.ntmps197
   go_wp2
   go_region
   go_wp2
   go_ret
   exact ⟨rfl,196,rfl,rfl,rfl,rfl⟩
 b:=fun w b o op hc h=>by
  simp only [ptsB,decide_eq_true_eq] at h
  rcases h with rfl | rfl | rfl | rfl<;>
  ·go_enter Tryz.func197,Tryz.ntmps197
   go_wp2
   go_region
   go_wp2
   go_ret
   exact ⟨rfl,196,rfl,rfl,rfl,rfl⟩
 c:=fun w b o op hc h=>by
  simp only [ptsC,decide_eq_true_eq] at h
  subst h
  ·go_enter Tryz.func197,Tryz.ntmps197
   go_wp2
   go_ret
   exact ⟨rfl,196,rfl,rfl,rfl,rfl⟩
 n:=fun w b o op hc h h' h''=>by
  simp only [ptsA,ptsB,ptsC,decide_eq_false_iff_not,not_or] at h h' h''
  obtain ⟨h1,h2,h3,h9,h10⟩:=h
  obtain ⟨h4,h5,h6,h7⟩:=h'
  go_enter Tryz.func197,Tryz.ntmps197
  go_wp2
  go_ret
  exact ⟨rfl,rfl⟩ }
def iFmtInstr.las:List (Nat×LA):=[(500007,⟨[],[],[],[]⟩)]
noncomputable def iFmtInstr.f (n:Nat) (a0:Instr):Option ((List UInt8)×Unit):=(isInstr.f n a0 3 3 24).bind fun r1=>br (!r1.1) (some ([],())) ((iOps.f n ).bind fun r2=>chk (0≤a0.1∧a0.1<(r2.1.length:Int)) (br (ptsA a0.1) ((itoaC.f n a0.2.1).bind fun r3=>chk (([32]:List UInt8).length+r3.1.length<maxS) (chk ((r2.1.getD a0.1.toNat []).length+(([32]:List UInt8)++r3.1).length<maxS) ((itoaC.f n a0.2.2.1).bind fun r4=>chk (([32]:List UInt8).length+r4.1.length<maxS) (chk (((r2.1.getD a0.1.toNat [])++(([32]:List UInt8)++r3.1)).length+(([32]:List UInt8)++r4.1).length<maxS) (some ((((r2.1.getD a0.1.toNat [])++(([32]:List UInt8)++r3.1))++(([32]:List UInt8)++r4.1)),())))))) (br (ptsB a0.1) ((itoaC.f n a0.2.1).bind fun r5=>chk (([32]:List UInt8).length+r5.1.length<maxS) (chk ((r2.1.getD a0.1.toNat []).length+(([32]:List UInt8)++r5.1).length<maxS) ((itoaC.f n a0.2.2.1).bind fun r6=>chk (([32]:List UInt8).length+r6.1.length<maxS) (chk (((r2.1.getD a0.1.toNat [])++(([32]:List UInt8)++r5.1)).length+(([32]:List UInt8)++r6.1).length<maxS) ((itoaC.f n a0.2.2.2).bind fun r7=>chk (([32]:List UInt8).length+r7.1.length<maxS) (chk ((((r2.1.getD a0.1.toNat [])++(([32]:List UInt8)++r5.1))++(([32]:List UInt8)++r6.1)).length+(([32]:List UInt8)++r7.1).length<maxS) (some (((((r2.1.getD a0.1.toNat [])++(([32]:List UInt8)++r5.1))++(([32]:List UInt8)++r6.1))++(([32]:List UInt8)++r7.1)),())))))))) (br (ptsC a0.1) ((itoaC.f n a0.2.2.1).bind fun r8=>chk (([32]:List UInt8).length+r8.1.length<maxS) (chk ((r2.1.getD a0.1.toNat []).length+(([32]:List UInt8)++r8.1).length<maxS) (some (((r2.1.getD a0.1.toNat [])++(([32]:List UInt8)++r8.1)),())))) (some ((r2.1.getD a0.1.toNat []),()))))))
noncomputable def iFmtInstr.mng (n:Nat):Mng:=⟨[.val tInstr],[.val .str],fun x=>iFmtInstr.f n x.1⟩
noncomputable def iFmtInstr.cfg (n:Nat):Cfg:=⟨tys18,[(145,isInstr.mng n),(196,iOps.mng n),(50,itoaC.mng n)],[],[3000197]⟩
theorem iFmtInstr.eq:∀ (n:Nat) (a0:Instr),runF (iFmtInstr.cfg n) n Tryz.f198 (annOf Tryz.f198 iFmtInstr.las) [.val tInstr] [.val .str] (a0,())=iFmtInstr.f n a0:=by
 intros
 kernel_rfl
theorem iFmtInstr.gof:GoF Tryz.prog 198:=⟨_,Tryz.func198,by kernel_rfl,by kernel_rfl⟩
theorem iFmtInstr.sound (n:Nat):Sound Tryz.prog 198 (iFmtInstr.mng n):=runF_sound (fn:=Tryz.f198) (m:=iFmtInstr.mng n) (c:=iFmtInstr.cfg n) (regOK mixed (opOK (.of (c:=iFmtInstr.cfg n) ⟨⟨isInstr.sound n,isInstr.gof⟩,⟨⟨iOps.sound n,iOps.gof⟩,⟨⟨itoaC.sound n,itoaC.gof⟩,trivial⟩⟩⟩ (ptsAll_one (f:=197) rfl iPts.pts iPts.gof)) (.of (c:=iFmtInstr.cfg n) trivial)) (tysOK tys18_ok)) (tysOK tys18_ok) Tryz.func198 (fun x=>(iFmtInstr.eq n x.1).symm)
end Go.AmT
namespace Go.AmT
open Go Go.Am
set_option linter.unusedVariables false
set_option linter.unusedSimpArgs false
def wordsL:List (List UInt8):=[[],[114,101,97,100],[119,114,105,116,101],[115,101,116],[97,100,100],[115,117,98],[109,117,108],[114,101,115,116],[106,117,109,112],[122,101,114,111],[98,101,108,111,119],[104,97,108,116]]
theorem l9Words_spec (n:Nat):l9Words.f n=some (wordsL,()):=rfl
theorem iOps_spec (n:Nat):iOps.f n=some (wordsL,()):=rfl
def opw (op:Int):List UInt8:=wordsL.getD op.toNat []
theorem op_cases {op:Int} (h:1≤op∧op≤11):op=1∨op=2∨op=3∨op=4∨op=5∨op=6∨op=7∨op=8∨op=9∨op=10∨op=11:=by omega
theorem opw_len {op:Int} (h:1≤op∧op≤11):(opw op).length≤5:=by
 rcases op_cases h with rfl | rfl | rfl | rfl | rfl | rfl | rfl | rfl | rfl | rfl | rfl<;>decide
def usesL (op:Int):List Bool:=if ptsB op then [true,true,true] else if op=8 then [false,true,false] else if op=11 then [false,false,false] else [true,true,false]
theorem l9Uses_spec (n:Nat) (op:Int):l9Uses.f n op=some (usesL op,()):=by
 have e:(br (decide (op=4)) (some (Sum.inr (α:=List Bool×Unit) ((decide (op=4)),()))) (br (decide (op=5)) (some (.inr ((decide (op=5)),()))) (br (decide (op=6)) (some (.inr ((decide (op=6)),()))) (some (.inr ((decide (op=7)),()))))))=some (.inr (ptsB op,())):=by
  unfold ptsB
  by_cases h4:op=4
  ·subst h4; rfl
  by_cases h5:op=5
  ·subst h5; rfl
  by_cases h6:op=6
  ·subst h6; rfl
  rw [br_no h4,br_no h5,br_no h6]
  simp [h4,h5,h6]
 unfold l9Uses.f usesL
 rw [e]
 simp only [cut_inr]
 cases ptsB op
 ·simp only [br_false,Bool.false_eq_true,if_false]
  by_cases h8:op=8
  ·rw [br_yes h8,if_pos h8]
  ·rw [br_no h8,if_neg h8]
   by_cases h11:op=11
   ·rw [br_yes h11,if_pos h11]
   ·rw [br_no h11,if_neg h11]
 ·rfl
def smI (x:Int):Prop:=-1000000≤x∧x≤1000000
structure OkI (x:Instr):Prop where
 op:1≤x.1∧x.1≤11
 a:smI x.2.1
 b:smI x.2.2.1
 c:smI x.2.2.2
 nc:ptsB x.1=false→x.2.2.2=0
 na:ptsA x.1=false→ptsB x.1=false→x.2.1=0
 nb:x.1=11→x.2.2.1=0
theorem okI_all {ins outs size:Int} {x:Instr} (h:okI ins outs size x=true) (hi:ins≤3) (ho:outs≤3) (hs:size≤24):OkI x:=by
 obtain ⟨op,a,b,c⟩:=x
 unfold okI at h
 simp only [reg,tok] at h
 have key:(1≤op∧op≤11):=by
  by_cases h0:1≤op∧op≤11
  ·exact h0
  ·exfalso
   rw [if_neg (by omega),if_neg (by omega),if_neg (by omega),if_neg (by omega),if_neg (by omega),if_neg (by omega),if_neg (by omega)] at h
   cases h
 rcases op_cases key with rfl | rfl | rfl | rfl | rfl | rfl | rfl | rfl | rfl | rfl | rfl<;>
 ·simp (config:={ decide:=true }) only [if_true,if_false,Bool.and_eq_true,decide_eq_true_eq,or_true,true_or,or_false,false_or] at h
  refine ⟨⟨?_,?_⟩,⟨?_,?_⟩,⟨?_,?_⟩,⟨?_,?_⟩,fun hb=>?_,fun ha hb=>?_,fun he=>?_⟩<;>(try dsimp only at *)<;>first | omega | (exfalso; revert hb; decide) | (exfalso; revert ha; decide)
noncomputable def spD (n:Int):List UInt8:=[32]++Lib.itoa n
noncomputable def txtI (x:Instr):List UInt8:=
 opw x.1++(if ptsA x.1 then spD x.2.1++spD x.2.2.1 else if ptsB x.1 then spD x.2.1++(spD x.2.2.1++spD x.2.2.2) else if ptsC x.1 then spD x.2.2.1 else [])
noncomputable def fmtI (x:Instr):List UInt8:=if okI 3 3 24 x then txtI x else []
theorem spD_len {n:Int} (h:smI n):(spD n).length≤9:=by
 have:=itoa_len h.1 h.2
 simp only [spD,List.length_append,List.length_cons,List.length_nil]
 omega
theorem txtI_len {x:Instr} (h:OkI x):(txtI x).length≤40:=by
 have h0:=opw_len h.op
 have ha:=spD_len h.a
 have hb:=spD_len h.b
 have hc:=spD_len h.c
 unfold txtI
 rw [List.length_append]
 split
 ·rw [List.length_append]; omega
 ·split
  ·rw [List.length_append,List.length_append]; omega
  ·split
   ·omega
   ·simp only [List.length_nil]; omega
theorem fmtI_len (x:Instr):(fmtI x).length≤40:=by
 unfold fmtI
 split
 ·rename_i h; exact txtI_len (okI_all h (by omega) (by omega) (by omega))
 ·simp
theorem fmtInstr_spec {n:Nat} {x:Instr} (hn:1048576<n):fmtInstr.f n x=some (fmtI x,()):=by
 have hm:=maxB_eq
 unfold fmtInstr.f l9Fits.f fmtI
 have hf:=sL2Operands_spec n (3,(3,(List.replicate 24 ((0,(0,(0,0))):Instr)))) x ⟨by decide,by decide⟩ ⟨by decide,by decide⟩
 rw [chk_true (by refine ⟨rfl,?_⟩; omega),hf,bind_unit,bind_unit]
 have e24:(((3,(3,(List.replicate 24 ((0,(0,(0,0))):Instr)))):Program).2.2.length:Int)=24:=by simp
 rw [e24]
 cases hk:okI 3 3 24 x
 ·simp only [Bool.not_false,br_true]
  rfl
 ·have O:=okI_all hk (by omega) (by omega) (by omega)
  simp only [Bool.not_true,br_false,if_true]
  have hop:=O.op
  have hwl:(wordsL.length:Int)=12:=rfl
  rw [l9Words_spec,bind_unit]
  dsimp only
  rw [chk_true (by rw [hwl]; omega),l9Uses_spec,bind_unit]
  dsimp only
  have hul:(usesL x.1).length=3:=by
   unfold usesL
   repeat' split
   all_goals rfl
  have sm:∀ i,i<3→smI ([x.2.1,x.2.2.1,x.2.2.2].getD i 0):=fun i hi=>by
   have:i=0∨i=1∨i=2:=by omega
   rcases this with rfl | rfl | rfl
   ·exact O.a
   ·exact O.b
   ·exact O.c
  have hend:opw x.1++((List.range 3).map fun i=>if (usesL x.1).getD i false then spD ([x.2.1,x.2.2.1,x.2.2.2].getD i 0) else []).flatten=txtI x:=by
   unfold txtI
   congr 1
   show (if (usesL x.1).getD 0 false then spD x.2.1 else [])++((if (usesL x.1).getD 1 false then spD x.2.2.1 else [])++((if (usesL x.1).getD 2 false then spD x.2.2.2 else [])++[]))=_
   rcases op_cases hop with h | h | h | h | h | h | h | h | h | h | h<;>(rw [h]; simp [usesL,ptsA,ptsB,ptsC])
  rw [← hend]
  refine cat_loop (fun i=>if (usesL x.1).getD i false then spD ([x.2.1,x.2.2.1,x.2.2.2].getD i 0) else []) 3 9 (opw x.1) (fun i hi=>?_) (fun t i=>(t,(i,([x.2.1,x.2.2.1,x.2.2.2],())))) (fun ih i t hi ht=>?_) (fun ih=>?_) (by omega)
  ·split
   ·exact spD_len (sm i hi)
   ·simp
  ·have h0:=opw_len hop
   have hs:=sm i hi
   have hl:=itoa_len hs.1 hs.2
   simp only [br_yes (show (i:Int)<3 by omega),Int.toNat_natCast]
   rw [chk_true (by simp only [List.length_cons,List.length_nil]; omega),chk_true (by rw [hul]; omega)]
   cases hu:(usesL x.1).getD i false
   ·rw [br_false,w64_succ (by omega)]
    simp
   ·rw [br_true,str_chk (by simp only [List.length_cons,List.length_nil]; omega),number_spec hn hs.1 hs.2,bind_unit,str_chk (by simp only [List.length_append,List.length_cons,List.length_nil]; omega),w64_succ (by omega)]
    simp [spD]
  ·simp only [br_no (show ¬ ((3:Nat):Int)<3 by omega)]
theorem iFmtInstr_spec {n:Nat} {x:Instr} : iFmtInstr.f n x=some (fmtI x,()):=by
 unfold iFmtInstr.f fmtI
 rw [isInstr_spec,bind_unit]
 cases hk:okI 3 3 24 x
 ·simp only [Bool.not_false,br_true]
  rfl
 ·have O:=okI_all hk (by omega) (by omega) (by omega)
  simp only [Bool.not_true,br_false,if_true]
  have hop:=O.op
  have hwl:(wordsL.length:Int)=12:=rfl
  have h0:=opw_len hop
  have ha:=itoa_len O.a.1 O.a.2
  have hb:=itoa_len O.b.1 O.b.2
  have hc:=itoa_len O.c.1 O.c.2
  rw [iOps_spec,bind_unit]
  dsimp only
  rw [chk_true (by rw [hwl]; omega)]
  show br (ptsA x.1) ((itoaC.f n x.2.1).bind _) _=_
  unfold txtI
  have h0':(wordsL.getD x.1.toNat []).length≤5:=h0
  rw [itoaC_spec O.a.1 O.a.2,itoaC_spec O.b.1 O.b.2,itoaC_spec O.c.1 O.c.2]
  simp only [bind_unit]
  have L:∀ {m:Nat} {ρ:Type} {y:Option ρ},m≤1000→chk (m<maxS) y=y:=fun h=>str_chk (by omega)
  cases ptsA x.1
  ·cases ptsB x.1
   ·cases ptsC x.1
    ·simp [br,opw]
    ·simp only [br_true,br_false,Bool.false_eq_true,if_false,if_true]
     rw [L (by simp only [List.length_cons,List.length_nil]; omega),L (by simp only [List.length_append,List.length_cons,List.length_nil]; omega)]
     rfl
   ·simp only [br_true,br_false,Bool.false_eq_true,if_false,if_true]
    rw [L (by simp only [List.length_cons,List.length_nil]; omega),L (by simp only [List.length_append,List.length_cons,List.length_nil]; omega),L (by simp only [List.length_cons,List.length_nil]; omega),L (by simp only [List.length_append,List.length_cons,List.length_nil]; omega),L (by simp only [List.length_cons,List.length_nil]; omega),L (by simp only [List.length_append,List.length_cons,List.length_nil]; omega)]
    simp only [opw,spD,List.append_assoc]
  ·simp only [br_true,if_true]
   rw [L (by simp only [List.length_cons,List.length_nil]; omega),L (by simp only [List.length_append,List.length_cons,List.length_nil]; omega),L (by simp only [List.length_cons,List.length_nil]; omega),L (by simp only [List.length_append,List.length_cons,List.length_nil]; omega)]
   simp only [opw,spD,List.append_assoc]
end Go.AmT
namespace Go.AmT
open Go Go.Am Go.Proofs
set_option linter.unusedVariables false
set_option maxRecDepth 100000
def tys19:List (Nat×TInfo):=[(3,⟨false,1,8,[.int .i64 0],.int .i64,0,some I,[],false⟩),
 (9,⟨false,1,16,[.str []],.str,0,some .str,[],false⟩),
 (32,⟨false,1,24,[.nil],.slice,3,some IS,[],false⟩),
 (48,⟨false,1,24,[.nil],.slice,9,some (.sl .str),[],false⟩),
 (136,⟨false,1,16,[.err true],.iface,0,some .err,[],false⟩)]
theorem tys19_ok:(tys19.all fun p=>tokB Tryz.prog p.1 p.2)=true:=by kernel_rfl
noncomputable def splitC.f (n:Nat) (a0:List UInt8) (a1:List UInt8):Option (List (List UInt8)×Unit):=splitF a0 a1
noncomputable def splitC.mng (n:Nat):Mng:=⟨[.val .str,.val .str],[.sh (.sl .str)],fun x=>splitC.f n x.1 x.2.1⟩
theorem splitC.gof:GoF Tryz.prog 69:=⟨_,Tryz.func69,by kernel_rfl,by kernel_rfl⟩
theorem splitC.sound (n:Nat):Sound Tryz.prog 69 (splitC.mng n):=split_sound (b:=1) (by kernel_rfl) (fun s sep m w hs hm h1=>Tryz.strings_Split s sep m w hs hm h1)
noncomputable def atoiC.f (n:Nat) (a0:List UInt8):Option (Int×(Bool×Unit)):=atoiF a0
noncomputable def atoiC.mng (n:Nat):Mng:=⟨[.val .str],[.val (.int .i64),.val .err],fun x=>atoiC.f n x.1⟩
theorem atoiC.gof:GoF Tryz.prog 170:=⟨_,Tryz.func170,by kernel_rfl,by kernel_rfl⟩
theorem atoiC.sound (n:Nat):Sound Tryz.prog 170 (atoiC.mng n):=atoi_sound (by kernel_rfl) (by kernel_rfl) (fun s h v hv w=>Tryz.strconv_Atoi_ok s h v hv w) (fun s h hv tp p w hvar=>(Tryz.strconv_Atoi_syntax_var s h hv tp p w hvar).mono fun e w' ⟨N,he,_,_,hb⟩=>⟨_,_,he,hb⟩) (fun s h hv tp p w hvar=>(Tryz.strconv_Atoi_range_var s h hv tp p w hvar).mono fun e w' ⟨N,he,_,_,hb⟩=>⟨_,_,he,hb⟩)
def iNumber.las:List (Nat×LA):=[]
noncomputable def iNumber.f (n:Nat) (a0:List UInt8):Option (Int×(Bool×Unit)):=(atoiC.f n a0).bind fun r1=>br r1.2.1 ((itoaC.f n r1.1).bind fun r2=>some (r1.1,((decide (r2.1=a0)),()))) (some (r1.1,(false,())))
noncomputable def iNumber.mng (n:Nat):Mng:=⟨[.val .str],[.val I,.val .bool],fun x=>iNumber.f n x.1⟩
noncomputable def iNumber.cfg (n:Nat):Cfg:=⟨tys19,[(170,atoiC.mng n),(50,itoaC.mng n)],[],[]⟩
theorem iNumber.gof:GoF Tryz.prog 122:=⟨_,Tryz.func122,by kernel_rfl,by kernel_rfl⟩
theorem iNumber.sound (n:Nat):Sound Tryz.prog 122 (iNumber.mng n):=sndF (c:=iNumber.cfg n) (n:=n) (an:=annOf Tryz.f122 iNumber.las) ⟨⟨atoiC.sound n,atoiC.gof⟩,⟨⟨itoaC.sound n,itoaC.gof⟩,trivial⟩⟩ trivial (tysOK tys19_ok) Tryz.func122 (fun x=>by kernel_rfl)
def iParseStream.las:List (Nat×LA):=[(7,⟨[(4,.own 1000 I),(15,.int .i64)],[(1000,.row true I)],[13,14],[]⟩)]
noncomputable def iParseStream.f (n:Nat) (a0:List UInt8):Option ((List Int)×(Bool×Unit)):=br (decide (a0=([46]:List UInt8))) (some ([],(true,()))) ((splitC.f n a0 ([44]:List UInt8)).bind fun r1=>iter (α:=(Int×(List Int)×Unit)) n (fun ih12 x11=>br (decide (x11.1<(r1.1.length:Int))) (chk (0≤x11.1∧x11.1<(r1.1.length:Int)) (let v13:=(r1.1.getD x11.1.toNat []); (iNumber.f n v13).bind fun r14=>br (!r14.2.1) (some ([],(false,()))) (chk ((x11.2.1.length+([r14.1]:List Int).length)*8≤maxB) (ih12 ((w64 (x11.1+1)),((x11.2.1++[r14.1]),())))))) ((iIsStream.f n x11.2.1).bind fun r15=>br (!r15.1) (some ([],(false,()))) (some (x11.2.1,(true,()))))) (0,([],())))
noncomputable def iParseStream.mng (n:Nat):Mng:=⟨[.val .str],[.val IS,.val .bool],fun x=>iParseStream.f n x.1⟩
noncomputable def iParseStream.cfg (n:Nat):Cfg:=⟨tys19,[(69,splitC.mng n),(122,iNumber.mng n),(49,iIsStream.mng n)],[],[]⟩
theorem iParseStream.gof:GoF Tryz.prog 71:=⟨_,Tryz.func71,by kernel_rfl,by kernel_rfl⟩
theorem iParseStream.sound (n:Nat):Sound Tryz.prog 71 (iParseStream.mng n):=sndF (c:=iParseStream.cfg n) (n:=n) (an:=annOf Tryz.f71 iParseStream.las) ⟨⟨splitC.sound n,splitC.gof⟩,⟨⟨iNumber.sound n,iNumber.gof⟩,⟨⟨iIsStream.sound n,iIsStream.gof⟩,trivial⟩⟩⟩ trivial (tysOK tys19_ok) Tryz.func71 (fun x=>by kernel_rfl)
end Go.AmT
