/- Functions that the law FnDeskKeeps reaches, each as a plain Lean function, and that each does what that says. No condition. -/
import Derived.Test.YtfoamipegmbcgaaGreatDoorMKpF12
import Derived.Test.YtfoamipegmbcgaaGreatDoorMKpF11
import Derived.Test.YtfoamipegmbcgaaGreatDoorMKpF2
namespace Go.AmT
noncomputable section
open Go Go.Am Go.Proofs
set_option linter.unusedVariables false
set_option maxRecDepth 100000
def mJ.f (n:Nat) (a0:ai):Option ((List UInt8)×Unit):=(fo.f n a0).bind fun r1=>br (!r1.1) (some ([],())) (iter (α:=((List UInt8)×(Int×Unit))) n (fun w5 dr=>br (decide (dr.2.1<(a0.1.length:Int))) (ab (0≤dr.2.1∧dr.2.1<(a0.1.length:Int)) (let w6:=(a0.1.getD dr.2.1.toNat bp); ab (dr.1.length+([112,114,111,99,101,115,115,32]:List UInt8).length<aU) ((vk.f n w6).bind fun dh=>ab ((dr.1++([112,114,111,99,101,115,115,32]:List UInt8)).length+dh.1.length<aU) (ab (((dr.1++([112,114,111,99,101,115,115,32]:List UInt8))++dh.1).length+([10]:List UInt8).length<aU) (w5 ((((dr.1++([112,114,111,99,101,115,115,32]:List UInt8))++dh.1)++([10]:List UInt8)),((ag (dr.2.1+1)),()))))))) (iter (α:=((List UInt8)×(Int×Unit))) n (fun X1 j_=>br (decide (j_.2.1<(a0.2.length:Int))) (ab (0≤j_.2.1∧j_.2.1<(a0.2.length:Int)) (let v30:=(a0.2.getD j_.2.1.toNat aM); ab (j_.1.length+([108,105,110,107,32]:List UInt8).length<aU) ((bw.f n v30.1).bind fun iZ=>ab ((j_.1++([108,105,110,107,32]:List UInt8)).length+iZ.1.length<aU) (ab (((j_.1++([108,105,110,107,32]:List UInt8))++iZ.1).length+([32]:List UInt8).length<aU) ((bw.f n v30.2.1).bind fun fF=>ab ((((j_.1++([108,105,110,107,32]:List UInt8))++iZ.1)++([32]:List UInt8)).length+fF.1.length<aU) (ab (((((j_.1++([108,105,110,107,32]:List UInt8))++iZ.1)++([32]:List UInt8))++fF.1).length+([32]:List UInt8).length<aU) ((bw.f n v30.2.2.1).bind fun jQ=>ab ((((((j_.1++([108,105,110,107,32]:List UInt8))++iZ.1)++([32]:List UInt8))++fF.1)++([32]:List UInt8)).length+jQ.1.length<aU) (ab (((((((j_.1++([108,105,110,107,32]:List UInt8))++iZ.1)++([32]:List UInt8))++fF.1)++([32]:List UInt8))++jQ.1).length+([32]:List UInt8).length<aU) ((bw.f n v30.2.2.2.1).bind fun h_=>ab ((((((((j_.1++([108,105,110,107,32]:List UInt8))++iZ.1)++([32]:List UInt8))++fF.1)++([32]:List UInt8))++jQ.1)++([32]:List UInt8)).length+h_.1.length<aU) (ab (((((((((j_.1++([108,105,110,107,32]:List UInt8))++iZ.1)++([32]:List UInt8))++fF.1)++([32]:List UInt8))++jQ.1)++([32]:List UInt8))++h_.1).length+([32]:List UInt8).length<aU) ((mI.f n v30.2.2.2.2).bind fun jZ=>ab ((((((((((j_.1++([108,105,110,107,32]:List UInt8))++iZ.1)++([32]:List UInt8))++fF.1)++([32]:List UInt8))++jQ.1)++([32]:List UInt8))++h_.1)++([32]:List UInt8)).length+jZ.1.length<aU) (ab (((((((((((j_.1++([108,105,110,107,32]:List UInt8))++iZ.1)++([32]:List UInt8))++fF.1)++([32]:List UInt8))++jQ.1)++([32]:List UInt8))++h_.1)++([32]:List UInt8))++jZ.1).length+([10]:List UInt8).length<aU) (X1 ((((((((((((j_.1++([108,105,110,107,32]:List UInt8))++iZ.1)++([32]:List UInt8))++fF.1)++([32]:List UInt8))++jQ.1)++([32]:List UInt8))++h_.1)++([32]:List UInt8))++jZ.1)++([10]:List UInt8)),((ag (j_.2.1+1)),()))))))))))))))) (some (j_.1,()))) (dr.1,(0,())))) ([],(0,())))
def mJ.ae (n:Nat):ar:=⟨[.val cD],[.val .str],fun x=>mJ.f n x.1⟩
theorem mJ.ok (n:Nat):aN 9 (mJ.ae n):=aQ n [(7,⟨[(3,.str),(14,.int .i64)],[],[1,12,13],[]⟩),(16,⟨[(3,.str),(28,.int .i64)],[],[26,27],[]⟩)] [] (ak ⟨fo.sound n,fo.az⟩ (ak (vk.ok n) (ak (mI.ok n) aC))) (bA ⟨bw.sound n,bw.az⟩ aD) Tryz.func9
def vm.f (n:Nat) (a0:ai):Option ((List UInt8)×Unit):=(dq.f n a0).bind fun r1=>br (!r1.1) (some ([],())) (iter (α:=((List UInt8)×(Int×Unit))) n (fun w5 dr=>br (decide (dr.2.1<(a0.1.length:Int))) (ab (0≤dr.2.1∧dr.2.1<(a0.1.length:Int)) (let w6:=(a0.1.getD dr.2.1.toNat bp); (vl.f n w6).bind fun dh=>ab (([112,114,111,99,101,115,115,32]:List UInt8).length+dh.1.length<aU) (ab ((([112,114,111,99,101,115,115,32]:List UInt8)++dh.1).length+([10]:List UInt8).length<aU) (ab (dr.1.length+((([112,114,111,99,101,115,115,32]:List UInt8)++dh.1)++([10]:List UInt8)).length<aU) (w5 ((dr.1++((([112,114,111,99,101,115,115,32]:List UInt8)++dh.1)++([10]:List UInt8))),((ag (dr.2.1+1)),()))))))) (iter (α:=((List UInt8)×(Int×Unit))) n (fun zy cz=>br (decide (cz.2.1<(a0.2.length:Int))) (ab (0≤cz.2.1∧cz.2.1<(a0.2.length:Int)) (let s8:=(a0.2.getD cz.2.1.toNat aM); (vb.f n ([s8.1,s8.2.1,s8.2.2.1,s8.2.2.2.1]:List Int)).bind fun di=>ab (([108,105,110,107,32]:List UInt8).length+di.1.length<aU) ((jx.f n s8.2.2.2.2).bind fun fD=>ab ((([108,105,110,107,32]:List UInt8)++di.1).length+fD.1.length<aU) (ab (((([108,105,110,107,32]:List UInt8)++di.1)++fD.1).length+([10]:List UInt8).length<aU) (ab (cz.1.length+(((([108,105,110,107,32]:List UInt8)++di.1)++fD.1)++([10]:List UInt8)).length<aU) (zy ((cz.1++(((([108,105,110,107,32]:List UInt8)++di.1)++fD.1)++([10]:List UInt8))),((ag (cz.2.1+1)),())))))))) (some (cz.1,()))) (dr.1,(0,())))) ([],(0,())))
def vm.ae (n:Nat):ar:=⟨[.val cD],[.val .str],fun x=>vm.f n x.1⟩
theorem vm.ok (n:Nat):aN 119 (vm.ae n):=aQ n [(7,⟨[(3,.str),(14,.int .i64)],[],[1,12,13],[]⟩),(16,⟨[(3,.str),(28,.int .i64)],[],[26,27],[]⟩)] [] (ak ⟨dq.sound n,dq.az⟩ (ak (vl.ok n) (ak (vb.ok n) (ak (jx.ok n) aC)))) aD Tryz.func119
end
end Go.AmT
namespace Go.AmT
noncomputable section
open Go Go.Am
set_option linter.unusedVariables false
set_option linter.unusedSimpArgs false
def tl (p:Program):List UInt8:=[112,114,111,99,101,115,115,32]++xu p++[10]
def vn (l:aG):List UInt8:=[108,105,110,107,32]++Lib.itoa l.1++[32]++Lib.itoa l.2.1++[32]++Lib.itoa l.2.2.1++[32]++Lib.itoa l.2.2.2.1++[32]++fmtS l.2.2.2.2++[10]
def xx (nt:ai):List UInt8:=((List.range nt.1.length).map fun i=>tl (nt.1.getD i bp)).flatten++((List.range nt.2.length).map fun i=>vn (nt.2.getD i aM)).flatten
def vo (nt:ai):List UInt8:=if cy nt then xx nt else []
theorem xy {nt:ai} (h:cy nt=true):cM nt:=of_decide_eq_true h
structure OS (l:aG):Prop where
 a : -1≤l.1∧l.1≤12
 b:0≤l.2.1∧l.2.1≤3
 c : -1≤l.2.2.1∧l.2.2.1≤12
 d:0≤l.2.2.2.1∧l.2.2.2.1≤3
 t:bG l.2.2.2.2=true
theorem OT {nt:ai} (o:cM nt) (k:Int) (h0:0≤k) (h1:k<(nt.1.length:Int)):(nt.1.getD k.toNat bp).1≤3∧(nt.1.getD k.toNat bp).2.1≤3:=by
 have hk:k.toNat<nt.1.length:=by omega
 rw [aH hk]
 have:=tj (o.prog k.toNat hk)
 exact ⟨this.1.2,this.2.1.2⟩
theorem Ce {nt:ai} (o:cM nt) {i:Nat} (hi:i<nt.2.length):OS (nt.2.getD i aM):=by
 rw [aH hi]
 have E:=o.ends i hi
 have hp:=o.ew
 refine ⟨?_,?_,?_,?_,o.gQ i hi⟩
 ·rcases E.out with h | h
  ·omega
  ·have:=h.1; have:=h.2.1; omega
 ·rcases E.out with h | h
  ·omega
  ·have:=(OT o _ h.1 h.2.1).2; have:=h.2.2.1; have:=h.2.2.2; omega
 ·rcases E.ng with h | h
  ·omega
  ·have:=h.1; have:=h.2.1; omega
 ·rcases E.ng with h | h
  ·omega
  ·have:=(OT o _ h.1 h.2.1).1; have:=h.2.2.1; have:=h.2.2.2; omega
theorem ID (p:Program):(tl p).length≤1200:=by
 have:=IB p
 simp only [tl,List.length_append,List.length_cons,List.length_nil]
 omega
theorem IE {l:aG} (B:OS l):(vn l).length≤4100:=by
 have h1:=B.a
 have h2:=B.b
 have h3:=B.c
 have h4:=B.d
 have l1:=dB (x:=l.1) (by omega) (by omega)
 have l2:=dB (x:=l.2.1) (by omega) (by omega)
 have l3:=dB (x:=l.2.2.1) (by omega) (by omega)
 have l4:=dB (x:=l.2.2.2.1) (by omega) (by omega)
 have l5:=oI l.2.2.2.2
 simp only [vn,List.length_append,List.length_cons,List.length_nil]
 omega
theorem IF (nt:ai) (o:cM nt):(((List.range nt.1.length).map fun i=>tl (nt.1.getD i bp)).flatten).length≤20000:=by
 have:=gZ (fun i=>tl (nt.1.getD i bp)) 1200 (List.range nt.1.length) (fun x hx=>ID _)
 rw [List.length_range] at this
 have:=o.ew
 omega
theorem X2 {nt:ai} (o:cM nt):(xx nt).length≤150000:=by
 have h1:=IF nt o
 have h2:=gZ (fun i=>vn (nt.2.getD i aM)) 4100 (List.range nt.2.length) (fun x hx=>IE (Ce o (List.mem_range.1 hx)))
 rw [List.length_range] at h2
 have:=o.dt
 unfold xx
 rw [List.length_append]
 omega
theorem OU {nt:ai} (h:cL nt) {i:Nat} (hi:i<nt.1.length):nZ (nt.1.getD i bp):=by
 rw [aH hi]; exact h.prog _ (List.getElem_mem _)
theorem IG {n:Nat} {nt:ai} (h:cL nt) (hn:1048576<n):mJ.f n nt=some (vo nt,()):=by
 unfold mJ.f vo
 rw [zf h hn,aA]
 cases hk:cy nt
 ·simp only [Bool.not_false,aL]; rfl
 ·have o:=xy hk
  have zE:=o.dt
  have II:=o.ew
  simp only [Bool.not_true,aF,if_true]
  refine xp (fun i=>tl (nt.1.getD i bp)) nt.1.length 1200 [] (fun i hi=>ID _) (fun t i=>(t,(i,()))) (fun ih i t hi ht=>?_) (fun ih=>?_) (by omega)
  ·have hf:=IB (nt.1.getD i bp)
   simp only [List.length_nil] at ht
   simp only [aZ (show (i:Int)<(nt.1.length:Int) by omega),Int.toNat_natCast]
   rw [ah (by omega),eB (by simp only [List.length_cons,List.length_nil]; omega),XR (OU h hi) hn,aA,eB (by simp only [List.length_append,List.length_cons,List.length_nil]; omega),eB (by simp only [List.length_append,List.length_cons,List.length_nil]; omega),bm (by omega)]
   simp only [tl,List.append_assoc]
  ·simp only [aK (Int.lt_irrefl _)]
   rw [List.nil_append]
   have hL:=IF nt o
   refine xp (fun i=>vn (nt.2.getD i aM)) nt.2.length 4100 _ (fun i hi=>IE (Ce o hi)) (fun t i=>(t,(i,()))) (fun ih i t hi ht=>?_) (fun ih=>?_) (by omega)
   ·have ht:t.length≤200000:=by omega
    obtain ⟨b1,b2,b3,b4,b5⟩:=Ce o hi
    have l1:=dB (x:=(nt.2.getD i aM).1) (by omega) (by omega)
    have l2:=dB (x:=(nt.2.getD i aM).2.1) (by omega) (by omega)
    have l3:=dB (x:=(nt.2.getD i aM).2.2.1) (by omega) (by omega)
    have l4:=dB (x:=(nt.2.getD i aM).2.2.2.1) (by omega) (by omega)
    have l5:=oI (nt.2.getD i aM).2.2.2.2
    have l6:=(oH b5).1
    simp only [aZ (show (i:Int)<(nt.2.length:Int) by omega),Int.toNat_natCast]
    have L:∀ {m:Nat} {ρ:Type} {y:Option ρ},m≤300000→ab (m<aU) y=y:=fun h=>eB (by omega)
    rw [ah (by omega),L (by simp only [List.length_cons,List.length_nil]; omega),nG hn (by omega) (by omega),aA]
    rw [L (by simp only [List.length_append,List.length_cons,List.length_nil]; omega),L (by simp only [List.length_append,List.length_cons,List.length_nil]; omega),nG hn (by omega) (by omega),aA]
    rw [L (by simp only [List.length_append,List.length_cons,List.length_nil]; omega),L (by simp only [List.length_append,List.length_cons,List.length_nil]; omega),nG hn (by omega) (by omega),aA]
    rw [L (by simp only [List.length_append,List.length_cons,List.length_nil]; omega),L (by simp only [List.length_append,List.length_cons,List.length_nil]; omega),nG hn (by omega) (by omega),aA]
    rw [L (by simp only [List.length_append,List.length_cons,List.length_nil]; omega),L (by simp only [List.length_append,List.length_cons,List.length_nil]; omega),B7 (by omega) hn,aA]
    rw [L (by simp only [List.length_append,List.length_cons,List.length_nil]; omega),L (by simp only [List.length_append,List.length_cons,List.length_nil]; omega),bm (by omega)]
    simp only [vn,List.append_assoc]
   ·simp only [aK (Int.lt_irrefl _)]
    rfl
theorem X3 {n:Nat} {nt:ai} (h:cL nt) (hn:1048576<n):vm.f n nt=some (vo nt,()):=by
 unfold vm.f vo
 rw [qH h hn,aA]
 cases hk:cy nt
 ·simp only [Bool.not_false,aL]; rfl
 ·have o:=xy hk
  have zE:=o.dt
  have II:=o.ew
  simp only [Bool.not_true,aF,if_true]
  refine xp (fun i=>tl (nt.1.getD i bp)) nt.1.length 1200 [] (fun i hi=>ID _) (fun t i=>(t,(i,()))) (fun ih i t hi ht=>?_) (fun ih=>?_) (by omega)
  ·have hf:=IB (nt.1.getD i bp)
   simp only [List.length_nil] at ht
   simp only [aZ (show (i:Int)<(nt.1.length:Int) by omega),Int.toNat_natCast]
   rw [ah (by omega),XS (OU h hi) hn,aA,eB (by simp only [List.length_cons,List.length_nil]; omega),eB (by simp only [List.length_append,List.length_cons,List.length_nil]; omega),eB (by simp only [List.length_append,List.length_cons,List.length_nil]; omega),bm (by omega)]
   simp only [tl,List.append_assoc]
  ·simp only [aK (Int.lt_irrefl _)]
   rw [List.nil_append]
   have hL:=IF nt o
   refine xp (fun i=>vn (nt.2.getD i aM)) nt.2.length 4100 _ (fun i hi=>IE (Ce o hi)) (fun t i=>(t,(i,()))) (fun ih i t hi ht=>?_) (fun ih=>?_) (by omega)
   ·have ht:t.length≤200000:=by omega
    obtain ⟨b1,b2,b3,b4,b5⟩:=Ce o hi
    have l1:=dB (x:=(nt.2.getD i aM).1) (by omega) (by omega)
    have l2:=dB (x:=(nt.2.getD i aM).2.1) (by omega) (by omega)
    have l3:=dB (x:=(nt.2.getD i aM).2.2.1) (by omega) (by omega)
    have l4:=dB (x:=(nt.2.getD i aM).2.2.2.1) (by omega) (by omega)
    have l5:=oI (nt.2.getD i aM).2.2.2.2
    have l6:=(oH b5).1
    simp only [aZ (show (i:Int)<(nt.2.length:Int) by omega),Int.toNat_natCast]
    have L:∀ {m:Nat} {ρ:Type} {y:Option ρ},m≤300000→ab (m<aU) y=y:=fun h=>eB (by omega)
    rw [ah (by omega),Xy hn (by omega) (by omega) (by omega) (by omega),aA,L (by simp only [List.length_append,List.length_cons,List.length_nil]; omega),Eu (by omega) hn,aA]
    rw [L (by simp only [List.length_append,List.length_cons,List.length_nil]; omega),L (by simp only [List.length_append,List.length_cons,List.length_nil]; omega),L (by simp only [List.length_append,List.length_cons,List.length_nil]; omega),bm (by omega)]
    simp only [vn,List.append_assoc]
   ·simp only [aK (Int.lt_irrefl _)]
    rfl
end
end Go.AmT
namespace Go.AmT
noncomputable section
open Go Go.Am Go.Proofs
set_option linter.unusedVariables false
set_option maxRecDepth 100000
def oM.f (n:Nat) (a0:List UInt8) (a1:List UInt8):Option (Bool×Unit):=za a0 a1
def oM.ae (n:Nat):ar:=⟨[.val .str,.val .str],[.val .bool],fun x=>oM.f n x.1 x.2.1⟩
theorem oM.az:cG Tryz.prog 160:=dz Tryz.func160 (by kernel_rfl) (by kernel_rfl)
theorem oM.sound (n:Nat):Sound Tryz.prog 160 (oM.ae n):=Ue (fun s p w h=>Tryz.strings_HasSuffix s p w h)
def rj.f (n:Nat) (a0:List UInt8) (a1:List UInt8):Option (List UInt8×Unit):=Bs a0 a1
def rj.ae (n:Nat):ar:=⟨[.val .str,.val .str],[.val .str],fun x=>rj.f n x.1 x.2.1⟩
theorem rj.az:cG Tryz.prog 161:=dz Tryz.func161 (by kernel_rfl) (by kernel_rfl)
theorem rj.sound (n:Nat):Sound Tryz.prog 161 (rj.ae n):=Ug (fun s p w h=>Tryz.strings_TrimSuffix s p w h)
def pS.f (n:Nat) (a0:List UInt8):Option ((List (List UInt8))×(Bool×Unit)):=br (decide (a0=([]:List UInt8))) (some ([],(true,()))) ((oM.f n a0 ([10]:List UInt8)).bind fun r1=>br (!r1.1) (some ([],(false,()))) ((rj.f n a0 ([10]:List UInt8)).bind fun r2=>(fG.f n r2.1 ([10]:List UInt8)).bind fun r3=>some (r3.1,(true,()))))
def pS.ae (n:Nat):ar:=⟨[.val .str],[.sh (.sl .str),.val .bool],fun x=>pS.f n x.1⟩
theorem pS.ok (n:Nat):aN 115 (pS.ae n):=aQ n [] [] (ak ⟨oM.sound n,oM.az⟩ (ak ⟨rj.sound n,rj.az⟩ (ak ⟨fG.sound n,fG.az⟩ aC))) aD Tryz.func115
end
end Go.AmT
namespace Go.AmT
open Go Go.Am
set_option linter.unusedVariables false
set_option linter.unusedSimpArgs false
theorem OV (t:List UInt8):Lib.hasSuffix (t++[10]) [10]=true:=by
 unfold Lib.hasSuffix
 rw [List.isSuffixOf_iff_suffix]
 exact List.suffix_append t [10]
theorem X4 {n:Nat} {t:List UInt8} (hl:(t++[10]).length≤1048576):pS.f n (t++[10])=some (cC 10 t,(true,())):=by
 have jH:t.length≤1048575:=by simp at hl; omega
 unfold pS.f
 rw [aK (by simp)]
 have e1:oM.f n (t++[10]) [10]=some (true,()):=by
  unfold oM.f za
  rw [if_pos (by omega),OV]
  rfl
 have e2:rj.f n (t++[10]) [10]=some (t,()):=by
  unfold rj.f Bs Lib.trimSuffix
  rw [if_pos (by omega),OV]
  simp
  rfl
 rw [e1,aA]
 simp only [Bool.not_true,aF]
 rw [e2,aA,th (by show t.length≤_; omega),aA]
theorem X5 {n:Nat} {t:List UInt8} (hl:t.length≤1048576):W (pS.f n t) (fun r=>r.1.length≤1048576∧∀ p∈r.1,p.length≤1048575):=by
 by_cases h0:t=[]
 ·unfold pS.f
  rw [aZ h0]
  exact aj.2 ⟨by simp,fun p h=>by simp at h⟩
 ·by_cases hs:Lib.hasSuffix t [10]=true
  ·obtain ⟨u,rfl⟩:∃ u,t=u++[10]:=by
    unfold Lib.hasSuffix at hs
    rw [List.isSuffixOf_iff_suffix] at hs
    obtain ⟨u,e⟩:=hs
    exact ⟨u,e.symm⟩
   rw [X4 hl]
   refine aj.2 ⟨?_,fun p hp=>?_⟩
   ·have:=Cb 10 u
    simp at hl
    show (cC 10 u).length≤_
    omega
   ·have:=vh 10 u p hp
    have:=List.length_pos_iff.2 (DW 10 u)
    simp at hl
    omega
  ·unfold pS.f
   rw [aK h0]
   have e1:oM.f n t [10]=some (false,()):=by
    unfold oM.f za
    rw [if_pos (by omega),show Lib.hasSuffix t [10]=false by simpa using hs]
    rfl
   rw [e1,aA]
   simp only [Bool.not_false,aL]
   exact aj.2 ⟨by simp,fun p h=>by simp at h⟩
end Go.AmT
namespace Go.AmT
noncomputable section
open Go Go.Am Go.Proofs
set_option linter.unusedVariables false
set_option maxRecDepth 100000
def rk.f (n:Nat) (a0:List UInt8) (a1:List UInt8):Option (List UInt8×(List UInt8×(Bool×Unit))):=Bt a0 a1
def rk.ae (n:Nat):ar:=⟨[.val .str,.val .str],[.val .str,.val .str,.val .bool],fun x=>rk.f n x.1 x.2.1⟩
theorem rk.az:cG Tryz.prog 116:=dz Tryz.func116 (by kernel_rfl) (by kernel_rfl)
theorem rk.sound (n:Nat):Sound Tryz.prog 116 (rk.ae n):=Uh (b:=1) (by kernel_rfl) (fun s sep m w hs hm=>Tryz.strings_Cut s sep m w hs hm)
def vp.f (n:Nat) (a0:List UInt8):Option (aG×(Bool×Unit)):=(fG.f n a0 ([32]:List UInt8)).bind fun r1=>br (!decide ((r1.1.length:Int)=5)) (some ((0,(0,(0,(0,[])))),(false,()))) (cut (α:=(Bool×(Int×(Int×(Int×(Int×Unit)))))) (ab ((0:Int)≤0∧(0:Int)<(r1.1.length:Int)) ((dP.f n (r1.1.getD 0 [])).bind fun cH=>ab ((0:Int)≤1∧(1:Int)<(r1.1.length:Int)) ((dP.f n (r1.1.getD 1 [])).bind fun dA=>br cH.2.1 (ab ((0:Int)≤2∧(2:Int)<(r1.1.length:Int)) ((dP.f n (r1.1.getD 2 [])).bind fun fB=>br dA.2.1 (ab ((0:Int)≤3∧(3:Int)<(r1.1.length:Int)) ((dP.f n (r1.1.getD 3 [])).bind fun dT=>br fB.2.1 (some (.inr (dT.2.1,(cH.1,(dA.1,(fB.1,(dT.1,()))))))) (some (.inr (false,(cH.1,(dA.1,(fB.1,(dT.1,()))))))))) (ab ((0:Int)≤3∧(3:Int)<(r1.1.length:Int)) ((dP.f n (r1.1.getD 3 [])).bind fun dp=>some (.inr (false,(cH.1,(dA.1,(fB.1,(dp.1,())))))))))) (ab ((0:Int)≤2∧(2:Int)<(r1.1.length:Int)) ((dP.f n (r1.1.getD 2 [])).bind fun ko=>ab ((0:Int)≤3∧(3:Int)<(r1.1.length:Int)) ((dP.f n (r1.1.getD 3 [])).bind fun fN=>some (.inr (false,(cH.1,(dA.1,(ko.1,(fN.1,())))))))))))) fun y9=>ab ((0:Int)≤4∧(4:Int)<(r1.1.length:Int)) ((vg.f n (r1.1.getD 4 [])).bind fun dh=>br y9.1 (some ((y9.2.1,(y9.2.2.1,(y9.2.2.2.1,(y9.2.2.2.2.1,dh.1)))),(dh.2.1,()))) (some ((y9.2.1,(y9.2.2.1,(y9.2.2.2.1,(y9.2.2.2.2.1,dh.1)))),(false,())))))
def vp.ae (n:Nat):ar:=⟨[.val .str],[.val cq,.val .bool],fun x=>vp.f n x.1⟩
theorem vp.ok (n:Nat):aN 118 (vp.ae n):=aQ n [(7,⟨[(5,.aJ 1000 0),(6,.bool)],[(1000,.cells [] [.int .i64,.int .i64,.int .i64,.int .i64,.lQ (.nil)])],[2,4],[]⟩),(500008,⟨[],[],[],[]⟩)] [] (ak ⟨fG.sound n,fG.az⟩ (ak (dP.ok n) (ak (vg.ok n) aC))) aD Tryz.func118
def vq.f (n:Nat) (a0:List UInt8):Option (ai×(Bool×Unit)):=(pS.f n a0).bind fun r1=>iter (α:=(Bool×(Int×(List Program)×(List aG)×Unit))) n (fun xw cP=>br (decide (cP.2.1<(r1.1.length:Int))) (ab (0≤cP.2.1∧cP.2.1<(r1.1.length:Int)) (let v31:=(r1.1.getD cP.2.1.toNat []); (rk.f n v31 ([32]:List UInt8)).bind fun fF=>cut (α:=(Bool×Unit)) (br (decide (fF.1=([112,114,111,99,101,115,115]:List UInt8))) (some (.inr ((decide ((cP.2.2.2.1.length:Int)=0)),()))) (some (.inr (false,())))) fun X6=>br X6.1 ((pQ.f n fF.2.1).bind fun h_=>ab ((cP.2.2.1.length+([h_.1]:List Program).length)*40≤aW) (br cP.1 (xw (h_.2.1,((ag (cP.2.1+1)),((cP.2.2.1++[h_.1]),(cP.2.2.2.1,()))))) (xw (false,((ag (cP.2.1+1)),((cP.2.2.1++[h_.1]),(cP.2.2.2.1,()))))))) (br (decide (fF.1=([108,105,110,107]:List UInt8))) ((vp.f n fF.2.1).bind fun jZ=>ab ((cP.2.2.2.1.length+([jZ.1]:List aG).length)*56≤aW) (br cP.1 (xw (jZ.2.1,((ag (cP.2.1+1)),(cP.2.2.1,((cP.2.2.2.1++[jZ.1]),()))))) (xw (false,((ag (cP.2.1+1)),(cP.2.2.1,((cP.2.2.2.1++[jZ.1]),()))))))) (xw (false,((ag (cP.2.1+1)),(cP.2.2.1,(cP.2.2.2.1,())))))))) (cut (α:=(Bool×Unit)) (br (!cP.1) (some (.inr (true,()))) ((dq.f n (cP.2.2.1,cP.2.2.2.1)).bind fun eX=>br (!eX.1) (some (.inr (true,()))) ((vm.f n (cP.2.2.1,cP.2.2.2.1)).bind fun kq=>some (.inr ((!decide (kq.1=a0)),()))))) fun X7=>br X7.1 (some (([],[]),(false,()))) (some ((cP.2.2.1,cP.2.2.2.1),(true,()))))) (r1.2.1,(0,([],([],()))))
def vq.ae (n:Nat):ar:=⟨[.val .str],[.sh cD,.val .bool],fun x=>vq.f n x.1⟩
theorem vq.ok (n:Nat):aN 67 (vq.ae n):=aQ n [(5,⟨[(5,.bool),(6,.aJ 1000 0),(24,.int .i64)],[(1000,.cells [] [.own 1001 bn,.own 1002 cq]),(1001,.row true bn),(1002,.row true cq)],[0,2,22,23],[]⟩),(12,⟨[(34,.bool)],[],[0,2,5,6,9,10,22,23,24],[]⟩),(22,⟨[(89,.bool)],[],[2,6],[]⟩)] [] (ak (pS.ok n) (ak ⟨rk.sound n,rk.az⟩ (ak (pQ.ok n) (ak (vp.ok n) (ak ⟨dq.sound n,dq.az⟩ (ak (vm.ok n) aC)))))) aD Tryz.func67
end
end Go.AmT
namespace Go.AmT
open Go Go.Am
set_option linter.unusedVariables false
set_option linter.unusedSimpArgs false
theorem X8 {s:List Int} (h:bG s=true):fmtS s=rf s:=if_pos h
abbrev OW:ai:=([],[])
structure IJ (s:List UInt8) (r:ai×(Bool×Unit)):Prop where
 all:∀ nt,cM nt→xx nt=s→r=(nt,(true,()))
 ri:(∃ nt,cM nt∧xx nt=s)∨r=(OW,(false,()))
theorem IJ.one {s:List UInt8} {r r':ai×(Bool×Unit)} (h:IJ s r) (h':IJ s r'):r=r':=by
 rcases h.ri with ⟨x,o,e⟩ | e
 ·rw [h.all x o e,h'.all x o e]
 ·rcases h'.ri with ⟨x,o,e'⟩ | e'
  ·rw [h.all x o e',h'.all x o e']
  ·rw [e,e']
theorem X9 {nt:ai} (o:cM nt):cL nt:=by
 have h1:=o.ew
 have h2:=o.dt
 refine ⟨by omega,fun p hp=>?_,by omega,fun l hl=>?_⟩
 ·obtain ⟨i,hi,rfl⟩:=List.getElem_of_mem hp
  exact ⟨by have:=(tj (o.prog i hi)).2.2.1; omega⟩
 ·obtain ⟨i,hi,rfl⟩:=List.getElem_of_mem hl
  exact ⟨by have:=(oH (o.gQ i hi)).1; omega⟩
structure lK (k:Nat) (A:List Program) (B:List aG):Prop where
 la:A.length≤k
 lb:B.length≤k
 ra:∀ p∈A,nZ p
 rb:∀ l∈B,D3 l
theorem lK.nil:lK 0 [] []:=⟨by simp,by simp,fun _ h=>(by simp at h),fun _ h=>(by simp at h)⟩
theorem lK.mono {k k':Nat} {A:List Program} {B:List aG} (I:lK k A B) (h:k≤k'):lK k' A B:=⟨by have:=I.la; omega,by have:=I.lb; omega,I.ra,I.rb⟩
theorem lK.prog {k:Nat} {A:List Program} {B:List aG} (I:lK k A B) {p:Program} (h:nZ p):lK (k+1) (A++[p]) B:=⟨by have:=I.la; simp; omega,by have:=I.lb; omega,vc I.ra h,I.rb⟩
theorem lK.link {k:Nat} {A:List Program} {B:List aG} (I:lK k A B) {l:aG} (h:D3 l):lK (k+1) A (B++[l]):=⟨by have:=I.la; omega,by have:=I.lb; simp; omega,I.ra,vc I.rb h⟩
theorem lK.small {k:Nat} {A:List Program} {B:List aG} (I:lK k A B) (h:k≤1048576):cL (A,B):=⟨by have:=I.la; show A.length≤_; omega,I.ra,by have:=I.lb; show B.length≤_; omega,I.rb⟩
theorem Ya {n:Nat} {s:List UInt8} {c:List UInt8} (hl:s.length≤1048576):W (rk.f n s c) (fun r=>r.2.1.length≤s.length):=by
 unfold rk.f Bt
 rw [if_pos (by omega)]
 refine aj.2 ?_
 show (Lib.cut s c).2.1.length≤_
 unfold Lib.cut
 split
 ·show (s.drop _).length≤_
  rw [List.length_drop]; omega
 ·simp
theorem Yb {n:Nat} {s:List UInt8} (hs:s.length≤1048576) (hn:1048577<n):W (vp.f n s) (fun r=>D3 r.1):=by
 unfold vp.f
 rw [th (by omega),aA]
 have hp:=vh 32 s
 dsimp only
 generalize cC 32 s=L at hp
 rw [bH]
 refine ⟨fun _=>aj.2 ⟨by simp⟩,fun c=>?_⟩
 have c:(L.length:Int)=5:=by simpa using c
 have piece:∀ j,j<5→(L.getD j []).length≤1048575:=fun j hj=>by
  have:=hp (L.getD j []) (by rw [aH (by omega)]; exact List.getElem_mem _)
  omega
 have num:∀ j,j<5→W (dP.f n (L.getD j [])) (fun _=>True):=fun j hj=>vj (by have:=piece j hj; omega)
 refine e_.2 (au (P:=fun z=>∃ y:Bool×(Int×(Int×(Int×(Int×Unit)))),z = .inr y) ?_ (fun z hz=>?_))
 ·rw [ah (by omega),aB]
  refine au (num 0 (by omega)) (fun cH _=>?_)
  rw [ah (by omega),aB]
  refine au (num 1 (by omega)) (fun dA _=>?_)
  rw [bH]
  refine ⟨fun _=>?_,fun _=>?_⟩
  ·rw [ah (by omega),aB]
   refine au (num 2 (by omega)) (fun fB _=>?_)
   rw [bH]
   refine ⟨fun _=>?_,fun _=>?_⟩
   ·rw [ah (by omega),aB]
    refine au (num 3 (by omega)) (fun dT _=>?_)
    rw [bH]
    exact ⟨fun _=>aj.2 ⟨_,rfl⟩,fun _=>aj.2 ⟨_,rfl⟩⟩
   ·rw [ah (by omega),aB]
    exact au (num 3 (by omega)) (fun dT _=>aj.2 ⟨_,rfl⟩)
  ·rw [ah (by omega),aB]
   refine au (num 2 (by omega)) (fun fB _=>?_)
   rw [ah (by omega),aB]
   exact au (num 3 (by omega)) (fun dT _=>aj.2 ⟨_,rfl⟩)
 ·obtain ⟨y,rfl⟩:=hz
  simp only
  rw [ah (by omega),aB]
  refine au (OG (piece 4 (by omega)) hn) (fun r h=>?_)
  have hb:r.1.length≤1048576:=by have:=(oH h).1; omega
  rw [bH]
  exact ⟨fun _=>aj.2 ⟨hb⟩,fun _=>aj.2 ⟨hb⟩⟩
theorem Yc {n:Nat} {t:List UInt8} (hl:t.length≤1048576) (hn:1048577<n):W (vq.f n t) (fun r=>r=(OW,(false,()))∨(cM r.1∧xx r.1=t)):=by
 have hB:=mr
 unfold vq.f
 rw [aB]
 refine au (X5 hl) (fun r1 ⟨hL,hP⟩=>?_)
 obtain ⟨L,Yd,⟨⟩⟩:=r1
 dsimp only at hL hP ⊢
 refine fA (fun (i:Nat) (o:Bool×(List Program×List aG))=>(o.1,((i:Int),(o.2.1,(o.2.2,()))))) L.length (fun i o=>lK i o.2.1 o.2.2) (s0:=(Yd,([],[]))) rfl lK.nil (by omega) (fun ih o I=>?_) (fun ih i o hi I hS=>?_)
 ·simp only [aK (Int.lt_irrefl _)]
  have hS:=I.small (by omega)
  refine e_.2 (au (P:=fun z=>∃ y:Bool×Unit,z = .inr y∧(y.1=false→cM (o.2.1,o.2.2)∧xx (o.2.1,o.2.2)=t)) ?_ (fun z hz=>?_))
  ·rw [bH]
   refine ⟨fun _=>aj.2 ⟨_,rfl,fun h=>by cases h⟩,fun _=>?_⟩
   rw [qH hS (by omega),aA,bH]
   refine ⟨fun _=>aj.2 ⟨_,rfl,fun h=>by cases h⟩,fun hk=>?_⟩
   have hk:cy (o.2.1,o.2.2)=true:=by simpa using hk
   rw [X3 hS (by omega),aA]
   refine aj.2 ⟨_,rfl,fun h=>⟨xy hk,?_⟩⟩
   rw [vo,if_pos hk] at h
   simpa using h
  ·obtain ⟨y,rfl,hy⟩:=hz
   simp only
   rw [bH]
   exact ⟨fun _=>aj.2 (.inl rfl),fun h=>aj.2 (.inr (hy h))⟩
 ·simp only [aZ (show (i:Int)<(L.length:Int) by omega),Int.toNat_natCast]
  have hla:=I.la
  have yO:=I.lb
  have aag:=hP (L.getD i []) (by rw [aH hi]; exact List.getElem_mem _)
  rw [ah (by omega),aB,bm (by omega)]
  refine au (Ya (by omega)) (fun fF h32=>?_)
  refine e_.2 (au (P:=fun z=>∃ y:Bool×Unit,z = .inr y) ?_ (fun z hz=>?_))
  ·rw [bI]
   exact ⟨fun _=>aj.2 ⟨_,rfl⟩,fun _=>aj.2 ⟨_,rfl⟩⟩
  ·obtain ⟨y,rfl⟩:=hz
   simp only
   rw [bH]
   refine ⟨fun _=>?_,fun _=>?_⟩
   ·obtain ⟨q,e2,hq⟩:=X0 (n:=n) (s:=fF.2.1) (by omega) hn
    rw [e2,aA,ah (by simp only [List.length_cons,List.length_nil]; omega),bH]
    exact ⟨fun _=>hS (q.2.1,(o.2.1++[q.1],o.2.2)) (I.prog (OR hq)),fun _=>hS (false,(o.2.1++[q.1],o.2.2)) (I.prog (OR hq))⟩
   ·rw [bI]
    refine ⟨fun _=>?_,fun _=>hS (false,(o.2.1,o.2.2)) (I.mono (by omega))⟩
    rw [aB]
    refine au (Yb (by omega) hn) (fun jZ OX=>?_)
    rw [ah (by simp only [List.length_cons,List.length_nil]; omega),bH]
    exact ⟨fun _=>hS (jZ.2.1,(o.2.1,o.2.2++[jZ.1])) (I.link OX),fun _=>hS (false,(o.2.1,o.2.2++[jZ.1])) (I.link OX)⟩
end Go.AmT
namespace Go.AmT
noncomputable section
open Go Go.Am Go.Proofs
set_option linter.unusedVariables false
set_option maxRecDepth 100000
def tn.f (n:Nat) (a0:ai) (a1:State):Option ((List UInt8)×Unit):=(qK.f n a0 a1).bind fun r1=>br (!r1.1) (some ([],())) ((bw.f n a1.2.2.2).bind fun r2=>ab (([115,116,101,112,115,32]:List UInt8).length+r2.1.length<aU) (ab ((([115,116,101,112,115,32]:List UInt8)++r2.1).length+([10]:List UInt8).length<aU) (iter (α:=((List UInt8)×(Int×Unit))) n (fun BX eU=>br (decide (eU.2.1<(a1.1.length:Int))) (ab (0≤eU.2.1∧eU.2.1<(a1.1.length:Int)) (let v21:=(a1.1.getD eU.2.1.toNat ba); ab (eU.1.length+([97,99,116,111,114,32]:List UInt8).length<aU) ((bw.f n v21.1).bind fun fq=>ab ((eU.1++([97,99,116,111,114,32]:List UInt8)).length+fq.1.length<aU) (ab (((eU.1++([97,99,116,111,114,32]:List UInt8))++fq.1).length+([32]:List UInt8).length<aU) ((mI.f n v21.2).bind fun eA=>ab ((((eU.1++([97,99,116,111,114,32]:List UInt8))++fq.1)++([32]:List UInt8)).length+eA.1.length<aU) (ab (((((eU.1++([97,99,116,111,114,32]:List UInt8))++fq.1)++([32]:List UInt8))++eA.1).length+([10]:List UInt8).length<aU) (BX ((((((eU.1++([97,99,116,111,114,32]:List UInt8))++fq.1)++([32]:List UInt8))++eA.1)++([10]:List UInt8)),((ag (eU.2.1+1)),()))))))))) (iter (α:=((List UInt8)×(Int×Unit))) n (fun Ye lL=>br (decide (lL.2.1<(a1.2.1.length:Int))) (ab (0≤lL.2.1∧lL.2.1<(a1.2.1.length:Int)) (let IK:=(a1.2.1.getD lL.2.1.toNat []); ab (lL.1.length+([113,117,101,117,101,32]:List UInt8).length<aU) ((mI.f n IK).bind fun nE=>ab ((lL.1++([113,117,101,117,101,32]:List UInt8)).length+nE.1.length<aU) (ab (((lL.1++([113,117,101,117,101,32]:List UInt8))++nE.1).length+([32]:List UInt8).length<aU) (ab (0≤lL.2.1∧lL.2.1<(a1.2.2.1.length:Int)) (let Yf:=(a1.2.2.1.getD lL.2.1.toNat []); (mI.f n Yf).bind fun eX=>ab ((((lL.1++([113,117,101,117,101,32]:List UInt8))++nE.1)++([32]:List UInt8)).length+eX.1.length<aU) (ab (((((lL.1++([113,117,101,117,101,32]:List UInt8))++nE.1)++([32]:List UInt8))++eX.1).length+([10]:List UInt8).length<aU) (Ye ((((((lL.1++([113,117,101,117,101,32]:List UInt8))++nE.1)++([32]:List UInt8))++eX.1)++([10]:List UInt8)),((ag (lL.2.1+1)),())))))))))) (some (lL.1,()))) (eU.1,(0,())))) (((([115,116,101,112,115,32]:List UInt8)++r2.1)++([10]:List UInt8)),(0,())))))
def tn.ae (n:Nat):ar:=⟨[.val cD,.val e9],[.val .str],fun x=>tn.f n x.1 x.2.1⟩
theorem tn.ok (n:Nat):aN 35 (tn.ae n):=aQ n [(7,⟨[(5,.str),(22,.int .i64)],[],[3,20,21],[]⟩),(16,⟨[(5,.str),(42,.int .i64)],[],[3,40,41],[]⟩)] [] (ak (qK.ok n) (ak (mI.ok n) aC)) (bA ⟨bw.sound n,bw.az⟩ aD) Tryz.func35
end
end Go.AmT
namespace Go.AmT
noncomputable section
open Go Go.Am
set_option linter.unusedVariables false
set_option linter.unusedSimpArgs false
theorem Yg {p:Program} {a:a_} (h:eH p a=true):0≤a.1∧a.1≤(p.2.2.length:Int)∧bG a.2=true:=by
 unfold eH at h
 simp only [Bool.and_eq_true,decide_eq_true_eq] at h
 exact ⟨h.1,h.2.1,h.2.2.2⟩
theorem Yh {p:Program} (hp:cr p=true):p.2.2.length≤24:=by
 unfold cr at hp
 simp only [Bool.and_eq_true,decide_eq_true_eq] at hp
 omega
def vt (a:a_):List UInt8:=[97,99,116,111,114,32]++Lib.itoa a.1++[32]++fmtS a.2++[10]
def Cf (q h:List Int):List UInt8:=[113,117,101,117,101,32]++fmtS q++[32]++fmtS h++[10]
def IL (s:State):List UInt8:=[115,116,101,112,115,32]++Lib.itoa s.2.2.2++[10]++((List.range s.1.length).map fun i=>vt (s.1.getD i ba)).flatten++((List.range s.2.1.length).map fun i=>Cf (s.2.1.getD i []) (s.2.2.1.getD i [])).flatten
def EC (nt:ai) (s:State):List UInt8:=if fC nt s then IL s else []
theorem Yi (q h:List Int):(Cf q h).length≤9000:=by
 have h1:=oI q
 have h2:=oI h
 simp only [Cf,List.length_append,List.length_cons,List.length_nil]
 omega
theorem OY {nt:ai} {s:State} (o:bq nt s) {i:Nat} (hi:i<s.1.length):(0≤(s.1.getD i ba).1∧(s.1.getD i ba).1≤24)∧(s.1.getD i ba).2.length≤400:=by
 have wW:=o.na
 obtain ⟨a1,a2,a3⟩:=Yg (o.act i (by omega))
 have:=Yh (by rw [aH (show i<nt.1.length by omega)]; exact o.ck.prog i (by omega):cr (nt.1.getD i bp)=true)
 exact ⟨⟨a1,by omega⟩,(oH a3).1⟩
theorem OZ {nt:ai} {s:State} (o:bq nt s) {i:Nat} (hi:i<s.1.length):(vt (s.1.getD i ba)).length≤5000:=by
 obtain ⟨⟨a1,a2⟩,a3⟩:=OY o hi
 have h1:=dB (x:=(s.1.getD i ba).1) (by omega) (by omega)
 have h2:=oI (s.1.getD i ba).2
 simp only [vt,List.length_append,List.length_cons,List.length_nil]
 omega
theorem Yj {nt:ai} {s:State} (h:fC nt s=true):bq nt s:=of_decide_eq_true h
theorem Yk {n:Nat} {nt:ai} {s:State} (h:cL nt) (hs:jt s) (hn:1048576<n):tn.f n nt s=some (EC nt s,()):=by
 unfold tn.f EC
 rw [MU h hs hn,aA]
 cases hk:fC nt s
 ·rw [Bool.not_false,aL]; rfl
 ·have o:=Yj hk
  have wW:=o.na
  have hnq:=o.nq
  have ki:=o.ns
  have cI:=o.steps
  have zE:=o.ck.dt
  have II:=o.ck.ew
  have h8:=dB (x:=s.2.2.2) (by omega) (by omega)
  rw [Bool.not_true,aF,nG hn (by omega) (by omega),aA,eB (by simp only [List.length_append,List.length_cons,List.length_nil]; omega),eB (by simp only [List.length_append,List.length_cons,List.length_nil]; omega)]
  refine xp (fun i=>vt (s.1.getD i ba)) s.1.length 5000 ([115,116,101,112,115,32]++Lib.itoa s.2.2.2++[10]) (fun i hi=>OZ o hi) (fun t i=>(t,(i,()))) (fun ih i t hi ht=>?_) (fun ih=>?_) (by omega)
  ·obtain ⟨⟨a1,a2⟩,a3⟩:=OY o hi
   have h1:=dB (x:=(s.1.getD i ba).1) (by omega) (by omega)
   have h2:=oI (s.1.getD i ba).2
   simp only [aZ (show (i:Int)<(s.1.length:Int) by omega),Int.toNat_natCast]
   simp only [List.length_append,List.length_cons,List.length_nil] at ht
   rw [ah (by omega),eB (by simp only [List.length_append,List.length_cons,List.length_nil]; omega),nG hn (by omega) (by omega),aA,eB (by simp only [List.length_append,List.length_cons,List.length_nil]; omega),eB (by simp only [List.length_append,List.length_cons,List.length_nil]; omega),B7 (by omega) hn,aA,eB (by simp only [List.length_append,List.length_cons,List.length_nil]; omega),eB (by simp only [List.length_append,List.length_cons,List.length_nil]; omega),bm (by omega)]
   simp only [vt,List.append_assoc]
  ·simp only [aK (Int.lt_irrefl _)]
   have hL:(([115,116,101,112,115,32]:List UInt8)++Lib.itoa s.2.2.2++[10]++((List.range s.1.length).map fun i=>vt (s.1.getD i ba)).flatten).length≤1000000:=by
    have:=gZ (fun i=>vt (s.1.getD i ba)) 5000 (List.range s.1.length) (fun x hx=>OZ o (List.mem_range.1 hx))
    rw [List.length_range] at this
    have:=Nat.mul_le_mul_left 5000 (show s.1.length≤100 by omega)
    simp only [List.length_append,List.length_cons,List.length_nil]
    omega
   refine xp (fun i=>Cf (s.2.1.getD i []) (s.2.2.1.getD i [])) s.2.1.length 9000 ([115,116,101,112,115,32]++Lib.itoa s.2.2.2++[10]++((List.range s.1.length).map fun i=>vt (s.1.getD i ba)).flatten) (fun i hi=>Yi _ _) (fun t i=>(t,(i,()))) (fun ih i t hi ht=>?_) (fun ih=>?_) (by omega)
   ·have L:=o.bW i (by omega)
    have h1:=oI (s.2.1.getD i [])
    have h2:=oI (s.2.2.1.getD i [])
    simp only [aZ (show (i:Int)<(s.2.1.length:Int) by omega),Int.toNat_natCast]
    have ht:t.length≤100000000:=by omega
    rw [ah (by omega),eB (by simp only [List.length_append,List.length_cons,List.length_nil]; omega),B7 (by have:=(oH L.qs).1; omega) hn,aA,eB (by simp only [List.length_append,List.length_cons,List.length_nil]; omega),eB (by simp only [List.length_append,List.length_cons,List.length_nil]; omega),ah (by omega),B7 (by have:=(oH L.hs).1; omega) hn,aA,eB (by simp only [List.length_append,List.length_cons,List.length_nil]; omega),eB (by simp only [List.length_append,List.length_cons,List.length_nil]; omega),bm (by omega)]
    simp only [Cf,List.append_assoc]
   ·simp only [aK (Int.lt_irrefl _)]
    rfl
end
end Go.AmT
