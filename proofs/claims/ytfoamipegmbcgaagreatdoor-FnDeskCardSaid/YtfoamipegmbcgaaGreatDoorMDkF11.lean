/- Networks as texts, in plain Lean: both programs write the same. -/
import Derived.Test.YtfoamipegmbcgaaGreatDoorMDkF10
import Derived.Test.YtfoamipegmbcgaaGreatDoorMDkF9
import Derived.Test.YtfoamipegmbcgaaGreatDoorMDkF2
namespace Go.AmT
open Go Go.Am
set_option linter.unusedVariables false
set_option linter.unusedSimpArgs false
noncomputable def lineP (p:Program):List UInt8:=[112,114,111,99,101,115,115,32]++fmtP p++[10]
noncomputable def lineL (l:Link):List UInt8:=[108,105,110,107,32]++Lib.itoa l.1++[32]++Lib.itoa l.2.1++[32]++Lib.itoa l.2.2.1++[32]++Lib.itoa l.2.2.2.1++[32]++fmtS l.2.2.2.2++[10]
noncomputable def txtN (nt:Network):List UInt8:=((List.range nt.1.length).map fun i=>lineP (nt.1.getD i zProgram)).flatten++((List.range nt.2.length).map fun i=>lineL (nt.2.getD i zLink)).flatten
noncomputable def fmtN (nt:Network):List UInt8:=if okN nt then txtN nt else []
theorem okNT_of {nt:Network} (h:okN nt=true):OkN nt:=of_decide_eq_true h
structure LnkB (l:Link):Prop where
 a : -1≤l.1∧l.1≤12
 b:0≤l.2.1∧l.2.1≤3
 c : -1≤l.2.2.1∧l.2.2.1≤12
 d:0≤l.2.2.2.1∧l.2.2.2.1≤3
 t:okS l.2.2.2.2=true
theorem ports_le {nt:Network} (o:OkN nt) (k:Int) (h0:0≤k) (h1:k<(nt.1.length:Int)):(nt.1.getD k.toNat zProgram).1≤3∧(nt.1.getD k.toNat zProgram).2.1≤3:=by
 have hk:k.toNat<nt.1.length:=by omega
 rw [getD_lt hk]
 have:=okP_all (o.prog k.toNat hk)
 exact ⟨this.1.2,this.2.1.2⟩
theorem lnk_bd {nt:Network} (o:OkN nt) {i:Nat} (hi:i<nt.2.length):LnkB (nt.2.getD i zLink):=by
 rw [getD_lt hi]
 have E:=o.ends i hi
 have hp:=o.progs
 refine ⟨?_,?_,?_,?_,o.toks i hi⟩
 ·rcases E.out with h | h
  ·omega
  ·have:=h.1; have:=h.2.1; omega
 ·rcases E.out with h | h
  ·omega
  ·have:=(ports_le o _ h.1 h.2.1).2; have:=h.2.2.1; have:=h.2.2.2; omega
 ·rcases E.inn with h | h
  ·omega
  ·have:=h.1; have:=h.2.1; omega
 ·rcases E.inn with h | h
  ·omega
  ·have:=(ports_le o _ h.1 h.2.1).1; have:=h.2.2.1; have:=h.2.2.2; omega
theorem lineP_len (p:Program):(lineP p).length≤1200:=by
 have:=fmtP_len p
 simp only [lineP,List.length_append,List.length_cons,List.length_nil]
 omega
theorem lineL_len {l:Link} (B:LnkB l):(lineL l).length≤4100:=by
 have h1:=B.a
 have h2:=B.b
 have h3:=B.c
 have h4:=B.d
 have l1:=itoa_len (x:=l.1) (by omega) (by omega)
 have l2:=itoa_len (x:=l.2.1) (by omega) (by omega)
 have l3:=itoa_len (x:=l.2.2.1) (by omega) (by omega)
 have l4:=itoa_len (x:=l.2.2.2.1) (by omega) (by omega)
 have l5:=fmtS_len l.2.2.2.2
 simp only [lineL,List.length_append,List.length_cons,List.length_nil]
 omega
theorem procs_len (nt:Network) (o:OkN nt):(((List.range nt.1.length).map fun i=>lineP (nt.1.getD i zProgram)).flatten).length≤20000:=by
 have:=flat_len (fun i=>lineP (nt.1.getD i zProgram)) 1200 (List.range nt.1.length) (fun x hx=>lineP_len _)
 rw [List.length_range] at this
 have:=o.progs
 omega
theorem txtN_len {nt:Network} (o:OkN nt):(txtN nt).length≤150000:=by
 have h1:=procs_len nt o
 have h2:=flat_len (fun i=>lineL (nt.2.getD i zLink)) 4100 (List.range nt.2.length) (fun x hx=>lineL_len (lnk_bd o (List.mem_range.1 hx)))
 rw [List.length_range] at h2
 have:=o.links
 unfold txtN
 rw [List.length_append]
 omega
theorem smallP_of {nt:Network} (h:SmallN nt) {i:Nat} (hi:i<nt.1.length):SmallP (nt.1.getD i zProgram):=by
 rw [getD_lt hi]; exact h.prog _ (List.getElem_mem _)
theorem fmtNetwork_spec {n:Nat} {nt:Network} (h:SmallN nt) (hn:1048576<n):fmtNetwork.f n nt=some (fmtN nt,()):=by
 unfold fmtNetwork.f fmtN
 rw [sIsNetwork_spec h hn,bind_unit]
 cases hk:okN nt
 ·simp only [Bool.not_false,br_true]; rfl
 ·have o:=okNT_of hk
  have hli:=o.links
  have hpr:=o.progs
  simp only [Bool.not_true,br_false,if_true]
  refine cat_loop (fun i=>lineP (nt.1.getD i zProgram)) nt.1.length 1200 [] (fun i hi=>lineP_len _) (fun t i=>(t,(i,()))) (fun ih i t hi ht=>?_) (fun ih=>?_) (by omega)
  ·have hf:=fmtP_len (nt.1.getD i zProgram)
   simp only [List.length_nil] at ht
   simp only [br_yes (show (i:Int)<(nt.1.length:Int) by omega),Int.toNat_natCast]
   rw [chk_true (by omega),str_chk (by simp only [List.length_cons,List.length_nil]; omega),fmtProgram_spec (smallP_of h hi) hn,bind_unit,str_chk (by simp only [List.length_append,List.length_cons,List.length_nil]; omega),str_chk (by simp only [List.length_append,List.length_cons,List.length_nil]; omega),w64_succ (by omega)]
   simp only [lineP,List.append_assoc]
  ·simp only [br_no (Int.lt_irrefl _)]
   rw [List.nil_append]
   have hL:=procs_len nt o
   refine cat_loop (fun i=>lineL (nt.2.getD i zLink)) nt.2.length 4100 _ (fun i hi=>lineL_len (lnk_bd o hi)) (fun t i=>(t,(i,()))) (fun ih i t hi ht=>?_) (fun ih=>?_) (by omega)
   ·have ht:t.length≤200000:=by omega
    obtain ⟨b1,b2,b3,b4,b5⟩:=lnk_bd o hi
    have l1:=itoa_len (x:=(nt.2.getD i zLink).1) (by omega) (by omega)
    have l2:=itoa_len (x:=(nt.2.getD i zLink).2.1) (by omega) (by omega)
    have l3:=itoa_len (x:=(nt.2.getD i zLink).2.2.1) (by omega) (by omega)
    have l4:=itoa_len (x:=(nt.2.getD i zLink).2.2.2.1) (by omega) (by omega)
    have l5:=fmtS_len (nt.2.getD i zLink).2.2.2.2
    have l6:=(okS_bd b5).1
    simp only [br_yes (show (i:Int)<(nt.2.length:Int) by omega),Int.toNat_natCast]
    have L:∀ {m:Nat} {ρ:Type} {y:Option ρ},m≤300000→chk (m<maxS) y=y:=fun h=>str_chk (by omega)
    rw [chk_true (by omega),L (by simp only [List.length_cons,List.length_nil]; omega),number_spec hn (by omega) (by omega),bind_unit]
    rw [L (by simp only [List.length_append,List.length_cons,List.length_nil]; omega),L (by simp only [List.length_append,List.length_cons,List.length_nil]; omega),number_spec hn (by omega) (by omega),bind_unit]
    rw [L (by simp only [List.length_append,List.length_cons,List.length_nil]; omega),L (by simp only [List.length_append,List.length_cons,List.length_nil]; omega),number_spec hn (by omega) (by omega),bind_unit]
    rw [L (by simp only [List.length_append,List.length_cons,List.length_nil]; omega),L (by simp only [List.length_append,List.length_cons,List.length_nil]; omega),number_spec hn (by omega) (by omega),bind_unit]
    rw [L (by simp only [List.length_append,List.length_cons,List.length_nil]; omega),L (by simp only [List.length_append,List.length_cons,List.length_nil]; omega),fmtStream_spec (by omega) hn,bind_unit]
    rw [L (by simp only [List.length_append,List.length_cons,List.length_nil]; omega),L (by simp only [List.length_append,List.length_cons,List.length_nil]; omega),w64_succ (by omega)]
    simp only [lineL,List.append_assoc]
   ·simp only [br_no (Int.lt_irrefl _)]
    rfl
theorem iFmtNetwork_spec {n:Nat} {nt:Network} (h:SmallN nt) (hn:1048576<n):iFmtNetwork.f n nt=some (fmtN nt,()):=by
 unfold iFmtNetwork.f fmtN
 rw [iIsNetwork_spec h hn,bind_unit]
 cases hk:okN nt
 ·simp only [Bool.not_false,br_true]; rfl
 ·have o:=okNT_of hk
  have hli:=o.links
  have hpr:=o.progs
  simp only [Bool.not_true,br_false,if_true]
  refine cat_loop (fun i=>lineP (nt.1.getD i zProgram)) nt.1.length 1200 [] (fun i hi=>lineP_len _) (fun t i=>(t,(i,()))) (fun ih i t hi ht=>?_) (fun ih=>?_) (by omega)
  ·have hf:=fmtP_len (nt.1.getD i zProgram)
   simp only [List.length_nil] at ht
   simp only [br_yes (show (i:Int)<(nt.1.length:Int) by omega),Int.toNat_natCast]
   rw [chk_true (by omega),iFmtProgram_spec (smallP_of h hi) hn,bind_unit,str_chk (by simp only [List.length_cons,List.length_nil]; omega),str_chk (by simp only [List.length_append,List.length_cons,List.length_nil]; omega),str_chk (by simp only [List.length_append,List.length_cons,List.length_nil]; omega),w64_succ (by omega)]
   simp only [lineP,List.append_assoc]
  ·simp only [br_no (Int.lt_irrefl _)]
   rw [List.nil_append]
   have hL:=procs_len nt o
   refine cat_loop (fun i=>lineL (nt.2.getD i zLink)) nt.2.length 4100 _ (fun i hi=>lineL_len (lnk_bd o hi)) (fun t i=>(t,(i,()))) (fun ih i t hi ht=>?_) (fun ih=>?_) (by omega)
   ·have ht:t.length≤200000:=by omega
    obtain ⟨b1,b2,b3,b4,b5⟩:=lnk_bd o hi
    have l1:=itoa_len (x:=(nt.2.getD i zLink).1) (by omega) (by omega)
    have l2:=itoa_len (x:=(nt.2.getD i zLink).2.1) (by omega) (by omega)
    have l3:=itoa_len (x:=(nt.2.getD i zLink).2.2.1) (by omega) (by omega)
    have l4:=itoa_len (x:=(nt.2.getD i zLink).2.2.2.1) (by omega) (by omega)
    have l5:=fmtS_len (nt.2.getD i zLink).2.2.2.2
    have l6:=(okS_bd b5).1
    simp only [br_yes (show (i:Int)<(nt.2.length:Int) by omega),Int.toNat_natCast]
    have L:∀ {m:Nat} {ρ:Type} {y:Option ρ},m≤300000→chk (m<maxS) y=y:=fun h=>str_chk (by omega)
    rw [chk_true (by omega),iListed_four hn (by omega) (by omega) (by omega) (by omega),bind_unit,L (by simp only [List.length_append,List.length_cons,List.length_nil]; omega),iFmtStream_spec (by omega) hn,bind_unit]
    rw [L (by simp only [List.length_append,List.length_cons,List.length_nil]; omega),L (by simp only [List.length_append,List.length_cons,List.length_nil]; omega),L (by simp only [List.length_append,List.length_cons,List.length_nil]; omega),w64_succ (by omega)]
    simp only [lineL,List.append_assoc]
   ·simp only [br_no (Int.lt_irrefl _)]
    rfl
end Go.AmT
namespace Go.AmT
open Go Go.Am Go.Proofs
set_option linter.unusedVariables false
set_option maxRecDepth 100000
def tys24:List (Nat×TInfo):=[(9,⟨false,1,16,[.str []],.str,0,some .str,[],false⟩)]
theorem tys24_ok:(tys24.all fun p=>tokB Tryz.prog p.1 p.2)=true:=by kernel_rfl
noncomputable def hasSufC.f (n:Nat) (a0:List UInt8) (a1:List UInt8):Option (Bool×Unit):=hasSufF a0 a1
noncomputable def hasSufC.mng (n:Nat):Mng:=⟨[.val .str,.val .str],[.val .bool],fun x=>hasSufC.f n x.1 x.2.1⟩
theorem hasSufC.gof:GoF Tryz.prog 160:=⟨_,Tryz.func160,by kernel_rfl,by kernel_rfl⟩
theorem hasSufC.sound (n:Nat):Sound Tryz.prog 160 (hasSufC.mng n):=hasSuf_sound (fun s p w h=>Tryz.strings_HasSuffix s p w h)
noncomputable def trimSufC.f (n:Nat) (a0:List UInt8) (a1:List UInt8):Option (List UInt8×Unit):=trimSufF a0 a1
noncomputable def trimSufC.mng (n:Nat):Mng:=⟨[.val .str,.val .str],[.val .str],fun x=>trimSufC.f n x.1 x.2.1⟩
theorem trimSufC.gof:GoF Tryz.prog 161:=⟨_,Tryz.func161,by kernel_rfl,by kernel_rfl⟩
theorem trimSufC.sound (n:Nat):Sound Tryz.prog 161 (trimSufC.mng n):=trimSuf_sound (fun s p w h=>Tryz.strings_TrimSuffix s p w h)
def iLines.las:List (Nat×LA):=[]
noncomputable def iLines.f (n:Nat) (a0:List UInt8):Option ((List (List UInt8))×(Bool×Unit)):=br (decide (a0=([]:List UInt8))) (some ([],(true,()))) ((hasSufC.f n a0 ([10]:List UInt8)).bind fun r1=>br (!r1.1) (some ([],(false,()))) ((trimSufC.f n a0 ([10]:List UInt8)).bind fun r2=>(splitC.f n r2.1 ([10]:List UInt8)).bind fun r3=>some (r3.1,(true,()))))
noncomputable def iLines.mng (n:Nat):Mng:=⟨[.val .str],[.sh (.sl .str),.val .bool],fun x=>iLines.f n x.1⟩
noncomputable def iLines.cfg (n:Nat):Cfg:=⟨tys24,[(160,hasSufC.mng n),(161,trimSufC.mng n),(69,splitC.mng n)],[],[]⟩
theorem iLines.gof:GoF Tryz.prog 115:=⟨_,Tryz.func115,by kernel_rfl,by kernel_rfl⟩
theorem iLines.sound (n:Nat):Sound Tryz.prog 115 (iLines.mng n):=sndF (c:=iLines.cfg n) (n:=n) (an:=annOf Tryz.f115 iLines.las) ⟨⟨hasSufC.sound n,hasSufC.gof⟩,⟨⟨trimSufC.sound n,trimSufC.gof⟩,⟨⟨splitC.sound n,splitC.gof⟩,trivial⟩⟩⟩ trivial (tysOK tys24_ok) Tryz.func115 (fun x=>by kernel_rfl)
end Go.AmT
namespace Go.AmT
open Go Go.Am
set_option linter.unusedVariables false
set_option linter.unusedSimpArgs false
theorem suf_end (t:List UInt8):Lib.hasSuffix (t++[10]) [10]=true:=by
 unfold Lib.hasSuffix
 rw [List.isSuffixOf_iff_suffix]
 exact List.suffix_append t [10]
theorem iLines_txt {n:Nat} {t:List UInt8} (hl:(t++[10]).length≤1048576):iLines.f n (t++[10])=some (splitR 10 t,(true,())):=by
 have hl':t.length≤1048575:=by simp at hl; omega
 unfold iLines.f
 rw [br_no (by simp)]
 have e1:hasSufC.f n (t++[10]) [10]=some (true,()):=by
  unfold hasSufC.f hasSufF
  rw [if_pos (by omega),suf_end]
  rfl
 have e2:trimSufC.f n (t++[10]) [10]=some (t,()):=by
  unfold trimSufC.f trimSufF Lib.trimSuffix
  rw [if_pos (by omega),suf_end]
  simp
  rfl
 rw [e1,bind_unit]
 simp only [Bool.not_true,br_false]
 rw [e2,bind_unit,splitC_spec (by show t.length≤_; omega),bind_unit]
theorem iLines_lines {n:Nat} {l:List (List UInt8)} (h:∀ a∈l,(10:UInt8)∉a) (hl:((l.map (·++[10])).flatten).length≤1048576):iLines.f n ((l.map (·++[10])).flatten)=some (l,(true,())):=by
 by_cases hne:l=[]
 ·subst hne
  unfold iLines.f
  rw [br_yes (by rfl)]
 ·have hs:=splitR_lines l h
  have:=List.dropLast_concat_getLast hne
  have e:(l.map (·++[10])).flatten=((l.dropLast).map (·++[10])).flatten++l.getLast hne++[10]:=by
   conv=>lhs; rw [← this]
   simp
  rw [e] at hl hs ⊢
  rw [splitR_end] at hs
  rw [iLines_txt hl,List.append_cancel_right hs]
end Go.AmT
namespace Go.AmT
open Go Go.Am Go.Proofs
set_option linter.unusedVariables false
set_option maxRecDepth 100000
def tys25:List (Nat×TInfo):=[(3,⟨false,1,8,[.int .i64 0],.int .i64,0,some I,[],false⟩),
 (9,⟨false,1,16,[.str []],.str,0,some .str,[],false⟩),
 (23,⟨false,1,24,[.nil],.slice,68,some (.sl tProgram),[],false⟩),
 (24,⟨false,1,24,[.nil],.slice,71,some (.sl tLink),[],false⟩),
 (26,⟨true,2,48,[.nil,.nil],.struct,0,some tNetwork,[(0,23),(1,24)],false⟩),
 (32,⟨false,1,24,[.nil],.slice,3,some IS,[],false⟩),
 (48,⟨false,1,24,[.nil],.slice,9,some (.sl .str),[],false⟩),
 (68,⟨true,3,40,[.int .i64 0,.int .i64 0,.nil],.struct,0,some tProgram,[(0,3),(1,3),(2,66)],false⟩),
 (71,⟨true,5,56,[.int .i64 0,.int .i64 0,.int .i64 0,.int .i64 0,.nil],.struct,0,some tLink,[(0,3),(1,3),(2,3),(3,3),(4,32)],false⟩),
 (196,⟨false,1,8,[.nilp],.other,0,none,[],false⟩),
 (197,⟨false,1,24,[.nil],.slice,196,none,[],false⟩)]
theorem tys25_ok:(tys25.all fun p=>tokB Tryz.prog p.1 p.2)=true:=by kernel_rfl
noncomputable def cutC.f (n:Nat) (a0:List UInt8) (a1:List UInt8):Option (List UInt8×(List UInt8×(Bool×Unit))):=cutF a0 a1
noncomputable def cutC.mng (n:Nat):Mng:=⟨[.val .str,.val .str],[.val .str,.val .str,.val .bool],fun x=>cutC.f n x.1 x.2.1⟩
theorem cutC.gof:GoF Tryz.prog 116:=⟨_,Tryz.func116,by kernel_rfl,by kernel_rfl⟩
theorem cutC.sound (n:Nat):Sound Tryz.prog 116 (cutC.mng n):=cut_sound (b:=1) (by kernel_rfl) (fun s sep m w hs hm=>Tryz.strings_Cut s sep m w hs hm)
def iParseLink.las:List (Nat×LA):=[(7,⟨[(5,.vptr 1000 0),(6,.bool)],[(1000,.cells [] [.int .i64,.int .i64,.int .i64,.int .i64,.con (.nil)])],[2,4],[]⟩),(500008,⟨[],[],[],[]⟩)]
noncomputable def iParseLink.f (n:Nat) (a0:List UInt8):Option (Link×(Bool×Unit)):=(splitC.f n a0 ([32]:List UInt8)).bind fun r1=>br (!decide ((r1.1.length:Int)=5)) (some ((0,(0,(0,(0,[])))),(false,()))) (cut (α:=(Bool×(Int×(Int×(Int×(Int×Unit)))))) (chk ((0:Int)≤0∧(0:Int)<(r1.1.length:Int)) ((iNumber.f n (r1.1.getD 0 [])).bind fun r10=>chk ((0:Int)≤1∧(1:Int)<(r1.1.length:Int)) ((iNumber.f n (r1.1.getD 1 [])).bind fun r11=>br r10.2.1 (chk ((0:Int)≤2∧(2:Int)<(r1.1.length:Int)) ((iNumber.f n (r1.1.getD 2 [])).bind fun r12=>br r11.2.1 (chk ((0:Int)≤3∧(3:Int)<(r1.1.length:Int)) ((iNumber.f n (r1.1.getD 3 [])).bind fun r13=>br r12.2.1 (some (.inr (r13.2.1,(r10.1,(r11.1,(r12.1,(r13.1,()))))))) (some (.inr (false,(r10.1,(r11.1,(r12.1,(r13.1,()))))))))) (chk ((0:Int)≤3∧(3:Int)<(r1.1.length:Int)) ((iNumber.f n (r1.1.getD 3 [])).bind fun r14=>some (.inr (false,(r10.1,(r11.1,(r12.1,(r14.1,())))))))))) (chk ((0:Int)≤2∧(2:Int)<(r1.1.length:Int)) ((iNumber.f n (r1.1.getD 2 [])).bind fun r15=>chk ((0:Int)≤3∧(3:Int)<(r1.1.length:Int)) ((iNumber.f n (r1.1.getD 3 [])).bind fun r16=>some (.inr (false,(r10.1,(r11.1,(r15.1,(r16.1,())))))))))))) fun y9=>chk ((0:Int)≤4∧(4:Int)<(r1.1.length:Int)) ((iParseStream.f n (r1.1.getD 4 [])).bind fun r17=>br y9.1 (some ((y9.2.1,(y9.2.2.1,(y9.2.2.2.1,(y9.2.2.2.2.1,r17.1)))),(r17.2.1,()))) (some ((y9.2.1,(y9.2.2.1,(y9.2.2.2.1,(y9.2.2.2.2.1,r17.1)))),(false,())))))
noncomputable def iParseLink.mng (n:Nat):Mng:=⟨[.val .str],[.val tLink,.val .bool],fun x=>iParseLink.f n x.1⟩
noncomputable def iParseLink.cfg (n:Nat):Cfg:=⟨tys25,[(69,splitC.mng n),(122,iNumber.mng n),(71,iParseStream.mng n)],[],[]⟩
theorem iParseLink.gof:GoF Tryz.prog 118:=⟨_,Tryz.func118,by kernel_rfl,by kernel_rfl⟩
theorem iParseLink.sound (n:Nat):Sound Tryz.prog 118 (iParseLink.mng n):=sndF (c:=iParseLink.cfg n) (n:=n) (an:=annOf Tryz.f118 iParseLink.las) ⟨⟨splitC.sound n,splitC.gof⟩,⟨⟨iNumber.sound n,iNumber.gof⟩,⟨⟨iParseStream.sound n,iParseStream.gof⟩,trivial⟩⟩⟩ trivial (tysOK tys25_ok) Tryz.func118 (fun x=>by kernel_rfl)
def iParseNetwork.las:List (Nat×LA):=[(5,⟨[(5,.bool),(6,.vptr 1000 0),(24,.int .i64)],[(1000,.cells [] [.own 1001 tProgram,.own 1002 tLink]),(1001,.row true tProgram),(1002,.row true tLink)],[0,2,22,23],[]⟩),(12,⟨[(34,.bool)],[],[0,2,5,6,9,10,22,23,24],[]⟩),(22,⟨[(89,.bool)],[],[2,6],[]⟩)]
noncomputable def iParseNetwork.f (n:Nat) (a0:List UInt8):Option (Network×(Bool×Unit)):=(iLines.f n a0).bind fun r1=>iter (α:=(Bool×(Int×(List Program)×(List Link)×Unit))) n (fun ih30 x29=>br (decide (x29.2.1<(r1.1.length:Int))) (chk (0≤x29.2.1∧x29.2.1<(r1.1.length:Int)) (let v31:=(r1.1.getD x29.2.1.toNat []); (cutC.f n v31 ([32]:List UInt8)).bind fun r32=>cut (α:=(Bool×Unit)) (br (decide (r32.1=([112,114,111,99,101,115,115]:List UInt8))) (some (.inr ((decide ((x29.2.2.2.1.length:Int)=0)),()))) (some (.inr (false,())))) fun y33=>br y33.1 ((iParseProgram.f n r32.2.1).bind fun r34=>chk ((x29.2.2.1.length+([r34.1]:List Program).length)*40≤maxB) (br x29.1 (ih30 (r34.2.1,((w64 (x29.2.1+1)),((x29.2.2.1++[r34.1]),(x29.2.2.2.1,()))))) (ih30 (false,((w64 (x29.2.1+1)),((x29.2.2.1++[r34.1]),(x29.2.2.2.1,()))))))) (br (decide (r32.1=([108,105,110,107]:List UInt8))) ((iParseLink.f n r32.2.1).bind fun r35=>chk ((x29.2.2.2.1.length+([r35.1]:List Link).length)*56≤maxB) (br x29.1 (ih30 (r35.2.1,((w64 (x29.2.1+1)),(x29.2.2.1,((x29.2.2.2.1++[r35.1]),()))))) (ih30 (false,((w64 (x29.2.1+1)),(x29.2.2.1,((x29.2.2.2.1++[r35.1]),()))))))) (ih30 (false,((w64 (x29.2.1+1)),(x29.2.2.1,(x29.2.2.2.1,())))))))) (cut (α:=(Bool×Unit)) (br (!x29.1) (some (.inr (true,()))) ((iIsNetwork.f n (x29.2.2.1,x29.2.2.2.1)).bind fun r39=>br (!r39.1) (some (.inr (true,()))) ((iFmtNetwork.f n (x29.2.2.1,x29.2.2.2.1)).bind fun r40=>some (.inr ((!decide (r40.1=a0)),()))))) fun y38=>br y38.1 (some (([],[]),(false,()))) (some ((x29.2.2.1,x29.2.2.2.1),(true,()))))) (r1.2.1,(0,([],([],()))))
noncomputable def iParseNetwork.mng (n:Nat):Mng:=⟨[.val .str],[.sh tNetwork,.val .bool],fun x=>iParseNetwork.f n x.1⟩
noncomputable def iParseNetwork.cfg (n:Nat):Cfg:=⟨tys25,[(115,iLines.mng n),(116,cutC.mng n),(117,iParseProgram.mng n),(118,iParseLink.mng n),(46,iIsNetwork.mng n),(119,iFmtNetwork.mng n)],[],[]⟩
theorem iParseNetwork.gof:GoF Tryz.prog 67:=⟨_,Tryz.func67,by kernel_rfl,by kernel_rfl⟩
theorem iParseNetwork.sound (n:Nat):Sound Tryz.prog 67 (iParseNetwork.mng n):=sndF (c:=iParseNetwork.cfg n) (n:=n) (an:=annOf Tryz.f67 iParseNetwork.las) ⟨⟨iLines.sound n,iLines.gof⟩,⟨⟨cutC.sound n,cutC.gof⟩,⟨⟨iParseProgram.sound n,iParseProgram.gof⟩,⟨⟨iParseLink.sound n,iParseLink.gof⟩,⟨⟨iIsNetwork.sound n,iIsNetwork.gof⟩,⟨⟨iFmtNetwork.sound n,iFmtNetwork.gof⟩,trivial⟩⟩⟩⟩⟩⟩ trivial (tysOK tys25_ok) Tryz.func67 (fun x=>by kernel_rfl)
end Go.AmT
namespace Go.AmT
open Go Go.Am
set_option linter.unusedVariables false
set_option linter.unusedSimpArgs false
noncomputable def lnP (p:Program):List UInt8:=[112,114,111,99,101,115,115]++32::txtP p
noncomputable def restL (l:Link):List UInt8:=Lib.itoa l.1++32::(Lib.itoa l.2.1++32::(Lib.itoa l.2.2.1++32::(Lib.itoa l.2.2.2.1++32::txtS l.2.2.2.2)))
noncomputable def lnL (l:Link):List UInt8:=[108,105,110,107]++32::restL l
noncomputable def lnN (nt:Network) (i:Nat):List UInt8:=if i<nt.1.length then lnP (nt.1.getD i zProgram) else lnL (nt.2.getD (i-nt.1.length) zLink)
noncomputable def linesN (nt:Network):List (List UInt8):=(List.range (nt.1.length+nt.2.length)).map (lnN nt)
theorem linesN_len (nt:Network):(linesN nt).length=nt.1.length+nt.2.length:=by simp [linesN]
theorem linesN_get (nt:Network) {i:Nat} (h:i<nt.1.length+nt.2.length):(linesN nt).getD i []=lnN nt i:=by
 rw [getD_lt (by rw [linesN_len]; exact h)]
 simp [linesN]
theorem linesN_eq (nt:Network):linesN nt=((List.range nt.1.length).map fun i=>lnP (nt.1.getD i zProgram))++((List.range nt.2.length).map fun i=>lnL (nt.2.getD i zLink)):=by
 refine List.ext_getElem (by simp [linesN]) (fun i h1 h2=>?_)
 rw [linesN_len] at h1
 simp only [linesN,List.getElem_map,List.getElem_range]
 by_cases hi:i<nt.1.length
 ·rw [List.getElem_append_left (by simpa using hi)]
  simp only [List.getElem_map,List.getElem_range,lnN]
  rw [if_pos hi]
 ·rw [List.getElem_append_right (by simpa using hi)]
  simp only [List.getElem_map,List.getElem_range,lnN,List.length_map,List.length_range]
  rw [if_neg hi]
theorem okP_at {nt:Network} (o:OkN nt) {i:Nat} (hi:i<nt.1.length):okP (nt.1.getD i zProgram)=true:=by rw [getD_lt hi]; exact o.prog i hi
theorem fmtS_txt {s:List Int} (h:okS s=true):fmtS s=txtS s:=if_pos h
theorem txtN_lines {nt:Network} (o:OkN nt):txtN nt=((linesN nt).map (·++[10])).flatten:=by
 rw [linesN_eq]
 unfold txtN
 have e1:((List.range nt.1.length).map fun i=>lineP (nt.1.getD i zProgram))=(((List.range nt.1.length).map fun i=>lnP (nt.1.getD i zProgram))).map (·++[10]):=by
  rw [List.map_map]
  refine List.map_congr_left (fun i hi=>?_)
  have hi:=List.mem_range.1 hi
  simp only [lineP,lnP,Function.comp,fmtP,if_pos (okP_at o hi)]
  simp
 have e2:((List.range nt.2.length).map fun i=>lineL (nt.2.getD i zLink))=(((List.range nt.2.length).map fun i=>lnL (nt.2.getD i zLink))).map (·++[10]):=by
  rw [List.map_map]
  refine List.map_congr_left (fun i hi=>?_)
  have hi:=List.mem_range.1 hi
  simp only [lineL,lnL,restL,Function.comp,fmtS_txt (lnk_bd o hi).t]
  simp
 rw [e1,e2]
 simp
theorem txtP_no {p:Program} (h:okP p=true) {c:UInt8} (hc:c=10):c∉txtP p:=by
 subst hc
 obtain ⟨h1,h2,h3,h4⟩:=okP_all h
 have n1:=notin_itoa (x:=p.1) ⟨by omega,by omega⟩ (c:=10) (by decide) (by decide)
 have n2:=notin_itoa (x:=p.2.1) ⟨by omega,by omega⟩ (c:=10) (by decide) (by decide)
 have hi:=okP_instr h
 rw [txtP,semi_eq hi]
 simp only [List.mem_append,List.mem_singleton,List.mem_flatten,List.mem_map,not_or,not_exists,not_and]
 refine ⟨⟨⟨n1,by decide⟩,n2⟩,?_⟩
 rintro l ⟨x,hx,rfl⟩ hm
 rcases List.mem_cons.1 hm with e | hm
 ·exact absurd e (by decide)
 ·exact (txtI_no (okI_all (hi x hx) (by omega) (by omega) (by omega))).2 hm
theorem restL_split {l:Link} (B:LnkB l):splitR 32 (restL l)=[Lib.itoa l.1,Lib.itoa l.2.1,Lib.itoa l.2.2.1,Lib.itoa l.2.2.2.1,txtS l.2.2.2.2]∧(10:UInt8)∉restL l:=by
 obtain ⟨a,b,c,d,t⟩:=B
 have ht:=(okS_bd t).2
 have n:∀ {v:Int},-1≤v→v≤12→∀ c:UInt8,c=32∨c=10→c∉Lib.itoa v:=fun h0 h1 c hc=>notin_itoa ⟨by omega,by omega⟩ (by rcases hc with rfl | rfl<;>decide) (by rcases hc with rfl | rfl<;>decide)
 have m:∀ c:UInt8,c=32∨c=10→c∉txtS l.2.2.2.2:=fun c hc=>by
  rcases hc with rfl | rfl
  ·exact txtS_mem ht (by decide) (by decide) (by decide) (by decide)
  ·exact txtS_mem ht (by decide) (by decide) (by decide) (by decide)
 refine ⟨?_,?_⟩
 ·unfold restL
  rw [splitR_app _ (n a.1 a.2 32 (.inl rfl)),splitR_app _ (n (by omega) (by omega) 32 (.inl rfl)),splitR_app _ (n c.1 c.2 32 (.inl rfl)),splitR_app _ (n (by omega) (by omega) 32 (.inl rfl)),splitR_no (m 32 (.inl rfl))]
 ·have n1:=n a.1 a.2 10 (.inr rfl)
  have n2:=n (v:=l.2.1) (by omega) (by omega) 10 (.inr rfl)
  have n3:=n c.1 c.2 10 (.inr rfl)
  have n4:=n (v:=l.2.2.2.1) (by omega) (by omega) 10 (.inr rfl)
  have n5:=m 10 (.inr rfl)
  simp only [restL,List.mem_append,List.mem_cons,not_or]
  exact ⟨n1,by decide,n2,by decide,n3,by decide,n4,by decide,n5⟩
theorem linesN_no {nt:Network} (o:OkN nt):∀ l∈linesN nt,(10:UInt8)∉l:=by
 rw [linesN_eq]
 intro l hl
 simp only [List.mem_append,List.mem_map,List.mem_range] at hl
 rcases hl with ⟨i,hi,rfl⟩ | ⟨i,hi,rfl⟩
 ·have:=txtP_no (okP_at o hi) rfl
  simp only [lnP,List.mem_append,List.mem_cons,List.not_mem_nil,or_false,not_or]
  exact ⟨by decide,by decide,this⟩
 ·have:=(restL_split (lnk_bd o hi)).2
  simp only [lnL,List.mem_append,List.mem_cons,List.not_mem_nil,or_false,not_or]
  exact ⟨by decide,by decide,this⟩
theorem restL_len {l:Link} (B:LnkB l):(restL l).length≤5000:=by
 obtain ⟨a,b,c,d,t⟩:=B
 have l1:=itoa_len (x:=l.1) (by omega) (by omega)
 have l2:=itoa_len (x:=l.2.1) (by omega) (by omega)
 have l3:=itoa_len (x:=l.2.2.1) (by omega) (by omega)
 have l4:=itoa_len (x:=l.2.2.2.1) (by omega) (by omega)
 have l5:=txtS_len t
 simp only [restL,List.length_append,List.length_cons]
 omega
abbrev zeroN:Network:=([],[])
structure ToldN (s:List UInt8) (r:Network×(Bool×Unit)):Prop where
 all:∀ nt,OkN nt→txtN nt=s→r=(nt,(true,()))
 non:(∃ nt,OkN nt∧txtN nt=s)∨r=(zeroN,(false,()))
theorem ToldN.one {s:List UInt8} {r r':Network×(Bool×Unit)} (h:ToldN s r) (h':ToldN s r'):r=r':=by
 rcases h.non with ⟨x,o,e⟩ | e
 ·rw [h.all x o e,h'.all x o e]
 ·rcases h'.non with ⟨x,o,e'⟩ | e'
  ·rw [h.all x o e',h'.all x o e']
  ·rw [e,e']
theorem smallN_of {nt:Network} (o:OkN nt):SmallN nt:=by
 have h1:=o.progs
 have h2:=o.links
 refine ⟨by omega,fun p hp=>?_,by omega,fun l hl=>?_⟩
 ·obtain ⟨i,hi,rfl⟩:=List.getElem_of_mem hp
  exact ⟨by have:=(okP_all (o.prog i hi)).2.2.1; omega⟩
 ·obtain ⟨i,hi,rfl⟩:=List.getElem_of_mem hl
  exact ⟨by have:=(okS_bd (o.toks i hi)).1; omega⟩
structure InvN (k:Nat) (A:List Program) (B:List Link):Prop where
 la:A.length≤k
 lb:B.length≤k
 ra:∀ p∈A,SmallP p
 rb:∀ l∈B,SmallL l
theorem InvN.nil:InvN 0 [] []:=⟨by simp,by simp,fun _ h=>(by simp at h),fun _ h=>(by simp at h)⟩
theorem InvN.mono {k k':Nat} {A:List Program} {B:List Link} (I:InvN k A B) (h:k≤k'):InvN k' A B:=⟨by have:=I.la; omega,by have:=I.lb; omega,I.ra,I.rb⟩
theorem InvN.prog {k:Nat} {A:List Program} {B:List Link} (I:InvN k A B) {p:Program} (h:SmallP p):InvN (k+1) (A++[p]) B:=⟨by have:=I.la; simp; omega,by have:=I.lb; omega,mem_snoc I.ra h,I.rb⟩
theorem InvN.link {k:Nat} {A:List Program} {B:List Link} (I:InvN k A B) {l:Link} (h:SmallL l):InvN (k+1) A (B++[l]):=⟨by have:=I.la; omega,by have:=I.lb; simp; omega,I.ra,mem_snoc I.rb h⟩
theorem InvN.small {k:Nat} {A:List Program} {B:List Link} (I:InvN k A B) (h:k≤1048576):SmallN (A,B):=⟨by have:=I.la; show A.length≤_; omega,I.ra,by have:=I.lb; show B.length≤_; omega,I.rb⟩
noncomputable def soFarN (nt:Network) (i:Nat):List Program×(List Link×Unit):=(nt.1.take i,(nt.2.take (i-nt.1.length),()))
theorem lineN_cases {nt:Network} (o:OkN nt) {i:Nat} (hi:i<nt.1.length+nt.2.length) :
  (∃ A p,soFarN nt i=(A,([],()))∧lnN nt i=lnP p∧soFarN nt (i+1)=(A++[p],([],()))∧okP p=true∧A.length≤12)∨
  (∃ A B l,soFarN nt i=(A,(B,()))∧lnN nt i=lnL l∧soFarN nt (i+1)=(A,(B++[l],()))∧LnkB l∧B.length≤30):=by
 have hl1:=o.links
 have hl2:=o.progs
 by_cases hA:i<nt.1.length
 ·have e0:i-nt.1.length=0:=by omega
  have e1:i+1-nt.1.length=0:=by omega
  refine .inl ⟨nt.1.take i,nt.1.getD i zProgram,?_,?_,?_,okP_at o hA,by rw [List.length_take]; omega⟩
  ·rw [soFarN,e0,List.take_zero]
  ·rw [lnN,if_pos hA]
  ·rw [soFarN,e1,List.take_zero,List.take_succ_eq_append_getElem hA,getD_lt hA]
 ·have hq:i-nt.1.length<nt.2.length:=by omega
  refine .inr ⟨nt.1.take i,nt.2.take (i-nt.1.length),nt.2.getD (i-nt.1.length) zLink,rfl,?_,?_,lnk_bd o hq,by rw [List.length_take]; omega⟩
  ·rw [lnN,if_neg hA]
  ·have e3:i+1-nt.1.length=(i-nt.1.length)+1:=by omega
   have e1:nt.1.take (i+1)=nt.1.take i:=by rw [List.take_of_length_le (by omega),List.take_of_length_le (by omega)]
   rw [soFarN,e3,e1,List.take_succ_eq_append_getElem hq,getD_lt hq]
theorem soFarN_end {nt:Network} : soFarN nt (nt.1.length+nt.2.length)=(nt.1,(nt.2,())):=by
 unfold soFarN
 rw [List.take_of_length_le (by omega),List.take_of_length_le (by omega)]
theorem index_app {c:UInt8} (r:List UInt8):∀ {w:List UInt8},c∉w→Lib.index (w++c::r) [c]=(w.length:Int)
 | [],_=>by rw [List.nil_append,Lib.index]; simp [List.isPrefixOf]
 | x::xs,h=>by
  have h1:x≠c:=fun e=>h (by simp [e])
  have h2:c∉xs:=fun e=>h (by simp [e])
  have ih:=index_app r h2
  have hp:([c]:List UInt8).isPrefixOf (x::(xs++c::r))=false:=by simp [List.isPrefixOf,Ne.symm h1]
  rw [List.cons_append,Lib.index,hp,ih]
  have n:(((xs.length:Nat):Int)==-1)=false:=by simp
  simp only [Bool.false_eq_true,if_false,n,List.length_cons]
  omega
theorem cutC_txt {n:Nat} {w r:List UInt8} {c:UInt8} (h:c∉w) (hl:(w++c::r).length≤1048576):cutC.f n (w++c::r) [c]=some (w,(r,(true,()))):=by
 unfold cutC.f cutF
 rw [if_pos (by omega)]
 unfold Lib.cut
 rw [index_app r h,if_pos (by omega)]
 simp
 rfl
theorem iParseLink_txt {n:Nat} {l:Link} (B:LnkB l) (hn:1048577<n):iParseLink.f n (restL l)=some (l,(true,())):=by
 have hl:=restL_len B
 have hs:=(restL_split B).1
 obtain ⟨a,b,c,d,t⟩:=B
 unfold iParseLink.f
 rw [splitC_spec (by omega),hs,bind_unit]
 dsimp only
 have h5:(([Lib.itoa l.1,Lib.itoa l.2.1,Lib.itoa l.2.2.1,Lib.itoa l.2.2.2.1,txtS l.2.2.2.2]:List (List UInt8)).length:Int)=5:=rfl
 rw [h5,decide_eq_true rfl]
 simp only [Bool.not_true,br_false]
 have g0:([Lib.itoa l.1,Lib.itoa l.2.1,Lib.itoa l.2.2.1,Lib.itoa l.2.2.2.1,txtS l.2.2.2.2]:List (List UInt8)).getD 0 []=Lib.itoa l.1:=rfl
 have g1:([Lib.itoa l.1,Lib.itoa l.2.1,Lib.itoa l.2.2.1,Lib.itoa l.2.2.2.1,txtS l.2.2.2.2]:List (List UInt8)).getD 1 []=Lib.itoa l.2.1:=rfl
 have g2:([Lib.itoa l.1,Lib.itoa l.2.1,Lib.itoa l.2.2.1,Lib.itoa l.2.2.2.1,txtS l.2.2.2.2]:List (List UInt8)).getD 2 []=Lib.itoa l.2.2.1:=rfl
 have g3:([Lib.itoa l.1,Lib.itoa l.2.1,Lib.itoa l.2.2.1,Lib.itoa l.2.2.2.1,txtS l.2.2.2.2]:List (List UInt8)).getD 3 []=Lib.itoa l.2.2.2.1:=rfl
 have g4:([Lib.itoa l.1,Lib.itoa l.2.1,Lib.itoa l.2.2.1,Lib.itoa l.2.2.2.1,txtS l.2.2.2.2]:List (List UInt8)).getD 4 []=txtS l.2.2.2.2:=rfl
 rw [g0,g1,g2,g3,g4,iNumber_spec (x:=l.1) (by omega) (by omega),iNumber_spec (x:=l.2.1) (by omega) (by omega),iNumber_spec (x:=l.2.2.1) (by omega) (by omega),iNumber_spec (x:=l.2.2.2.1) (by omega) (by omega),iParseStream_txt t hn]
 rw [chk_true (show (0:Int)≤0∧(0:Int)<5 by omega)]
 simp only [bind_unit,br_true]
 rw [chk_true (show (0:Int)≤1∧(1:Int)<5 by omega),chk_true (show (0:Int)≤2∧(2:Int)<5 by omega),chk_true (show (0:Int)≤3∧(3:Int)<5 by omega)]
 simp only [cut_inr,br_true]
 rw [chk_true (show (0:Int)≤4∧(4:Int)<5 by omega)]
theorem lnP_len {p:Program} (h:okP p=true):(lnP p).length≤2000:=by
 have:=txtP_len h
 simp only [lnP,List.length_append,List.length_cons,List.length_nil]
 omega
theorem lnL_len {l:Link} (B:LnkB l):(lnL l).length≤6000:=by
 have:=restL_len B
 simp only [lnL,List.length_append,List.length_cons,List.length_nil]
 omega
theorem iParseNetwork_txt {n:Nat} {nt:Network} (o:OkN nt) (hn:1048577<n):iParseNetwork.f n (txtN nt)=some (nt,(true,())):=by
 have hB:=maxB_eq
 have hS:=smallN_of o
 have hl1:=o.links
 have hl2:=o.progs
 have hL:=txtN_len o
 have hli:=iLines_lines (n:=n) (linesN_no o) (by rw [← txtN_lines o]; omega)
 rw [← txtN_lines o] at hli
 have hlen:=linesN_len nt
 have hz:soFarN nt 0=([],([],())):=by simp [soFarN]
 unfold iParseNetwork.f
 rw [hli,bind_unit]
 dsimp only
 refine Eq.trans (congrArg (iter n _) (show _=(true,(((0:Nat):Int),soFarN nt 0)) from by rw [hz]; rfl)) ?_
 refine iter_line (n:=n) (fun i=>(true,((i:Int),soFarN nt i))) (nt.1.length+nt.2.length) (fun ih i hi=>?_) (fun ih=>?_) (by omega)
 ·have hi':(i:Int)<((linesN nt).length:Int):=by omega
  simp only [br_yes hi',Int.toNat_natCast]
  rw [chk_true (by omega),linesN_get nt hi,w64_succ (by omega)]
  rcases lineN_cases o hi with ⟨A,p,e1,e2,e3,hp,hA⟩ | ⟨A,B,l,e1,e2,e3,hB',hA⟩
  ·rw [e1,e2,e3]
   have hll:=lnP_len hp
   rw [lnP,cutC_txt (by decide) (by rw [lnP] at hll; omega),bind_unit]
   dsimp only
   rw [br_yes rfl]
   simp only [cut_inr,List.length_nil]
   rw [decide_eq_true (show ((0:Nat):Int)=0 from rfl),br_true,iParseProgram_txt hp hn,bind_unit,chk_true (by simp only [List.length_cons,List.length_nil]; omega)]
   simp only [br_true]
  ·rw [e1,e2,e3]
   have hll:=lnL_len hB'
   rw [lnL,cutC_txt (by decide) (by rw [lnL] at hll; omega),bind_unit]
   dsimp only
   rw [br_no (by decide)]
   simp only [cut_inr,br_false]
   simp only [decide_true,br_true]
   rw [iParseLink_txt hB' hn,bind_unit,chk_true (by simp only [List.length_cons,List.length_nil]; omega)]
 ·have hi':¬ (((nt.1.length+nt.2.length:Nat):Int)<((linesN nt).length:Int)):=by omega
  simp only [br_no hi',Bool.not_true,br_false]
  rw [soFarN_end]
  show cut ((iIsNetwork.f n nt).bind _) _=_
  rw [iIsNetwork_spec hS (by omega),show okN nt=true from decide_eq_true o,bind_unit]
  simp only [Bool.not_true,br_false]
  show cut ((iFmtNetwork.f n nt).bind _) _=_
  rw [iFmtNetwork_spec hS (by omega),bind_unit,fmtN,if_pos (show okN nt=true from decide_eq_true o),decide_eq_true rfl]
  rfl
end Go.AmT
namespace Go.AmT
open Go Go.Am Go.Proofs
set_option linter.unusedVariables false
set_option maxRecDepth 100000
def tys26:List (Nat×TInfo):=[(3,⟨false,1,8,[.int .i64 0],.int .i64,0,some I,[],false⟩),
 (9,⟨false,1,16,[.str []],.str,0,some .str,[],false⟩),
 (26,⟨true,2,48,[.nil,.nil],.struct,0,some tNetwork,[(0,23),(1,24)],false⟩),
 (28,⟨false,1,24,[.nil],.slice,75,some (.sl tActor),[],false⟩),
 (29,⟨false,1,24,[.nil],.slice,32,some (.sl IS),[],false⟩),
 (31,⟨true,4,80,[.nil,.nil,.nil,.int .i64 0],.struct,0,some tState,[(0,28),(1,29),(2,29),(3,3)],false⟩),
 (32,⟨false,1,24,[.nil],.slice,3,some IS,[],false⟩),
 (75,⟨true,2,32,[.int .i64 0,.nil],.struct,0,some tActor,[(0,3),(1,32)],false⟩)]
theorem tys26_ok:(tys26.all fun p=>tokB Tryz.prog p.1 p.2)=true:=by kernel_rfl
def fmtState.las:List (Nat×LA):=[(7,⟨[(5,.str),(22,.int .i64)],[],[3,20,21],[]⟩),(16,⟨[(5,.str),(42,.int .i64)],[],[3,40,41],[]⟩)]
noncomputable def fmtState.f (n:Nat) (a0:Network) (a1:State):Option ((List UInt8)×Unit):=(sIsState.f n a0 a1).bind fun r1=>br (!r1.1) (some ([],())) ((l1Number.f n a1.2.2.2).bind fun r2=>chk (([115,116,101,112,115,32]:List UInt8).length+r2.1.length<maxS) (chk ((([115,116,101,112,115,32]:List UInt8)++r2.1).length+([10]:List UInt8).length<maxS) (iter (α:=((List UInt8)×(Int×Unit))) n (fun ih20 x19=>br (decide (x19.2.1<(a1.1.length:Int))) (chk (0≤x19.2.1∧x19.2.1<(a1.1.length:Int)) (let v21:=(a1.1.getD x19.2.1.toNat zActor); chk (x19.1.length+([97,99,116,111,114,32]:List UInt8).length<maxS) ((l1Number.f n v21.1).bind fun r22=>chk ((x19.1++([97,99,116,111,114,32]:List UInt8)).length+r22.1.length<maxS) (chk (((x19.1++([97,99,116,111,114,32]:List UInt8))++r22.1).length+([32]:List UInt8).length<maxS) ((fmtStream.f n v21.2).bind fun r23=>chk ((((x19.1++([97,99,116,111,114,32]:List UInt8))++r22.1)++([32]:List UInt8)).length+r23.1.length<maxS) (chk (((((x19.1++([97,99,116,111,114,32]:List UInt8))++r22.1)++([32]:List UInt8))++r23.1).length+([10]:List UInt8).length<maxS) (ih20 ((((((x19.1++([97,99,116,111,114,32]:List UInt8))++r22.1)++([32]:List UInt8))++r23.1)++([10]:List UInt8)),((w64 (x19.2.1+1)),()))))))))) (iter (α:=((List UInt8)×(Int×Unit))) n (fun ih35 x34=>br (decide (x34.2.1<(a1.2.1.length:Int))) (chk (0≤x34.2.1∧x34.2.1<(a1.2.1.length:Int)) (let v36:=(a1.2.1.getD x34.2.1.toNat []); chk (x34.1.length+([113,117,101,117,101,32]:List UInt8).length<maxS) ((fmtStream.f n v36).bind fun r37=>chk ((x34.1++([113,117,101,117,101,32]:List UInt8)).length+r37.1.length<maxS) (chk (((x34.1++([113,117,101,117,101,32]:List UInt8))++r37.1).length+([32]:List UInt8).length<maxS) (chk (0≤x34.2.1∧x34.2.1<(a1.2.2.1.length:Int)) (let v38:=(a1.2.2.1.getD x34.2.1.toNat []); (fmtStream.f n v38).bind fun r39=>chk ((((x34.1++([113,117,101,117,101,32]:List UInt8))++r37.1)++([32]:List UInt8)).length+r39.1.length<maxS) (chk (((((x34.1++([113,117,101,117,101,32]:List UInt8))++r37.1)++([32]:List UInt8))++r39.1).length+([10]:List UInt8).length<maxS) (ih35 ((((((x34.1++([113,117,101,117,101,32]:List UInt8))++r37.1)++([32]:List UInt8))++r39.1)++([10]:List UInt8)),((w64 (x34.2.1+1)),())))))))))) (some (x34.1,()))) (x19.1,(0,())))) (((([115,116,101,112,115,32]:List UInt8)++r2.1)++([10]:List UInt8)),(0,())))))
noncomputable def fmtState.mng (n:Nat):Mng:=⟨[.val tNetwork,.val tState],[.val .str],fun x=>fmtState.f n x.1 x.2.1⟩
noncomputable def fmtState.cfg (n:Nat):Cfg:=⟨tys26,[(82,sIsState.mng n),(34,fmtStream.mng n)],[(33,l1Number.mng n)],[]⟩
theorem fmtState.gof:GoF Tryz.prog 35:=⟨_,Tryz.func35,by kernel_rfl,by kernel_rfl⟩
theorem fmtState.sound (n:Nat):Sound Tryz.prog 35 (fmtState.mng n):=sndF (c:=fmtState.cfg n) (n:=n) (an:=annOf Tryz.f35 fmtState.las) ⟨⟨sIsState.sound n,sIsState.gof⟩,⟨⟨fmtStream.sound n,fmtStream.gof⟩,trivial⟩⟩ ⟨⟨l1Number.sound n,l1Number.gof⟩,trivial⟩ (tysOK tys26_ok) Tryz.func35 (fun x=>by kernel_rfl)
end Go.AmT
namespace Go.AmT
open Go Go.Am
set_option linter.unusedVariables false
set_option linter.unusedSimpArgs false
theorem okA_bd {p:Program} {a:Actor} (h:okA p a=true):0≤a.1∧a.1≤(p.2.2.length:Int)∧okS a.2=true:=by
 unfold okA at h
 simp only [Bool.and_eq_true,decide_eq_true_eq] at h
 exact ⟨h.1,h.2.1,h.2.2.2⟩
theorem okP_code {p:Program} (hp:okP p=true):p.2.2.length≤24:=by
 unfold okP at hp
 simp only [Bool.and_eq_true,decide_eq_true_eq] at hp
 omega
noncomputable def lineA (a:Actor):List UInt8:=[97,99,116,111,114,32]++Lib.itoa a.1++[32]++fmtS a.2++[10]
noncomputable def lineQ (q h:List Int):List UInt8:=[113,117,101,117,101,32]++fmtS q++[32]++fmtS h++[10]
noncomputable def txtSt (s:State):List UInt8:=[115,116,101,112,115,32]++Lib.itoa s.2.2.2++[10]++((List.range s.1.length).map fun i=>lineA (s.1.getD i zActor)).flatten++((List.range s.2.1.length).map fun i=>lineQ (s.2.1.getD i []) (s.2.2.1.getD i [])).flatten
noncomputable def fmtSt (nt:Network) (s:State):List UInt8:=if okSt nt s then txtSt s else []
theorem lineQ_len (q h:List Int):(lineQ q h).length≤9000:=by
 have h1:=fmtS_len q
 have h2:=fmtS_len h
 simp only [lineQ,List.length_append,List.length_cons,List.length_nil]
 omega
theorem act_bd {nt:Network} {s:State} (o:OkSt nt s) {i:Nat} (hi:i<s.1.length):(0≤(s.1.getD i zActor).1∧(s.1.getD i zActor).1≤24)∧(s.1.getD i zActor).2.length≤400:=by
 have hna:=o.na
 obtain ⟨a1,a2,a3⟩:=okA_bd (o.act i (by omega))
 have:=okP_code (by rw [getD_lt (show i<nt.1.length by omega)]; exact o.net.prog i (by omega):okP (nt.1.getD i zProgram)=true)
 exact ⟨⟨a1,by omega⟩,(okS_bd a3).1⟩
theorem lineA_len {nt:Network} {s:State} (o:OkSt nt s) {i:Nat} (hi:i<s.1.length):(lineA (s.1.getD i zActor)).length≤5000:=by
 obtain ⟨⟨a1,a2⟩,a3⟩:=act_bd o hi
 have h1:=itoa_len (x:=(s.1.getD i zActor).1) (by omega) (by omega)
 have h2:=fmtS_len (s.1.getD i zActor).2
 simp only [lineA,List.length_append,List.length_cons,List.length_nil]
 omega
theorem okSt_of' {nt:Network} {s:State} (h:okSt nt s=true):OkSt nt s:=of_decide_eq_true h
theorem fmtState_spec {n:Nat} {nt:Network} {s:State} (h:SmallN nt) (hs:SmallSt s) (hn:1048576<n):fmtState.f n nt s=some (fmtSt nt s,()):=by
 unfold fmtState.f fmtSt
 rw [sIsState_spec h hs hn,bind_unit]
 cases hk:okSt nt s
 ·rw [Bool.not_false,br_true]; rfl
 ·have o:=okSt_of' hk
  have hna:=o.na
  have hnq:=o.nq
  have hns:=o.ns
  have hst:=o.steps
  have hli:=o.net.links
  have hpr:=o.net.progs
  have h8:=itoa_len (x:=s.2.2.2) (by omega) (by omega)
  rw [Bool.not_true,br_false,number_spec hn (by omega) (by omega),bind_unit,str_chk (by simp only [List.length_append,List.length_cons,List.length_nil]; omega),str_chk (by simp only [List.length_append,List.length_cons,List.length_nil]; omega)]
  refine cat_loop (fun i=>lineA (s.1.getD i zActor)) s.1.length 5000 ([115,116,101,112,115,32]++Lib.itoa s.2.2.2++[10]) (fun i hi=>lineA_len o hi) (fun t i=>(t,(i,()))) (fun ih i t hi ht=>?_) (fun ih=>?_) (by omega)
  ·obtain ⟨⟨a1,a2⟩,a3⟩:=act_bd o hi
   have h1:=itoa_len (x:=(s.1.getD i zActor).1) (by omega) (by omega)
   have h2:=fmtS_len (s.1.getD i zActor).2
   simp only [br_yes (show (i:Int)<(s.1.length:Int) by omega),Int.toNat_natCast]
   simp only [List.length_append,List.length_cons,List.length_nil] at ht
   rw [chk_true (by omega),str_chk (by simp only [List.length_append,List.length_cons,List.length_nil]; omega),number_spec hn (by omega) (by omega),bind_unit,str_chk (by simp only [List.length_append,List.length_cons,List.length_nil]; omega),str_chk (by simp only [List.length_append,List.length_cons,List.length_nil]; omega),fmtStream_spec (by omega) hn,bind_unit,str_chk (by simp only [List.length_append,List.length_cons,List.length_nil]; omega),str_chk (by simp only [List.length_append,List.length_cons,List.length_nil]; omega),w64_succ (by omega)]
   simp only [lineA,List.append_assoc]
  ·simp only [br_no (Int.lt_irrefl _)]
   have hL:(([115,116,101,112,115,32]:List UInt8)++Lib.itoa s.2.2.2++[10]++((List.range s.1.length).map fun i=>lineA (s.1.getD i zActor)).flatten).length≤1000000:=by
    have:=flat_len (fun i=>lineA (s.1.getD i zActor)) 5000 (List.range s.1.length) (fun x hx=>lineA_len o (List.mem_range.1 hx))
    rw [List.length_range] at this
    have:=Nat.mul_le_mul_left 5000 (show s.1.length≤100 by omega)
    simp only [List.length_append,List.length_cons,List.length_nil]
    omega
   refine cat_loop (fun i=>lineQ (s.2.1.getD i []) (s.2.2.1.getD i [])) s.2.1.length 9000 ([115,116,101,112,115,32]++Lib.itoa s.2.2.2++[10]++((List.range s.1.length).map fun i=>lineA (s.1.getD i zActor)).flatten) (fun i hi=>lineQ_len _ _) (fun t i=>(t,(i,()))) (fun ih i t hi ht=>?_) (fun ih=>?_) (by omega)
   ·have L:=o.lnk i (by omega)
    have h1:=fmtS_len (s.2.1.getD i [])
    have h2:=fmtS_len (s.2.2.1.getD i [])
    simp only [br_yes (show (i:Int)<(s.2.1.length:Int) by omega),Int.toNat_natCast]
    have ht:t.length≤100000000:=by omega
    rw [chk_true (by omega),str_chk (by simp only [List.length_append,List.length_cons,List.length_nil]; omega),fmtStream_spec (by have:=(okS_bd L.qs).1; omega) hn,bind_unit,str_chk (by simp only [List.length_append,List.length_cons,List.length_nil]; omega),str_chk (by simp only [List.length_append,List.length_cons,List.length_nil]; omega),chk_true (by omega),fmtStream_spec (by have:=(okS_bd L.hs).1; omega) hn,bind_unit,str_chk (by simp only [List.length_append,List.length_cons,List.length_nil]; omega),str_chk (by simp only [List.length_append,List.length_cons,List.length_nil]; omega),w64_succ (by omega)]
    simp only [lineQ,List.append_assoc]
   ·simp only [br_no (Int.lt_irrefl _)]
    rfl
end Go.AmT
