/- Numbers as texts, in plain Lean: the digits of a number. -/
import Derived.Test.YtkgknijpmcagmaaGreatMGrow10
import Derived.Test.YtkgknijpmcagmaaGreatMGrow2
import Derived.Test.YtkgknijpmcagmaaGreatMGrow7
namespace Go.AmT
open Go Go.Am
set_option linter.unusedVariables false
set_option linter.unusedSimpArgs false
theorem str_chk {m:Nat} {ρ:Type} {x:Option ρ} (h:m≤1000000000000):chk (m<maxS) x=x:=chk_true (by simp only [maxS]; omega)
theorem byte_k {k:Nat} (h:k<10):UInt8.ofNat (IntKind.wrap .u8 (w64 (48+(k:Int)))).toNat=UInt8.ofNat (48+k):=by
 have c:k=0∨k=1∨k=2∨k=3∨k=4∨k=5∨k=6∨k=7∨k=8∨k=9:=by omega
 rcases c with h | h | h | h | h | h | h | h | h | h<;>(subst h; decide)
theorem byte_eq {v:Int} (h:0≤v):UInt8.ofNat (IntKind.wrap .u8 (w64 (48+v.tmod 10))).toNat=UInt8.ofNat (48+v.toNat % 10):=by
 rw [Int.tmod_eq_emod_of_nonneg h,show v % 10=((v.toNat % 10:Nat):Int) by omega]
 exact byte_k (by omega)
theorem dd_big {u:Nat} (h:¬ u<10):Lib.decDigits u=Lib.decDigits (u / 10)++[UInt8.ofNat (48+u % 10)]:=by rw [Lib.decDigits,dif_neg h]
theorem dd_len:∀ (k u:Nat),u<10 ^ (k+1)→(Lib.decDigits u).length≤k+1
 | 0,u,h=>by rw [Lib.decDigits_one (by simpa using h)]; simp
 | k+1,u,h=>by
  by_cases hu:u<10
  ·rw [Lib.decDigits_one hu]; simp
  ·rw [dd_big hu]
   rw [Nat.pow_succ] at h
   have:=dd_len k (u / 10) (by omega)
   simp
   omega
noncomputable def preD (v:Int):List UInt8:=if v=0 then [] else Lib.decDigits v.toNat
theorem preD_all {v:Int} (h:0≤v):Lib.decDigits v.toNat=preD (v / 10)++[UInt8.ofNat (48+v.toNat % 10)]:=by
 unfold preD
 by_cases hu:v.toNat<10
 ·rw [if_pos (by omega),Lib.decDigits_one hu,Nat.mod_eq_of_lt hu]; rfl
 ·rw [if_neg (by omega),dd_big hu,show (v / 10).toNat=v.toNat / 10 by omega]
theorem preD_step {v:Int} (h:0<v):preD v=preD (v / 10)++[UInt8.ofNat (48+v.toNat % 10)]:=by
 rw [← preD_all (by omega)]
 unfold preD
 rw [if_neg (by omega)]
theorem digits_W {n:Nat} {x:Int} {slf:Int→Option (List UInt8×Unit)} (hn:1048576<n) (h0:0≤x) (h1:x≤1000000):W (l1Number.B n slf x) (fun r=>r.1=Lib.decDigits x.toNat):=by
 unfold l1Number.B
 rw [br_no (by omega)]
 have hd:x.tdiv 10=x / 10:=Int.tdiv_eq_ediv_of_nonneg h0
 rw [hd,w64_id (n:=x / 10) (by omega) (by omega)]
 simp only [List.map_cons,List.map_nil]
 have hL:=dd_len 6 x.toNat (by omega)
 refine W_iter (fun y=>0≤y.1∧y.1≤100000∧preD y.1++y.2.1=Lib.decDigits x.toNat) (fun y=>y.1.toNat) (fun ih y hy hS=>?_) ⟨by omega,by omega,by rw [byte_eq h0,preD_all h0]⟩ (by show (x / 10).toNat<n; omega)
 obtain ⟨v,out,⟨⟩⟩:=y
 obtain ⟨a0,a1,a2⟩:=hy
 simp only at a0 a1 a2
 by_cases hv:0<v
 ·simp only [br_yes hv]
  have hd:v.tdiv 10=v / 10:=Int.tdiv_eq_ediv_of_nonneg a0
  have hl:out.length≤7:=by
   have:=congrArg List.length a2
   rw [List.length_append] at this
   omega
  rw [hd,w64_id (n:=v / 10) (by omega) (by omega),str_chk (by simp; omega)]
  refine hS _ ⟨by simp only; omega,by simp only; omega,?_⟩ (by simp only; omega)
  show preD (v / 10)++([_]++out)=_
  rw [byte_eq a0,← List.append_assoc,← preD_step hv,a2]
 ·simp only [br_no hv]
  rw [W_some]
  show out=_
  rw [← a2,show v=0 by omega]
  rfl
theorem itoa_len {x:Int} (h0 : -1000000≤x) (h1:x≤1000000):(Lib.itoa x).length≤8:=by
 unfold Lib.itoa
 split
 ·have:=dd_len 6 x.natAbs (by omega)
  simp
  omega
 ·have:=dd_len 6 x.toNat (by omega)
  omega
theorem number_spec {n:Nat} {x:Int} (hn:1048576<n) (h0 : -1000000≤x) (h1:x≤1000000):l1Number.f n x=some (Lib.itoa x,()):=by
 have hL:=itoa_len h0 h1
 have:W (l1Number.f n x) (fun r=>r.1=Lib.itoa x):=by
  obtain ⟨m,rfl⟩:∃ m,n=m+2:=⟨n-2,by omega⟩
  show W (l1Number.B (m+2) (l1Number.F (m+2) (m+1)) x) _
  by_cases hx:0≤x
  ·refine W_and (digits_W hn hx h1) (fun r hr=>?_)
   rw [hr,Lib.itoa,if_neg (by omega)]
  ·unfold l1Number.B
   rw [br_yes (by omega),w64_id (n:=0-x) (by omega) (by omega),W_bind]
   refine W_and (show W (l1Number.B (m+2) (l1Number.F (m+2) m) (0-x)) (fun r=>r.1=Lib.decDigits (0-x).toNat) from digits_W hn (by omega) (by omega)) (fun r hr=>?_)
   have hl:=dd_len 6 (0-x).toNat (by omega)
   rw [hr,str_chk (by simp only [List.length_cons,List.length_nil]; omega),W_some,Lib.itoa,if_pos (by omega),show (0-x).toNat=x.natAbs by omega]
   rfl
 obtain ⟨⟨r,⟨⟩⟩,e,h⟩:=this
 rw [e]
 exact congrArg (fun z=>some (z,())) h
theorem flat_len {α:Type} (g:α→List UInt8) (B:Nat):∀ (l:List α),(∀ x∈l,(g x).length≤B)→(l.map g).flatten.length≤B*l.length
 | [],_=>by simp
 | x::l,h=>by
  have h1:=h x (by simp)
  have h2:=flat_len g B l (fun y hy=>h y (by simp [hy]))
  simp only [List.map_cons,List.flatten_cons,List.length_append,List.length_cons,Nat.mul_add]
  omega
theorem flat_snoc {α:Type} (g:α→List UInt8) (l:List α) (i:Nat) (h:i<l.length):((l.take (i+1)).map g).flatten=((l.take i).map g).flatten++g l[i]:=by
 rw [List.take_succ_eq_append_getElem h]
 simp only [List.map_append,List.map_cons,List.map_nil,List.flatten_append,List.flatten_cons,List.flatten_nil,List.append_nil]
theorem cat_list {α γ ρ:Type} (g:α→List UInt8) (l:List α) (t0:List UInt8) {F:(γ→Option ρ)→γ→Option ρ} (st:List UInt8→Int→γ) {R:Option ρ}
  (h1:∀ ih (i:Nat),i<l.length→F ih (st (t0++((l.take i).map g).flatten) (i:Int))=ih (st (t0++((l.take (i+1)).map g).flatten) ((i+1:Nat):Int)))
  (h2:∀ ih,F ih (st (t0++(l.map g).flatten) (l.length:Int))=R) {n:Nat} (hn:l.length<n):iter n F (st t0 0)=R:=by
 have:=iter_line (F:=F) (fun i=>st (t0++((l.take i).map g).flatten) (i:Int)) l.length (R:=R) (fun ih i hi=>h1 ih i hi) (fun ih=>by
  show F ih (st (t0++((l.take l.length).map g).flatten) (l.length:Int))=R
  rw [List.take_length]; exact h2 ih) hn
 simpa using this
theorem cat_loop {γ ρ:Type} (g:Nat→List UInt8) (len B:Nat) (t0:List UInt8) (hB:∀ i,i<len→(g i).length≤B) {F:(γ→Option ρ)→γ→Option ρ} (st:List UInt8→Int→γ) {R:Option ρ}
  (h1:∀ ih (i:Nat) (t:List UInt8),i<len→t.length≤t0.length+B*i→F ih (st t (i:Int))=ih (st (t++g i) ((i+1:Nat):Int)))
  (h2:∀ ih,F ih (st (t0++((List.range len).map g).flatten) (len:Int))=R) {n:Nat} (hn:len<n):iter n F (st t0 0)=R:=by
 have hl:∀ i,i≤len→((List.range i).map g).flatten.length≤B*i:=fun i hi=>by
  have:=flat_len g B (List.range i) (fun x hx=>hB x (by have:=List.mem_range.1 hx; omega))
  rwa [List.length_range] at this
 have:=iter_line (F:=F) (fun i=>st (t0++((List.range i).map g).flatten) (i:Int)) len (R:=R) (fun ih i hi=>by
  show F ih (st (t0++((List.range i).map g).flatten) (i:Int))=_
  rw [h1 ih i _ hi (by have:=hl i (by omega); simp only [List.length_append]; omega),List.range_succ]
  simp) (fun ih=>h2 ih) hn
 simpa using this
end Go.AmT
namespace Go.AmT
open Go Go.Am Go.Proofs
set_option linter.unusedVariables false
set_option maxRecDepth 100000
def tys17:List (Nat×TInfo):=[(3,⟨false,1,8,[.int .i64 0],.int .i64,0,some I,[],false⟩),
 (4,⟨false,1,1,[.bool false],.bool,0,some .bool,[],false⟩),
 (9,⟨false,1,16,[.str []],.str,0,some .str,[],false⟩),
 (51,⟨false,1,24,[.nil],.slice,103,some (.sl tInstr),[],false⟩),
 (53,⟨true,3,40,[.int .i64 0,.int .i64 0,.nil],.struct,0,some tProgram,[(0,3),(1,3),(2,51)],false⟩),
 (56,⟨false,1,24,[.nil],.slice,9,some (.sl .str),[],false⟩),
 (75,⟨false,1,24,[.nil],.slice,3,some IS,[],false⟩),
 (103,⟨true,4,32,[.int .i64 0,.int .i64 0,.int .i64 0,.int .i64 0],.struct,0,some tInstr,[(0,3),(1,3),(2,3),(3,3)],false⟩),
 (160,⟨false,1,24,[.nil],.slice,4,some (.sl .bool),[],false⟩)]
theorem tys17_ok:(tys17.all fun p=>tokB Tryz.prog p.1 p.2)=true:=by kernel_rfl
def l9Words.las:List (Nat×LA):=[]
noncomputable def l9Words.f (n:Nat)  : Option ((List (List UInt8))×Unit):=some ([[],[114,101,97,100],[119,114,105,116,101],[115,101,116],[97,100,100],[115,117,98],[109,117,108],[114,101,115,116],[106,117,109,112],[122,101,114,111],[98,101,108,111,119],[104,97,108,116]],())
noncomputable def l9Words.mng (n:Nat):Mng:=⟨[],[.val (.sl .str)],fun x=>l9Words.f n ⟩
noncomputable def l9Words.cfg (n:Nat):Cfg:=⟨tys17,[],[],[]⟩
theorem l9Words.eq:∀ (n:Nat),runF (l9Words.cfg n) n Tryz.f130 (annOf Tryz.f130 l9Words.las) [] [.val (.sl .str)] ()=l9Words.f n:=by
 intros
 kernel_rfl
theorem l9Words.gof:GoF Tryz.prog 130:=⟨_,Tryz.func130,by kernel_rfl,by kernel_rfl⟩
theorem l9Words.sound (n:Nat):Sound Tryz.prog 130 (l9Words.mng n):=runF_sound (fn:=Tryz.f130) (m:=l9Words.mng n) (c:=l9Words.cfg n) (regOK mixed (opOK (.of (c:=l9Words.cfg n) trivial) (.of (c:=l9Words.cfg n) trivial)) (tysOK tys17_ok)) (tysOK tys17_ok) Tryz.func130 (fun x=>(l9Words.eq n ).symm)
def l9Uses.las:List (Nat×LA):=[(4,⟨[(4,.bool)],[],[3],[]⟩)]
noncomputable def l9Uses.f (n:Nat) (a0:Int):Option ((List Bool)×Unit):=cut (α:=(Bool×Unit)) (br (decide (a0=4)) (some (.inr ((decide (a0=4)),()))) (br (decide (a0=5)) (some (.inr ((decide (a0=5)),()))) (br (decide (a0=6)) (some (.inr ((decide (a0=6)),()))) (some (.inr ((decide (a0=7)),())))))) fun y1=>br y1.1 (some ([true,true,true],())) (br (decide (a0=8)) (some ([false,true,false],())) (br (decide (a0=11)) (some ([false,false,false],())) (some ([true,true,false],()))))
noncomputable def l9Uses.mng (n:Nat):Mng:=⟨[.val I],[.val (.sl .bool)],fun x=>l9Uses.f n x.1⟩
noncomputable def l9Uses.cfg (n:Nat):Cfg:=⟨tys17,[],[],[]⟩
theorem l9Uses.eq:∀ (n:Nat) (a0:Int),runF (l9Uses.cfg n) n Tryz.f131 (annOf Tryz.f131 l9Uses.las) [.val I] [.val (.sl .bool)] (a0,())=l9Uses.f n a0:=by
 intros
 kernel_rfl
theorem l9Uses.gof:GoF Tryz.prog 131:=⟨_,Tryz.func131,by kernel_rfl,by kernel_rfl⟩
theorem l9Uses.sound (n:Nat):Sound Tryz.prog 131 (l9Uses.mng n):=runF_sound (fn:=Tryz.f131) (m:=l9Uses.mng n) (c:=l9Uses.cfg n) (regOK mixed (opOK (.of (c:=l9Uses.cfg n) trivial) (.of (c:=l9Uses.cfg n) trivial)) (tysOK tys17_ok)) (tysOK tys17_ok) Tryz.func131 (fun x=>(l9Uses.eq n x.1).symm)
def l9Fits.las:List (Nat×LA):=[]
noncomputable def l9Fits.f (n:Nat) (a0:Instr):Option (Bool×Unit):=chk (24=24∧0≤24∧24*(32:Int)≤(maxB:Int)) ((sL2Operands.f n (3,(3,(List.replicate 24 ((0,(0,(0,0))):Instr)))) a0).bind fun r1=>some (r1.1,()))
noncomputable def l9Fits.mng (n:Nat):Mng:=⟨[.val tInstr],[.val .bool],fun x=>l9Fits.f n x.1⟩
noncomputable def l9Fits.cfg (n:Nat):Cfg:=⟨tys17,[(128,sL2Operands.mng n)],[],[]⟩
theorem l9Fits.eq:∀ (n:Nat) (a0:Instr),runF (l9Fits.cfg n) n Tryz.f129 (annOf Tryz.f129 l9Fits.las) [.val tInstr] [.val .bool] (a0,())=l9Fits.f n a0:=by
 intros
 kernel_rfl
theorem l9Fits.gof:GoF Tryz.prog 129:=⟨_,Tryz.func129,by kernel_rfl,by kernel_rfl⟩
theorem l9Fits.sound (n:Nat):Sound Tryz.prog 129 (l9Fits.mng n):=runF_sound (fn:=Tryz.f129) (m:=l9Fits.mng n) (c:=l9Fits.cfg n) (regOK mixed (opOK (.of (c:=l9Fits.cfg n) ⟨⟨sL2Operands.sound n,sL2Operands.gof⟩,trivial⟩) (.of (c:=l9Fits.cfg n) trivial)) (tysOK tys17_ok)) (tysOK tys17_ok) Tryz.func129 (fun x=>(l9Fits.eq n x.1).symm)
def fmtInstr.las:List (Nat×LA):=[(8,⟨[(3,.str),(24,.own 1000 I),(26,.int .i64)],[(1000,.row true I)],[4,25],[]⟩)]
noncomputable def fmtInstr.f (n:Nat) (a0:Instr):Option ((List UInt8)×Unit):=(l9Fits.f n a0).bind fun r1=>br (!r1.1) (some ([],())) ((l9Words.f n ).bind fun r2=>chk (0≤a0.1∧a0.1<(r2.1.length:Int)) ((l9Uses.f n a0.1).bind fun r3=>iter (α:=((List UInt8)×(Int×(List Int)×Unit))) n (fun ih11 x10=>br (decide (x10.2.1<3)) (chk (0≤x10.2.1∧x10.2.1<(x10.2.2.1.length:Int)) (chk (0≤x10.2.1∧x10.2.1<(r3.1.length:Int)) (br (r3.1.getD x10.2.1.toNat false) (chk (x10.1.length+([32]:List UInt8).length<maxS) ((l1Number.f n (x10.2.2.1.getD x10.2.1.toNat 0)).bind fun r12=>chk ((x10.1++([32]:List UInt8)).length+r12.1.length<maxS) (ih11 (((x10.1++([32]:List UInt8))++r12.1),((w64 (x10.2.1+1)),(x10.2.2.1,())))))) (ih11 (x10.1,((w64 (x10.2.1+1)),(x10.2.2.1,()))))))) (some (x10.1,()))) ((r2.1.getD a0.1.toNat []),(0,([a0.2.1,a0.2.2.1,a0.2.2.2],())))))
noncomputable def fmtInstr.mng (n:Nat):Mng:=⟨[.val tInstr],[.val .str],fun x=>fmtInstr.f n x.1⟩
noncomputable def fmtInstr.cfg (n:Nat):Cfg:=⟨tys17,[(129,l9Fits.mng n),(130,l9Words.mng n),(131,l9Uses.mng n)],[(65,l1Number.mng n)],[]⟩
theorem fmtInstr.eq:∀ (n:Nat) (a0:Instr),runF (fmtInstr.cfg n) n Tryz.f66 (annOf Tryz.f66 fmtInstr.las) [.val tInstr] [.val .str] (a0,())=fmtInstr.f n a0:=by
 intros
 kernel_rfl
theorem fmtInstr.gof:GoF Tryz.prog 66:=⟨_,Tryz.func66,by kernel_rfl,by kernel_rfl⟩
theorem fmtInstr.sound (n:Nat):Sound Tryz.prog 66 (fmtInstr.mng n):=runF_sound (fn:=Tryz.f66) (m:=fmtInstr.mng n) (c:=fmtInstr.cfg n) (regOK mixed (opOK (.of (c:=fmtInstr.cfg n) ⟨⟨l9Fits.sound n,l9Fits.gof⟩,⟨⟨l9Words.sound n,l9Words.gof⟩,⟨⟨l9Uses.sound n,l9Uses.gof⟩,trivial⟩⟩⟩) (.of (c:=fmtInstr.cfg n) ⟨⟨l1Number.sound n,l1Number.gof⟩,trivial⟩)) (tysOK tys17_ok)) (tysOK tys17_ok) Tryz.func66 (fun x=>(fmtInstr.eq n x.1).symm)
end Go.AmT
namespace Go.AmT
open Go Go.Am
set_option linter.unusedVariables false
set_option linter.unusedSimpArgs false
def wordsL:List (List UInt8):=[[],[114,101,97,100],[119,114,105,116,101],[115,101,116],[97,100,100],[115,117,98],[109,117,108],[114,101,115,116],[106,117,109,112],[122,101,114,111],[98,101,108,111,119],[104,97,108,116]]
theorem l9Words_spec (n:Nat):l9Words.f n=some (wordsL,()):=rfl
def opw (op:Int):List UInt8:=wordsL.getD op.toNat []
theorem op_cases {op:Int} (h:1≤op∧op≤11):op=1∨op=2∨op=3∨op=4∨op=5∨op=6∨op=7∨op=8∨op=9∨op=10∨op=11:=by omega
theorem opw_len {op:Int} (h:1≤op∧op≤11):(opw op).length≤5:=by
 rcases op_cases h with rfl | rfl | rfl | rfl | rfl | rfl | rfl | rfl | rfl | rfl | rfl<;>decide
def usesL (op:Int):List Bool:=if ptsB op then [true,true,true] else if op=8 then [false,true,false] else if op=11 then [false,false,false] else [true,true,false]
theorem l9Uses_spec (n:Nat) (op:Int):l9Uses.f n op=some (usesL op,()):=by
 have e:(br (decide (op=4)) (some (Sum.inr (α:=List Bool×Unit) ((decide (op=4)),()))) (br (decide (op=5)) (some (.inr ((decide (op=5)),()))) (br (decide (op=6)) (some (.inr ((decide (op=6)),()))) (some (.inr ((decide (op=7)),()))))))=some (.inr (ptsB op,())):=by
  unfold ptsB
  by_cases h4:op=4
  ·subst h4; rfl
  by_cases h5:op=5
  ·subst h5; rfl
  by_cases h6:op=6
  ·subst h6; rfl
  rw [br_no h4,br_no h5,br_no h6]
  simp [h4,h5,h6]
 unfold l9Uses.f usesL
 rw [e]
 simp only [cut_inr]
 cases ptsB op
 ·simp only [br_false,Bool.false_eq_true,if_false]
  by_cases h8:op=8
  ·rw [br_yes h8,if_pos h8]
  ·rw [br_no h8,if_neg h8]
   by_cases h11:op=11
   ·rw [br_yes h11,if_pos h11]
   ·rw [br_no h11,if_neg h11]
 ·rfl
def smI (x:Int):Prop:=-1000000≤x∧x≤1000000
structure OkI (x:Instr):Prop where
 op:1≤x.1∧x.1≤11
 a:smI x.2.1
 b:smI x.2.2.1
 c:smI x.2.2.2
 nc:ptsB x.1=false→x.2.2.2=0
 na:ptsA x.1=false→ptsB x.1=false→x.2.1=0
 nb:x.1=11→x.2.2.1=0
theorem okI_all {ins outs size:Int} {x:Instr} (h:okI ins outs size x=true) (hi:ins≤3) (ho:outs≤3) (hs:size≤24):OkI x:=by
 obtain ⟨op,a,b,c⟩:=x
 unfold okI at h
 simp only [reg,tok] at h
 have key:(1≤op∧op≤11):=by
  by_cases h0:1≤op∧op≤11
  ·exact h0
  ·exfalso
   rw [if_neg (by omega),if_neg (by omega),if_neg (by omega),if_neg (by omega),if_neg (by omega),if_neg (by omega),if_neg (by omega)] at h
   cases h
 rcases op_cases key with rfl | rfl | rfl | rfl | rfl | rfl | rfl | rfl | rfl | rfl | rfl<;>
 ·simp (config:={ decide:=true }) only [if_true,if_false,Bool.and_eq_true,decide_eq_true_eq,or_true,true_or,or_false,false_or] at h
  refine ⟨⟨?_,?_⟩,⟨?_,?_⟩,⟨?_,?_⟩,⟨?_,?_⟩,fun hb=>?_,fun ha hb=>?_,fun he=>?_⟩<;>(try dsimp only at *)<;>first | omega | (exfalso; revert hb; decide) | (exfalso; revert ha; decide)
noncomputable def spD (n:Int):List UInt8:=[32]++Lib.itoa n
noncomputable def txtI (x:Instr):List UInt8:=
 opw x.1++(if ptsA x.1 then spD x.2.1++spD x.2.2.1 else if ptsB x.1 then spD x.2.1++(spD x.2.2.1++spD x.2.2.2) else if ptsC x.1 then spD x.2.2.1 else [])
noncomputable def fmtI (x:Instr):List UInt8:=if okI 3 3 24 x then txtI x else []
theorem spD_len {n:Int} (h:smI n):(spD n).length≤9:=by
 have:=itoa_len h.1 h.2
 simp only [spD,List.length_append,List.length_cons,List.length_nil]
 omega
theorem txtI_len {x:Instr} (h:OkI x):(txtI x).length≤40:=by
 have h0:=opw_len h.op
 have ha:=spD_len h.a
 have hb:=spD_len h.b
 have hc:=spD_len h.c
 unfold txtI
 rw [List.length_append]
 split
 ·rw [List.length_append]; omega
 ·split
  ·rw [List.length_append,List.length_append]; omega
  ·split
   ·omega
   ·simp only [List.length_nil]; omega
theorem fmtI_len (x:Instr):(fmtI x).length≤40:=by
 unfold fmtI
 split
 ·rename_i h; exact txtI_len (okI_all h (by omega) (by omega) (by omega))
 ·simp
theorem fmtInstr_spec {n:Nat} {x:Instr} (hn:1048576<n):fmtInstr.f n x=some (fmtI x,()):=by
 have hm:=maxB_eq
 unfold fmtInstr.f l9Fits.f fmtI
 have hf:=sL2Operands_spec n (3,(3,(List.replicate 24 ((0,(0,(0,0))):Instr)))) x ⟨by decide,by decide⟩ ⟨by decide,by decide⟩
 rw [chk_true (by refine ⟨rfl,?_⟩; omega),hf,bind_unit,bind_unit]
 have e24:(((3,(3,(List.replicate 24 ((0,(0,(0,0))):Instr)))):Program).2.2.length:Int)=24:=by simp
 rw [e24]
 cases hk:okI 3 3 24 x
 ·simp only [Bool.not_false,br_true]
  rfl
 ·have O:=okI_all hk (by omega) (by omega) (by omega)
  simp only [Bool.not_true,br_false,if_true]
  have hop:=O.op
  have hwl:(wordsL.length:Int)=12:=rfl
  rw [l9Words_spec,bind_unit]
  dsimp only
  rw [chk_true (by rw [hwl]; omega),l9Uses_spec,bind_unit]
  dsimp only
  have hul:(usesL x.1).length=3:=by
   unfold usesL
   repeat' split
   all_goals rfl
  have sm:∀ i,i<3→smI ([x.2.1,x.2.2.1,x.2.2.2].getD i 0):=fun i hi=>by
   have:i=0∨i=1∨i=2:=by omega
   rcases this with rfl | rfl | rfl
   ·exact O.a
   ·exact O.b
   ·exact O.c
  have hend:opw x.1++((List.range 3).map fun i=>if (usesL x.1).getD i false then spD ([x.2.1,x.2.2.1,x.2.2.2].getD i 0) else []).flatten=txtI x:=by
   unfold txtI
   congr 1
   show (if (usesL x.1).getD 0 false then spD x.2.1 else [])++((if (usesL x.1).getD 1 false then spD x.2.2.1 else [])++((if (usesL x.1).getD 2 false then spD x.2.2.2 else [])++[]))=_
   rcases op_cases hop with h | h | h | h | h | h | h | h | h | h | h<;>(rw [h]; simp [usesL,ptsA,ptsB,ptsC])
  rw [← hend]
  refine cat_loop (fun i=>if (usesL x.1).getD i false then spD ([x.2.1,x.2.2.1,x.2.2.2].getD i 0) else []) 3 9 (opw x.1) (fun i hi=>?_) (fun t i=>(t,(i,([x.2.1,x.2.2.1,x.2.2.2],())))) (fun ih i t hi ht=>?_) (fun ih=>?_) (by omega)
  ·split
   ·exact spD_len (sm i hi)
   ·simp
  ·have h0:=opw_len hop
   have hs:=sm i hi
   have hl:=itoa_len hs.1 hs.2
   simp only [br_yes (show (i:Int)<3 by omega),Int.toNat_natCast]
   rw [chk_true (by simp only [List.length_cons,List.length_nil]; omega),chk_true (by rw [hul]; omega)]
   cases hu:(usesL x.1).getD i false
   ·rw [br_false,w64_succ (by omega)]
    simp
   ·rw [br_true,str_chk (by simp only [List.length_cons,List.length_nil]; omega),number_spec hn hs.1 hs.2,bind_unit,str_chk (by simp only [List.length_append,List.length_cons,List.length_nil]; omega),w64_succ (by omega)]
    simp [spD]
  ·simp only [br_no (show ¬ ((3:Nat):Int)<3 by omega)]
end Go.AmT
namespace Go.AmT
open Go Go.Am Go.Proofs
set_option linter.unusedVariables false
set_option maxRecDepth 100000
def tys18:List (Nat×TInfo):=[(3,⟨false,1,8,[.int .i64 0],.int .i64,0,some I,[],false⟩),
 (9,⟨false,1,16,[.str []],.str,0,some .str,[],false⟩),
 (51,⟨false,1,24,[.nil],.slice,103,some (.sl tInstr),[],false⟩),
 (53,⟨true,3,40,[.int .i64 0,.int .i64 0,.nil],.struct,0,some tProgram,[(0,3),(1,3),(2,51)],false⟩),
 (103,⟨true,4,32,[.int .i64 0,.int .i64 0,.int .i64 0,.int .i64 0],.struct,0,some tInstr,[(0,3),(1,3),(2,3),(3,3)],false⟩)]
theorem tys18_ok:(tys18.all fun p=>tokB Tryz.prog p.1 p.2)=true:=by kernel_rfl
def fmtProgram.las:List (Nat×LA):=[(7,⟨[(3,.str),(20,.int .i64)],[],[18,19],[]⟩)]
noncomputable def fmtProgram.f (n:Nat) (a0:Program):Option ((List UInt8)×Unit):=(sIsProgram.f n a0).bind fun r1=>br (!r1.1) (some ([],())) ((l1Number.f n a0.1).bind fun r2=>chk (r2.1.length+([59]:List UInt8).length<maxS) ((l1Number.f n a0.2.1).bind fun r3=>chk ((r2.1++([59]:List UInt8)).length+r3.1.length<maxS) (iter (α:=((List UInt8)×(Int×Unit))) n (fun ih11 x10=>br (decide (x10.2.1<(a0.2.2.length:Int))) (chk (0≤x10.2.1∧x10.2.1<(a0.2.2.length:Int)) (let v12:=(a0.2.2.getD x10.2.1.toNat zInstr); chk (x10.1.length+([59]:List UInt8).length<maxS) ((fmtInstr.f n v12).bind fun r13=>chk ((x10.1++([59]:List UInt8)).length+r13.1.length<maxS) (ih11 (((x10.1++([59]:List UInt8))++r13.1),((w64 (x10.2.1+1)),())))))) (some (x10.1,()))) (((r2.1++([59]:List UInt8))++r3.1),(0,())))))
noncomputable def fmtProgram.mng (n:Nat):Mng:=⟨[.val tProgram],[.val .str],fun x=>fmtProgram.f n x.1⟩
noncomputable def fmtProgram.cfg (n:Nat):Cfg:=⟨tys18,[(64,sIsProgram.mng n),(66,fmtInstr.mng n)],[(65,l1Number.mng n)],[]⟩
theorem fmtProgram.eq:∀ (n:Nat) (a0:Program),runF (fmtProgram.cfg n) n Tryz.f19 (annOf Tryz.f19 fmtProgram.las) [.val tProgram] [.val .str] (a0,())=fmtProgram.f n a0:=by
 intros
 kernel_rfl
theorem fmtProgram.gof:GoF Tryz.prog 19:=⟨_,Tryz.func19,by kernel_rfl,by kernel_rfl⟩
theorem fmtProgram.sound (n:Nat):Sound Tryz.prog 19 (fmtProgram.mng n):=runF_sound (fn:=Tryz.f19) (m:=fmtProgram.mng n) (c:=fmtProgram.cfg n) (regOK mixed (opOK (.of (c:=fmtProgram.cfg n) ⟨⟨sIsProgram.sound n,sIsProgram.gof⟩,⟨⟨fmtInstr.sound n,fmtInstr.gof⟩,trivial⟩⟩) (.of (c:=fmtProgram.cfg n) ⟨⟨l1Number.sound n,l1Number.gof⟩,trivial⟩)) (tysOK tys18_ok)) (tysOK tys18_ok) Tryz.func19 (fun x=>(fmtProgram.eq n x.1).symm)
end Go.AmT
namespace Go.AmT
open Go Go.Am
set_option linter.unusedVariables false
set_option linter.unusedSimpArgs false
theorem okP_all {p:Program} (hp:okP p=true):(0≤p.1∧p.1≤3)∧(0≤p.2.1∧p.2.1≤3)∧(1≤p.2.2.length∧p.2.2.length≤24)∧∀ x∈p.2.2,okI p.1 p.2.1 (p.2.2.length:Int) x=true:=by
 unfold okP at hp
 simp only [Bool.and_eq_true,decide_eq_true_eq,List.all_eq_true] at hp
 exact ⟨hp.1.1.1,hp.1.1.2,hp.1.2,hp.2⟩
theorem okI_mono {ins outs size:Int} {x:Instr} (h:okI ins outs size x=true) (hi:ins≤3) (ho:outs≤3) (hs:size≤24):okI 3 3 24 x=true:=by
 have O:=okI_all h hi ho hs
 obtain ⟨op,a,b,c⟩:=x
 have key:=O.op
 unfold okI at h ⊢
 rcases op_cases key with e | e | e | e | e | e | e | e | e | e | e<;>
 ·simp only at e
  subst e
  simp (config:={ decide:=true }) only [if_true,if_false,Bool.and_eq_true,decide_eq_true_eq,or_true,true_or,or_false,false_or] at h ⊢
  first | exact h | omega | (simp only [reg,tok,Bool.and_eq_true,decide_eq_true_eq] at h ⊢; omega)
noncomputable def semiD (x:Instr):List UInt8:=[59]++fmtI x
noncomputable def txtP (p:Program):List UInt8:=Lib.itoa p.1++[59]++Lib.itoa p.2.1++(p.2.2.map semiD).flatten
noncomputable def fmtP (p:Program):List UInt8:=if okP p then txtP p else []
theorem semiD_len (x:Instr):(semiD x).length≤41:=by
 have:=fmtI_len x
 simp only [semiD,List.length_append,List.length_cons,List.length_nil]
 omega
theorem fmtProgram_spec {n:Nat} {p:Program} (hp:SmallP p) (hn:1048576<n):fmtProgram.f n p=some (fmtP p,()):=by
 unfold fmtProgram.f fmtP
 rw [sIsProgram_spec hp hn,bind_unit]
 cases hk:okP p
 ·simp only [Bool.not_false,br_true]; rfl
 ·obtain ⟨h1,h2,h3,h4⟩:=okP_all hk
  have l1:=itoa_len (x:=p.1) (by omega) (by omega)
  have l2:=itoa_len (x:=p.2.1) (by omega) (by omega)
  simp only [Bool.not_true,br_false,if_true]
  rw [number_spec hn (by omega) (by omega),bind_unit,str_chk (by simp only [List.length_cons,List.length_nil]; omega),number_spec hn (by omega) (by omega),bind_unit,str_chk (by simp only [List.length_append,List.length_cons,List.length_nil]; omega)]
  have hm:∀ i,((p.2.2.take i).map semiD).flatten.length≤1000:=fun i=>by
   have:=flat_len semiD 41 (p.2.2.take i) (fun y hy=>semiD_len y)
   rw [List.length_take] at this
   have:=Nat.min_le_right i p.2.2.length
   omega
  refine cat_list semiD p.2.2 (Lib.itoa p.1++[59]++Lib.itoa p.2.1) (fun t i=>(t,(i,()))) (fun ih i hi=>?_) (fun ih=>?_) (by omega)
  ·have hlt:(i:Int)<(p.2.2.length:Int):=by omega
   have hmi:=hm i
   have hf:=fmtI_len (p.2.2.getD i zInstr)
   simp only [br_yes hlt,Int.toNat_natCast]
   rw [chk_true (by omega),str_chk (by simp only [List.length_append,List.length_cons,List.length_nil]; omega),fmtInstr_spec hn,bind_unit,str_chk (by simp only [List.length_append,List.length_cons,List.length_nil]; omega),w64_succ (by omega)]
   rw [flat_snoc semiD p.2.2 i hi,getD_lt hi]
   simp only [semiD,List.append_assoc]
  ·simp only [br_no (Int.lt_irrefl _)]
   rfl
end Go.AmT
namespace Go.AmT
open Go Go.Am
set_option linter.unusedVariables false
set_option linter.unusedSimpArgs false
def consH (x:UInt8):List (List UInt8)→List (List UInt8)
 | []=>[[x]]
 | h::t=>(x::h)::t
def splitR (c:UInt8):List UInt8→List (List UInt8)
 | []=>[[]]
 | x::xs=>if x=c then []::splitR c xs else consH x (splitR c xs)
theorem splitR_no {c:UInt8} : ∀ {a:List UInt8},c∉a→splitR c a=[a]
 | [],_=>rfl
 | x::xs,h=>by
  have h1:x≠c:=fun e=>h (by simp [e])
  have h2:c∉xs:=fun e=>h (by simp [e])
  rw [splitR,if_neg h1,splitR_no h2]; rfl
theorem splitR_app {c:UInt8} (b:List UInt8):∀ {a:List UInt8},c∉a→splitR c (a++c::b)=a::splitR c b
 | [],_=>by rw [List.nil_append,splitR,if_pos rfl]
 | x::xs,h=>by
  have h1:x≠c:=fun e=>h (by simp [e])
  have h2:c∉xs:=fun e=>h (by simp [e])
  rw [List.cons_append,splitR,if_neg h1,splitR_app b h2]; rfl
theorem digit_toNat {k:Nat} (h:k<10):(UInt8.ofNat (48+k)).toNat=48+k:=by rw [UInt8.toNat_ofNat']; omega
theorem dd_digit:∀ (k u:Nat),u<10 ^ (k+1)→∀ c∈Lib.decDigits u,48≤c.toNat∧c.toNat≤57
 | 0,u,h=>by
  rw [Lib.decDigits_one (by simpa using h)]
  intro c hc
  rw [List.mem_singleton.1 hc,digit_toNat (by simpa using h)]
  have:u<10:=by simpa using h
  omega
 | k+1,u,h=>by
  by_cases hu:u<10
  ·rw [Lib.decDigits_one hu]
   intro c hc
   rw [List.mem_singleton.1 hc,digit_toNat hu]
   omega
  ·rw [dd_big hu]
   rw [Nat.pow_succ] at h
   intro c hc
   rcases List.mem_append.1 hc with hc | hc
   ·exact dd_digit k (u / 10) (by omega) c hc
   ·rw [List.mem_singleton.1 hc,digit_toNat (by omega)]
    omega
def dval (l:List UInt8):Nat:=l.foldl (fun a c=>10*a+(c.toNat-48)) 0
theorem dval_snoc (l:List UInt8) (c:UInt8):dval (l++[c])=10*dval l+(c.toNat-48):=by simp [dval]
theorem dval_dd:∀ (k u:Nat),u<10 ^ (k+1)→dval (Lib.decDigits u)=u
 | 0,u,h=>by
  have h:u<10:=by simpa using h
  rw [Lib.decDigits_one h,← List.nil_append [_],dval_snoc,digit_toNat h]
  simp [dval]
 | k+1,u,h=>by
  by_cases hu:u<10
  ·rw [Lib.decDigits_one hu,← List.nil_append [_],dval_snoc,digit_toNat hu]
   simp [dval]
  ·rw [Nat.pow_succ] at h
   rw [dd_big hu,dval_snoc,dval_dd k (u / 10) (by omega),digit_toNat (by omega)]
   omega
theorem itoa_mem {x:Int} (h0 : -1000000≤x) (h1:x≤1000000):∀ c∈Lib.itoa x,c=45∨(48≤c.toNat∧c.toNat≤57):=by
 intro c hc
 unfold Lib.itoa at hc
 split at hc
 ·rcases List.mem_cons.1 hc with rfl | hc
  ·exact .inl rfl
  ·exact .inr (dd_digit 6 x.natAbs (by omega) c hc)
 ·exact .inr (dd_digit 6 x.toNat (by omega) c hc)
theorem notin_itoa {x:Int} (h : -1000000≤x∧x≤1000000) {c:UInt8} (h45:c≠45) (hd:¬ (48≤c.toNat∧c.toNat≤57)):c∉Lib.itoa x:=fun hc=>by
 rcases itoa_mem h.1 h.2 c hc with e | e
 ·exact h45 e
 ·exact hd e
theorem opw_no {op:Int} (h:1≤op∧op≤11) {c:UInt8} (hc:c.toNat<97):c∉opw op:=by
 have:∀ d∈opw op,97≤d.toNat:=by
  rcases op_cases h with rfl | rfl | rfl | rfl | rfl | rfl | rfl | rfl | rfl | rfl | rfl<;>decide
 intro hm
 have:=this c hm
 omega
noncomputable def partsI (x:Instr):List (List UInt8):=
 opw x.1::(if ptsA x.1 then [Lib.itoa x.2.1,Lib.itoa x.2.2.1] else if ptsB x.1 then [Lib.itoa x.2.1,Lib.itoa x.2.2.1,Lib.itoa x.2.2.2] else if ptsC x.1 then [Lib.itoa x.2.2.1] else [])
theorem txtI_split {x:Instr} (O:OkI x):splitR 32 (txtI x)=partsI x:=by
 have h0:(32:UInt8)∉opw x.1:=opw_no O.op (by decide)
 have ha:(32:UInt8)∉Lib.itoa x.2.1:=notin_itoa O.a (by decide) (by decide)
 have hb:(32:UInt8)∉Lib.itoa x.2.2.1:=notin_itoa O.b (by decide) (by decide)
 have hc:(32:UInt8)∉Lib.itoa x.2.2.2:=notin_itoa O.c (by decide) (by decide)
 unfold txtI partsI spD
 split
 ·have:opw x.1++([32]++Lib.itoa x.2.1++([32]++Lib.itoa x.2.2.1))=opw x.1++32::(Lib.itoa x.2.1++32::Lib.itoa x.2.2.1):=by simp
  rw [this,splitR_app _ h0,splitR_app _ ha,splitR_no hb]
 ·split
  ·have:opw x.1++([32]++Lib.itoa x.2.1++([32]++Lib.itoa x.2.2.1++([32]++Lib.itoa x.2.2.2)))=opw x.1++32::(Lib.itoa x.2.1++32::(Lib.itoa x.2.2.1++32::Lib.itoa x.2.2.2)):=by simp
   rw [this,splitR_app _ h0,splitR_app _ ha,splitR_app _ hb,splitR_no hc]
  ·split
   ·have:opw x.1++([32]++Lib.itoa x.2.2.1)=opw x.1++32::Lib.itoa x.2.2.1:=by simp
    rw [this,splitR_app _ h0,splitR_no hb]
   ·rw [List.append_nil,splitR_no h0]
theorem splitR_list {α:Type} (c:UInt8) (g:α→List UInt8):∀ (l:List α) (a:List UInt8),c∉a→(∀ x∈l,c∉g x)→splitR c (a++(l.map fun x=>c::g x).flatten)=a::l.map g
 | [],a,ha,_=>by simp [splitR_no ha]
 | x::l,a,ha,h=>by
  have e:a++((x::l).map fun x=>c::g x).flatten=a++c::(g x++(l.map fun x=>c::g x).flatten):=by simp
  rw [e,splitR_app _ ha,splitR_list c g l (g x) (h x (by simp)) (fun y hy=>h y (by simp [hy]))]
  rfl
theorem txtI_no {x:Instr} (O:OkI x):(59:UInt8)∉txtI x∧(10:UInt8)∉txtI x:=by
 have key:∀ c:UInt8,c=59∨c=10→c∉txtI x:=fun c hc=>by
  have hn:c.toNat<97∧c≠45∧¬ (48≤c.toNat∧c.toNat≤57)∧c≠32:=by rcases hc with rfl | rfl<;>decide
  have h0:=opw_no O.op hn.1
  have sp:∀ {v:Int},smI v→c∉spD v:=fun hv=>by
   simp only [spD,List.mem_append,List.mem_singleton,not_or]
   exact ⟨hn.2.2.2,notin_itoa hv hn.2.1 hn.2.2.1⟩
  unfold txtI
  rw [List.mem_append,not_or]
  refine ⟨h0,?_⟩
  split
  ·rw [List.mem_append,not_or]; exact ⟨sp O.a,sp O.b⟩
  ·split
   ·rw [List.mem_append,List.mem_append,not_or,not_or]; exact ⟨sp O.a,sp O.b,sp O.c⟩
   ·split
    ·exact sp O.b
    ·simp
 exact ⟨key 59 (.inl rfl),key 10 (.inr rfl)⟩
theorem okP_instr {p:Program} (h:okP p=true):∀ x∈p.2.2,okI 3 3 24 x=true:=fun x hx=>by
 obtain ⟨h1,h2,h3,h4⟩:=okP_all h
 exact okI_mono (h4 x hx) (by omega) (by omega) (by omega)
theorem semi_eq {l:List Instr} (h:∀ x∈l,okI 3 3 24 x=true):l.map semiD=l.map fun x=>59::txtI x:=by
 refine List.map_congr_left (fun x hx=>?_)
 rw [semiD,fmtI,if_pos (h x hx)]
 rfl
theorem txtP_split {p:Program} (h:okP p=true):splitR 59 (txtP p)=Lib.itoa p.1::Lib.itoa p.2.1::p.2.2.map txtI:=by
 obtain ⟨h1,h2,h3,h4⟩:=okP_all h
 have hi:=okP_instr h
 have e:txtP p=Lib.itoa p.1++59::(Lib.itoa p.2.1++(p.2.2.map fun x=>59::txtI x).flatten):=by
  rw [txtP,semi_eq hi]; simp
 rw [e,splitR_app _ (notin_itoa ⟨by omega,by omega⟩ (by decide) (by decide)),splitR_list 59 txtI _ _ (notin_itoa ⟨by omega,by omega⟩ (by decide) (by decide)) (fun x hx=>(txtI_no (okI_all (hi x hx) (by omega) (by omega) (by omega))).1)]
theorem itoa_inj {x y:Int} (hx:smI x) (hy:smI y) (h:Lib.itoa x=Lib.itoa y):x=y:=by
 obtain ⟨x1,x2⟩:=hx
 obtain ⟨y1,y2⟩:=hy
 unfold Lib.itoa at h
 by_cases a:x<0<;>by_cases b:y<0
 ·rw [if_pos a,if_pos b] at h
  have h:=congrArg dval (List.cons.inj h).2
  rw [dval_dd 6 _ (by omega),dval_dd 6 _ (by omega)] at h
  omega
 ·rw [if_pos a,if_neg b] at h
  have:=dd_digit 6 y.toNat (by omega) 45 (by rw [← h]; simp)
  exact absurd this (by decide)
 ·rw [if_neg a,if_pos b] at h
  have:=dd_digit 6 x.toNat (by omega) 45 (by rw [h]; simp)
  exact absurd this (by decide)
 ·rw [if_neg a,if_neg b] at h
  have h:=congrArg dval h
  rw [dval_dd 6 _ (by omega),dval_dd 6 _ (by omega)] at h
  omega
theorem opw_inj {a b:Int} (ha:1≤a∧a≤11) (hb:1≤b∧b≤11) (h:opw a=opw b):a=b:=by
 rcases op_cases ha with rfl | rfl | rfl | rfl | rfl | rfl | rfl | rfl | rfl | rfl | rfl<;>rcases op_cases hb with rfl | rfl | rfl | rfl | rfl | rfl | rfl | rfl | rfl | rfl | rfl<;>first | rfl | exact absurd h (by decide)
theorem txtI_inj {x y:Instr} (hx:OkI x) (hy:OkI y) (h:txtI x=txtI y):x=y:=by
 have h:=congrArg (splitR 32) h
 rw [txtI_split hx,txtI_split hy] at h
 unfold partsI at h
 obtain ⟨h1,h2⟩:=List.cons.inj h
 have e1:=opw_inj hx.op hy.op h1
 obtain ⟨op,a,b,c⟩:=x
 obtain ⟨op',a',b',c'⟩:=y
 have e1:op=op':=e1
 subst e1
 have A:=hx.na; have A':=hy.na; have B:=hx.nb; have B':=hy.nb; have C:=hx.nc; have C':=hy.nc
 simp only at h2 A A' B B' C C'
 cases pa:ptsA op
 ·cases pb:ptsB op
  ·have e1:=A pa pb; have e2:=A' pa pb; have e3:=C pb; have e4:=C' pb
   subst e1; subst e2; subst e3; subst e4
   cases pc:ptsC op
   ·have hop:op=11:=by
     have:=hx.op
     simp only [ptsA,ptsB,ptsC,decide_eq_false_iff_not] at pa pb pc
     simp only at this
     omega
    have e5:=B hop; have e6:=B' hop
    subst e5; subst e6; rfl
   ·rw [pa,pb,pc] at h2
    simp only [Bool.false_eq_true,if_false,if_true,List.cons.injEq,and_true] at h2
    have:=itoa_inj hx.b hy.b h2
    simp only at this
    rw [this]
  ·have hop:¬ op=11:=fun e=>by subst e; exact absurd pb (by decide)
   rw [pa,pb] at h2
   simp only [Bool.false_eq_true,if_false,if_true,List.cons.injEq,and_true] at h2
   have q1:=itoa_inj hx.a hy.a h2.1
   have q2:=itoa_inj hx.b hy.b h2.2.1
   have q3:=itoa_inj hx.c hy.c h2.2.2
   simp only at q1 q2 q3
   rw [q1,q2,q3]
 ·have pb:ptsB op=false:=by
   simp only [ptsA,ptsB,decide_eq_true_eq,decide_eq_false_iff_not] at pa ⊢
   omega
  have e3:=C pb; have e4:=C' pb
  subst e3; subst e4
  rw [pa] at h2
  simp only [if_true,List.cons.injEq,and_true] at h2
  have q1:=itoa_inj hx.a hy.a h2.1
  have q2:=itoa_inj hx.b hy.b h2.2
  simp only at q1 q2
  rw [q1,q2]
theorem mapI_inj:∀ (l m:List Instr),(∀ x∈l,OkI x)→(∀ x∈m,OkI x)→l.map txtI=m.map txtI→l=m
 | [],[],_,_,_=>rfl
 | [],y::m,_,_,h=>by cases h
 | x::l,[],_,_,h=>by cases h
 | x::l,y::m,hl,hm,h=>by
  obtain ⟨h1,h2⟩:=List.cons.inj h
  rw [txtI_inj (hl x (by simp)) (hm y (by simp)) h1,mapI_inj l m (fun z hz=>hl z (by simp [hz])) (fun z hz=>hm z (by simp [hz])) h2]
theorem txtP_inj {p q:Program} (hp:okP p=true) (hq:okP q=true) (h:txtP p=txtP q):p=q:=by
 have h:=congrArg (splitR 59) h
 rw [txtP_split hp,txtP_split hq] at h
 obtain ⟨a1,a2,a3,a4⟩:=okP_all hp
 obtain ⟨b1,b2,b3,b4⟩:=okP_all hq
 simp only [List.cons.injEq] at h
 have e1:p.1=q.1:=itoa_inj ⟨by omega,by omega⟩ ⟨by omega,by omega⟩ h.1
 have e2:p.2.1=q.2.1:=itoa_inj ⟨by omega,by omega⟩ ⟨by omega,by omega⟩ h.2.1
 have e3:p.2.2=q.2.2:=mapI_inj _ _ (fun x hx=>okI_all (okP_instr hp x hx) (by omega) (by omega) (by omega)) (fun x hx=>okI_all (okP_instr hq x hx) (by omega) (by omega) (by omega)) h.2.2
 exact Prod.ext e1 (Prod.ext e2 e3)
theorem fmtP_inj {p q:Program} (hp:okP p=true) (hq:okP q=true) (h:fmtP p=fmtP q):p=q:=by
 unfold fmtP at h
 rw [if_pos hp,if_pos hq] at h
 exact txtP_inj hp hq h
end Go.AmT
namespace Go.AmT
open Go Go.Am Go.Proofs
set_option linter.unusedVariables false
set_option maxRecDepth 100000
def tys19:List (Nat×TInfo):=[(3,⟨false,1,8,[.int .i64 0],.int .i64,0,some I,[],false⟩),
 (37,⟨false,1,24,[.nil],.slice,53,some (.sl tProgram),[],false⟩),
 (38,⟨false,1,24,[.nil],.slice,81,some (.sl tLink),[],false⟩),
 (40,⟨true,2,48,[.nil,.nil],.struct,0,some tNetwork,[(0,37),(1,38)],false⟩),
 (51,⟨false,1,24,[.nil],.slice,103,some (.sl tInstr),[],false⟩),
 (53,⟨true,3,40,[.int .i64 0,.int .i64 0,.nil],.struct,0,some tProgram,[(0,3),(1,3),(2,51)],false⟩),
 (75,⟨false,1,24,[.nil],.slice,3,some IS,[],false⟩),
 (81,⟨true,5,56,[.int .i64 0,.int .i64 0,.int .i64 0,.int .i64 0,.nil],.struct,0,some tLink,[(0,3),(1,3),(2,3),(3,3),(4,75)],false⟩),
 (103,⟨true,4,32,[.int .i64 0,.int .i64 0,.int .i64 0,.int .i64 0],.struct,0,some tInstr,[(0,3),(1,3),(2,3),(3,3)],false⟩)]
theorem tys19_ok:(tys19.all fun p=>tokB Tryz.prog p.1 p.2)=true:=by kernel_rfl
noncomputable def cloneIn.f (n:Nat) (a0:List Instr):Option ((List Instr)×Unit):=chk ((([]:List Instr).length+a0.length)*32≤maxB) (some ((([]:List Instr)++a0),()))
noncomputable def cloneIn.mng (n:Nat):Mng:=⟨[.val (.sl tInstr)],[.val (.sl tInstr)],fun x=>cloneIn.f n x.1⟩
noncomputable def cloneIn.cfg (n:Nat):Cfg:=⟨tys19,[],[],[]⟩
theorem cloneIn.gof:GoF Tryz.prog 174:=⟨_,Tryz.func174,by kernel_rfl,by kernel_rfl⟩
theorem cloneIn.eq0:∀ (n:Nat),runNil (cloneIn.cfg n) n Tryz.f174 (annOf Tryz.f174 []) [.val (.sl tInstr)] [.val (.sl tInstr)] .nil [] []=some (([]:List Instr),()):=by
 intros
 kernel_rfl
theorem cloneIn.eq1:∀ (n:Nat) (a0:List Instr),runNil (cloneIn.cfg n) n Tryz.f174 (annOf Tryz.f174 []) [.val (.sl tInstr)] [.val (.sl tInstr)] (.osh tInstr (some a0)) [] []=cloneIn.f n a0:=by
 intros
 kernel_rfl
theorem cloneIn.sound (n:Nat):Sound Tryz.prog 174 (cloneIn.mng n):=
 runNil_sound (t:=tInstr) (ps:=[]) (rs:=[.val (.sl tInstr)]) (F:=fun x=>cloneIn.f n x.1) (regOK mixed (opOK (.of (c:=cloneIn.cfg n) trivial) (.of (c:=cloneIn.cfg n) trivial)) (tysOK tys19_ok)) (tysOK tys19_ok) Tryz.func174
  (fun x y hy hx=>by
   have hy:cloneIn.f n x.1=some y:=hy
   rw [hx] at hy
   unfold cloneIn.f chk at hy
   split at hy
   ·exact (cloneIn.eq0 n).trans hy
   ·simp at hy)
  (fun x y hy=>(cloneIn.eq1 n x.1).trans hy)
def iCopyProgram.las:List (Nat×LA):=[]
noncomputable def iCopyProgram.f (n:Nat) (a0:Program):Option (Program×Unit):=(cloneIn.f n a0.2.2).bind fun r1=>some ((a0.1,(a0.2.1,r1.1)),())
noncomputable def iCopyProgram.mng (n:Nat):Mng:=⟨[.val tProgram],[.val tProgram],fun x=>iCopyProgram.f n x.1⟩
noncomputable def iCopyProgram.cfg (n:Nat):Cfg:=⟨tys19,[(174,cloneIn.mng n)],[],[]⟩
theorem iCopyProgram.eq:∀ (n:Nat) (a0:Program),runF (iCopyProgram.cfg n) n Tryz.f164 (annOf Tryz.f164 iCopyProgram.las) [.val tProgram] [.val tProgram] (a0,())=iCopyProgram.f n a0:=by
 intros
 kernel_rfl
theorem iCopyProgram.gof:GoF Tryz.prog 164:=⟨_,Tryz.func164,by kernel_rfl,by kernel_rfl⟩
theorem iCopyProgram.sound (n:Nat):Sound Tryz.prog 164 (iCopyProgram.mng n):=runF_sound (fn:=Tryz.f164) (m:=iCopyProgram.mng n) (c:=iCopyProgram.cfg n) (regOK mixed (opOK (.of (c:=iCopyProgram.cfg n) ⟨⟨cloneIn.sound n,cloneIn.gof⟩,trivial⟩) (.of (c:=iCopyProgram.cfg n) trivial)) (tysOK tys19_ok)) (tysOK tys19_ok) Tryz.func164 (fun x=>(iCopyProgram.eq n x.1).symm)
def iCopyNetwork.las:List (Nat×LA):=[(4,⟨[(3,.vptr 1000 0),(12,.int .i64)],[(1000,.cells [] [.own 1001 tProgram,.con (.nil)]),(1001,.row true tProgram)],[1,2,10,11],[]⟩),(13,⟨[(3,.vptr 1000 0),(27,.int .i64)],[(1000,.cells [] [.own 1001 tProgram,.own 1002 tLink]),(1001,.row true tProgram),(1002,.row true tLink)],[2,25,26],[]⟩)]
noncomputable def iCopyNetwork.f (n:Nat) (a0:Network):Option (Network×Unit):=iter (α:=(Int×(List Program)×Unit)) n (fun ih21 x20=>br (decide (x20.1<(a0.1.length:Int))) (chk (0≤x20.1∧x20.1<(a0.1.length:Int)) (let v22:=(a0.1.getD x20.1.toNat zProgram); (iCopyProgram.f n v22).bind fun r23=>chk ((x20.2.1.length+([r23.1]:List Program).length)*40≤maxB) (ih21 ((w64 (x20.1+1)),((x20.2.1++[r23.1]),()))))) (iter (α:=(Int×(List Program)×(List Link)×Unit)) n (fun ih38 x37=>br (decide (x37.1<(a0.2.length:Int))) (chk (0≤x37.1∧x37.1<(a0.2.length:Int)) (let v39:=(a0.2.getD x37.1.toNat zLink); (cloneI.f n v39.2.2.2.2).bind fun r40=>chk ((x37.2.2.1.length+([(v39.1,(v39.2.1,(v39.2.2.1,(v39.2.2.2.1,r40.1))))]:List Link).length)*56≤maxB) (ih38 ((w64 (x37.1+1)),(x37.2.1,((x37.2.2.1++[(v39.1,(v39.2.1,(v39.2.2.1,(v39.2.2.2.1,r40.1))))]),())))))) (some ((x37.2.1,x37.2.2.1),()))) (0,(x20.2.1,([],()))))) (0,([],()))
noncomputable def iCopyNetwork.mng (n:Nat):Mng:=⟨[.val tNetwork],[.val tNetwork],fun x=>iCopyNetwork.f n x.1⟩
noncomputable def iCopyNetwork.cfg (n:Nat):Cfg:=⟨tys19,[(164,iCopyProgram.mng n),(49,cloneI.mng n)],[],[]⟩
theorem iCopyNetwork.eq:∀ (n:Nat) (a0:Network),runF (iCopyNetwork.cfg n) n Tryz.f132 (annOf Tryz.f132 iCopyNetwork.las) [.val tNetwork] [.val tNetwork] (a0,())=iCopyNetwork.f n a0:=by
 intros
 kernel_rfl
theorem iCopyNetwork.gof:GoF Tryz.prog 132:=⟨_,Tryz.func132,by kernel_rfl,by kernel_rfl⟩
theorem iCopyNetwork.sound (n:Nat):Sound Tryz.prog 132 (iCopyNetwork.mng n):=runF_sound (fn:=Tryz.f132) (m:=iCopyNetwork.mng n) (c:=iCopyNetwork.cfg n) (regOK mixed (opOK (.of (c:=iCopyNetwork.cfg n) ⟨⟨iCopyProgram.sound n,iCopyProgram.gof⟩,⟨⟨cloneI.sound n,cloneI.gof⟩,trivial⟩⟩) (.of (c:=iCopyNetwork.cfg n) trivial)) (tysOK tys19_ok)) (tysOK tys19_ok) Tryz.func132 (fun x=>(iCopyNetwork.eq n x.1).symm)
def iChecked.las:List (Nat×LA):=[]
noncomputable def iChecked.f (n:Nat) (a0:Network):Option (Network×(Bool×Unit)):=(iIsNetwork.f n a0).bind fun r1=>br (!r1.1) (some (([],[]),(false,()))) ((iCopyNetwork.f n a0).bind fun r2=>some (r2.1,(true,())))
noncomputable def iChecked.mng (n:Nat):Mng:=⟨[.val tNetwork],[.val tNetwork,.val .bool],fun x=>iChecked.f n x.1⟩
noncomputable def iChecked.cfg (n:Nat):Cfg:=⟨tys19,[(71,iIsNetwork.mng n),(132,iCopyNetwork.mng n)],[],[]⟩
theorem iChecked.eq:∀ (n:Nat) (a0:Network),runF (iChecked.cfg n) n Tryz.f70 (annOf Tryz.f70 iChecked.las) [.val tNetwork] [.val tNetwork,.val .bool] (a0,())=iChecked.f n a0:=by
 intros
 kernel_rfl
theorem iChecked.gof:GoF Tryz.prog 70:=⟨_,Tryz.func70,by kernel_rfl,by kernel_rfl⟩
theorem iChecked.sound (n:Nat):Sound Tryz.prog 70 (iChecked.mng n):=runF_sound (fn:=Tryz.f70) (m:=iChecked.mng n) (c:=iChecked.cfg n) (regOK mixed (opOK (.of (c:=iChecked.cfg n) ⟨⟨iIsNetwork.sound n,iIsNetwork.gof⟩,⟨⟨iCopyNetwork.sound n,iCopyNetwork.gof⟩,trivial⟩⟩) (.of (c:=iChecked.cfg n) trivial)) (tysOK tys19_ok)) (tysOK tys19_ok) Tryz.func70 (fun x=>(iChecked.eq n x.1).symm)
def sL3Program.las:List (Nat×LA):=[]
noncomputable def sL3Program.f (n:Nat) (a0:Program):Option (Program×Unit):=chk ((([]:List Instr).length+a0.2.2.length)*32≤maxB) (some ((a0.1,(a0.2.1,(([]:List Instr)++a0.2.2))),()))
noncomputable def sL3Program.mng (n:Nat):Mng:=⟨[.val tProgram],[.val tProgram],fun x=>sL3Program.f n x.1⟩
noncomputable def sL3Program.cfg (n:Nat):Cfg:=⟨tys19,[],[],[]⟩
theorem sL3Program.eq:∀ (n:Nat) (a0:Program),runF (sL3Program.cfg n) n Tryz.f81 (annOf Tryz.f81 sL3Program.las) [.val tProgram] [.val tProgram] (a0,())=sL3Program.f n a0:=by
 intros
 kernel_rfl
theorem sL3Program.gof:GoF Tryz.prog 81:=⟨_,Tryz.func81,by kernel_rfl,by kernel_rfl⟩
theorem sL3Program.sound (n:Nat):Sound Tryz.prog 81 (sL3Program.mng n):=runF_sound (fn:=Tryz.f81) (m:=sL3Program.mng n) (c:=sL3Program.cfg n) (regOK mixed (opOK (.of (c:=sL3Program.cfg n) trivial) (.of (c:=sL3Program.cfg n) trivial)) (tysOK tys19_ok)) (tysOK tys19_ok) Tryz.func81 (fun x=>(sL3Program.eq n x.1).symm)
def sL3Link.las:List (Nat×LA):=[]
noncomputable def sL3Link.f (n:Nat) (a0:Link):Option (Link×Unit):=(sL1Copy.f n a0.2.2.2.2).bind fun r1=>some ((a0.1,(a0.2.1,(a0.2.2.1,(a0.2.2.2.1,r1.1)))),())
noncomputable def sL3Link.mng (n:Nat):Mng:=⟨[.val tLink],[.val tLink],fun x=>sL3Link.f n x.1⟩
noncomputable def sL3Link.cfg (n:Nat):Cfg:=⟨tys19,[(39,sL1Copy.mng n)],[],[]⟩
theorem sL3Link.eq:∀ (n:Nat) (a0:Link),runF (sL3Link.cfg n) n Tryz.f82 (annOf Tryz.f82 sL3Link.las) [.val tLink] [.val tLink] (a0,())=sL3Link.f n a0:=by
 intros
 kernel_rfl
theorem sL3Link.gof:GoF Tryz.prog 82:=⟨_,Tryz.func82,by kernel_rfl,by kernel_rfl⟩
theorem sL3Link.sound (n:Nat):Sound Tryz.prog 82 (sL3Link.mng n):=runF_sound (fn:=Tryz.f82) (m:=sL3Link.mng n) (c:=sL3Link.cfg n) (regOK mixed (opOK (.of (c:=sL3Link.cfg n) ⟨⟨sL1Copy.sound n,sL1Copy.gof⟩,trivial⟩) (.of (c:=sL3Link.cfg n) trivial)) (tysOK tys19_ok)) (tysOK tys19_ok) Tryz.func82 (fun x=>(sL3Link.eq n x.1).symm)
end Go.AmT
namespace Go.AmT
open Go Go.Am
set_option linter.unusedVariables false
set_option linter.unusedSimpArgs false
theorem sL1Copy_spec {n:Nat} {a:List Int} (h:a.length≤1048576):sL1Copy.f n a=some (a,()):=by
 unfold sL1Copy.f
 rw [small_chk (by simp; omega)]; rfl
theorem cloneI_spec {n:Nat} {a:List Int} (h:a.length≤1048576):cloneI.f n a=some (a,()):=by
 unfold cloneI.f
 rw [small_chk (by simp; omega)]; rfl
theorem cloneIn_spec {n:Nat} {a:List Instr} (h:a.length≤1048576):cloneIn.f n a=some (a,()):=by
 unfold cloneIn.f
 rw [small_chk (by simp; omega)]; rfl
theorem sL3Program_spec {n:Nat} {p:Program} (h:SmallP p):sL3Program.f n p=some (p,()):=by
 have:=h.code
 unfold sL3Program.f
 rw [small_chk (by simp; omega)]; rfl
theorem iCopyProgram_spec {n:Nat} {p:Program} (h:SmallP p):iCopyProgram.f n p=some (p,()):=by
 unfold iCopyProgram.f
 rw [cloneIn_spec h.code]; rfl
theorem sL3Link_spec {n:Nat} {p:Link} (h:SmallL p):sL3Link.f n p=some (p,()):=by
 unfold sL3Link.f
 rw [sL1Copy_spec h.tokens]; rfl
theorem iCopyNetwork_spec {n:Nat} {nt:Network} (h:SmallN nt) (hn:1048576<n):iCopyNetwork.f n nt=some (nt,()):=by
 have hp:=h.progs
 have hl:=h.links
 unfold iCopyNetwork.f
 refine Eq.trans (push_loop nt.1 id (fun i s=>(i,(s,()))) (R:=fun ps=>some ((ps,nt.2),())) (fun ih i hi s hs=>?_) (fun ih ps=>?_) (by omega)) (by simp)
 ·have c0:0≤(i:Int):=by omega
  have c1:(i:Int)<(nt.1.length:Int):=by omega
  have e1:nt.1.getD i zProgram=nt.1[i]:=getD_lt hi _
  simp only [c1,c0,and_self,chk_T,decide_true,br_true,Int.toNat_natCast,e1,iCopyProgram_spec (h.prog _ (List.getElem_mem hi)),Option.bind_some]
  rw [small_chk (by simp; omega),w64_succ (by omega)]; rfl
 ·simp only [br_no (Int.lt_irrefl _)]
  refine Eq.trans (push_loop nt.2 id (fun i s=>(i,(ps,(s,())))) (R:=fun ls=>some ((ps,ls),())) (fun ih i hi s hs=>?_) (fun ih ls=>br_no (Int.lt_irrefl _)) (by omega)) (by simp)
  have c0:0≤(i:Int):=by omega
  have c1:(i:Int)<(nt.2.length:Int):=by omega
  have e1:nt.2.getD i zLink=nt.2[i]:=getD_lt hi _
  simp only [c1,c0,and_self,chk_T,decide_true,br_true,Int.toNat_natCast,e1,cloneI_spec (h.link _ (List.getElem_mem hi)).tokens,Option.bind_some]
  rw [small_chk (by simp; omega),w64_succ (by omega)]; rfl
theorem iChecked_spec {n:Nat} {nt:Network} (h:SmallN nt) (hn:1048576<n):iChecked.f n nt=some (if okN nt=true then (nt,(true,())) else (([],[]),(false,()))):=by
 unfold iChecked.f
 rw [iIsNetwork_spec h hn,iCopyNetwork_spec h hn]
 cases okN nt<;>rfl
end Go.AmT
namespace Go.AmT
open Go Go.Am Go.Proofs
set_option linter.unusedVariables false
set_option maxRecDepth 100000
def tys20:List (Nat×TInfo):=[(3,⟨false,1,8,[.int .i64 0],.int .i64,0,some I,[],false⟩),
 (37,⟨false,1,24,[.nil],.slice,53,some (.sl tProgram),[],false⟩),
 (38,⟨false,1,24,[.nil],.slice,81,some (.sl tLink),[],false⟩),
 (40,⟨true,2,48,[.nil,.nil],.struct,0,some tNetwork,[(0,37),(1,38)],false⟩),
 (53,⟨true,3,40,[.int .i64 0,.int .i64 0,.nil],.struct,0,some tProgram,[(0,3),(1,3),(2,51)],false⟩),
 (75,⟨false,1,24,[.nil],.slice,3,some IS,[],false⟩),
 (81,⟨true,5,56,[.int .i64 0,.int .i64 0,.int .i64 0,.int .i64 0,.nil],.struct,0,some tLink,[(0,3),(1,3),(2,3),(3,3),(4,75)],false⟩)]
theorem tys20_ok:(tys20.all fun p=>tokB Tryz.prog p.1 p.2)=true:=by kernel_rfl
def iChain.las:List (Nat×LA):=[(1,⟨[(17,.bool)],[],[0,1,4],[]⟩),(7,⟨[(6,.vptr 1000 0),(26,.int .i64)],[(1000,.cells [] [.sh tProgram,.own 1001 tLink]),(1001,.row false tLink)],[0,4,24,25],[]⟩),(12,⟨[(38,.bool)],[],[0,4,6,7,24,25,26],[]⟩),(17,⟨[(9,.int .i64)],[],[0,4,6,7,24,25,26],[]⟩)]
noncomputable def iChain.f (n:Nat) (a0:List Program) (a1:List Int):Option (Network×(Bool×Unit)):=cut (α:=(Bool×Unit)) (br (decide ((a0.length:Int)=0)) (some (.inr (true,()))) (some (.inr ((decide (12<(a0.length:Int))),())))) fun y1=>br y1.1 (some (([],[]),(false,()))) (iter (α:=(Int×(List Program)×(List Link)×Unit)) n (fun ih17 x16=>br (decide (x16.1<(a0.length:Int))) (chk (0≤x16.1∧x16.1<(a0.length:Int)) (let v18:=(a0.getD x16.1.toNat zProgram); cut (α:=(Bool×Unit)) (br (!decide (v18.1=1)) (some (.inr (true,()))) (some (.inr ((!decide (v18.2.1=1)),())))) fun y19=>br y19.1 (some (([],[]),(false,()))) (cut (α:=(Int×Unit)) (br (decide ((w64 (x16.1+1))=(a0.length:Int))) (some (.inr ((-1),()))) (some (.inr ((w64 (x16.1+1)),())))) fun y20=>chk ((x16.2.2.1.length+([(x16.1,(0,(y20.1,(0,[]))))]:List Link).length)*56≤maxB) (ih17 ((w64 (x16.1+1)),(x16.2.1,((x16.2.2.1++[(x16.1,(0,(y20.1,(0,[]))))]),()))))))) ((iChecked.f n (x16.2.1,x16.2.2.1)).bind fun r21=>some (r21.1,(r21.2.1,())))) (0,(a0,([((-1),(0,(0,(0,a1))))],()))))
noncomputable def iChain.mng (n:Nat):Mng:=⟨[.val (.sl tProgram),.val IS],[.val tNetwork,.val .bool],fun x=>iChain.f n x.1 x.2.1⟩
noncomputable def iChain.cfg (n:Nat):Cfg:=⟨tys20,[(70,iChecked.mng n)],[],[]⟩
theorem iChain.eq:∀ (n:Nat) (a0:List Program) (a1:List Int),runF (iChain.cfg n) n Tryz.f21 (annOf Tryz.f21 iChain.las) [.val (.sl tProgram),.val IS] [.val tNetwork,.val .bool] (a0,(a1,()))=iChain.f n a0 a1:=by
 intros
 kernel_rfl
theorem iChain.gof:GoF Tryz.prog 21:=⟨_,Tryz.func21,by kernel_rfl,by kernel_rfl⟩
theorem iChain.sound (n:Nat):Sound Tryz.prog 21 (iChain.mng n):=runF_sound (fn:=Tryz.f21) (m:=iChain.mng n) (c:=iChain.cfg n) (regOK mixed (opOK (.of (c:=iChain.cfg n) ⟨⟨iChecked.sound n,iChecked.gof⟩,trivial⟩) (.of (c:=iChain.cfg n) trivial)) (tysOK tys20_ok)) (tysOK tys20_ok) Tryz.func21 (fun x=>(iChain.eq n x.1 x.2.1).symm)
end Go.AmT
