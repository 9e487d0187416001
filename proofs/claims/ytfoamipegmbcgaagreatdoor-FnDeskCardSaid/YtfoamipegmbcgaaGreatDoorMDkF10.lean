/- Texts that are read, in plain Lean: pieces, numbers, streams. -/
import Derived.Test.YtfoamipegmbcgaaGreatDoorMDkF9
import Derived.Lib.AtoiTie
import Derived.Lib.AtoiAllCases
namespace Go.AmT
open Go Go.Am
set_option linter.unusedVariables false
set_option linter.unusedSimpArgs false
theorem splitR_no {c:UInt8} : ∀ {a:List UInt8},c∉a→splitR c a=[a]
 | [],_=>rfl
 | x::xs,h=>by
  have h1:x≠c:=fun e=>h (by simp [e])
  have h2:c∉xs:=fun e=>h (by simp [e])
  rw [splitR,if_neg h1,splitR_no h2]; rfl
theorem splitR_app {c:UInt8} (b:List UInt8):∀ {a:List UInt8},c∉a→splitR c (a++c::b)=a::splitR c b
 | [],_=>by rw [List.nil_append,splitR,if_pos rfl]
 | x::xs,h=>by
  have h1:x≠c:=fun e=>h (by simp [e])
  have h2:c∉xs:=fun e=>h (by simp [e])
  rw [List.cons_append,splitR,if_neg h1,splitR_app b h2]; rfl
theorem splitR_end (c:UInt8):∀ t:List UInt8,splitR c (t++[c])=splitR c t++[[]]
 | []=>by simp [splitR]
 | x::xs=>by
  rw [List.cons_append,splitR,splitR,splitR_end c xs]
  split
  ·rfl
  ·cases h:splitR c xs with
   | nil=>exact absurd h (splitR_ne c xs)
   | cons a b=>rfl
theorem splitR_lines {c:UInt8} : ∀ (l:List (List UInt8)),(∀ a∈l,c∉a)→splitR c ((l.map (·++[c])).flatten)=l++[[]]
 | [],_=>rfl
 | a::l,h=>by
  have e:((a::l).map (·++[c])).flatten=a++c::(l.map (·++[c])).flatten:=by simp
  rw [e,splitR_app _ (h a (by simp)),splitR_lines l (fun b hb=>h b (by simp [hb]))]
  rfl
theorem splitC_spec {n:Nat} {s:List UInt8} {c:UInt8} (hs:s.length≤1048576):splitC.f n s [c]=some (splitR c s,()):=by
 exact if_pos (show s.length<4294967281 by omega)
theorem digit_toNat {k:Nat} (h:k<10):(UInt8.ofNat (48+k)).toNat=48+k:=by rw [UInt8.toNat_ofNat']; omega
theorem dd_digit:∀ (k u:Nat),u<10 ^ (k+1)→∀ c∈Lib.decDigits u,48≤c.toNat∧c.toNat≤57
 | 0,u,h=>by
  rw [Lib.decDigits_one (by simpa using h)]
  intro c hc
  rw [List.mem_singleton.1 hc,digit_toNat (by simpa using h)]
  have:u<10:=by simpa using h
  omega
 | k+1,u,h=>by
  by_cases hu:u<10
  ·rw [Lib.decDigits_one hu]
   intro c hc
   rw [List.mem_singleton.1 hc,digit_toNat hu]
   omega
  ·rw [dd_big hu]
   rw [Nat.pow_succ] at h
   intro c hc
   rcases List.mem_append.1 hc with hc | hc
   ·exact dd_digit k (u / 10) (by omega) c hc
   ·rw [List.mem_singleton.1 hc,digit_toNat (by omega)]
    omega
theorem dd_ne (u:Nat):Lib.decDigits u≠[]:=by
 by_cases hu:u<10
 ·rw [Lib.decDigits_one hu]; simp
 ·rw [dd_big hu]; simp
def dval (l:List UInt8):Nat:=l.foldl (fun a c=>10*a+(c.toNat-48)) 0
theorem dval_snoc (l:List UInt8) (c:UInt8):dval (l++[c])=10*dval l+(c.toNat-48):=by simp [dval]
theorem dval_dd:∀ (k u:Nat),u<10 ^ (k+1)→dval (Lib.decDigits u)=u
 | 0,u,h=>by
  have h:u<10:=by simpa using h
  rw [Lib.decDigits_one h,← List.nil_append [_],dval_snoc,digit_toNat h]
  simp [dval]
 | k+1,u,h=>by
  by_cases hu:u<10
  ·rw [Lib.decDigits_one hu,← List.nil_append [_],dval_snoc,digit_toNat hu]
   simp [dval]
  ·rw [Nat.pow_succ] at h
   rw [dd_big hu,dval_snoc,dval_dd k (u / 10) (by omega),digit_toNat (by omega)]
   omega
theorem decFrom_dd:∀ (l:List UInt8) (a:Nat),(∀ c∈l,48≤c.toNat∧c.toNat≤57)→Lib.decFrom a l=some (l.foldl (fun a c=>10*a+(c.toNat-48)) a)
 | [],a,_=>rfl
 | c::l,a,h=>by
  have h2:=h c (by simp)
  rw [Lib.decFrom,Lib.digitVal,if_pos h2]
  show Lib.decFrom (a*10+(c.toNat-48)) l=_
  rw [decFrom_dd l _ (fun d hd=>h d (by simp [hd])),Nat.mul_comm]
  rfl
theorem atoi_itoa {x:Int} (h0 : -1000000≤x) (h1:x≤1000000):Lib.atoiAll (Lib.itoa x) = .ok x:=by
 have hl:=itoa_len h0 h1
 have dig:∀ k:Nat,k≤1000000→Lib.decNat (Lib.decDigits k)=some k:=fun k hk=>by
  have hp:k<10 ^ (6+1):=by omega
  have hne:=dd_ne k
  unfold Lib.decNat
  rw [if_neg (by simpa using hne),decFrom_dd _ 0 (dd_digit 6 k hp)]
  exact congrArg some (dval_dd 6 k hp)
 rw [Lib.atoiAll_short _ (by omega)]
 unfold Lib.itoa
 by_cases hx:x<0
 ·rw [if_pos hx]
  show Lib.NumEnd.ofOption ((Lib.decNat (Lib.decDigits x.natAbs)).map fun (m:Nat)=>-(m:Int))=_
  rw [dig _ (by omega)]
  show Lib.NumEnd.ok (-(x.natAbs:Int))=_
  rw [show -(x.natAbs:Int)=x by omega]
 ·rw [if_neg hx]
  have hp:x.toNat<10 ^ (6+1):=by omega
  have hd:=dig x.toNat (by omega)
  have hdg:=dd_digit 6 x.toNat hp
  cases hD:Lib.decDigits x.toNat with
  | nil=>exact absurd hD (dd_ne _)
  | cons b r=>
   rw [hD] at hd hdg
   have hb:=hdg b (by simp)
   have n45:(b==45)=false:=beq_eq_false_iff_ne.2 (fun e=>by rw [e] at hb; exact absurd hb.1 (by decide))
   have n43:(b==43)=false:=beq_eq_false_iff_ne.2 (fun e=>by rw [e] at hb; exact absurd hb.1 (by decide))
   unfold Lib.atoi
   simp only [n45,n43,Bool.false_eq_true,if_false]
   rw [hd]
   show Lib.NumEnd.ok ((x.toNat:Nat):Int)=_
   rw [show ((x.toNat:Nat):Int)=x by omega]
theorem iNumber_spec {n:Nat} {x:Int} (h0 : -1000000≤x) (h1:x≤1000000):iNumber.f n (Lib.itoa x)=some (x,(true,())):=by
 have hl:=itoa_len h0 h1
 have ha:atoiC.f n (Lib.itoa x)=some (x,(true,())):=by
  unfold atoiC.f atoiF
  rw [if_pos (by omega),atoi_itoa h0 h1]
  rfl
 unfold iNumber.f
 rw [ha,bind_unit]
 simp only [br_true]
 rw [itoaC_spec h0 h1,bind_unit,decide_eq_true rfl]
theorem itoa_mem {x:Int} (h0 : -1000000≤x) (h1:x≤1000000):∀ c∈Lib.itoa x,c=45∨(48≤c.toNat∧c.toNat≤57):=by
 intro c hc
 unfold Lib.itoa at hc
 split at hc
 ·rcases List.mem_cons.1 hc with rfl | hc
  ·exact .inl rfl
  ·exact .inr (dd_digit 6 x.natAbs (by omega) c hc)
 ·exact .inr (dd_digit 6 x.toNat (by omega) c hc)
theorem notin_itoa {x:Int} (h : -1000000≤x∧x≤1000000) {c:UInt8} (h45:c≠45) (hd:¬ (48≤c.toNat∧c.toNat≤57)):c∉Lib.itoa x:=fun hc=>by
 rcases itoa_mem h.1 h.2 c hc with e | e
 ·exact h45 e
 ·exact hd e
theorem itoa_ne (x:Int):Lib.itoa x≠[]:=by
 unfold Lib.itoa
 split
 ·simp
 ·exact dd_ne _
theorem txtS_cons (x y:Int) (r:List Int):txtS (x::y::r)=Lib.itoa x++44::txtS (y::r):=by simp [txtS,commaD]
theorem split_txt:∀ (r:List Int) (x:Int),(∀ y∈x::r,tok y=true)→splitR 44 (txtS (x::r))=(x::r).map Lib.itoa
 | [],x,h=>by
  have:txtS [x]=Lib.itoa x:=by simp [txtS]
  rw [this,splitR_no (notin_itoa (tok_sm (h x (by simp))) (by decide) (by decide))]
  rfl
 | y::r,x,h=>by
  rw [txtS_cons,splitR_app _ (notin_itoa (tok_sm (h x (by simp))) (by decide) (by decide)),split_txt r y (fun z hz=>h z (List.mem_cons_of_mem _ hz))]
  rfl
theorem txtS_mem {s:List Int} (h:∀ y∈s,tok y=true) {c:UInt8} (h45:c≠45) (h44:c≠44) (h46:c≠46) (hd:¬ (48≤c.toNat∧c.toNat≤57)):c∉txtS s:=by
 cases s with
 | nil=>simpa [txtS] using h46
 | cons x r=>
  intro hc
  simp only [txtS,List.mem_append,List.mem_flatten,List.mem_map] at hc
  rcases hc with hc | ⟨l,⟨y,hy,rfl⟩,hc⟩
  ·exact notin_itoa (tok_sm (h x (by simp))) h45 hd hc
  ·simp only [commaD,List.mem_append,List.mem_singleton] at hc
   rcases hc with hc | hc
   ·exact h44 hc
   ·exact notin_itoa (tok_sm (h y (by simp [hy]))) h45 hd hc
theorem txtS_dot {x:Int} {r:List Int} (h:tok x=true):txtS (x::r)≠[46]:=by
 intro e
 have hi:=notin_itoa (tok_sm h) (c:=46) (by decide) (by decide)
 simp only [txtS] at e
 cases hx:Lib.itoa x with
 | nil=>exact itoa_ne x hx
 | cons a b=>
  rw [hx] at e hi
  simp only [List.cons_append,List.cons.injEq] at e
  exact hi (by simp [e.1])
theorem txtS_len {s:List Int} (h:okS s=true):(txtS s).length≤4000:=by
 have:=fmtS_len s
 rwa [fmtS,if_pos h] at this
theorem iParseStream_txt {n:Nat} {s:List Int} (h:okS s=true) (hn:1048577<n):iParseStream.f n (txtS s)=some (s,(true,())):=by
 have hB:=maxB_eq
 have hL:=txtS_len h
 obtain ⟨hl,ht⟩:=okS_bd h
 unfold iParseStream.f
 cases s with
 | nil=>rw [br_yes (by rfl)]
 | cons x r=>
  rw [br_no (txtS_dot (ht x (by simp))),splitC_spec (by omega),bind_unit,split_txt r x ht]
  refine push_loopE (x::r) (fun y=>y) (fun i l=>(i,(l,()))) (fun ih i hi l hli=>?_) (fun ih=>?_) (by omega)
  ·have hi':(i:Int)<(((x::r).map Lib.itoa).length:Int):=by rw [List.length_map]; omega
   have hx:=tok_sm (ht (x::r)[i] (List.getElem_mem _))
   have hg:((x::r).map Lib.itoa).getD i []=Lib.itoa (x::r)[i]:=by rw [getD_lt (by rw [List.length_map]; exact hi),List.getElem_map]
   simp only [br_yes hi',Int.toNat_natCast]
   rw [chk_true (by omega),hg,iNumber_spec hx.1 hx.2,bind_unit]
   simp only [Bool.not_true,br_false]
   rw [chk_true (by simp only [List.length_cons,List.length_nil] at hl hi hli ⊢; omega),w64_succ (by omega)]
  ·have hi':¬ (((x::r).length:Int)<(((x::r).map Lib.itoa).length:Int)):=by rw [List.length_map]; omega
   simp only [br_no hi']
   rw [List.map_id'' (fun _=>rfl),iIsStream_spec (by omega) (by omega),h,bind_unit]
   rfl
end Go.AmT
namespace Go.AmT
open Go Go.Am Go.Proofs
set_option linter.unusedVariables false
set_option maxRecDepth 100000
def tys20:List (Nat×TInfo):=[(3,⟨false,1,8,[.int .i64 0],.int .i64,0,some I,[],false⟩),
 (9,⟨false,1,16,[.str []],.str,0,some .str,[],false⟩),
 (48,⟨false,1,24,[.nil],.slice,9,some (.sl .str),[],false⟩),
 (122,⟨true,4,32,[.int .i64 0,.int .i64 0,.int .i64 0,.int .i64 0],.struct,0,some tInstr,[(0,3),(1,3),(2,3),(3,3)],false⟩),
 (196,⟨false,1,8,[.nilp],.other,0,none,[],false⟩),
 (197,⟨false,1,24,[.nil],.slice,196,none,[],false⟩)]
theorem tys20_ok:(tys20.all fun p=>tokB Tryz.prog p.1 p.2)=true:=by kernel_rfl
def indexS.las:List (Nat×LA):=[(3,⟨[(8,.int .i64)],[],[0,1,7],[]⟩)]
noncomputable def indexS.f (n:Nat) (a0:List (List UInt8)) (a1:List UInt8):Option (Int×Unit):=iter (α:=(Int×Unit)) n (fun ih6 x5=>br (decide (x5.1<(a0.length:Int))) (chk (0≤x5.1∧x5.1<(a0.length:Int)) (br (decide (a1=(a0.getD x5.1.toNat []))) (some (x5.1,())) (ih6 ((w64 (x5.1+1)),())))) (some ((-1),()))) (0,())
noncomputable def indexS.mng (n:Nat):Mng:=⟨[.val (.sl .str),.val .str],[.val I],fun x=>indexS.f n x.1 x.2.1⟩
noncomputable def indexS.cfg (n:Nat):Cfg:=⟨tys20,[],[],[]⟩
theorem indexS.gof:GoF Tryz.prog 195:=⟨_,Tryz.func195,by kernel_rfl,by kernel_rfl⟩
theorem indexS.sound (n:Nat):Sound Tryz.prog 195 (indexS.mng n):=sndF (c:=indexS.cfg n) (n:=n) (an:=annOf Tryz.f195 indexS.las) trivial trivial (tysOK tys20_ok) Tryz.func195 (fun x=>by kernel_rfl)
def iParseInstr.las:List (Nat×LA):=[(500012,⟨[],[],[],[]⟩)]
noncomputable def iParseInstr.f (n:Nat) (a0:List UInt8):Option (Instr×(Bool×Unit)):=(splitC.f n a0 ([32]:List UInt8)).bind fun r1=>(iOps.f n ).bind fun r2=>chk ((0:Int)≤0∧(0:Int)<(r1.1.length:Int)) ((indexS.f n r2.1 (r1.1.getD 0 [])).bind fun r3=>br (decide (r3.1<1)) (some ((0,(0,(0,0))),(false,()))) (br (ptsA r3.1) (br (!decide (2=(w64 ((r1.1.length:Int)-1)))) (some ((0,(0,(0,0))),(false,()))) (chk ((0:Int)≤1∧(1:Int)<(r1.1.length:Int)) ((iNumber.f n (r1.1.getD 1 [])).bind fun r6=>br (!r6.2.1) (some ((0,(0,(0,0))),(false,()))) (chk ((0:Int)≤2∧(2:Int)<(r1.1.length:Int)) ((iNumber.f n (r1.1.getD 2 [])).bind fun r7=>br (!r7.2.1) (some ((0,(0,(0,0))),(false,()))) ((iFmtInstr.f n (r3.1,(r6.1,(r7.1,0)))).bind fun r8=>br (!decide (r8.1=a0)) (some ((0,(0,(0,0))),(false,()))) (some ((r3.1,(r6.1,(r7.1,0))),(true,()))))))))) (br (ptsB r3.1) (br (!decide (3=(w64 ((r1.1.length:Int)-1)))) (some ((0,(0,(0,0))),(false,()))) (chk ((0:Int)≤1∧(1:Int)<(r1.1.length:Int)) ((iNumber.f n (r1.1.getD 1 [])).bind fun r9=>br (!r9.2.1) (some ((0,(0,(0,0))),(false,()))) (chk ((0:Int)≤2∧(2:Int)<(r1.1.length:Int)) ((iNumber.f n (r1.1.getD 2 [])).bind fun r10=>br (!r10.2.1) (some ((0,(0,(0,0))),(false,()))) (chk ((0:Int)≤3∧(3:Int)<(r1.1.length:Int)) ((iNumber.f n (r1.1.getD 3 [])).bind fun r11=>br (!r11.2.1) (some ((0,(0,(0,0))),(false,()))) ((iFmtInstr.f n (r3.1,(r9.1,(r10.1,r11.1)))).bind fun r12=>br (!decide (r12.1=a0)) (some ((0,(0,(0,0))),(false,()))) (some ((r3.1,(r9.1,(r10.1,r11.1))),(true,()))))))))))) (br (ptsC r3.1) (br (!decide (1=(w64 ((r1.1.length:Int)-1)))) (some ((0,(0,(0,0))),(false,()))) (chk ((0:Int)≤1∧(1:Int)<(r1.1.length:Int)) ((iNumber.f n (r1.1.getD 1 [])).bind fun r13=>br (!r13.2.1) (some ((0,(0,(0,0))),(false,()))) ((iFmtInstr.f n (r3.1,(0,(r13.1,0)))).bind fun r14=>br (!decide (r14.1=a0)) (some ((0,(0,(0,0))),(false,()))) (some ((r3.1,(0,(r13.1,0))),(true,()))))))) (br (!decide (0=(w64 ((r1.1.length:Int)-1)))) (some ((0,(0,(0,0))),(false,()))) ((iFmtInstr.f n (r3.1,(0,(0,0)))).bind fun r15=>br (!decide (r15.1=a0)) (some ((0,(0,(0,0))),(false,()))) (some ((r3.1,(0,(0,0))),(true,())))))))))
noncomputable def iParseInstr.mng (n:Nat):Mng:=⟨[.val .str],[.val tInstr,.val .bool],fun x=>iParseInstr.f n x.1⟩
noncomputable def iParseInstr.cfg (n:Nat):Cfg:=⟨tys20,[(69,splitC.mng n),(196,iOps.mng n),(195,indexS.mng n),(122,iNumber.mng n),(198,iFmtInstr.mng n)],[],[3000197]⟩
theorem iParseInstr.eq:∀ (n:Nat) (a0:List UInt8),runF (iParseInstr.cfg n) n Tryz.f163 (annOf Tryz.f163 iParseInstr.las) [.val .str] [.val tInstr,.val .bool] (a0,())=iParseInstr.f n a0:=by
 intros
 kernel_rfl
theorem iParseInstr.gof:GoF Tryz.prog 163:=⟨_,Tryz.func163,by kernel_rfl,by kernel_rfl⟩
theorem iParseInstr.sound (n:Nat):Sound Tryz.prog 163 (iParseInstr.mng n):=runF_sound (fn:=Tryz.f163) (m:=iParseInstr.mng n) (c:=iParseInstr.cfg n) (regOK mixed (opOK (.of (c:=iParseInstr.cfg n) ⟨⟨splitC.sound n,splitC.gof⟩,⟨⟨iOps.sound n,iOps.gof⟩,⟨⟨indexS.sound n,indexS.gof⟩,⟨⟨iNumber.sound n,iNumber.gof⟩,⟨⟨iFmtInstr.sound n,iFmtInstr.gof⟩,trivial⟩⟩⟩⟩⟩ (ptsAll_one (f:=197) rfl iPts.pts iPts.gof)) (.of (c:=iParseInstr.cfg n) trivial)) (tysOK tys20_ok)) (tysOK tys20_ok) Tryz.func163 (fun x=>(iParseInstr.eq n x.1).symm)
end Go.AmT
namespace Go.AmT
open Go Go.Am
set_option linter.unusedVariables false
set_option linter.unusedSimpArgs false
abbrev zeroI:Instr:=(0,(0,(0,0)))
theorem opw_no {op:Int} (h:1≤op∧op≤11) {c:UInt8} (hc:c.toNat<97):c∉opw op:=by
 have:∀ d∈opw op,97≤d.toNat:=by
  rcases op_cases h with rfl | rfl | rfl | rfl | rfl | rfl | rfl | rfl | rfl | rfl | rfl<;>decide
 intro hm
 have:=this c hm
 omega
noncomputable def partsI (x:Instr):List (List UInt8):=
 opw x.1::(if ptsA x.1 then [Lib.itoa x.2.1,Lib.itoa x.2.2.1] else if ptsB x.1 then [Lib.itoa x.2.1,Lib.itoa x.2.2.1,Lib.itoa x.2.2.2] else if ptsC x.1 then [Lib.itoa x.2.2.1] else [])
theorem txtI_split {x:Instr} (O:OkI x):splitR 32 (txtI x)=partsI x:=by
 have h0:(32:UInt8)∉opw x.1:=opw_no O.op (by decide)
 have ha:(32:UInt8)∉Lib.itoa x.2.1:=notin_itoa O.a (by decide) (by decide)
 have hb:(32:UInt8)∉Lib.itoa x.2.2.1:=notin_itoa O.b (by decide) (by decide)
 have hc:(32:UInt8)∉Lib.itoa x.2.2.2:=notin_itoa O.c (by decide) (by decide)
 unfold txtI partsI spD
 split
 ·have:opw x.1++([32]++Lib.itoa x.2.1++([32]++Lib.itoa x.2.2.1))=opw x.1++32::(Lib.itoa x.2.1++32::Lib.itoa x.2.2.1):=by simp
  rw [this,splitR_app _ h0,splitR_app _ ha,splitR_no hb]
 ·split
  ·have:opw x.1++([32]++Lib.itoa x.2.1++([32]++Lib.itoa x.2.2.1++([32]++Lib.itoa x.2.2.2)))=opw x.1++32::(Lib.itoa x.2.1++32::(Lib.itoa x.2.2.1++32::Lib.itoa x.2.2.2)):=by simp
   rw [this,splitR_app _ h0,splitR_app _ ha,splitR_app _ hb,splitR_no hc]
  ·split
   ·have:opw x.1++([32]++Lib.itoa x.2.2.1)=opw x.1++32::Lib.itoa x.2.2.1:=by simp
    rw [this,splitR_app _ h0,splitR_no hb]
   ·rw [List.append_nil,splitR_no h0]
structure ToldI (s:List UInt8) (r:Instr×(Bool×Unit)):Prop where
 all:∀ x,okI 3 3 24 x=true→txtI x=s→r=(x,(true,()))
 non:(∃ x,okI 3 3 24 x=true∧txtI x=s)∨r=(zeroI,(false,()))
theorem ToldI.one {s:List UInt8} {r r':Instr×(Bool×Unit)} (h:ToldI s r) (h':ToldI s r'):r=r':=by
 rcases h.non with ⟨x,o,e⟩ | e
 ·rw [h.all x o e,h'.all x o e]
 ·rcases h'.non with ⟨x,o,e'⟩ | e'
  ·rw [h.all x o e',h'.all x o e']
  ·rw [e,e']
theorem words_at {op:Int} (h:1≤op∧op≤11) (i:Nat) (hi:i<12):wordsL.getD i []=opw op↔(i:Int)=op:=by
 constructor
 ·intro e
  have:∀ i:Fin 12,∀ j:Fin 12,wordsL.getD i.val []=wordsL.getD j.val []→i=j:=by decide
  have h2:=this ⟨i,hi⟩ ⟨op.toNat,by omega⟩ e
  have:=congrArg Fin.val h2
  simp only at this
  omega
 ·intro e
  rw [← e]
  unfold opw
  rw [Int.toNat_natCast]
theorem indexS_spec {n:Nat} {op:Int} (h:1≤op∧op≤11) (hn:1048576<n):indexS.f n wordsL (opw op)=some (op,()):=by
 have hwl:wordsL.length=12:=rfl
 unfold indexS.f
 refine W_eq.1 (W_up (fun (i:Nat) (_:Unit)=>((i:Int),())) 12 (fun i _=>(i:Int)≤op) (s0:=()) rfl (by omega) (by omega) (fun ih _ hI=>?_) (fun ih i _ hi hI hS=>?_))
 ·have hI:((12:Nat):Int)≤op:=hI
  omega
 ·have hI:(i:Int)≤op:=hI
  simp only [br_yes (show (i:Int)<(wordsL.length:Int) by rw [hwl]; omega),Int.toNat_natCast]
  rw [chk_true (by rw [hwl]; omega),W_brd]
  refine ⟨fun e=>?_,fun e=>?_⟩
  ·rw [W_some,(words_at h i hi).1 e.symm]
  ·rw [w64_succ (by omega)]
   refine hS () ?_
   have:¬ (i:Int)=op:=fun c=>e ((words_at h i hi).2 c).symm
   show ((i+1:Nat):Int)≤op
   omega
theorem ptsB_of {op:Int} (h:ptsA op=true):ptsB op=false:=by
 simp only [ptsA,ptsB,decide_eq_true_eq,decide_eq_false_iff_not] at h ⊢
 omega
theorem halt_of {op:Int} (h:1≤op∧op≤11) (ha:ptsA op=false) (hb:ptsB op=false) (hc:ptsC op=false):op=11:=by
 simp only [ptsA,ptsB,ptsC,decide_eq_false_iff_not] at ha hb hc
 omega
theorem eta3 {x:Instr} {a b c:Int} (h1:a=x.2.1) (h2:b=x.2.2.1) (h3:c=x.2.2.2):(x.1,(a,(b,c)))=x:=by subst h1; subst h2; subst h3; rfl
theorem iParseInstr_txt {n:Nat} {x:Instr} (h:okI 3 3 24 x=true) (hn:1048577<n):iParseInstr.f n (txtI x)=some (x,(true,())):=by
 have O:=okI_all h (by omega) (by omega) (by omega)
 have hl:=txtI_len O
 have hf:fmtI x=txtI x:=if_pos h
 have hop:=O.op
 unfold iParseInstr.f
 rw [splitC_spec (by omega),txtI_split O,bind_unit,iOps_spec,bind_unit]
 have g0:(partsI x).getD 0 []=opw x.1:=rfl
 dsimp only
 rw [chk_true (by simp [partsI]),g0,indexS_spec hop (by omega),bind_unit]
 dsimp only
 rw [br_no (by omega)]
 cases hA:ptsA x.1
 ·cases hB:ptsB x.1
  ·cases hC:ptsC x.1
   ·have hp:partsI x=[opw x.1]:=by simp [partsI,hA,hB,hC]
    have e11:=halt_of hop hA hB hC
    simp only [br_false]
    rw [hp]
    have w0:w64 (([opw x.1].length:Int)-1)=0:=w64_id (n:=0) (by omega) (by omega)
    rw [w0,decide_eq_true rfl,eta3 (O.na hA hB).symm (O.nb e11).symm (O.nc hB).symm,iFmtInstr_spec,hf,bind_unit,decide_eq_true rfl]
    rfl
   ·have hp:partsI x=[opw x.1,Lib.itoa x.2.2.1]:=by simp [partsI,hA,hB,hC]
    simp only [br_false,br_true]
    rw [hp]
    have w0:w64 (([opw x.1,Lib.itoa x.2.2.1].length:Int)-1)=1:=w64_id (n:=1) (by omega) (by omega)
    have g1:[opw x.1,Lib.itoa x.2.2.1].getD 1 []=Lib.itoa x.2.2.1:=rfl
    rw [w0,decide_eq_true rfl]
    simp only [Bool.not_true,br_false]
    rw [chk_true (by simp),g1,iNumber_spec O.b.1 O.b.2,bind_unit]
    simp only [Bool.not_true,br_false]
    rw [eta3 (O.na hA hB).symm rfl (O.nc hB).symm,iFmtInstr_spec,hf,bind_unit,decide_eq_true rfl]
    rfl
  ·have hp:partsI x=[opw x.1,Lib.itoa x.2.1,Lib.itoa x.2.2.1,Lib.itoa x.2.2.2]:=by simp [partsI,hA,hB]
   simp only [br_false,br_true]
   rw [hp]
   have w0:w64 (([opw x.1,Lib.itoa x.2.1,Lib.itoa x.2.2.1,Lib.itoa x.2.2.2].length:Int)-1)=3:=w64_id (n:=3) (by omega) (by omega)
   have g1:[opw x.1,Lib.itoa x.2.1,Lib.itoa x.2.2.1,Lib.itoa x.2.2.2].getD 1 []=Lib.itoa x.2.1:=rfl
   have g2:[opw x.1,Lib.itoa x.2.1,Lib.itoa x.2.2.1,Lib.itoa x.2.2.2].getD 2 []=Lib.itoa x.2.2.1:=rfl
   have g3:[opw x.1,Lib.itoa x.2.1,Lib.itoa x.2.2.1,Lib.itoa x.2.2.2].getD 3 []=Lib.itoa x.2.2.2:=rfl
   rw [w0,decide_eq_true rfl]
   simp only [Bool.not_true,br_false]
   rw [chk_true (by simp),g1,iNumber_spec O.a.1 O.a.2,bind_unit]
   simp only [Bool.not_true,br_false]
   rw [chk_true (by simp),g2,iNumber_spec O.b.1 O.b.2,bind_unit]
   simp only [Bool.not_true,br_false]
   rw [chk_true (by simp),g3,iNumber_spec O.c.1 O.c.2,bind_unit]
   simp only [Bool.not_true,br_false]
   rw [eta3 rfl rfl rfl,iFmtInstr_spec,hf,bind_unit,decide_eq_true rfl]
   rfl
 ·have hB:=ptsB_of hA
  have hp:partsI x=[opw x.1,Lib.itoa x.2.1,Lib.itoa x.2.2.1]:=by simp [partsI,hA]
  simp only [br_false,br_true]
  rw [hp]
  have w0:w64 (([opw x.1,Lib.itoa x.2.1,Lib.itoa x.2.2.1].length:Int)-1)=2:=w64_id (n:=2) (by omega) (by omega)
  have g1:[opw x.1,Lib.itoa x.2.1,Lib.itoa x.2.2.1].getD 1 []=Lib.itoa x.2.1:=rfl
  have g2:[opw x.1,Lib.itoa x.2.1,Lib.itoa x.2.2.1].getD 2 []=Lib.itoa x.2.2.1:=rfl
  rw [w0,decide_eq_true rfl]
  simp only [Bool.not_true,br_false]
  rw [chk_true (by simp),g1,iNumber_spec O.a.1 O.a.2,bind_unit]
  simp only [Bool.not_true,br_false]
  rw [chk_true (by simp),g2,iNumber_spec O.b.1 O.b.2,bind_unit]
  simp only [Bool.not_true,br_false]
  rw [eta3 rfl rfl (O.nc hB).symm,iFmtInstr_spec,hf,bind_unit,decide_eq_true rfl]
  rfl
end Go.AmT
namespace Go.AmT
open Go Go.Am Go.Proofs
set_option linter.unusedVariables false
set_option maxRecDepth 100000
def tys21:List (Nat×TInfo):=[(3,⟨false,1,8,[.int .i64 0],.int .i64,0,some I,[],false⟩),
 (9,⟨false,1,16,[.str []],.str,0,some .str,[],false⟩),
 (48,⟨false,1,24,[.nil],.slice,9,some (.sl .str),[],false⟩),
 (66,⟨false,1,24,[.nil],.slice,122,some (.sl tInstr),[],false⟩),
 (68,⟨true,3,40,[.int .i64 0,.int .i64 0,.nil],.struct,0,some tProgram,[(0,3),(1,3),(2,66)],false⟩),
 (122,⟨true,4,32,[.int .i64 0,.int .i64 0,.int .i64 0,.int .i64 0],.struct,0,some tInstr,[(0,3),(1,3),(2,3),(3,3)],false⟩)]
theorem tys21_ok:(tys21.all fun p=>tokB Tryz.prog p.1 p.2)=true:=by kernel_rfl
def fmtProgram.las:List (Nat×LA):=[(7,⟨[(3,.str),(20,.int .i64)],[],[18,19],[]⟩)]
noncomputable def fmtProgram.f (n:Nat) (a0:Program):Option ((List UInt8)×Unit):=(sIsProgram.f n a0).bind fun r1=>br (!r1.1) (some ([],())) ((l1Number.f n a0.1).bind fun r2=>chk (r2.1.length+([59]:List UInt8).length<maxS) ((l1Number.f n a0.2.1).bind fun r3=>chk ((r2.1++([59]:List UInt8)).length+r3.1.length<maxS) (iter (α:=((List UInt8)×(Int×Unit))) n (fun ih11 x10=>br (decide (x10.2.1<(a0.2.2.length:Int))) (chk (0≤x10.2.1∧x10.2.1<(a0.2.2.length:Int)) (let v12:=(a0.2.2.getD x10.2.1.toNat zInstr); chk (x10.1.length+([59]:List UInt8).length<maxS) ((fmtInstr.f n v12).bind fun r13=>chk ((x10.1++([59]:List UInt8)).length+r13.1.length<maxS) (ih11 (((x10.1++([59]:List UInt8))++r13.1),((w64 (x10.2.1+1)),())))))) (some (x10.1,()))) (((r2.1++([59]:List UInt8))++r3.1),(0,())))))
noncomputable def fmtProgram.mng (n:Nat):Mng:=⟨[.val tProgram],[.val .str],fun x=>fmtProgram.f n x.1⟩
noncomputable def fmtProgram.cfg (n:Nat):Cfg:=⟨tys21,[(76,sIsProgram.mng n),(81,fmtInstr.mng n)],[(33,l1Number.mng n)],[]⟩
theorem fmtProgram.gof:GoF Tryz.prog 32:=⟨_,Tryz.func32,by kernel_rfl,by kernel_rfl⟩
theorem fmtProgram.sound (n:Nat):Sound Tryz.prog 32 (fmtProgram.mng n):=sndF (c:=fmtProgram.cfg n) (n:=n) (an:=annOf Tryz.f32 fmtProgram.las) ⟨⟨sIsProgram.sound n,sIsProgram.gof⟩,⟨⟨fmtInstr.sound n,fmtInstr.gof⟩,trivial⟩⟩ ⟨⟨l1Number.sound n,l1Number.gof⟩,trivial⟩ (tysOK tys21_ok) Tryz.func32 (fun x=>by kernel_rfl)
def iFmtProgram.las:List (Nat×LA):=[(7,⟨[(3,.own 1000 .str),(19,.int .i64)],[(1000,.row true .str)],[17,18],[]⟩)]
noncomputable def iFmtProgram.f (n:Nat) (a0:Program):Option ((List UInt8)×Unit):=(iIsProgram.f n a0).bind fun r1=>br (!r1.1) (some ([],())) ((itoaC.f n a0.1).bind fun r2=>(itoaC.f n a0.2.1).bind fun r3=>iter (α:=(Int×(List (List UInt8))×Unit)) n (fun ih11 x10=>br (decide (x10.1<(a0.2.2.length:Int))) (chk (0≤x10.1∧x10.1<(a0.2.2.length:Int)) (let v12:=(a0.2.2.getD x10.1.toNat zInstr); (iFmtInstr.f n v12).bind fun r13=>chk ((x10.2.1.length+([r13.1]:List (List UInt8)).length)*16≤maxB) (ih11 ((w64 (x10.1+1)),((x10.2.1++[r13.1]),()))))) ((joinC.f n x10.2.1 ([59]:List UInt8)).bind fun r14=>some (r14.1,()))) (0,([r2.1,r3.1],())))
noncomputable def iFmtProgram.mng (n:Nat):Mng:=⟨[.val tProgram],[.val .str],fun x=>iFmtProgram.f n x.1⟩
noncomputable def iFmtProgram.cfg (n:Nat):Cfg:=⟨tys21,[(91,iIsProgram.mng n),(50,itoaC.mng n),(198,iFmtInstr.mng n),(51,joinC.mng n)],[],[]⟩
theorem iFmtProgram.gof:GoF Tryz.prog 164:=⟨_,Tryz.func164,by kernel_rfl,by kernel_rfl⟩
theorem iFmtProgram.sound (n:Nat):Sound Tryz.prog 164 (iFmtProgram.mng n):=sndF (c:=iFmtProgram.cfg n) (n:=n) (an:=annOf Tryz.f164 iFmtProgram.las) ⟨⟨iIsProgram.sound n,iIsProgram.gof⟩,⟨⟨itoaC.sound n,itoaC.gof⟩,⟨⟨iFmtInstr.sound n,iFmtInstr.gof⟩,⟨⟨joinC.sound n,joinC.gof⟩,trivial⟩⟩⟩⟩ trivial (tysOK tys21_ok) Tryz.func164 (fun x=>by kernel_rfl)
end Go.AmT
namespace Go.AmT
open Go Go.Am
set_option linter.unusedVariables false
set_option linter.unusedSimpArgs false
theorem okP_all {p:Program} (hp:okP p=true):(0≤p.1∧p.1≤3)∧(0≤p.2.1∧p.2.1≤3)∧(1≤p.2.2.length∧p.2.2.length≤24)∧∀ x∈p.2.2,okI p.1 p.2.1 (p.2.2.length:Int) x=true:=by
 unfold okP at hp
 simp only [Bool.and_eq_true,decide_eq_true_eq,List.all_eq_true] at hp
 exact ⟨hp.1.1.1,hp.1.1.2,hp.1.2,hp.2⟩
theorem okI_mono {ins outs size:Int} {x:Instr} (h:okI ins outs size x=true) (hi:ins≤3) (ho:outs≤3) (hs:size≤24):okI 3 3 24 x=true:=by
 have O:=okI_all h hi ho hs
 obtain ⟨op,a,b,c⟩:=x
 have key:=O.op
 unfold okI at h ⊢
 rcases op_cases key with e | e | e | e | e | e | e | e | e | e | e<;>
 ·simp only at e
  subst e
  simp (config:={ decide:=true }) only [if_true,if_false,Bool.and_eq_true,decide_eq_true_eq,or_true,true_or,or_false,false_or] at h ⊢
  first | exact h | omega | (simp only [reg,tok,Bool.and_eq_true,decide_eq_true_eq] at h ⊢; omega)
noncomputable def semiD (x:Instr):List UInt8:=[59]++fmtI x
noncomputable def txtP (p:Program):List UInt8:=Lib.itoa p.1++[59]++Lib.itoa p.2.1++(p.2.2.map semiD).flatten
noncomputable def fmtP (p:Program):List UInt8:=if okP p then txtP p else []
theorem semiD_len (x:Instr):(semiD x).length≤41:=by
 have:=fmtI_len x
 simp only [semiD,List.length_append,List.length_cons,List.length_nil]
 omega
theorem txtP_len {p:Program} (h:okP p=true):(txtP p).length≤1100:=by
 obtain ⟨h1,h2,h3,h4⟩:=okP_all h
 have l1:=itoa_len (x:=p.1) (by omega) (by omega)
 have l2:=itoa_len (x:=p.2.1) (by omega) (by omega)
 have l3:=flat_len semiD 41 p.2.2 (fun x _=>semiD_len x)
 simp only [txtP,List.length_append,List.length_cons,List.length_nil]
 omega
theorem fmtP_len (p:Program):(fmtP p).length≤1100:=by
 unfold fmtP
 split
 ·rename_i h; exact txtP_len h
 ·simp
theorem fmtProgram_spec {n:Nat} {p:Program} (hp:SmallP p) (hn:1048576<n):fmtProgram.f n p=some (fmtP p,()):=by
 unfold fmtProgram.f fmtP
 rw [sIsProgram_spec hp hn,bind_unit]
 cases hk:okP p
 ·simp only [Bool.not_false,br_true]; rfl
 ·obtain ⟨h1,h2,h3,h4⟩:=okP_all hk
  have l1:=itoa_len (x:=p.1) (by omega) (by omega)
  have l2:=itoa_len (x:=p.2.1) (by omega) (by omega)
  simp only [Bool.not_true,br_false,if_true]
  rw [number_spec hn (by omega) (by omega),bind_unit,str_chk (by simp only [List.length_cons,List.length_nil]; omega),number_spec hn (by omega) (by omega),bind_unit,str_chk (by simp only [List.length_append,List.length_cons,List.length_nil]; omega)]
  have hm:∀ i,((p.2.2.take i).map semiD).flatten.length≤1000:=fun i=>by
   have:=flat_len semiD 41 (p.2.2.take i) (fun y hy=>semiD_len y)
   rw [List.length_take] at this
   have:=Nat.min_le_right i p.2.2.length
   omega
  refine cat_list semiD p.2.2 (Lib.itoa p.1++[59]++Lib.itoa p.2.1) (fun t i=>(t,(i,()))) (fun ih i hi=>?_) (fun ih=>?_) (by omega)
  ·have hlt:(i:Int)<(p.2.2.length:Int):=by omega
   have hmi:=hm i
   have hf:=fmtI_len (p.2.2.getD i zInstr)
   simp only [br_yes hlt,Int.toNat_natCast]
   rw [chk_true (by omega),str_chk (by simp only [List.length_append,List.length_cons,List.length_nil]; omega),fmtInstr_spec hn,bind_unit,str_chk (by simp only [List.length_append,List.length_cons,List.length_nil]; omega),w64_succ (by omega)]
   rw [flat_snoc semiD p.2.2 i hi,getD_lt hi]
   simp only [semiD,List.append_assoc]
  ·simp only [br_no (Int.lt_irrefl _)]
   rfl
theorem join_prog (p:Program):Lib.join (Lib.itoa p.1::Lib.itoa p.2.1::p.2.2.map fmtI) [59]=txtP p:=by
 rw [Lib.join_cons,Lib.joinTail,List.map_cons,List.map_map,List.flatten_cons]
 unfold txtP
 simp only [List.append_assoc]
 rfl
theorem iFmtProgram_spec {n:Nat} {p:Program} (hp:SmallP p) (hn:1048576<n):iFmtProgram.f n p=some (fmtP p,()):=by
 have hB:=maxB_eq
 unfold iFmtProgram.f fmtP
 rw [iIsProgram_spec hp hn,bind_unit]
 cases hk:okP p
 ·simp only [Bool.not_false,br_true]; rfl
 ·obtain ⟨h1,h2,h3,h4⟩:=okP_all hk
  have hL:=txtP_len hk
  simp only [Bool.not_true,br_false,if_true]
  rw [itoaC_spec (by omega) (by omega),bind_unit,itoaC_spec (by omega) (by omega),bind_unit]
  refine push_from p.2.2 fmtI [Lib.itoa p.1,Lib.itoa p.2.1] (fun i l=>(i,(l,()))) (fun ih i hi l hl=>?_) (fun ih=>?_) (by omega)
  ·have hlt:(i:Int)<(p.2.2.length:Int):=by omega
   simp only [List.length_cons,List.length_nil] at hl
   simp only [br_yes hlt,Int.toNat_natCast]
   rw [chk_true (by omega),iFmtInstr_spec,bind_unit,chk_true (by simp only [List.length_cons,List.length_nil]; omega),w64_succ (by omega),getD_lt hi]
  ·simp only [br_no (Int.lt_irrefl _)]
   have e:[Lib.itoa p.1,Lib.itoa p.2.1]++p.2.2.map fmtI=Lib.itoa p.1::Lib.itoa p.2.1::p.2.2.map fmtI:=rfl
   rw [e,joinC_spec (by simp; omega) (by rw [join_prog]; omega),bind_unit,join_prog]
end Go.AmT
namespace Go.AmT
open Go Go.Am Go.Proofs
set_option linter.unusedVariables false
set_option maxRecDepth 100000
def tys22:List (Nat×TInfo):=[(3,⟨false,1,8,[.int .i64 0],.int .i64,0,some I,[],false⟩),
 (9,⟨false,1,16,[.str []],.str,0,some .str,[],false⟩),
 (48,⟨false,1,24,[.nil],.slice,9,some (.sl .str),[],false⟩),
 (66,⟨false,1,24,[.nil],.slice,122,some (.sl tInstr),[],false⟩),
 (68,⟨true,3,40,[.int .i64 0,.int .i64 0,.nil],.struct,0,some tProgram,[(0,3),(1,3),(2,66)],false⟩),
 (122,⟨true,4,32,[.int .i64 0,.int .i64 0,.int .i64 0,.int .i64 0],.struct,0,some tInstr,[(0,3),(1,3),(2,3),(3,3)],false⟩)]
theorem tys22_ok:(tys22.all fun p=>tokB Tryz.prog p.1 p.2)=true:=by kernel_rfl
def iParseProgram.las:List (Nat×LA):=[(10,⟨[(9,.vptr 1000 0),(40,.int .i64)],[(1000,.cells [] [.int .i64,.int .i64,.own 1001 tInstr]),(1001,.row true tInstr)],[2,6,8,38,39],[]⟩),(21,⟨[(69,.bool)],[],[2,9],[]⟩)]
noncomputable def iParseProgram.f (n:Nat) (a0:List UInt8):Option (Program×(Bool×Unit)):=(splitC.f n a0 ([59]:List UInt8)).bind fun r1=>br (decide ((r1.1.length:Int)<3)) (some ((0,(0,[])),(false,()))) (chk ((0:Int)≤0∧(0:Int)<(r1.1.length:Int)) ((iNumber.f n (r1.1.getD 0 [])).bind fun r2=>chk ((0:Int)≤1∧(1:Int)<(r1.1.length:Int)) ((iNumber.f n (r1.1.getD 1 [])).bind fun r3=>chk ((0:Int)≤2∧(2:Int)≤(r1.1.length:Int)∧(r1.1.length:Int)≤(r1.1.length:Int)) (iter (α:=(Int×(Int×(Int×(List Instr)×Unit)))) n (fun ih30 x29=>br (decide (x29.1<(((r1.1.take (r1.1.length:Int).toNat).drop 2).length:Int))) (chk (0≤x29.1∧x29.1<(((r1.1.take (r1.1.length:Int).toNat).drop 2).length:Int)) (let v31:=(((r1.1.take (r1.1.length:Int).toNat).drop 2).getD x29.1.toNat []); (iParseInstr.f n v31).bind fun r32=>br (!r32.2.1) (some ((0,(0,[])),(false,()))) (chk ((x29.2.2.2.1.length+([r32.1]:List Instr).length)*32≤maxB) (ih30 ((w64 (x29.1+1)),(x29.2.1,(x29.2.2.1,((x29.2.2.2.1++[r32.1]),())))))))) (cut (α:=(Bool×Unit)) (br (!r2.2.1) (some (.inr (true,()))) (br (!r3.2.1) (some (.inr (true,()))) ((iIsProgram.f n (x29.2.1,(x29.2.2.1,x29.2.2.2.1))).bind fun r35=>some (.inr ((!r35.1),()))))) fun y34=>br y34.1 (some ((0,(0,[])),(false,()))) (some ((x29.2.1,(x29.2.2.1,x29.2.2.2.1)),(true,()))))) (0,(r2.1,(r3.1,([],()))))))))
noncomputable def iParseProgram.mng (n:Nat):Mng:=⟨[.val .str],[.val tProgram,.val .bool],fun x=>iParseProgram.f n x.1⟩
noncomputable def iParseProgram.cfg (n:Nat):Cfg:=⟨tys22,[(69,splitC.mng n),(122,iNumber.mng n),(163,iParseInstr.mng n),(91,iIsProgram.mng n)],[],[]⟩
theorem iParseProgram.gof:GoF Tryz.prog 117:=⟨_,Tryz.func117,by kernel_rfl,by kernel_rfl⟩
theorem iParseProgram.sound (n:Nat):Sound Tryz.prog 117 (iParseProgram.mng n):=sndF (c:=iParseProgram.cfg n) (n:=n) (an:=annOf Tryz.f117 iParseProgram.las) ⟨⟨splitC.sound n,splitC.gof⟩,⟨⟨iNumber.sound n,iNumber.gof⟩,⟨⟨iParseInstr.sound n,iParseInstr.gof⟩,⟨⟨iIsProgram.sound n,iIsProgram.gof⟩,trivial⟩⟩⟩⟩ trivial (tysOK tys22_ok) Tryz.func117 (fun x=>by kernel_rfl)
end Go.AmT
namespace Go.AmT
open Go Go.Am
set_option linter.unusedVariables false
set_option linter.unusedSimpArgs false
theorem splitR_list {α:Type} (c:UInt8) (g:α→List UInt8):∀ (l:List α) (a:List UInt8),c∉a→(∀ x∈l,c∉g x)→splitR c (a++(l.map fun x=>c::g x).flatten)=a::l.map g
 | [],a,ha,_=>by simp [splitR_no ha]
 | x::l,a,ha,h=>by
  have e:a++((x::l).map fun x=>c::g x).flatten=a++c::(g x++(l.map fun x=>c::g x).flatten):=by simp
  rw [e,splitR_app _ ha,splitR_list c g l (g x) (h x (by simp)) (fun y hy=>h y (by simp [hy]))]
  rfl
theorem txtI_no {x:Instr} (O:OkI x):(59:UInt8)∉txtI x∧(10:UInt8)∉txtI x:=by
 have key:∀ c:UInt8,c=59∨c=10→c∉txtI x:=fun c hc=>by
  have hn:c.toNat<97∧c≠45∧¬ (48≤c.toNat∧c.toNat≤57)∧c≠32:=by rcases hc with rfl | rfl<;>decide
  have h0:=opw_no O.op hn.1
  have sp:∀ {v:Int},smI v→c∉spD v:=fun hv=>by
   simp only [spD,List.mem_append,List.mem_singleton,not_or]
   exact ⟨hn.2.2.2,notin_itoa hv hn.2.1 hn.2.2.1⟩
  unfold txtI
  rw [List.mem_append,not_or]
  refine ⟨h0,?_⟩
  split
  ·rw [List.mem_append,not_or]; exact ⟨sp O.a,sp O.b⟩
  ·split
   ·rw [List.mem_append,List.mem_append,not_or,not_or]; exact ⟨sp O.a,sp O.b,sp O.c⟩
   ·split
    ·exact sp O.b
    ·simp
 exact ⟨key 59 (.inl rfl),key 10 (.inr rfl)⟩
theorem okP_instr {p:Program} (h:okP p=true):∀ x∈p.2.2,okI 3 3 24 x=true:=fun x hx=>by
 obtain ⟨h1,h2,h3,h4⟩:=okP_all h
 exact okI_mono (h4 x hx) (by omega) (by omega) (by omega)
theorem semi_eq {l:List Instr} (h:∀ x∈l,okI 3 3 24 x=true):l.map semiD=l.map fun x=>59::txtI x:=by
 refine List.map_congr_left (fun x hx=>?_)
 rw [semiD,fmtI,if_pos (h x hx)]
 rfl
theorem txtP_split {p:Program} (h:okP p=true):splitR 59 (txtP p)=Lib.itoa p.1::Lib.itoa p.2.1::p.2.2.map txtI:=by
 obtain ⟨h1,h2,h3,h4⟩:=okP_all h
 have hi:=okP_instr h
 have e:txtP p=Lib.itoa p.1++59::(Lib.itoa p.2.1++(p.2.2.map fun x=>59::txtI x).flatten):=by
  rw [txtP,semi_eq hi]; simp
 rw [e,splitR_app _ (notin_itoa ⟨by omega,by omega⟩ (by decide) (by decide)),splitR_list 59 txtI _ _ (notin_itoa ⟨by omega,by omega⟩ (by decide) (by decide)) (fun x hx=>(txtI_no (okI_all (hi x hx) (by omega) (by omega) (by omega))).1)]
abbrev zeroP:Program:=(0,(0,[]))
structure ToldP (s:List UInt8) (r:Program×(Bool×Unit)):Prop where
 all:∀ p,okP p=true→txtP p=s→r=(p,(true,()))
 non:(∃ p,okP p=true∧txtP p=s)∨r=(zeroP,(false,()))
theorem ToldP.one {s:List UInt8} {r r':Program×(Bool×Unit)} (h:ToldP s r) (h':ToldP s r'):r=r':=by
 rcases h.non with ⟨x,o,e⟩ | e
 ·rw [h.all x o e,h'.all x o e]
 ·rcases h'.non with ⟨x,o,e'⟩ | e'
  ·rw [h.all x o e',h'.all x o e']
  ·rw [e,e']
theorem iParseProgram_txt {n:Nat} {p:Program} (h:okP p=true) (hn:1048577<n):iParseProgram.f n (txtP p)=some (p,(true,())):=by
 have hB:=maxB_eq
 have hl:=txtP_len h
 obtain ⟨h1,h2,h3,h4⟩:=okP_all h
 have hi4:=okP_instr h
 unfold iParseProgram.f
 rw [splitC_spec (by omega),txtP_split h,bind_unit]
 dsimp only
 have hl3:(Lib.itoa p.1::Lib.itoa p.2.1::p.2.2.map txtI).length=p.2.2.length+2:=by simp
 have g0:(Lib.itoa p.1::Lib.itoa p.2.1::p.2.2.map txtI).getD 0 []=Lib.itoa p.1:=rfl
 have g1:(Lib.itoa p.1::Lib.itoa p.2.1::p.2.2.map txtI).getD 1 []=Lib.itoa p.2.1:=rfl
 have eD:((Lib.itoa p.1::Lib.itoa p.2.1::p.2.2.map txtI).take ((Lib.itoa p.1::Lib.itoa p.2.1::p.2.2.map txtI).length:Int).toNat).drop 2=p.2.2.map txtI:=by rw [Int.toNat_natCast,List.take_length]; rfl
 rw [br_no (by rw [hl3]; omega),chk_true (by rw [hl3]; omega),g0,iNumber_spec (by omega) (by omega),bind_unit,chk_true (by rw [hl3]; omega),g1,iNumber_spec (by omega) (by omega),bind_unit,chk_true (by rw [hl3]; omega),eD]
 refine push_loopE p.2.2 (fun x=>x) (fun i l=>(i,(p.1,(p.2.1,(l,()))))) (fun ih i hi l hli=>?_) (fun ih=>?_) (by omega)
 ·have hlt:(i:Int)<((p.2.2.map txtI).length:Int):=by rw [List.length_map]; omega
  have hg:(p.2.2.map txtI).getD i []=txtI p.2.2[i]:=by rw [getD_lt (by rw [List.length_map]; exact hi),List.getElem_map]
  simp only [br_yes hlt,Int.toNat_natCast]
  rw [chk_true (by omega),hg,iParseInstr_txt (hi4 _ (List.getElem_mem hi)) hn,bind_unit]
  simp only [Bool.not_true,br_false]
  rw [chk_true (by simp only [List.length_cons,List.length_nil]; omega),w64_succ (by omega)]
 ·have hlt:¬ ((p.2.2.length:Int)<((p.2.2.map txtI).length:Int)):=by rw [List.length_map]; omega
  simp only [br_no hlt,Bool.not_true,br_false]
  rw [List.map_id'' (fun _=>rfl)]
  show cut ((iIsProgram.f n p).bind _) _=_
  rw [iIsProgram_spec ⟨by omega⟩ (by omega),h,bind_unit]
  rfl
end Go.AmT
namespace Go.AmT
open Go Go.Am Go.Proofs
set_option linter.unusedVariables false
set_option maxRecDepth 100000
def tys23:List (Nat×TInfo):=[(3,⟨false,1,8,[.int .i64 0],.int .i64,0,some I,[],false⟩),
 (9,⟨false,1,16,[.str []],.str,0,some .str,[],false⟩),
 (23,⟨false,1,24,[.nil],.slice,68,some (.sl tProgram),[],false⟩),
 (24,⟨false,1,24,[.nil],.slice,71,some (.sl tLink),[],false⟩),
 (26,⟨true,2,48,[.nil,.nil],.struct,0,some tNetwork,[(0,23),(1,24)],false⟩),
 (32,⟨false,1,24,[.nil],.slice,3,some IS,[],false⟩),
 (68,⟨true,3,40,[.int .i64 0,.int .i64 0,.nil],.struct,0,some tProgram,[(0,3),(1,3),(2,66)],false⟩),
 (71,⟨true,5,56,[.int .i64 0,.int .i64 0,.int .i64 0,.int .i64 0,.nil],.struct,0,some tLink,[(0,3),(1,3),(2,3),(3,3),(4,32)],false⟩)]
theorem tys23_ok:(tys23.all fun p=>tokB Tryz.prog p.1 p.2)=true:=by kernel_rfl
def fmtNetwork.las:List (Nat×LA):=[(7,⟨[(3,.str),(14,.int .i64)],[],[1,12,13],[]⟩),(16,⟨[(3,.str),(28,.int .i64)],[],[26,27],[]⟩)]
noncomputable def fmtNetwork.f (n:Nat) (a0:Network):Option ((List UInt8)×Unit):=(sIsNetwork.f n a0).bind fun r1=>br (!r1.1) (some ([],())) (iter (α:=((List UInt8)×(Int×Unit))) n (fun ih15 x14=>br (decide (x14.2.1<(a0.1.length:Int))) (chk (0≤x14.2.1∧x14.2.1<(a0.1.length:Int)) (let v16:=(a0.1.getD x14.2.1.toNat zProgram); chk (x14.1.length+([112,114,111,99,101,115,115,32]:List UInt8).length<maxS) ((fmtProgram.f n v16).bind fun r17=>chk ((x14.1++([112,114,111,99,101,115,115,32]:List UInt8)).length+r17.1.length<maxS) (chk (((x14.1++([112,114,111,99,101,115,115,32]:List UInt8))++r17.1).length+([10]:List UInt8).length<maxS) (ih15 ((((x14.1++([112,114,111,99,101,115,115,32]:List UInt8))++r17.1)++([10]:List UInt8)),((w64 (x14.2.1+1)),()))))))) (iter (α:=((List UInt8)×(Int×Unit))) n (fun ih29 x28=>br (decide (x28.2.1<(a0.2.length:Int))) (chk (0≤x28.2.1∧x28.2.1<(a0.2.length:Int)) (let v30:=(a0.2.getD x28.2.1.toNat zLink); chk (x28.1.length+([108,105,110,107,32]:List UInt8).length<maxS) ((l1Number.f n v30.1).bind fun r31=>chk ((x28.1++([108,105,110,107,32]:List UInt8)).length+r31.1.length<maxS) (chk (((x28.1++([108,105,110,107,32]:List UInt8))++r31.1).length+([32]:List UInt8).length<maxS) ((l1Number.f n v30.2.1).bind fun r32=>chk ((((x28.1++([108,105,110,107,32]:List UInt8))++r31.1)++([32]:List UInt8)).length+r32.1.length<maxS) (chk (((((x28.1++([108,105,110,107,32]:List UInt8))++r31.1)++([32]:List UInt8))++r32.1).length+([32]:List UInt8).length<maxS) ((l1Number.f n v30.2.2.1).bind fun r33=>chk ((((((x28.1++([108,105,110,107,32]:List UInt8))++r31.1)++([32]:List UInt8))++r32.1)++([32]:List UInt8)).length+r33.1.length<maxS) (chk (((((((x28.1++([108,105,110,107,32]:List UInt8))++r31.1)++([32]:List UInt8))++r32.1)++([32]:List UInt8))++r33.1).length+([32]:List UInt8).length<maxS) ((l1Number.f n v30.2.2.2.1).bind fun r34=>chk ((((((((x28.1++([108,105,110,107,32]:List UInt8))++r31.1)++([32]:List UInt8))++r32.1)++([32]:List UInt8))++r33.1)++([32]:List UInt8)).length+r34.1.length<maxS) (chk (((((((((x28.1++([108,105,110,107,32]:List UInt8))++r31.1)++([32]:List UInt8))++r32.1)++([32]:List UInt8))++r33.1)++([32]:List UInt8))++r34.1).length+([32]:List UInt8).length<maxS) ((fmtStream.f n v30.2.2.2.2).bind fun r35=>chk ((((((((((x28.1++([108,105,110,107,32]:List UInt8))++r31.1)++([32]:List UInt8))++r32.1)++([32]:List UInt8))++r33.1)++([32]:List UInt8))++r34.1)++([32]:List UInt8)).length+r35.1.length<maxS) (chk (((((((((((x28.1++([108,105,110,107,32]:List UInt8))++r31.1)++([32]:List UInt8))++r32.1)++([32]:List UInt8))++r33.1)++([32]:List UInt8))++r34.1)++([32]:List UInt8))++r35.1).length+([10]:List UInt8).length<maxS) (ih29 ((((((((((((x28.1++([108,105,110,107,32]:List UInt8))++r31.1)++([32]:List UInt8))++r32.1)++([32]:List UInt8))++r33.1)++([32]:List UInt8))++r34.1)++([32]:List UInt8))++r35.1)++([10]:List UInt8)),((w64 (x28.2.1+1)),()))))))))))))))) (some (x28.1,()))) (x14.1,(0,())))) ([],(0,())))
noncomputable def fmtNetwork.mng (n:Nat):Mng:=⟨[.val tNetwork],[.val .str],fun x=>fmtNetwork.f n x.1⟩
noncomputable def fmtNetwork.cfg (n:Nat):Cfg:=⟨tys23,[(31,sIsNetwork.mng n),(32,fmtProgram.mng n),(34,fmtStream.mng n)],[(33,l1Number.mng n)],[]⟩
theorem fmtNetwork.gof:GoF Tryz.prog 9:=⟨_,Tryz.func9,by kernel_rfl,by kernel_rfl⟩
theorem fmtNetwork.sound (n:Nat):Sound Tryz.prog 9 (fmtNetwork.mng n):=sndF (c:=fmtNetwork.cfg n) (n:=n) (an:=annOf Tryz.f9 fmtNetwork.las) ⟨⟨sIsNetwork.sound n,sIsNetwork.gof⟩,⟨⟨fmtProgram.sound n,fmtProgram.gof⟩,⟨⟨fmtStream.sound n,fmtStream.gof⟩,trivial⟩⟩⟩ ⟨⟨l1Number.sound n,l1Number.gof⟩,trivial⟩ (tysOK tys23_ok) Tryz.func9 (fun x=>by kernel_rfl)
def iFmtNetwork.las:List (Nat×LA):=[(7,⟨[(3,.str),(14,.int .i64)],[],[1,12,13],[]⟩),(16,⟨[(3,.str),(28,.int .i64)],[],[26,27],[]⟩)]
noncomputable def iFmtNetwork.f (n:Nat) (a0:Network):Option ((List UInt8)×Unit):=(iIsNetwork.f n a0).bind fun r1=>br (!r1.1) (some ([],())) (iter (α:=((List UInt8)×(Int×Unit))) n (fun ih15 x14=>br (decide (x14.2.1<(a0.1.length:Int))) (chk (0≤x14.2.1∧x14.2.1<(a0.1.length:Int)) (let v16:=(a0.1.getD x14.2.1.toNat zProgram); (iFmtProgram.f n v16).bind fun r17=>chk (([112,114,111,99,101,115,115,32]:List UInt8).length+r17.1.length<maxS) (chk ((([112,114,111,99,101,115,115,32]:List UInt8)++r17.1).length+([10]:List UInt8).length<maxS) (chk (x14.1.length+((([112,114,111,99,101,115,115,32]:List UInt8)++r17.1)++([10]:List UInt8)).length<maxS) (ih15 ((x14.1++((([112,114,111,99,101,115,115,32]:List UInt8)++r17.1)++([10]:List UInt8))),((w64 (x14.2.1+1)),()))))))) (iter (α:=((List UInt8)×(Int×Unit))) n (fun ih26 x25=>br (decide (x25.2.1<(a0.2.length:Int))) (chk (0≤x25.2.1∧x25.2.1<(a0.2.length:Int)) (let v27:=(a0.2.getD x25.2.1.toNat zLink); (iListed.f n ([v27.1,v27.2.1,v27.2.2.1,v27.2.2.2.1]:List Int)).bind fun r28=>chk (([108,105,110,107,32]:List UInt8).length+r28.1.length<maxS) ((iFmtStream.f n v27.2.2.2.2).bind fun r29=>chk ((([108,105,110,107,32]:List UInt8)++r28.1).length+r29.1.length<maxS) (chk (((([108,105,110,107,32]:List UInt8)++r28.1)++r29.1).length+([10]:List UInt8).length<maxS) (chk (x25.1.length+(((([108,105,110,107,32]:List UInt8)++r28.1)++r29.1)++([10]:List UInt8)).length<maxS) (ih26 ((x25.1++(((([108,105,110,107,32]:List UInt8)++r28.1)++r29.1)++([10]:List UInt8))),((w64 (x25.2.1+1)),())))))))) (some (x25.1,()))) (x14.1,(0,())))) ([],(0,())))
noncomputable def iFmtNetwork.mng (n:Nat):Mng:=⟨[.val tNetwork],[.val .str],fun x=>iFmtNetwork.f n x.1⟩
noncomputable def iFmtNetwork.cfg (n:Nat):Cfg:=⟨tys23,[(46,iIsNetwork.mng n),(164,iFmtProgram.mng n),(165,iListed.mng n),(18,iFmtStream.mng n)],[],[]⟩
theorem iFmtNetwork.gof:GoF Tryz.prog 119:=⟨_,Tryz.func119,by kernel_rfl,by kernel_rfl⟩
theorem iFmtNetwork.sound (n:Nat):Sound Tryz.prog 119 (iFmtNetwork.mng n):=sndF (c:=iFmtNetwork.cfg n) (n:=n) (an:=annOf Tryz.f119 iFmtNetwork.las) ⟨⟨iIsNetwork.sound n,iIsNetwork.gof⟩,⟨⟨iFmtProgram.sound n,iFmtProgram.gof⟩,⟨⟨iListed.sound n,iListed.gof⟩,⟨⟨iFmtStream.sound n,iFmtStream.gof⟩,trivial⟩⟩⟩⟩ trivial (tysOK tys23_ok) Tryz.func119 (fun x=>by kernel_rfl)
end Go.AmT
