/- Texts that are read, in plain Lean: pieces, numbers, streams. -/
import Derived.Test.YtfoamipegmbcgaaGreatDoorMKpF11
import Derived.Lib.AtoiTie
import Derived.Lib.AtoiAllCases
namespace Go.AmT
open Go Go.Am
set_option linter.unusedVariables false
set_option linter.unusedSimpArgs false
theorem zI {c:UInt8} : ∀ {a:List UInt8},c∉a→cC c a=[a]
 | [],_=>rfl
 | x::xs,h=>by
  have h1:x≠c:=fun e=>h (by simp [e])
  have h2:c∉xs:=fun e=>h (by simp [e])
  rw [cC,if_neg h1,zI h2]; rfl
theorem tg {c:UInt8} (b:List UInt8):∀ {a:List UInt8},c∉a→cC c (a++c::b)=a::cC c b
 | [],_=>by rw [List.nil_append,cC,if_pos rfl]
 | x::xs,h=>by
  have h1:x≠c:=fun e=>h (by simp [e])
  have h2:c∉xs:=fun e=>h (by simp [e])
  rw [List.cons_append,cC,if_neg h1,tg b h2]; rfl
theorem vh (c:UInt8):∀ t:List UInt8,∀ p∈cC c t,p.length+(cC c t).length≤t.length+1
 | []=>by simp [cC]
 | x::xs=>by
  have h2:=vh c xs
  rw [cC]
  have av:=DW c xs
  split
  ·intro p hp
   rcases List.mem_cons.1 hp with rfl | hp
   ·obtain ⟨a,ha⟩:=List.exists_mem_of_ne_nil _ av
    have:=h2 a ha
    simp only [List.length_cons,List.length_nil]; omega
   ·have:=h2 p hp; simp only [List.length_cons]; omega
  ·cases h:cC c xs with
   | nil=>exact absurd h av
   | cons a b=>
    rw [h] at h2
    intro p hp
    rcases List.mem_cons.1 hp with rfl | hp
    ·have:=h2 a (by simp); simp only [y0,List.length_cons] at this ⊢; omega
    ·have:=h2 p (by simp [hp]); simp only [y0,List.length_cons] at this ⊢; omega
theorem Cb (c:UInt8) (t:List UInt8):(cC c t).length≤t.length+1:=by
 obtain ⟨a,ha⟩:=List.exists_mem_of_ne_nil _ (DW c t)
 have:=vh c t a ha
 omega
theorem th {n:Nat} {s:List UInt8} {c:UInt8} (hs:s.length≤1048576):fG.f n s [c]=some (cC c s,()):=by
 exact if_pos (show s.length<4294967281 by omega)
theorem zJ {k:Nat} (h:k<10):(UInt8.ofNat (48+k)).toNat=48+k:=by rw [UInt8.toNat_ofNat']; omega
theorem Cc:∀ (k u:Nat),u<10 ^ (k+1)→∀ c∈Lib.decDigits u,48≤c.toNat∧c.toNat≤57
 | 0,u,h=>by
  rw [Lib.decDigits_one (by simpa using h)]
  intro c hc
  rw [List.mem_singleton.1 hc,zJ (by simpa using h)]
  have:u<10:=by simpa using h
  omega
 | k+1,u,h=>by
  by_cases hu:u<10
  ·rw [Lib.decDigits_one hu]
   intro c hc
   rw [List.mem_singleton.1 hc,zJ hu]
   omega
  ·rw [B5 hu]
   rw [Nat.pow_succ] at h
   intro c hc
   rcases List.mem_append.1 hc with hc | hc
   ·exact Cc k (u / 10) (by omega) c hc
   ·rw [List.mem_singleton.1 hc,zJ (by omega)]
    omega
theorem Iy (u:Nat):Lib.decDigits u≠[]:=by
 by_cases hu:u<10
 ·rw [Lib.decDigits_one hu]; simp
 ·rw [B5 hu]; simp
def zK (l:List UInt8):Nat:=l.foldl (fun a c=>10*a+(c.toNat-48)) 0
theorem Iz (l:List UInt8) (c:UInt8):zK (l++[c])=10*zK l+(c.toNat-48):=by simp [zK]
theorem OB:∀ (k u:Nat),u<10 ^ (k+1)→zK (Lib.decDigits u)=u
 | 0,u,h=>by
  have h:u<10:=by simpa using h
  rw [Lib.decDigits_one h,← List.nil_append [_],Iz,zJ h]
  simp [zK]
 | k+1,u,h=>by
  by_cases hu:u<10
  ·rw [Lib.decDigits_one hu,← List.nil_append [_],Iz,zJ hu]
   simp [zK]
  ·rw [Nat.pow_succ] at h
   rw [B5 hu,Iz,OB k (u / 10) (by omega),zJ (by omega)]
   omega
theorem OC:∀ (l:List UInt8) (a:Nat),(∀ c∈l,48≤c.toNat∧c.toNat≤57)→Lib.decFrom a l=some (l.foldl (fun a c=>10*a+(c.toNat-48)) a)
 | [],a,_=>rfl
 | c::l,a,h=>by
  have h2:=h c (by simp)
  rw [Lib.decFrom,Lib.digitVal,if_pos h2]
  show Lib.decFrom (a*10+(c.toNat-48)) l=_
  rw [OC l _ (fun d hd=>h d (by simp [hd])),Nat.mul_comm]
  rfl
theorem XD {x:Int} (h0 : -1000000≤x) (h1:x≤1000000):Lib.atoiAll (Lib.itoa x) = .ok x:=by
 have hl:=dB h0 h1
 have OD:∀ k:Nat,k≤1000000→Lib.decNat (Lib.decDigits k)=some k:=fun k hk=>by
  have hp:k<10 ^ (6+1):=by omega
  have av:=Iy k
  unfold Lib.decNat
  rw [if_neg (by simpa using av),OC _ 0 (Cc 6 k hp)]
  exact congrArg some (OB 6 k hp)
 rw [Lib.atoiAll_short _ (by omega)]
 unfold Lib.itoa
 by_cases hx:x<0
 ·rw [if_pos hx]
  show Lib.NumEnd.ofOption ((Lib.decNat (Lib.decDigits x.natAbs)).map fun (m:Nat)=>-(m:Int))=_
  rw [OD _ (by omega)]
  show Lib.NumEnd.ok (-(x.natAbs:Int))=_
  rw [show -(x.natAbs:Int)=x by omega]
 ·rw [if_neg hx]
  have hp:x.toNat<10 ^ (6+1):=by omega
  have hd:=OD x.toNat (by omega)
  have OE:=Cc 6 x.toNat hp
  cases hD:Lib.decDigits x.toNat with
  | nil=>exact absurd hD (Iy _)
  | cons b r=>
   rw [hD] at hd OE
   have hb:=OE b (by simp)
   have XE:(b==45)=false:=beq_eq_false_iff_ne.2 (fun e=>by rw [e] at hb; exact absurd hb.1 (by decide))
   have XF:(b==43)=false:=beq_eq_false_iff_ne.2 (fun e=>by rw [e] at hb; exact absurd hb.1 (by decide))
   unfold Lib.atoi
   simp only [XE,XF,Bool.false_eq_true,if_false]
   rw [hd]
   show Lib.NumEnd.ok ((x.toNat:Nat):Int)=_
   rw [show ((x.toNat:Nat):Int)=x by omega]
theorem vi {n:Nat} {x:Int} (h0 : -1000000≤x) (h1:x≤1000000):dP.f n (Lib.itoa x)=some (x,(true,())):=by
 have hl:=dB h0 h1
 have ha:kP.f n (Lib.itoa x)=some (x,(true,())):=by
  unfold kP.f uC
  rw [if_pos (by omega),XD h0 h1]
  rfl
 unfold dP.f
 rw [ha,aA]
 simp only [aL]
 rw [oJ h0 h1,aA,decide_eq_true rfl]
theorem vj {n:Nat} {s:List UInt8} (hs:s.length≤1048576):W (dP.f n s) (fun _=>True):=by
 have ha:W (kP.f n s) (fun r=>r.2.1=true→-9223372036854775808≤r.1∧r.1≤9223372036854775807):=by
  unfold kP.f uC
  rw [if_pos (by omega)]
  cases h:Lib.atoiAll s with
  | ok v=>exact aj.2 (fun _=>Lib.atoiAll_bounds h)
  | «syntax»=>exact aj.2 (fun h=>by cases h)
  | range=>exact aj.2 (fun h=>by cases h)
 unfold dP.f
 rw [aB]
 refine au ha (fun r hr=>?_)
 rw [bH]
 refine ⟨fun h=>?_,fun _=>aj.2 trivial⟩
 unfold cY.f uA
 rw [if_pos (hr h)]
 exact aj.2 trivial
theorem OF {x:Int} (h0 : -1000000≤x) (h1:x≤1000000):∀ c∈Lib.itoa x,c=45∨(48≤c.toNat∧c.toNat≤57):=by
 intro c hc
 unfold Lib.itoa at hc
 split at hc
 ·rcases List.mem_cons.1 hc with rfl | hc
  ·exact .inl rfl
  ·exact .inr (Cc 6 x.natAbs (by omega) c hc)
 ·exact .inr (Cc 6 x.toNat (by omega) c hc)
theorem zL {x:Int} (h : -1000000≤x∧x≤1000000) {c:UInt8} (XG:c≠45) (hd:¬ (48≤c.toNat∧c.toNat≤57)):c∉Lib.itoa x:=fun hc=>by
 rcases OF h.1 h.2 c hc with e | e
 ·exact XG e
 ·exact hd e
theorem Ez (x:Int):Lib.itoa x≠[]:=by
 unfold Lib.itoa
 split
 ·simp
 ·exact Iy _
theorem OG {n:Nat} {s:List UInt8} (hs:s.length≤1048575) (hn:1048577<n):W (vg.f n s) (fun r=>bG r.1=true):=by
 have hB:=mr
 unfold vg.f
 rw [bI]
 refine ⟨fun _=>aj.2 rfl,fun _=>?_⟩
 rw [th (by omega),aA]
 have hl:=Cb 44 s
 have hp:=vh 44 s
 generalize cC 44 s=L at hl hp
 refine fA (fun (i:Nat) (o:List Int)=>((i:Int),(o,()))) L.length (fun i o=>o.length≤i) (s0:=[]) rfl (by simp) (by omega) (fun ih o hI=>?_) (fun ih i o hi hI hS=>?_)
 ·have hI:o.length≤L.length:=hI
  simp only [aK (Int.lt_irrefl _)]
  rw [uH (by omega) (by omega),aA]
  cases ho:bG o
  ·exact aj.2 rfl
  ·exact aj.2 ho
 ·have hI:o.length≤i:=hI
  simp only [aZ (show (i:Int)<(L.length:Int) by omega),Int.toNat_natCast]
  have hq:=hp (L.getD i []) (by rw [aH hi]; exact List.getElem_mem _)
  rw [ah (by omega),aB]
  refine au (vj (by omega)) (fun r _=>?_)
  rw [bH]
  refine ⟨fun _=>aj.2 rfl,fun _=>?_⟩
  rw [ah (by simp only [List.length_cons,List.length_nil]; omega),bm (by omega)]
  exact hS _ (by show (o++[r.1]).length≤i+1; simp; omega)
end Go.AmT
namespace Go.AmT
noncomputable section
open Go Go.Am Go.Proofs
set_option linter.unusedVariables false
set_option maxRecDepth 100000
def oK.f (n:Nat) (a0:List (List UInt8)) (a1:List UInt8):Option (Int×Unit):=iter (α:=(Int×Unit)) n (fun gP x5=>br (decide (x5.1<(a0.length:Int))) (ab (0≤x5.1∧x5.1<(a0.length:Int)) (br (decide (a1=(a0.getD x5.1.toNat []))) (some (x5.1,())) (gP ((ag (x5.1+1)),())))) (some ((-1),()))) (0,())
def oK.ae (n:Nat):ar:=⟨[.val (.sl .str),.val .str],[.val I],fun x=>oK.f n x.1 x.2.1⟩
theorem oK.ok (n:Nat):aN 195 (oK.ae n):=aQ n [(3,⟨[(8,.int .i64)],[],[0,1,7],[]⟩)] [] aC aD Tryz.func195
def gv.bY:List (Nat×LA):=[(500012,⟨[],[],[],[]⟩)]
def gv.f (n:Nat) (a0:List UInt8):Option (Instr×(Bool×Unit)):=(fG.f n a0 ([32]:List UInt8)).bind fun r1=>(pN.f n ).bind fun r2=>ab ((0:Int)≤0∧(0:Int)<(r1.1.length:Int)) ((oK.f n r2.1 (r1.1.getD 0 [])).bind fun r3=>br (decide (r3.1<1)) (some ((0,(0,(0,0))),(false,()))) (br (jB r3.1) (br (!decide (2=(ag ((r1.1.length:Int)-1)))) (some ((0,(0,(0,0))),(false,()))) (ab ((0:Int)≤1∧(1:Int)<(r1.1.length:Int)) ((dP.f n (r1.1.getD 1 [])).bind fun r6=>br (!r6.2.1) (some ((0,(0,(0,0))),(false,()))) (ab ((0:Int)≤2∧(2:Int)<(r1.1.length:Int)) ((dP.f n (r1.1.getD 2 [])).bind fun r7=>br (!r7.2.1) (some ((0,(0,(0,0))),(false,()))) ((fv.f n (r3.1,(r6.1,(r7.1,0)))).bind fun r8=>br (!decide (r8.1=a0)) (some ((0,(0,(0,0))),(false,()))) (some ((r3.1,(r6.1,(r7.1,0))),(true,()))))))))) (br (ij r3.1) (br (!decide (3=(ag ((r1.1.length:Int)-1)))) (some ((0,(0,(0,0))),(false,()))) (ab ((0:Int)≤1∧(1:Int)<(r1.1.length:Int)) ((dP.f n (r1.1.getD 1 [])).bind fun r9=>br (!r9.2.1) (some ((0,(0,(0,0))),(false,()))) (ab ((0:Int)≤2∧(2:Int)<(r1.1.length:Int)) ((dP.f n (r1.1.getD 2 [])).bind fun cH=>br (!cH.2.1) (some ((0,(0,(0,0))),(false,()))) (ab ((0:Int)≤3∧(3:Int)<(r1.1.length:Int)) ((dP.f n (r1.1.getD 3 [])).bind fun dA=>br (!dA.2.1) (some ((0,(0,(0,0))),(false,()))) ((fv.f n (r3.1,(r9.1,(cH.1,dA.1)))).bind fun fB=>br (!decide (fB.1=a0)) (some ((0,(0,(0,0))),(false,()))) (some ((r3.1,(r9.1,(cH.1,dA.1))),(true,()))))))))))) (br (lS r3.1) (br (!decide (1=(ag ((r1.1.length:Int)-1)))) (some ((0,(0,(0,0))),(false,()))) (ab ((0:Int)≤1∧(1:Int)<(r1.1.length:Int)) ((dP.f n (r1.1.getD 1 [])).bind fun dT=>br (!dT.2.1) (some ((0,(0,(0,0))),(false,()))) ((fv.f n (r3.1,(0,(dT.1,0)))).bind fun dp=>br (!decide (dp.1=a0)) (some ((0,(0,(0,0))),(false,()))) (some ((r3.1,(0,(dT.1,0))),(true,()))))))) (br (!decide (0=(ag ((r1.1.length:Int)-1)))) (some ((0,(0,(0,0))),(false,()))) ((fv.f n (r3.1,(0,(0,0)))).bind fun ko=>br (!decide (ko.1=a0)) (some ((0,(0,(0,0))),(false,()))) (some ((r3.1,(0,(0,0))),(true,())))))))))
def gv.ae (n:Nat):ar:=⟨[.val .str],[.val df,.val .bool],fun x=>gv.f n x.1⟩
def gv.cfg (n:Nat):aP:=⟨ly,[(69,fG.ae n),(196,pN.ae n),(195,oK.ae n),(122,dP.ae n),(198,fv.ae n)],[],[3000197]⟩
theorem gv.eq:∀ (n:Nat) (a0:List UInt8),wi (gv.cfg n) n Tryz.f163 (d_ Tryz.f163 gv.bY) [.val .str] [.val df,.val .bool] (a0,())=gv.f n a0:=by
 intros
 kernel_rfl
theorem gv.az:cG Tryz.prog 163:=dz Tryz.func163 (by kernel_rfl) (by kernel_rfl)
theorem gv.sound (n:Nat):Sound Tryz.prog 163 (gv.ae n):=Dv (fn:=Tryz.f163) (m:=gv.ae n) (c:=gv.cfg n) (uw mixed (su (.of (c:=gv.cfg n) ⟨⟨fG.sound n,fG.az⟩,⟨pN.ok n,⟨oK.ok n,⟨dP.ok n,⟨⟨fv.sound n,fv.az⟩,trivial⟩⟩⟩⟩⟩ (K6 (f:=197) rfl B8.Ox B8.az)) (.of (c:=gv.cfg n) trivial)) (dM km)) (dM km) Tryz.func163 (fun x=>(gv.eq n x.1).symm)
end
end Go.AmT
namespace Go.AmT
open Go Go.Am
set_option linter.unusedVariables false
set_option linter.unusedSimpArgs false
abbrev EA:Instr:=(0,(0,(0,0)))
theorem OH {op:Int} (h:1≤op∧op≤11) {c:UInt8} (hc:c.toNat<97):c∉ec op:=by
 have:∀ d∈ec op,97≤d.toNat:=by
  rcases B9 h with rfl | rfl | rfl | rfl | rfl | rfl | rfl | rfl | rfl | rfl | rfl<;>decide
 intro hm
 have:=this c hm
 omega
noncomputable def oL (x:Instr):List (List UInt8):=
 ec x.1::(if jB x.1 then [Lib.itoa x.2.1,Lib.itoa x.2.2.1] else if ij x.1 then [Lib.itoa x.2.1,Lib.itoa x.2.2.1,Lib.itoa x.2.2.2] else if lS x.1 then [Lib.itoa x.2.2.1] else [])
theorem XH {x:Instr} (O:Ew x):cC 32 (dO x)=oL x:=by
 have h0:(32:UInt8)∉ec x.1:=OH O.op (by decide)
 have ha:(32:UInt8)∉Lib.itoa x.2.1:=zL O.a (by decide) (by decide)
 have hb:(32:UInt8)∉Lib.itoa x.2.2.1:=zL O.b (by decide) (by decide)
 have hc:(32:UInt8)∉Lib.itoa x.2.2.2:=zL O.c (by decide) (by decide)
 unfold dO oL jy
 split
 ·have:ec x.1++([32]++Lib.itoa x.2.1++([32]++Lib.itoa x.2.2.1))=ec x.1++32::(Lib.itoa x.2.1++32::Lib.itoa x.2.2.1):=by simp
  rw [this,tg _ h0,tg _ ha,zI hb]
 ·split
  ·have:ec x.1++([32]++Lib.itoa x.2.1++([32]++Lib.itoa x.2.2.1++([32]++Lib.itoa x.2.2.2)))=ec x.1++32::(Lib.itoa x.2.1++32::(Lib.itoa x.2.2.1++32::Lib.itoa x.2.2.2)):=by simp
   rw [this,tg _ h0,tg _ ha,tg _ hb,zI hc]
  ·split
   ·have:ec x.1++([32]++Lib.itoa x.2.2.1)=ec x.1++32::Lib.itoa x.2.2.1:=by simp
    rw [this,tg _ h0,zI hb]
   ·rw [List.append_nil,zI h0]
structure zM (s:List UInt8) (r:Instr×(Bool×Unit)):Prop where
 all:∀ x,eG 3 3 24 x=true→dO x=s→r=(x,(true,()))
 ri:(∃ x,eG 3 3 24 x=true∧dO x=s)∨r=(EA,(false,()))
theorem zM.one {s:List UInt8} {r r':Instr×(Bool×Unit)} (h:zM s r) (h':zM s r'):r=r':=by
 rcases h.ri with ⟨x,o,e⟩ | e
 ·rw [h.all x o e,h'.all x o e]
 ·rcases h'.ri with ⟨x,o,e'⟩ | e'
  ·rw [h.all x o e',h'.all x o e']
  ·rw [e,e']
theorem XI {s:List UInt8} {m:Option (Instr×(Bool×Unit))} (h1:W m (fun r=>r=(EA,(false,()))∨(eG 3 3 24 r.1=true∧dO r.1=s))) (h2:∀ x,eG 3 3 24 x=true→dO x=s→m=some (x,(true,()))):W m (zM s):=by
 obtain ⟨r,e,h⟩:=h1
 refine ⟨r,e,⟨fun x o et=>?_,?_⟩⟩
 ·rw [h2 x o et] at e
  exact (Option.some.inj e).symm
 ·rcases h with h | ⟨o,et⟩
  ·exact .inr h
  ·exact .inl ⟨_,o,et⟩
theorem OI {op:Int} (h:1≤op∧op≤11) (i:Nat) (hi:i<12):kt.getD i []=ec op↔(i:Int)=op:=by
 constructor
 ·intro e
  have:∀ i:Fin 12,∀ j:Fin 12,kt.getD i.val []=kt.getD j.val []→i=j:=by decide
  have h2:=this ⟨i,hi⟩ ⟨op.toNat,by omega⟩ e
  have:=congrArg Fin.val h2
  simp only at this
  omega
 ·intro e
  rw [← e]
  unfold ec
  rw [Int.toNat_natCast]
theorem XJ {n:Nat} {op:Int} (h:1≤op∧op≤11) (hn:1048576<n):oK.f n kt (ec op)=some (op,()):=by
 have rh:kt.length=12:=rfl
 unfold oK.f
 refine iz.1 (fA (fun (i:Nat) (_:Unit)=>((i:Int),())) 12 (fun i _=>(i:Int)≤op) (s0:=()) rfl (by omega) (by omega) (fun ih _ hI=>?_) (fun ih i _ hi hI hS=>?_))
 ·have hI:((12:Nat):Int)≤op:=hI
  omega
 ·have hI:(i:Int)≤op:=hI
  simp only [aZ (show (i:Int)<(kt.length:Int) by rw [rh]; omega),Int.toNat_natCast]
  rw [ah (by rw [rh]; omega),bI]
  refine ⟨fun e=>?_,fun e=>?_⟩
  ·rw [aj,(OI h i hi).1 e.symm]
  ·rw [bm (by omega)]
   refine hS () ?_
   have:¬ (i:Int)=op:=fun c=>e ((OI h i hi).2 c).symm
   show ((i+1:Nat):Int)≤op
   omega
theorem XK {n:Nat} {w:List UInt8} (hn:1048576<n):W (oK.f n kt w) (fun _=>True):=by
 have rh:kt.length=12:=rfl
 unfold oK.f
 refine fA (fun (i:Nat) (_:Unit)=>((i:Int),())) 12 (fun i _=>True) (s0:=()) rfl trivial (by omega) (fun ih _ hI=>?_) (fun ih i _ hi hI hS=>?_)
 ·simp only [aK (show ¬ ((12:Nat):Int)<(kt.length:Int) by rw [rh]; omega)]
  exact aj.2 trivial
 ·simp only [aZ (show (i:Int)<(kt.length:Int) by rw [rh]; omega),Int.toNat_natCast]
  rw [ah (by rw [rh]; omega),bI]
  exact ⟨fun e=>aj.2 trivial,fun e=>by rw [bm (by omega)]; exact hS () trivial⟩
theorem XL {op:Int} (h:jB op=true):ij op=false:=by
 simp only [jB,ij,decide_eq_true_eq,decide_eq_false_iff_not] at h ⊢
 omega
theorem XM {op:Int} (h:1≤op∧op≤11) (ha:jB op=false) (hb:ij op=false) (hc:lS op=false):op=11:=by
 simp only [jB,ij,lS,decide_eq_false_iff_not] at ha hb hc
 omega
theorem EB {x:Instr} {a b c:Int} (h1:a=x.2.1) (h2:b=x.2.2.1) (h3:c=x.2.2.2):(x.1,(a,(b,c)))=x:=by subst h1; subst h2; subst h3; rfl
theorem OJ {n:Nat} {x:Instr} (h:eG 3 3 24 x=true) (hn:1048577<n):gv.f n (dO x)=some (x,(true,())):=by
 have O:=zG h (by omega) (by omega) (by omega)
 have hl:=Oy O
 have hf:lJ x=dO x:=if_pos h
 have aw:=O.op
 unfold gv.f
 rw [th (by omega),XH O,aA,Ev,aA]
 have g0:(oL x).getD 0 []=ec x.1:=rfl
 dsimp only
 rw [ah (by simp [oL]),g0,XJ aw (by omega),aA]
 dsimp only
 rw [aK (by omega)]
 cases hA:jB x.1
 ·cases hB:ij x.1
  ·cases hC:lS x.1
   ·have hp:oL x=[ec x.1]:=by simp [oL,hA,hB,hC]
    have XN:=XM aw hA hB hC
    simp only [aF]
    rw [hp]
    have w0:ag (([ec x.1].length:Int)-1)=0:=bo (n:=0) (by omega) (by omega)
    rw [w0,decide_eq_true rfl,EB (O.na hA hB).symm (O.nb XN).symm (O.nc hB).symm,zH,hf,aA,decide_eq_true rfl]
    rfl
   ·have hp:oL x=[ec x.1,Lib.itoa x.2.2.1]:=by simp [oL,hA,hB,hC]
    simp only [aF,aL]
    rw [hp]
    have w0:ag (([ec x.1,Lib.itoa x.2.2.1].length:Int)-1)=1:=bo (n:=1) (by omega) (by omega)
    have g1:[ec x.1,Lib.itoa x.2.2.1].getD 1 []=Lib.itoa x.2.2.1:=rfl
    rw [w0,decide_eq_true rfl]
    simp only [Bool.not_true,aF]
    rw [ah (by simp),g1,vi O.b.1 O.b.2,aA]
    simp only [Bool.not_true,aF]
    rw [EB (O.na hA hB).symm rfl (O.nc hB).symm,zH,hf,aA,decide_eq_true rfl]
    rfl
  ·have hp:oL x=[ec x.1,Lib.itoa x.2.1,Lib.itoa x.2.2.1,Lib.itoa x.2.2.2]:=by simp [oL,hA,hB]
   simp only [aF,aL]
   rw [hp]
   have w0:ag (([ec x.1,Lib.itoa x.2.1,Lib.itoa x.2.2.1,Lib.itoa x.2.2.2].length:Int)-1)=3:=bo (n:=3) (by omega) (by omega)
   have g1:[ec x.1,Lib.itoa x.2.1,Lib.itoa x.2.2.1,Lib.itoa x.2.2.2].getD 1 []=Lib.itoa x.2.1:=rfl
   have g2:[ec x.1,Lib.itoa x.2.1,Lib.itoa x.2.2.1,Lib.itoa x.2.2.2].getD 2 []=Lib.itoa x.2.2.1:=rfl
   have g3:[ec x.1,Lib.itoa x.2.1,Lib.itoa x.2.2.1,Lib.itoa x.2.2.2].getD 3 []=Lib.itoa x.2.2.2:=rfl
   rw [w0,decide_eq_true rfl]
   simp only [Bool.not_true,aF]
   rw [ah (by simp),g1,vi O.a.1 O.a.2,aA]
   simp only [Bool.not_true,aF]
   rw [ah (by simp),g2,vi O.b.1 O.b.2,aA]
   simp only [Bool.not_true,aF]
   rw [ah (by simp),g3,vi O.c.1 O.c.2,aA]
   simp only [Bool.not_true,aF]
   rw [EB rfl rfl rfl,zH,hf,aA,decide_eq_true rfl]
   rfl
 ·have hB:=XL hA
  have hp:oL x=[ec x.1,Lib.itoa x.2.1,Lib.itoa x.2.2.1]:=by simp [oL,hA]
  simp only [aF,aL]
  rw [hp]
  have w0:ag (([ec x.1,Lib.itoa x.2.1,Lib.itoa x.2.2.1].length:Int)-1)=2:=bo (n:=2) (by omega) (by omega)
  have g1:[ec x.1,Lib.itoa x.2.1,Lib.itoa x.2.2.1].getD 1 []=Lib.itoa x.2.1:=rfl
  have g2:[ec x.1,Lib.itoa x.2.1,Lib.itoa x.2.2.1].getD 2 []=Lib.itoa x.2.2.1:=rfl
  rw [w0,decide_eq_true rfl]
  simp only [Bool.not_true,aF]
  rw [ah (by simp),g1,vi O.a.1 O.a.2,aA]
  simp only [Bool.not_true,aF]
  rw [ah (by simp),g2,vi O.b.1 O.b.2,aA]
  simp only [Bool.not_true,aF]
  rw [EB rfl rfl (O.nc hB).symm,zH,hf,aA,decide_eq_true rfl]
  rfl
theorem XO {n:Nat} {s:List UInt8} (hs:s.length≤1048576) (hn:1048577<n):W (gv.f n s) (fun r=>r=(EA,(false,()))∨(eG 3 3 24 r.1=true∧dO r.1=s)):=by
 by_cases h0:s=[]
 ·subst h0
  have hx:oK.f n kt []=some (0,()):=by
   obtain ⟨m,rfl⟩:∃ m,n=m+1:=⟨n-1,by omega⟩
   rfl
  unfold gv.f
  rw [th (by simp),aA,Ev,aA]
  dsimp only
  have g0:(cC 32 []).getD 0 []=[]:=rfl
  rw [ah (by simp [cC]),g0,hx,aA,aZ (by decide)]
  exact aj.2 (.inl rfl)
 ·have fin:∀ x:Instr,W ((fv.f n x).bind fun r8=>br (!decide (r8.1=s)) (some ((0,(0,(0,0))),(false,()))) (some (x,(true,())))) (fun r=>r=(EA,(false,()))∨(eG 3 3 24 r.1=true∧dO r.1=s)):=fun x=>by
   rw [zH,aA]
   by_cases e:lJ x=s
   ·rw [decide_eq_true e]
    refine aj.2 (.inr ?_)
    unfold lJ at e
    split at e
    ·rename_i h; exact ⟨h,e⟩
    ·exact absurd e.symm h0
   ·rw [decide_eq_false e]
    exact aj.2 (.inl rfl)
  unfold gv.f
  rw [th (by omega),aA,Ev,aA]
  have hp:=vh 32 s
  have av:=DW 32 s
  have hlen:=Cb 32 s
  dsimp only
  generalize cC 32 s=L at hp av hlen
  have fM:=List.length_pos_iff.2 av
  have piece:∀ j,j<L.length→(L.getD j []).length≤1048576:=fun j hj=>by
   have:=hp (L.getD j []) (by rw [aH hj]; exact List.getElem_mem _)
   omega
  have hw:ag ((L.length:Int)-1)=(L.length:Int)-1:=bo (by omega) (by omega)
  rw [ah (by omega),aB]
  refine au (XK (by omega)) (fun r3 _=>?_)
  rw [bI]
  refine ⟨fun _=>aj.2 (.inl rfl),fun _=>?_⟩
  rw [hw,bH]
  refine ⟨fun _=>?_,fun _=>?_⟩
  ·rw [bH]
   refine ⟨fun _=>aj.2 (.inl rfl),fun c=>?_⟩
   have c:(2:Int)=(L.length:Int)-1:=by simpa using c
   rw [ah (by omega),aB]
   refine au (vj (piece 1 (by omega))) (fun r6 _=>?_)
   rw [bH]
   refine ⟨fun _=>aj.2 (.inl rfl),fun _=>?_⟩
   rw [ah (by omega),aB]
   refine au (vj (piece 2 (by omega))) (fun r7 _=>?_)
   rw [bH]
   exact ⟨fun _=>aj.2 (.inl rfl),fun _=>fin _⟩
  rw [bH]
  refine ⟨fun _=>?_,fun _=>?_⟩
  ·rw [bH]
   refine ⟨fun _=>aj.2 (.inl rfl),fun c=>?_⟩
   have c:(3:Int)=(L.length:Int)-1:=by simpa using c
   rw [ah (by omega),aB]
   refine au (vj (piece 1 (by omega))) (fun r6 _=>?_)
   rw [bH]
   refine ⟨fun _=>aj.2 (.inl rfl),fun _=>?_⟩
   rw [ah (by omega),aB]
   refine au (vj (piece 2 (by omega))) (fun r7 _=>?_)
   rw [bH]
   refine ⟨fun _=>aj.2 (.inl rfl),fun _=>?_⟩
   rw [ah (by omega),aB]
   refine au (vj (piece 3 (by omega))) (fun r8 _=>?_)
   rw [bH]
   exact ⟨fun _=>aj.2 (.inl rfl),fun _=>fin _⟩
  rw [bH]
  refine ⟨fun _=>?_,fun _=>?_⟩
  ·rw [bH]
   refine ⟨fun _=>aj.2 (.inl rfl),fun c=>?_⟩
   have c:(1:Int)=(L.length:Int)-1:=by simpa using c
   rw [ah (by omega),aB]
   refine au (vj (piece 1 (by omega))) (fun r6 _=>?_)
   rw [bH]
   exact ⟨fun _=>aj.2 (.inl rfl),fun _=>fin _⟩
  ·rw [bH]
   exact ⟨fun _=>aj.2 (.inl rfl),fun _=>fin _⟩
theorem XP {n:Nat} {s:List UInt8} (hs:s.length≤1048576) (hn:1048577<n):∃ r,gv.f n s=some r∧zM s r:=XI (XO hs hn) (fun x o et=>by subst et; exact OJ o hn)
end Go.AmT
namespace Go.AmT
noncomputable section
open Go Go.Am Go.Proofs
set_option linter.unusedVariables false
set_option maxRecDepth 100000
def vk.f (n:Nat) (a0:Program):Option ((List UInt8)×Unit):=(iQ.f n a0).bind fun r1=>br (!r1.1) (some ([],())) ((bw.f n a0.1).bind fun r2=>ab (r2.1.length+([59]:List UInt8).length<aU) ((bw.f n a0.2.1).bind fun r3=>ab ((r2.1++([59]:List UInt8)).length+r3.1.length<aU) (iter (α:=((List UInt8)×(Int×Unit))) n (fun uJ cU=>br (decide (cU.2.1<(a0.2.2.length:Int))) (ab (0≤cU.2.1∧cU.2.1<(a0.2.2.length:Int)) (let v12:=(a0.2.2.getD cU.2.1.toNat je); ab (cU.1.length+([59]:List UInt8).length<aU) ((vf.f n v12).bind fun dT=>ab ((cU.1++([59]:List UInt8)).length+dT.1.length<aU) (uJ (((cU.1++([59]:List UInt8))++dT.1),((ag (cU.2.1+1)),())))))) (some (cU.1,()))) (((r2.1++([59]:List UInt8))++r3.1),(0,())))))
def vk.ae (n:Nat):ar:=⟨[.val bn],[.val .str],fun x=>vk.f n x.1⟩
theorem vk.ok (n:Nat):aN 32 (vk.ae n):=aQ n [(7,⟨[(3,.str),(20,.int .i64)],[],[18,19],[]⟩)] [] (ak ⟨iQ.sound n,iQ.az⟩ (ak (vf.ok n) aC)) (bA ⟨bw.sound n,bw.az⟩ aD) Tryz.func32
def vl.f (n:Nat) (a0:Program):Option ((List UInt8)×Unit):=(gq.f n a0).bind fun r1=>br (!r1.1) (some ([],())) ((cY.f n a0.1).bind fun r2=>(cY.f n a0.2.1).bind fun r3=>iter (α:=(Int×(List (List UInt8))×Unit)) n (fun uJ cU=>br (decide (cU.1<(a0.2.2.length:Int))) (ab (0≤cU.1∧cU.1<(a0.2.2.length:Int)) (let v12:=(a0.2.2.getD cU.1.toNat je); (fv.f n v12).bind fun dT=>ab ((cU.2.1.length+([dT.1]:List (List UInt8)).length)*16≤aW) (uJ ((ag (cU.1+1)),((cU.2.1++[dT.1]),()))))) ((kO.f n cU.2.1 ([59]:List UInt8)).bind fun dp=>some (dp.1,()))) (0,([r2.1,r3.1],())))
def vl.ae (n:Nat):ar:=⟨[.val bn],[.val .str],fun x=>vl.f n x.1⟩
theorem vl.ok (n:Nat):aN 164 (vl.ae n):=aQ n [(7,⟨[(3,.own 1000 .str),(19,.int .i64)],[(1000,.row true .str)],[17,18],[]⟩)] [] (ak ⟨gq.sound n,gq.az⟩ (ak ⟨cY.sound n,cY.az⟩ (ak ⟨fv.sound n,fv.az⟩ (ak ⟨kO.sound n,kO.az⟩ aC)))) aD Tryz.func164
end
end Go.AmT
namespace Go.AmT
noncomputable section
open Go Go.Am
set_option linter.unusedVariables false
set_option linter.unusedSimpArgs false
theorem tj {p:Program} (hp:cr p=true):(0≤p.1∧p.1≤3)∧(0≤p.2.1∧p.2.1≤3)∧(1≤p.2.2.length∧p.2.2.length≤24)∧∀ x∈p.2.2,eG p.1 p.2.1 (p.2.2.length:Int) x=true:=by
 unfold cr at hp
 simp only [Bool.and_eq_true,decide_eq_true_eq,List.all_eq_true] at hp
 exact ⟨hp.1.1.1,hp.1.1.2,hp.1.2,hp.2⟩
theorem XQ {ins outs size:Int} {x:Instr} (h:eG ins outs size x=true) (hi:ins≤3) (ho:outs≤3) (hs:size≤24):eG 3 3 24 x=true:=by
 have O:=zG h hi ho hs
 obtain ⟨op,a,b,c⟩:=x
 have key:=O.op
 unfold eG at h ⊢
 rcases B9 key with e | e | e | e | e | e | e | e | e | e | e<;>
 ·simp only at e
  subst e
  simp (config:={ decide:=true }) only [if_true,if_false,Bool.and_eq_true,decide_eq_true_eq,or_true,true_or,or_false,false_or] at h ⊢
  first | exact h | omega | (simp only [eQ,tok,Bool.and_eq_true,decide_eq_true_eq] at h ⊢; omega)
def pP (x:Instr):List UInt8:=[59]++lJ x
def kQ (p:Program):List UInt8:=Lib.itoa p.1++[59]++Lib.itoa p.2.1++(p.2.2.map pP).flatten
def xu (p:Program):List UInt8:=if cr p then kQ p else []
theorem OK (x:Instr):(pP x).length≤41:=by
 have:=Oz x
 simp only [pP,List.length_append,List.length_cons,List.length_nil]
 omega
theorem IA {p:Program} (h:cr p=true):(kQ p).length≤1100:=by
 obtain ⟨h1,h2,h3,h4⟩:=tj h
 have l1:=dB (x:=p.1) (by omega) (by omega)
 have l2:=dB (x:=p.2.1) (by omega) (by omega)
 have l3:=gZ pP 41 p.2.2 (fun x _=>OK x)
 simp only [kQ,List.length_append,List.length_cons,List.length_nil]
 omega
theorem IB (p:Program):(xu p).length≤1100:=by
 unfold xu
 split
 ·rename_i h; exact IA h
 ·simp
theorem XR {n:Nat} {p:Program} (hp:nZ p) (hn:1048576<n):vk.f n p=some (xu p,()):=by
 unfold vk.f xu
 rw [HD hp hn,aA]
 cases hk:cr p
 ·simp only [Bool.not_false,aL]; rfl
 ·obtain ⟨h1,h2,h3,h4⟩:=tj hk
  have l1:=dB (x:=p.1) (by omega) (by omega)
  have l2:=dB (x:=p.2.1) (by omega) (by omega)
  simp only [Bool.not_true,aF,if_true]
  rw [nG hn (by omega) (by omega),aA,eB (by simp only [List.length_cons,List.length_nil]; omega),nG hn (by omega) (by omega),aA,eB (by simp only [List.length_append,List.length_cons,List.length_nil]; omega)]
  have hm:∀ i,((p.2.2.take i).map pP).flatten.length≤1000:=fun i=>by
   have:=gZ pP 41 (p.2.2.take i) (fun y hy=>OK y)
   rw [List.length_take] at this
   have:=Nat.min_le_right i p.2.2.length
   omega
  refine Iv pP p.2.2 (Lib.itoa p.1++[59]++Lib.itoa p.2.1) (fun t i=>(t,(i,()))) (fun ih i hi=>?_) (fun ih=>?_) (by omega)
  ·have ao:(i:Int)<(p.2.2.length:Int):=by omega
   have Ow:=hm i
   have hf:=Oz (p.2.2.getD i je)
   simp only [aZ ao,Int.toNat_natCast]
   rw [ah (by omega),eB (by simp only [List.length_append,List.length_cons,List.length_nil]; omega),XB hn,aA,eB (by simp only [List.length_append,List.length_cons,List.length_nil]; omega),bm (by omega)]
   rw [It pP p.2.2 i hi,aH hi]
   simp only [pP,List.append_assoc]
  ·simp only [aK (Int.lt_irrefl _)]
   rfl
theorem OL (p:Program):Lib.join (Lib.itoa p.1::Lib.itoa p.2.1::p.2.2.map lJ) [59]=kQ p:=by
 rw [Lib.join_cons,Lib.joinTail,List.map_cons,List.map_map,List.flatten_cons]
 unfold kQ
 simp only [List.append_assoc]
 rfl
theorem XS {n:Nat} {p:Program} (hp:nZ p) (hn:1048576<n):vl.f n p=some (xu p,()):=by
 have hB:=mr
 unfold vl.f xu
 rw [BF hp hn,aA]
 cases hk:cr p
 ·simp only [Bool.not_false,aL]; rfl
 ·obtain ⟨h1,h2,h3,h4⟩:=tj hk
  have hL:=IA hk
  simp only [Bool.not_true,aF,if_true]
  rw [oJ (by omega) (by omega),aA,oJ (by omega) (by omega),aA]
  refine Xx p.2.2 lJ [Lib.itoa p.1,Lib.itoa p.2.1] (fun i l=>(i,(l,()))) (fun ih i hi l hl=>?_) (fun ih=>?_) (by omega)
  ·have ao:(i:Int)<(p.2.2.length:Int):=by omega
   simp only [List.length_cons,List.length_nil] at hl
   simp only [aZ ao,Int.toNat_natCast]
   rw [ah (by omega),zH,aA,ah (by simp only [List.length_cons,List.length_nil]; omega),bm (by omega),aH hi]
  ·simp only [aK (Int.lt_irrefl _)]
   have e:[Lib.itoa p.1,Lib.itoa p.2.1]++p.2.2.map lJ=Lib.itoa p.1::Lib.itoa p.2.1::p.2.2.map lJ:=rfl
   rw [e,Iw (by simp; omega) (by rw [OL]; omega),aA,OL]
end
end Go.AmT
namespace Go.AmT
noncomputable section
open Go Go.Am Go.Proofs
set_option linter.unusedVariables false
set_option maxRecDepth 100000
def pQ.f (n:Nat) (a0:List UInt8):Option (Program×(Bool×Unit)):=(fG.f n a0 ([59]:List UInt8)).bind fun r1=>br (decide ((r1.1.length:Int)<3)) (some ((0,(0,[])),(false,()))) (ab ((0:Int)≤0∧(0:Int)<(r1.1.length:Int)) ((dP.f n (r1.1.getD 0 [])).bind fun r2=>ab ((0:Int)≤1∧(1:Int)<(r1.1.length:Int)) ((dP.f n (r1.1.getD 1 [])).bind fun r3=>ab ((0:Int)≤2∧(2:Int)≤(r1.1.length:Int)∧(r1.1.length:Int)≤(r1.1.length:Int)) (iter (α:=(Int×(Int×(Int×(List Instr)×Unit)))) n (fun xw cP=>br (decide (cP.1<(((r1.1.take (r1.1.length:Int).toNat).drop 2).length:Int))) (ab (0≤cP.1∧cP.1<(((r1.1.take (r1.1.length:Int).toNat).drop 2).length:Int)) (let v31:=(((r1.1.take (r1.1.length:Int).toNat).drop 2).getD cP.1.toNat []); (gv.f n v31).bind fun fF=>br (!fF.2.1) (some ((0,(0,[])),(false,()))) (ab ((cP.2.2.2.1.length+([fF.1]:List Instr).length)*32≤aW) (xw ((ag (cP.1+1)),(cP.2.1,(cP.2.2.1,((cP.2.2.2.1++[fF.1]),())))))))) (cut (α:=(Bool×Unit)) (br (!r2.2.1) (some (.inr (true,()))) (br (!r3.2.1) (some (.inr (true,()))) ((gq.f n (cP.2.1,(cP.2.2.1,cP.2.2.2.1))).bind fun jZ=>some (.inr ((!jZ.1),()))))) fun Cd=>br Cd.1 (some ((0,(0,[])),(false,()))) (some ((cP.2.1,(cP.2.2.1,cP.2.2.2.1)),(true,()))))) (0,(r2.1,(r3.1,([],()))))))))
def pQ.ae (n:Nat):ar:=⟨[.val .str],[.val bn,.val .bool],fun x=>pQ.f n x.1⟩
theorem pQ.ok (n:Nat):aN 117 (pQ.ae n):=aQ n [(10,⟨[(9,.aJ 1000 0),(40,.int .i64)],[(1000,.cells [] [.int .i64,.int .i64,.own 1001 df]),(1001,.row true df)],[2,6,8,38,39],[]⟩),(21,⟨[(69,.bool)],[],[2,9],[]⟩)] [] (ak ⟨fG.sound n,fG.az⟩ (ak (dP.ok n) (ak ⟨gv.sound n,gv.az⟩ (ak ⟨gq.sound n,gq.az⟩ aC)))) aD Tryz.func117
end
end Go.AmT
namespace Go.AmT
open Go Go.Am
set_option linter.unusedVariables false
set_option linter.unusedSimpArgs false
theorem OM (c:UInt8):∀ s:List UInt8,∃ a r,cC c s=a::r∧s=a++(r.map fun p=>c::p).flatten
 | []=>⟨[],[],rfl,rfl⟩
 | x::xs=>by
  obtain ⟨a,r,e,h⟩:=OM c xs
  rw [cC,e]
  by_cases hx:x=c
  ·rw [if_pos hx]
   refine ⟨[],a::r,rfl,?_⟩
   rw [hx]
   conv=>lhs; rw [h]
   simp
  ·rw [if_neg hx]
   refine ⟨x::a,r,rfl,?_⟩
   conv=>lhs; rw [h]
   simp
theorem ON {α:Type} (c:UInt8) (g:α→List UInt8):∀ (l:List α) (a:List UInt8),c∉a→(∀ x∈l,c∉g x)→cC c (a++(l.map fun x=>c::g x).flatten)=a::l.map g
 | [],a,ha,_=>by simp [zI ha]
 | x::l,a,ha,h=>by
  have e:a++((x::l).map fun x=>c::g x).flatten=a++c::(g x++(l.map fun x=>c::g x).flatten):=by simp
  rw [e,tg _ ha,ON c g l (g x) (h x (by simp)) (fun y hy=>h y (by simp [hy]))]
  rfl
theorem OO {n:Nat} {s:List UInt8} (hs:s.length≤1048576):W (dP.f n s) (fun r=>r.2.1=true→Lib.itoa r.1=s):=by
 have ha:W (kP.f n s) (fun r=>r.2.1=true→-9223372036854775808≤r.1∧r.1≤9223372036854775807):=by
  unfold kP.f uC
  rw [if_pos (by omega)]
  cases h:Lib.atoiAll s with
  | ok v=>exact aj.2 (fun _=>Lib.atoiAll_bounds h)
  | «syntax»=>exact aj.2 (fun h=>by cases h)
  | range=>exact aj.2 (fun h=>by cases h)
 unfold dP.f
 rw [aB]
 refine au ha (fun r hr=>?_)
 rw [bH]
 refine ⟨fun h=>?_,fun _=>aj.2 (fun h=>by cases h)⟩
 unfold cY.f uA
 rw [if_pos (hr h)]
 exact aj.2 (fun h=>of_decide_eq_true h)
theorem XT {s:List UInt8} {r:Instr×(Bool×Unit)} (h:zM s r) (ht:r.2.1=true):eG 3 3 24 r.1=true∧dO r.1=s:=by
 rcases h.ri with ⟨x,o,e⟩ | e
 ·rw [h.all x o e]; exact ⟨o,e⟩
 ·rw [e] at ht; cases ht
theorem XU {x:Instr} (O:Ew x):(59:UInt8)∉dO x∧(10:UInt8)∉dO x:=by
 have key:∀ c:UInt8,c=59∨c=10→c∉dO x:=fun c hc=>by
  have hn:c.toNat<97∧c≠45∧¬ (48≤c.toNat∧c.toNat≤57)∧c≠32:=by rcases hc with rfl | rfl<;>decide
  have h0:=OH O.op hn.1
  have sp:∀ {v:Int},zF v→c∉jy v:=fun hv=>by
   simp only [jy,List.mem_append,List.mem_singleton,not_or]
   exact ⟨hn.2.2.2,zL hv hn.2.1 hn.2.2.1⟩
  unfold dO
  rw [List.mem_append,not_or]
  refine ⟨h0,?_⟩
  split
  ·rw [List.mem_append,not_or]; exact ⟨sp O.a,sp O.b⟩
  ·split
   ·rw [List.mem_append,List.mem_append,not_or,not_or]; exact ⟨sp O.a,sp O.b,sp O.c⟩
   ·split
    ·exact sp O.b
    ·simp
 exact ⟨key 59 (.inl rfl),key 10 (.inr rfl)⟩
theorem OP {p:Program} (h:cr p=true):∀ x∈p.2.2,eG 3 3 24 x=true:=fun x hx=>by
 obtain ⟨h1,h2,h3,h4⟩:=tj h
 exact XQ (h4 x hx) (by omega) (by omega) (by omega)
theorem OQ {l:List Instr} (h:∀ x∈l,eG 3 3 24 x=true):l.map pP=l.map fun x=>59::dO x:=by
 refine List.map_congr_left (fun x hx=>?_)
 rw [pP,lJ,if_pos (h x hx)]
 rfl
theorem XV {p:Program} (h:cr p=true):cC 59 (kQ p)=Lib.itoa p.1::Lib.itoa p.2.1::p.2.2.map dO:=by
 obtain ⟨h1,h2,h3,h4⟩:=tj h
 have hi:=OP h
 have e:kQ p=Lib.itoa p.1++59::(Lib.itoa p.2.1++(p.2.2.map fun x=>59::dO x).flatten):=by
  rw [kQ,OQ hi]; simp
 rw [e,tg _ (zL ⟨by omega,by omega⟩ (by decide) (by decide)),ON 59 dO _ _ (zL ⟨by omega,by omega⟩ (by decide) (by decide)) (fun x hx=>(XU (zG (hi x hx) (by omega) (by omega) (by omega))).1)]
abbrev IC:Program:=(0,(0,[]))
structure zN (s:List UInt8) (r:Program×(Bool×Unit)):Prop where
 all:∀ p,cr p=true→kQ p=s→r=(p,(true,()))
 ri:(∃ p,cr p=true∧kQ p=s)∨r=(IC,(false,()))
theorem zN.one {s:List UInt8} {r r':Program×(Bool×Unit)} (h:zN s r) (h':zN s r'):r=r':=by
 rcases h.ri with ⟨x,o,e⟩ | e
 ·rw [h.all x o e,h'.all x o e]
 ·rcases h'.ri with ⟨x,o,e'⟩ | e'
  ·rw [h.all x o e',h'.all x o e']
  ·rw [e,e']
theorem XW {s:List UInt8} {m:Option (Program×(Bool×Unit))} (h1:W m (fun r=>r=(IC,(false,()))∨(cr r.1=true∧kQ r.1=s))) (h2:∀ x,cr x=true→kQ x=s→m=some (x,(true,()))):W m (zN s):=by
 obtain ⟨r,e,h⟩:=h1
 refine ⟨r,e,⟨fun x o et=>?_,?_⟩⟩
 ·rw [h2 x o et] at e
  exact (Option.some.inj e).symm
 ·rcases h with h | ⟨o,et⟩
  ·exact .inr h
  ·exact .inl ⟨_,o,et⟩
theorem OR {s:List UInt8} {r:Program×(Bool×Unit)} (h:zN s r):nZ r.1:=by
 rcases h.ri with ⟨x,o,e⟩ | e
 ·rw [h.all x o e]; exact ⟨by show x.2.2.length≤_; have:=(tj o).2.2.1; omega⟩
 ·rw [e]; exact ⟨by simp⟩
theorem XX {n:Nat} {s:List UInt8} (hs:s.length≤1048576) (hn:1048577<n):W (pQ.f n s) (fun r=>r=(IC,(false,()))∨(cr r.1=true∧kQ r.1=s)):=by
 have hB:=mr
 unfold pQ.f
 rw [th (by omega),aA]
 have hp:=vh 59 s
 have hlen:=Cb 59 s
 obtain ⟨a,r,qy,K4⟩:=OM 59 s
 rw [qy] at hp hlen
 dsimp only
 rw [qy,bI]
 refine ⟨fun _=>aj.2 (.inl rfl),fun h3=>?_⟩
 cases r with
 | nil=>exfalso; simp at h3
 | cons b D=>
  have pR:(a::b::D).length=D.length+2:=rfl
  have ha:=hp a (by simp)
  have hb:=hp b (by simp)
  have g0:(a::b::D).getD 0 []=a:=rfl
  have g1:(a::b::D).getD 1 []=b:=rfl
  have eD:((a::b::D).take ((a::b::D).length:Int).toNat).drop 2=D:=by rw [Int.toNat_natCast,List.take_length]; rfl
  rw [ah (by rw [pR]; omega),g0,aB]
  refine au (OO (by omega)) (fun r2 h2=>?_)
  rw [ah (by rw [pR]; omega),g1,aB]
  refine au (OO (by omega)) (fun r3 XY=>?_)
  rw [ah (by rw [pR]; omega),eD]
  refine fA (fun (i:Nat) (o:List Instr)=>((i:Int),(r2.1,(r3.1,(o,()))))) D.length (fun i o=>o.length≤i∧(∀ x∈o,eG 3 3 24 x=true)∧o.map dO=D.take i) (s0:=[]) rfl ⟨by simp,fun x hx=>by simp at hx,by simp⟩ (by rw [pR] at hlen; omega) (fun ih o hI=>?_) (fun ih i o hi hI hS=>?_)
  ·obtain ⟨i1,i2,i3⟩:=hI
   simp only [aK (Int.lt_irrefl _)]
   refine e_.2 (au (P:=fun z=>∃ y:Bool×Unit,z = .inr y∧(y.1=false→cr (r2.1,(r3.1,o))=true∧kQ (r2.1,(r3.1,o))=s)) ?_ (fun z hz=>?_))
   ·rw [bH]
    refine ⟨fun _=>aj.2 ⟨_,rfl,fun h=>by cases h⟩,fun c2=>?_⟩
    rw [bH]
    refine ⟨fun _=>aj.2 ⟨_,rfl,fun h=>by cases h⟩,fun c3=>?_⟩
    rw [BF ⟨by show o.length≤_; rw [pR] at hlen; omega⟩ (by omega),aA]
    refine aj.2 ⟨_,rfl,fun h=>?_⟩
    have h:cr (r2.1,(r3.1,o))=true:=by simpa using h
    have e2:=h2 (by simpa using c2)
    have e3:=XY (by simpa using c3)
    refine ⟨h,?_⟩
    rw [List.take_length] at i3
    rw [kQ,OQ i2,K4]
    show Lib.itoa r2.1++[59]++Lib.itoa r3.1++(o.map fun x=>59::dO x).flatten=_
    have e4:(o.map fun x=>59::dO x)=D.map fun p=>59::p:=by rw [← i3,List.map_map]; rfl
    rw [e2,e3,e4]
    simp
   ·obtain ⟨y,rfl,hy⟩:=hz
    simp only
    rw [bH]
    exact ⟨fun _=>aj.2 (.inl rfl),fun h=>aj.2 (.inr (hy h))⟩
  ·obtain ⟨i1,i2,i3⟩:=hI
   simp only [aZ (show (i:Int)<(D.length:Int) by omega),Int.toNat_natCast]
   have hd:=hp (D.getD i []) (by rw [aH hi]; simp)
   rw [pR] at hd hlen
   obtain ⟨q,e2,hq⟩:=XP (n:=n) (s:=D.getD i []) (by omega) hn
   rw [ah (by omega),e2,aA,bH]
   refine ⟨fun _=>aj.2 (.inl rfl),fun c=>?_⟩
   obtain ⟨q1,q2⟩:=XT hq (by simpa using c)
   rw [ah (by simp only [List.length_cons,List.length_nil]; omega),bm (by omega)]
   refine hS (o++[q.1]) ⟨by simp; omega,vc i2 q1,?_⟩
   rw [List.map_append,i3,List.take_succ_eq_append_getElem hi,List.map_cons,List.map_nil,q2,aH hi]
theorem XZ {n:Nat} {p:Program} (h:cr p=true) (hn:1048577<n):pQ.f n (kQ p)=some (p,(true,())):=by
 have hB:=mr
 have hl:=IA h
 obtain ⟨h1,h2,h3,h4⟩:=tj h
 have X_:=OP h
 unfold pQ.f
 rw [th (by omega),XV h,aA]
 dsimp only
 have pR:(Lib.itoa p.1::Lib.itoa p.2.1::p.2.2.map dO).length=p.2.2.length+2:=by simp
 have g0:(Lib.itoa p.1::Lib.itoa p.2.1::p.2.2.map dO).getD 0 []=Lib.itoa p.1:=rfl
 have g1:(Lib.itoa p.1::Lib.itoa p.2.1::p.2.2.map dO).getD 1 []=Lib.itoa p.2.1:=rfl
 have eD:((Lib.itoa p.1::Lib.itoa p.2.1::p.2.2.map dO).take ((Lib.itoa p.1::Lib.itoa p.2.1::p.2.2.map dO).length:Int).toNat).drop 2=p.2.2.map dO:=by rw [Int.toNat_natCast,List.take_length]; rfl
 rw [aK (by rw [pR]; omega),ah (by rw [pR]; omega),g0,vi (by omega) (by omega),aA,ah (by rw [pR]; omega),g1,vi (by omega) (by omega),aA,ah (by rw [pR]; omega),eD]
 refine D8 p.2.2 (fun x=>x) (fun i l=>(i,(p.1,(p.2.1,(l,()))))) (fun ih i hi l zE=>?_) (fun ih=>?_) (by omega)
 ·have ao:(i:Int)<((p.2.2.map dO).length:Int):=by rw [List.length_map]; omega
  have hg:(p.2.2.map dO).getD i []=dO p.2.2[i]:=by rw [aH (by rw [List.length_map]; exact hi),List.getElem_map]
  simp only [aZ ao,Int.toNat_natCast]
  rw [ah (by omega),hg,OJ (X_ _ (List.getElem_mem hi)) hn,aA]
  simp only [Bool.not_true,aF]
  rw [ah (by simp only [List.length_cons,List.length_nil]; omega),bm (by omega)]
 ·have ao:¬ ((p.2.2.length:Int)<((p.2.2.map dO).length:Int)):=by rw [List.length_map]; omega
  simp only [aK ao,Bool.not_true,aF]
  rw [List.map_id'' (fun _=>rfl)]
  show cut ((gq.f n p).bind _) _=_
  rw [BF ⟨by omega⟩ (by omega),h,aA]
  rfl
theorem X0 {n:Nat} {s:List UInt8} (hs:s.length≤1048576) (hn:1048577<n):∃ r,pQ.f n s=some r∧zN s r:=XW (XX hs hn) (fun x o et=>by subst et; exact XZ o hn)
end Go.AmT
