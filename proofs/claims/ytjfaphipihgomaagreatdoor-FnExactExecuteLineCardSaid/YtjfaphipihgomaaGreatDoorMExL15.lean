/- Functions of the program, each as a plain Lean function. No condition. -/
import Derived.Test.YtjfaphipihgomaaGreatDoorMExL14
import Derived.Lib.AtoiTie
import Derived.Lib.AtoiAllCases
open Go Go.Am
noncomputable section
set_option linter.unusedVariables false
set_option maxRecDepth 100000
set_option linter.unusedSimpArgs false
open Go.Lib renaming decDigits → fU, decDigits_one → qC, itoa → aj
open Int renaming lt_irrefl → bH, toNat_natCast → az
open List renaming cons_append → pI, exists_mem_of_ne_nil → Xc, getD_eq_getElem?_getD → lG, getElem_map → p5, getElem_mem → bV, length_cons → bh, length_map → mD, length_nil → bP, length_pos_iff → kX, length_take → nH, mem_append → eF, mem_cons → gC, mem_singleton → KM, nil_append → qO, take_length → mN, take_succ_eq_append_getElem → jt
open Nat renaming pow_le_pow_right → Ql, pow_succ → Lt
open UInt8 renaming ofNat → eS, toNat_ofNat' → H6
open UInt8.toNat renaming inj → H7
namespace Go.AmT
open Go.Proofs Go.Proofs.Tryz
def iE.f (n:Nat) (a0 a1:BB):Option (List (BB)×Unit):=N8 a0 a1
def iE.ae (n:Nat):ar:=⟨[.val .str,.val .str],[.sh (.sl .str)],fun x=>iE.f n x.1 x.2.1⟩
theorem iE.av:ck Tryz.prog 19:=cD func19 (by kernel_rfl) (by kernel_rfl)
theorem iE.sound (n:Nat):Sound Tryz.prog 19 (iE.ae n):=ac6 (b:=0) (by kernel_rfl) (fun s sep m w hs hm h1=>Tryz.strings_Split s sep m w hs hm h1)
def qD.f (n:Nat) (a0:BB):Option (Int×Bool×Unit):=B2 a0
def qD.ae (n:Nat):ar:=⟨[.val .str],[.val (.int .i64),.val .err],fun x=>qD.f n x.1⟩
theorem qD.av:ck Tryz.prog 217:=cD func217 (by kernel_rfl) (by kernel_rfl)
theorem qD.sound (n:Nat):Sound Tryz.prog 217 (qD.ae n):=ac7 (by kernel_rfl) (by kernel_rfl) (fun s h v hv w=>Tryz.strconv_Atoi_ok s h v hv w) (fun s h hv tp p w tT=>(Tryz.strconv_Atoi_syntax_var s h hv tp p w tT).mono fun e w' ⟨N,he,_,_,hb⟩=>⟨_,_,he,hb⟩) (fun s h hv tp p w tT=>(Tryz.strconv_Atoi_range_var s h hv tp p w tT).mono fun e w' ⟨N,he,_,_,hb⟩=>⟨_,_,he,hb⟩)
def bO.bq:List (Nat×LA):=[(1,⟨[(20,.bool)],[],[0],[]⟩),(4,⟨[(2,.int .i64),(3,.bool)],[],[],[]⟩),(5,⟨[(51,.bool)],[],[0],[]⟩),(11,⟨[(6,.int .i64),(7,.int .i64)],[],[0],[]⟩),(15,⟨[(67,.bool)],[],[0,6,7],[]⟩)]
def bO.la:LA:=⟨[(0,.str)],[],[],[]⟩
def bO.lb:LA:=⟨[(0,.int .i64),(1,.bool)],[],[],[]⟩
def bO.B (n:Nat) (slf:(BB)→Option (Int×Bool×Unit)) (a0:BB):Option (Int×Bool×Unit):=cut (br (decide (1<(a0.length:Int))) (ab ((0:Int)≤0∧0<(a0.length:Int)) (br (decide (((a0.getD 0 0).toNat:Int)=45)) (ab ((0:Int)≤1∧(1:Int)<(a0.length:Int)) (some (.inr (!decide (((a0.getD 1 0).toNat:Int)=45),())))) (some (.inr (false,()))))) (some (.inr (false,())))) fun y1=>br y1.1 (ab ((0:Int)≤1∧(1:Int)≤(a0.length:Int)∧(a0.length:Int)≤(a0.length:Int)) ((slf ((a0.take (a0.length:Int).toNat).drop 1)).bind fun r3=>cut (br r3.2.1 (some (.inr (ag (0-r3.1),!decide (r3.1=0),()))) (some (.inr (ag (0-r3.1),false,())))) fun y4=>some (y4.1,y4.2.1,()))) (cut (br (decide ((a0.length:Int)<1)) (some (.inr (true,()))) (br (decide (9<(a0.length:Int))) (some (.inr (true,()))) (ab ((0:Int)≤0∧0<(a0.length:Int)) (br (decide (((a0.getD 0 0).toNat:Int)=48)) (some (.inr (decide (1<(a0.length:Int)),()))) (some (.inr (false,()))))))) fun y5=>br y5.1 (some (0,false,())) (iter n (fun oa bT=>br (decide (bT.2.1<(a0.length:Int))) (cut (ab (0≤bT.2.1∧bT.2.1<(a0.length:Int)) (br (decide (((a0.getD bT.2.1.toNat 0).toNat:Int)<48)) (some (.inr (true,()))) (ab (0≤bT.2.1∧bT.2.1<(a0.length:Int)) (some (.inr (decide (57<((a0.getD bT.2.1.toNat 0).toNat:Int)),())))))) fun Eg=>br Eg.1 (some (0,false,())) (ab (0≤bT.2.1∧bT.2.1<(a0.length:Int)) (oa (ag ((ag (10*bT.1))+(ag (IntKind.wrap .u8 (((a0.getD bT.2.1.toNat 0).toNat:Int)-48)))),ag (bT.2.1+1),())))) (some (bT.1,true,()))) (0,0,())))
def bO.F (n:Nat):Nat→(BB)→Option (Int×Bool×Unit)
 | 0=>fun _=>none
 | d+1=>bO.B n (bO.F n d)
def bO.f (n:Nat) (a0:BB):Option (Int×Bool×Unit):=bO.F n n a0
def bO.pv (n:Nat) (slf:(BB)→Option (Int×Bool×Unit)):cM:=⟨bO.la,bO.lb,fun x=>slf x.1⟩
def bO.ae (n:Nat):cM:=⟨bO.la,bO.lb,fun x=>bO.f n x.1⟩
def bO.cfg (n:Nat) (slf:(BB)→Option (Int×Bool×Unit)):bd:=⟨m_,[],[(62,bO.pv n slf)],[]⟩
theorem bO.eq:∀ (n:Nat) (slf:(BB)→Option (Int×Bool×Unit)) (a0:BB) (mp:Mp),cM.run (bO.cfg n slf) n f62 (cT f62 bO.bq) bO.la bO.lb (a0,mp)=bO.B n slf a0:=by intros;kernel_rfl
theorem bO.av:ck Tryz.prog 62:=cD func62 (by kernel_rfl) (by kernel_rfl)
theorem bO.ug (n:Nat):∀ d,oY Tryz.prog 62 (bO.pv n (bO.F n d))
 | 0=>fun _ _ h=>nomatch h
 | d+1=>DV (fn:=f62) (M:=bO.pv n (bO.F n (d+1))) (c:=bO.cfg n (bO.F n d)) (vl mixed (tP (.of (c:=bO.cfg n (bO.F n d)) trivial) (.of (c:=bO.cfg n (bO.F n d)) ⟨⟨bO.ug n d,bO.av⟩,trivial⟩)) (cB kL)) (cB kL) func62 (fun x=>(bO.eq n (bO.F n d) x.1 x.2).symm)
theorem bO.sound (n:Nat):oY Tryz.prog 62 (bO.ae n):=bO.ug n n
def nu.f (n:Nat) (a0:BB) (a1:Int):Option (List (BB)×Unit):=iter n (fun ni x8=>br (decide (x8.2.1<(a0.length:Int))) (ab (0≤x8.2.1∧x8.2.1<(a0.length:Int)) (br (decide (((a0.getD x8.2.1.toNat 0).toNat:Int)=a1)) (ab (0≤x8.1∧x8.1≤x8.2.1∧x8.2.1≤(a0.length:Int)) (ab ((x8.2.2.1.length+([((a0.take x8.2.1.toNat).drop x8.1.toNat)]:List (BB)).length)*16≤bn) (ni (ag (x8.2.1+1),ag (x8.2.1+1),x8.2.2.1++[((a0.take x8.2.1.toNat).drop x8.1.toNat)],())))) (ni (x8.1,ag (x8.2.1+1),x8.2.2.1,())))) (ab (0≤x8.1∧x8.1≤(a0.length:Int)∧(a0.length:Int)≤(a0.length:Int)) (ab ((x8.2.2.1.length+([((a0.take (a0.length:Int).toNat).drop x8.1.toNat)]:List (BB)).length)*16≤bn) (some (x8.2.2.1++[((a0.take (a0.length:Int).toNat).drop x8.1.toNat)],()))))) (0,0,[],())
def nu.ae (n:Nat):ar:=⟨[.val .str,.val U8],[.val (.sl .str)],fun x=>nu.f n x.1 x.2.1⟩
theorem nu.ok (n:Nat):aH 17 (nu.ae n):=aJ n [(5,⟨[(5,.own 1000 .str),(6,.int .i64),(7,.int .i64)],[(1000,.row true .str)],[0,1],[]⟩)] [] aC aD func17
def sH.f (n:Nat) (a0:BB):Option (List Int×Bool×Unit):=br (decide (a0=([46]:BB))) (some ([],true,())) ((nu.f n a0 44).bind fun r1=>iter n (fun oa bT=>br (decide (bT.1<(r1.1.length:Int))) (ab (0≤bT.1∧bT.1<(r1.1.length:Int)) ((bO.f n (r1.1.getD bT.1.toNat [])).bind fun fq=>br (!fq.2.1) (some ([],false,())) (ab ((bT.2.1.length+([fq.1]:List Int).length)*8≤bn) (oa (ag (bT.1+1),bT.2.1++[fq.1],()))))) ((fL.f n bT.2.1).bind fun fD=>br (!fD.1) (some ([],false,())) (some (bT.2.1,true,())))) (0,[],()))
def sH.ae (n:Nat):ar:=⟨[.val .str],[.val IS,.val .bool],fun x=>sH.f n x.1⟩
theorem sH.ok (n:Nat):aH 68 (sH.ae n):=aJ n [(7,⟨[(4,.own 1000 I),(16,.int .i64)],[(1000,.row true I)],[14,15],[]⟩)] [] (ai (nu.ok n) (ai ⟨fL.sound n,fL.av⟩ aC)) (dI ⟨bO.sound n,bO.av⟩ aD) func68
def fi.f (n:Nat) (a0:BB):Option (Int×Bool×Unit):=(qD.f n a0).bind fun r1=>br r1.2.1 ((dV.f n r1.1).bind fun r2=>some (r1.1,decide (r2.1=a0),())) (some (r1.1,false,()))
def fi.ae (n:Nat):ar:=⟨[.val .str],[.val I,.val .bool],fun x=>fi.f n x.1⟩
theorem fi.ok (n:Nat):aH 159 (fi.ae n):=aJ n [] [] (ai ⟨qD.sound n,qD.av⟩ (ai ⟨dV.sound n,dV.av⟩ aC)) aD func159
def pP.f (n:Nat) (a0:BB):Option (List Int×Bool×Unit):=br (decide (a0=([46]:BB))) (some ([],true,())) ((iE.f n a0 ([44]:BB)).bind fun r1=>iter n (fun G6 j9=>br (decide (j9.1<(r1.1.length:Int))) (ab (0≤j9.1∧j9.1<(r1.1.length:Int)) (let jr:=(r1.1.getD j9.1.toNat []); (fi.f n jr).bind fun ie=>br (!ie.2.1) (some ([],false,())) (ab ((j9.2.1.length+([ie.1]:List Int).length)*8≤bn) (G6 (ag (j9.1+1),j9.2.1++[ie.1],()))))) ((fb.f n j9.2.1).bind fun dz=>br (!dz.1) (some ([],false,())) (some (j9.2.1,true,())))) (0,[],()))
def pP.ae (n:Nat):ar:=⟨[.val .str],[.val IS,.val .bool],fun x=>pP.f n x.1⟩
theorem pP.ok (n:Nat):aH 93 (pP.ae n):=aJ n [(7,⟨[(4,.own 1000 I),(15,.int .i64)],[(1000,.row true I)],[13,14],[]⟩)] [] (ai ⟨iE.sound n,iE.av⟩ (ai (fi.ok n) (ai ⟨fb.sound n,fb.av⟩ aC))) aD func93
end Go.AmT
namespace Go.AmT
variable {n:Nat} {s:BB} {x:Int}
theorem As {c:UInt8} : ∀ {a:BB},c∉a→bC c a=[a]
 | [],_=>rfl
 | x::xs,h=>by have h1:x≠c:=fun e=>h (by simp [e]);have h2:c∉xs:=fun e=>h (by simp [e]);rw [bC,if_neg h1,As h2]; rfl
theorem mE {c:UInt8} (b:BB):∀ {a:BB},c∉a→bC c (a++c::b)=a::bC c b
 | [],_=>by rw [qO,bC,if_pos rfl]
 | x::xs,h=>by have h1:x≠c:=fun e=>h (by simp [e]);have h2:c∉xs:=fun e=>h (by simp [e]);rw [pI,bC,if_neg h1,mE b h2]; rfl
theorem Xd (c:UInt8):∀ t:BB,bC c (t++[c])=bC c t++[[]]
 | []=>by simp [bC]
 | x::xs=>by
  rw [pI,bC,bC,Xd c xs];split
  ·rfl
  cases h:bC c xs with
  | nil=>exact absurd h (nD c xs)
  | cons a b=>rfl
theorem Qm {c:UInt8} : ∀ (l:List (BB)),(∀ a∈l,c∉a)→bC c ((l.map (·++[c])).flatten)=l++[[]]
 | [],_=>rfl
 | a::l,h=>by
  have e:((a::l).map (·++[c])).flatten=a++c::(l.map (·++[c])).flatten:=by simp
  rw [e,mE _ (h a (by simp)),Qm l (fun b hb=>h b (by grind))];rfl
theorem oq (c:UInt8):∀ t:BB,∀ p∈bC c t,p.length+(bC c t).length≤t.length+1
 | []=>by simp [bC]
 | x::xs=>by
  have h2:=oq c xs;rw [bC];have aG:=nD c xs;split
  ·intro p hp;rcases gC.1 hp with rfl | hp
   ·obtain ⟨a,ha⟩:=Xc _ aG
    grind
   grind
  cases h:bC c xs with
  | nil=>grind
  | cons a b=>
   rw [h] at h2;intro p hp;rcases gC.1 hp with rfl | hp
   ·have:=h2 a (by simp); simp only [vn,bh] at this ⊢; omega
   have:=h2 p (by grind); simp only [vn,bh] at this ⊢; omega
theorem vL (c:UInt8) (t:BB):(bC c t).length≤t.length+1:=by obtain ⟨a,ha⟩:=Xc _ (nD c t);have:=oq c t a ha;omega
def begun (a:BB):List (BB)→List (BB)
 | []=>[a]
 | h::t=>(a++h)::t
theorem afU (a:BB) (x:UInt8) (l:List (BB)) (hl:l≠[]):begun (a++[x]) l=begun a (vn x l):=by
 cases l with
 | nil=>grind
 | cons h t=>simp [begun,vn]
theorem rA {s:BB} {c:Int} (h0:0≤c) (h1:c<256) (hs:s.length≤1048576) (hn:1048577<n):nu.f n s c=some (bC (eS c.toNat) s,()):=by
 have hB:=iR;have LI:∀ b:UInt8,((b.toNat:Int)=c)↔b=eS c.toNat:=fun b=>by
  constructor
  ·intro e;apply H7;rw [H6];omega
  intro e;rw [e,H6];omega
 unfold nu.f;refine eM.1 (bA (P:=fun (r:List (BB)×Unit)=>r.1=bC (eS c.toNat) s) ?_ (fun r hr=>by grind))
 ·refine gu (fun (i:Nat) (o:Nat×List (BB))=>((o.1:Int),(i:Int),o.2,())) s.length (fun i o=>o.1≤i∧o.2.length≤i∧o.2++begun ((s.take i).drop o.1) (bC (eS c.toNat) (s.drop i))=bC (eS c.toNat) s) (s0:=(0,[])) rfl ⟨Nat.le_refl _,by simp,?_⟩ (by omega) (fun ih o hI=>?_) (fun ih i o hi hI hS=>?_)
  ·show []++begun [] (bC _ s)=_;cases h:bC (eS c.toNat) s with
   | nil=>exact absurd h (nD _ s)
   | cons a b=>rfl
  ·obtain ⟨o1,o2,o3⟩:=hI;simp only [au (bH _)];rw [af (by omega),af (by grind),ao];show o.2++[_]=_;rw [← o3,List.drop_length];simp [bC,begun]
  obtain ⟨o1,o2,o3⟩:=hI;simp only [aM (show (i:Int)<(s.length:Int) by omega),az];rw [af (by omega)];have hd:s.drop i=s[i]::s.drop (i+1):=List.drop_eq_getElem_cons hi;have hg:s.getD i 0=s[i]:=aU hi 0;have ht:(s.take (i+1)).drop o.1=(s.take i).drop o.1++[s[i]]:=by rw [jt hi,List.drop_append_of_le_length (by grind)]
  by_cases e:s[i]=eS c.toNat
  ·rw [aM (show ((s.getD i 0).toNat:Int)=c by grind),af (by omega),af (by grind),ba (by omega)];refine hS (i+1,o.2++[(s.take i).drop o.1]) ⟨Nat.le_refl _,by grind,?_⟩;show (o.2++[_])++begun ((s.take (i+1)).drop (i+1)) _=_;rw [← o3,hd,bC,if_pos e];have hz:(s.take (i+1)).drop (i+1)=[]:=List.drop_eq_nil_of_le (by grind);rw [hz];cases h:bC (eS c.toNat) (s.drop (i+1)) with
   | nil=>exact absurd h (nD _ _)
   | cons a b=>simp [begun]
  rw [au (show ¬ ((s.getD i 0).toNat:Int)=c by grind),ba (by omega)];refine hS (o.1,o.2) ⟨by omega,by grind,?_⟩;show o.2++begun ((s.take (i+1)).drop o.1) _=_;rw [← o3,hd,bC,if_neg e,ht,afU _ _ _ (nD _ _)]
theorem sI {s:BB} {c:UInt8} (hs:s.length≤1048576):iE.f n s [c]=some (bC c s,()):=by exact if_pos (show s.length<4294967281 by omega)
theorem Cr {k:Nat} (h:k<10):(eS (48+k)).toNat=48+k:=by rw [H6]; omega
theorem At:∀ (k u:Nat),u<10 ^ (k+1)→∀ c∈fU u,48≤c.toNat∧c.toNat≤57
 | 0,u,h=>by rw [qC (by omega)];intro c hc;rw [KM.1 hc,Cr (by omega)];omega
 | k+1,u,h=>by
  by_cases hu:u<10
  ·rw [qC hu];intro c hc;rw [KM.1 hc,Cr hu];omega
  rw [Aq hu];rw [Lt] at h;intro c hc;rcases eF.1 hc with hc | hc
  ·exact At k (u / 10) (by omega) c hc
  rw [KM.1 hc,Cr (by omega)];omega
theorem yG (u:Nat):fU u≠[]:=by
 by_cases hu:u<10
 ·rw [qC hu]; simp
 rw [Aq hu]; simp
theorem Xe:∀ (k u:Nat),u<10 ^ (k+1)→(fU u).length=1∨(fU u).getD 0 0≠48
 | 0,u,h=>by rw [qC (by simpa using h)]; exact .inl rfl
 | k+1,u,h=>by
  by_cases hu:u<10
  ·rw [qC hu]; exact .inl rfl
  rw [Lt] at h;rw [Aq hu];refine .inr ?_;have aG:=yG (u / 10);by_cases h9:u / 10<10
  ·rw [qC h9];intro e;have e:eS (48+u / 10)=48:=e;have:=congrArg UInt8.toNat e;rw [Cr h9] at this;have:48+u / 10=48:=this;omega
  rcases Xe k (u / 10) (by omega) with h1 | h1
  ·rw [Aq h9] at h1;have:=yG (u / 10 / 10);have:=kX.2 this;simp only [List.length_append,bh,bP] at h1;omega
  rw [lG,List.getElem?_append_left (kX.2 aG),← lG];exact h1
def iv (l:BB):Nat:=l.foldl (fun a c=>10*a+(c.toNat-48)) 0
theorem Eu (l:BB) (c:UInt8):iv (l++[c])=10*iv l+(c.toNat-48):=by simp [iv]
theorem KN:∀ (k u:Nat),u<10 ^ (k+1)→iv (fU u)=u
 | 0,u,h=>by
  have h:u<10:=by simpa using h
  rw [qC h,← qO [_],Eu,Cr h];simp [iv]
 | k+1,u,h=>by
  by_cases hu:u<10
  ·rw [qC hu,← qO [_],Eu,Cr hu];simp [iv]
  rw [Lt] at h;rw [Aq hu,Eu,KN k (u / 10) (by omega),Cr (by omega)];omega
theorem Xf:∀ (l:BB) (a:Nat),(∀ c∈l,48≤c.toNat∧c.toNat≤57)→l.foldl (fun a c=>10*a+(c.toNat-48)) a<(a+1)*10 ^ l.length
 | [],a,_=>by simp
 | c::l,a,h=>by
  have h2:=h c (by simp);have h1:=Xf l (10*a+(c.toNat-48)) (fun d hd=>h d (by grind));have h3:(10*a+(c.toNat-48)+1)*10 ^ l.length≤((a+1)*10)*10 ^ l.length:=Nat.mul_le_mul_right _ (by omega)
  grind
theorem KO (l:BB) (h:∀ c∈l,48≤c.toNat∧c.toNat≤57):iv l<10 ^ l.length:=by have:=Xf l 0 h;simpa [iv] using this
theorem afV {s:BB} (hd:∀ c∈s,48≤c.toNat∧c.toNat≤57) (hl:s.length≤9) (hn:1048576<n) {F:((Int×Int×Unit)→Option (Int×Bool×Unit))→(Int×Int×Unit)→Option (Int×Bool×Unit)}
  (h1:∀ ih (i:Nat) (v:Int),i<s.length→0≤v→v≤1000000000→F ih (v,(i:Int),())=ih (10*v+(((s.getD i 0).toNat:Int)-48),((i+1:Nat):Int),()))
  (h2:∀ ih v,F ih (v,(s.length:Int),())=some (v,true,())):iter n F (0,0,())=some ((iv s:Int),true,()):=by
 have hp:∀ i,i≤s.length→iv (s.take i)<10 ^ i:=fun i hi=>by
  have:=KO (s.take i) (fun c hc=>hd c (List.mem_of_mem_take hc))
  grind
 have:=mu (F:=F) (fun i=>(((iv (s.take i):Nat):Int),(i:Int),())) s.length (R:=some ((iv s:Int),true,())) (fun ih i hi=>?_) (fun ih=>?_) (n:=n) (by omega)
 ·grind
 ·have hb:=hp i (by omega);have lE:10 ^ i≤10 ^ 9:=Ql (by omega) (by omega);have hc:=hd s[i] (bV _);rw [h1 ih i _ hi (by omega) (by omega),jt hi,Eu,aU hi]
  grind
 grind
theorem Xg {b:UInt8} (h:48≤b.toNat∧b.toNat≤57):ag (IntKind.wrap .u8 ((b.toNat:Int)-48))=(b.toNat:Int)-48:=by
 have c:b.toNat=48∨b.toNat=49∨b.toNat=50∨b.toNat=51∨b.toNat=52∨b.toNat=53∨b.toNat=54∨b.toNat=55∨b.toNat=56∨b.toNat=57:=by omega
 rcases c with h | h | h | h | h | h | h | h | h | h<;>(rw [h]; decide)
theorem afW {slf:BB→Option (Int×Bool×Unit)} {s:BB} (h0:s≠[]) (hd:∀ c∈s,48≤c.toNat∧c.toNat≤57) (hl:s.length≤9) (hz:s.length=1∨s.getD 0 0≠48) (hn:1048576<n) :
  bO.B n slf s=some ((iv s:Int),true,()):=by
 have fG:=kX.2 h0;have My:=hd (s.getD 0 0) (by grind);have e45:¬ (((s.getD 0 0).toNat:Int)=45):=by omega
 have flag:(br (decide (1<(s.length:Int))) (ab ((0:Int)≤0∧(0:Int)<(s.length:Int)) (br (decide (((s.getD 0 0).toNat:Int)=45)) (ab ((0:Int)≤1∧(1:Int)<(s.length:Int)) (some (Sum.inr (α:=Int×Bool×Unit) (!decide (((s.getD 1 0).toNat:Int)=45),())))) (some (.inr (false,()))))) (some (.inr (false,()))))=some (.inr (false,())):=by
  rw [au e45,af (by omega)];by_cases h:1<(s.length:Int)
  ·rw [aM h]
  rw [au h]
 unfold bO.B;rw [flag];simp only [bg,aw];rw [au (by omega),au (by omega),af (by omega)];have iT:(br (decide (((s.getD 0 0).toNat:Int)=48)) (some (Sum.inr (α:=Int×Bool×Unit) (decide (1<(s.length:Int)),()))) (some (.inr (false,()))))=some (.inr (false,())):=by
  rcases hz with h | h
  ·rw [decide_eq_false (show ¬ 1<(s.length:Int) by omega)];by_cases e:((s.getD 0 0).toNat:Int)=48
   ·rw [aM e]
   rw [au e]
  rw [au (fun e=>h (H7 (by grind)))]
 rw [iT];simp only [bg,aw];refine afV hd hl hn (fun ih i v hi v0 v1=>?_) (fun ih v=>?_)
 ·have gU:(i:Int)<(s.length:Int):=by omega
  have hc:=hd (s.getD i 0) (by grind);simp only [aM gU,az];rw [af (by omega),au (by omega),af (by omega),decide_eq_false (show ¬ 57<((s.getD i 0).toNat:Int) by omega)];simp only [bg,aw];rw [af (by omega),Xg hc,bM (n:=10*v) (by omega) (by omega),bM (n:=10*v+_) (by omega) (by omega),ba (by omega)]
 simp only [au (bH _)]
theorem Xh (u:Nat):u<10 ^ (u+1):=Nat.lt_trans (Nat.lt_succ_self u) (Nat.lt_pow_self (by omega))
theorem Qn (u:Nat):iv (fU u)=u:=KN u u (Xh u)
theorem Qo (u:Nat):∀ c∈fU u,48≤c.toNat∧c.toNat≤57:=At u u (Xh u)
theorem Xi:∀ (k:Nat) (l:BB),l.length=k+1→(∀ c∈l,48≤c.toNat∧c.toNat≤57)→(l.length=1∨l.getD 0 0≠48)→fU (iv l)=l
 | 0,l,hl,hd,_=>by
  obtain ⟨c,rfl⟩:=List.length_eq_one_iff.1 hl;have hc:=hd c (by simp);have e:iv [c]=c.toNat-48:=by simp [iv]
  rw [e,qC (by omega)];simp_all
 | k+1,l,hl,hd,hz=>by
  obtain ⟨a,c,rfl⟩:∃ a c,l=a++[c]:=⟨l.dropLast,l.getLast (by grind),(List.dropLast_concat_getLast _).symm⟩
  have ha:a.length=k+1:=by simpa using hl
  have hg:a.getD 0 0≠48:=by
   rcases hz with h | h
   ·omega
   grind
  have ih:=Xi k a ha (fun d h_=>hd d (by grind)) (.inr hg);have hc:=hd c (by simp);have hp:iv a≠0:=fun e=>by
   rw [e,qC (by omega)] at ih
   grind
  rw [Eu,Aq (by omega),show (10*iv a+(c.toNat-48)) / 10=iv a by omega,ih,show (10*iv a+(c.toNat-48)) % 10=c.toNat-48 by omega];simp_all
def Hx:BB→Int
 | []=>0
 | c::l=>if c=45 then -(iv l:Int) else (iv (c::l):Int)
theorem Qp (x:Int):Hx (aj x)=x:=by
 unfold aj;split
 ·show (if (45:UInt8)=45 then -(iv (fU x.natAbs):Int) else (iv (45::fU x.natAbs):Int))=_;rw [if_pos rfl,Qn]; omega
 have h:=Qo x.toNat;have e:=Qn x.toNat;cases hD:fU x.toNat with
 | nil=>exact absurd hD (yG _)
 | cons c l=>
  rw [hD] at h e;have hc:c≠45:=fun e=>by simp_all
  show (if c=45 then -(iv l:Int) else (iv (c::l):Int))=_
  grind
theorem Hy {y:Int} (h:aj x=aj y):x=y:=by rw [← Qp x,← Qp y,h]
theorem Xj (hn:1048576<n) (h0 : -999999999≤x) (h1:x≤999999999):bO.f n (aj x)=some (x,true,()):=by
 obtain ⟨m,rfl⟩:∃ m,n=m+2:=⟨n-2,by omega⟩
 have HY:∀ (k:Nat) (slf:BB→Option (Int×Bool×Unit)),k≤999999999→bO.B (m+2) slf (fU k)=some ((k:Int),true,()):=fun k slf hk=>by
  have hp:k<10 ^ (8+1):=by omega
  have:=xW 8 k hp;rw [afW (yG k) (At 8 k hp) (by omega) (Xe 8 k hp) hn,KN 8 k hp]
 show bO.B (m+2) (bO.F (m+2) (m+1)) (aj x)=_;unfold aj;by_cases hx:x<0
 ·rw [if_pos hx];have hk:=HY x.natAbs (bO.F (m+2) m) (by omega);have aG:=kX.2 (yG x.natAbs);have hp:x.natAbs<10 ^ (8+1):=by omega
  have hd:=At 8 x.natAbs hp ((fU x.natAbs).getD 0 0) (by grind);generalize hD:fU x.natAbs=D at hk aG hd;unfold bO.B;have e0:(45::D).getD 0 0=45:=rfl;have e1:(45::D).getD 1 0=D.getD 0 0:=rfl;have e2:((45::D).take ((45::D).length:Int).toNat).drop 1=D:=by rw [az,mN]; rfl
  have hl:((45::D).length:Int)=(D.length:Int)+1:=by simp
  rw [e0,e1,e2,hl,aM (by omega),af (by omega),aM (by decide),af (by omega),decide_eq_false (by omega)];simp only [Bool.not_false,bg,ax];rw [af (by omega)];show (bO.B (m+2) (bO.F (m+2) m) D).bind _=_;rw [hk,aq];simp only [ax];rw [decide_eq_false (show ¬ (x.natAbs:Int)=0 by omega),bM (n:=0-(x.natAbs:Int)) (by omega) (by omega)];simp only [bg,Bool.not_false]
  grind
 grind
theorem Au (hn:1048576<n) (h0 : -1000000≤x) (h1:x≤1000000):bO.f n (aj x)=some (x,true,()):=Xj hn (by omega) (by omega)
theorem Xk {s:BB} (hs:s.length≤1048576) (hn:1048576<n):W (bO.f n s) (fun r=>r.2.1=true→aj r.1=s∧-999999999≤r.1∧r.1≤999999999):=by
 have flag:∀ t:BB,(br (decide (1<(t.length:Int))) (ab ((0:Int)≤0∧(0:Int)<(t.length:Int)) (br (decide (((t.getD 0 0).toNat:Int)=45)) (ab ((0:Int)≤1∧(1:Int)<(t.length:Int)) (some (Sum.inr (α:=Int×Bool×Unit) (!decide (((t.getD 1 0).toNat:Int)=45),())))) (some (.inr (false,()))))) (some (.inr (false,()))))=some (.inr (decide (1<(t.length:Int))&&(decide (((t.getD 0 0).toNat:Int)=45)&&!decide (((t.getD 1 0).toNat:Int)=45)),())):=fun t=>by
  by_cases h1:1<(t.length:Int)
  ·rw [aM h1,af (by omega),decide_eq_true h1,Bool.true_and];by_cases h2:((t.getD 0 0).toNat:Int)=45
   ·rw [aM h2,af (by omega),decide_eq_true h2,Bool.true_and]
   rw [au h2,decide_eq_false h2,Bool.false_and]
  rw [au h1,decide_eq_false h1,Bool.false_and]
 have plain:∀ (t:BB) (slf:BB→Option (Int×Bool×Unit)),t.length≤1048576→(decide (1<(t.length:Int))&&(decide (((t.getD 0 0).toNat:Int)=45)&&!decide (((t.getD 1 0).toNat:Int)=45)))=false→W (bO.B n slf t) (fun r=>r.2.1=true→0≤r.1∧r.1≤999999999∧fU r.1.toNat=t):=fun t slf ht hf=>by
  unfold bO.B;rw [flag,hf];simp only [bg,aw];refine fB.2 (bA (P:=fun z=>∃ y:Bool×Unit,z = .inr y∧(y.1=false→0<t.length∧t.length≤9∧(t.length=1∨t.getD 0 0≠48))) ?_ (fun z hz=>?_))
  ·rw [cZ];refine ⟨fun _=>ao.2 ⟨_,rfl,fun h=>by cases h⟩,fun h1=>?_⟩;rw [cZ];refine ⟨fun _=>ao.2 ⟨_,rfl,fun h=>by cases h⟩,fun h2=>?_⟩;rw [af (by omega),cZ];exact ⟨fun _=>ao.2 ⟨_,rfl,fun h=>⟨by omega,by omega,.inl (by grind)⟩⟩,fun h3=>ao.2 ⟨_,rfl,fun _=>⟨by omega,by omega,.inr (fun e=>h3 (by simp_all))⟩⟩⟩
  obtain ⟨y,rfl,hy⟩:=hz;simp only;rw [cC];refine ⟨fun _=>ao.2 (fun h=>by cases h),fun h=>?_⟩;obtain ⟨h0,hl,hz⟩:=hy h;refine gu (fun (i:Nat) (v:Int)=>(v,(i:Int),())) t.length (fun i v=>v=(iv (t.take i):Int)∧∀ c∈t.take i,48≤c.toNat∧c.toNat≤57) (s0:=0) rfl ⟨by simp [iv],by simp⟩ (by omega) (fun ih v hI=>?_) (fun ih i v hi hI hS=>?_)
  ·obtain ⟨e,hd⟩:=hI;rw [mN] at e hd;have hb:=KO t hd;have h9:10 ^ t.length≤10 ^ 9:=Ql (by omega) hl;simp only [au (bH _)];refine ao.2 (fun _=>⟨by omega,by omega,?_⟩);show fU v.toNat=t;rw [e,az];exact Xi (t.length-1) t (by omega) hd hz
  obtain ⟨e,hd⟩:=hI;have hb:=KO (t.take i) hd;have h9:10 ^ (t.take i).length≤10 ^ 9:=Ql (by omega) (by grind);simp only [aM (show (i:Int)<(t.length:Int) by omega),az];refine fB.2 (bA (P:=fun z=>∃ y:Bool×Unit,z = .inr y∧(y.1=false→48≤(t.getD i 0).toNat∧(t.getD i 0).toNat≤57)) ?_ (fun z hz=>?_))
  ·rw [af (by omega),cZ];refine ⟨fun _=>ao.2 ⟨_,rfl,fun h=>by cases h⟩,fun h1=>?_⟩;rw [af (by omega)];exact ao.2 ⟨_,rfl,fun h=>by grind⟩
  obtain ⟨y,rfl,hy⟩:=hz;simp only;rw [cC];refine ⟨fun _=>ao.2 (fun h=>by cases h),fun h=>?_⟩;have hc:=hy h;rw [af (by omega),Xg hc,bM (n:=10*v) (by omega) (by omega),bM (n:=10*v+_) (by omega) (by omega),ba (by omega)];rw [aU hi] at hc ⊢;refine hS _ ⟨?_,?_⟩
  ·rw [jt hi,Eu]; omega
  rw [jt hi]
  grind
 obtain ⟨m,rfl⟩:∃ m,n=m+2:=⟨n-2,by omega⟩
 show W (bO.B (m+2) (bO.F (m+2) (m+1)) s) _;cases hf:(decide (1<(s.length:Int))&&(decide (((s.getD 0 0).toNat:Int)=45)&&!decide (((s.getD 1 0).toNat:Int)=45))) with
 | false=>
  refine bA (plain s _ hs hf) (fun r hr h=>?_);obtain ⟨a,b,c⟩:=hr h;exact ⟨by rw [aj,if_neg (by omega),c],by omega,b⟩
 | true=>
  have y0:=hf;simp only [Bool.and_eq_true,decide_eq_true_eq,Bool.not_eq_true',decide_eq_false_iff_not] at y0;obtain ⟨f1,f2,f3⟩:=y0;have e2:(s.take (s.length:Int).toNat).drop 1=s.drop 1:=by rw [az,mN]
  unfold bO.B;rw [flag,hf];simp only [bg,ax];rw [af (by omega),e2,dt];refine bA (show W (bO.B (m+2) (bO.F (m+2) m) (s.drop 1)) _ from plain _ _ (by grind) ?_) (fun r hr=>?_)
  ·grind
  refine fB.2 (bA (P:=fun z=>∃ y:Int×(Bool×Unit),z = .inr y∧(y.2.1=true→y.1=ag (0-r.1)∧r.2.1=true∧r.1≠0)) ?_ (fun z hz=>?_))
  ·rw [cC];exact ⟨fun h=>ao.2 ⟨_,rfl,fun h2=>⟨rfl,h,by grind⟩⟩,fun _=>ao.2 ⟨_,rfl,fun h2=>by cases h2⟩⟩
  obtain ⟨y,rfl,hy⟩:=hz;refine ao.2 (fun h=>?_);obtain ⟨e,h2,h3⟩:=hy h;obtain ⟨a,b,c⟩:=hr h2;have es:s=45::s.drop 1:=by
   cases s with
   | nil=>grind
   | cons x t=>exact congrArg (·::t) (H7 (by grind))
  have e:y.1 = - r.1:=by rw [e,bM (n:=0-r.1) (by omega) (by omega)]; omega
  show aj y.1=s∧_;refine ⟨?_,by omega,by omega⟩;rw [e,aj,if_pos (by omega),show (-r.1).natAbs=r.1.toNat by omega,c,← es]
theorem Hz {s:BB} (hs:s.length≤1048576) (hn:1048576<n):W (bO.f n s) (fun _=>True):=bA (Xk hs hn) (fun _ _=>trivial)
theorem Xl:∀ (l:BB) (a:Nat),(∀ c∈l,48≤c.toNat∧c.toNat≤57)→Lib.decFrom a l=some (l.foldl (fun a c=>10*a+(c.toNat-48)) a)
 | [],a,_=>rfl
 | c::l,a,h=>by have h2:=h c (by simp);rw [Lib.decFrom,Lib.digitVal,if_pos h2];show Lib.decFrom (a*10+(c.toNat-48)) l=_;rw [Xl l _ (fun d hd=>h d (by grind)),Nat.mul_comm];rfl
theorem afX (h0 : -999999999≤x) (h1:x≤999999999):Lib.atoiAll (aj x) = .ok x:=by
 have hl:=W8 h0 h1;have HY:∀ k:Nat,k≤999999999→Lib.decNat (fU k)=some k:=fun k hk=>by
  have hp:k<10 ^ (8+1):=by omega
  have aG:=yG k;unfold Lib.decNat;rw [if_neg (by grind),Xl _ 0 (At 8 k hp)];exact congrArg some (KN 8 k hp)
 rw [Lib.atoiAll_short _ (by omega)];unfold aj;by_cases hx:x<0
 ·rw [if_pos hx];show Lib.NumEnd.ofOption ((Lib.decNat (fU x.natAbs)).map fun (m:Nat)=>-(m:Int))=_;rw [HY _ (by omega)];show Lib.NumEnd.ok (-(x.natAbs:Int))=_
  grind
 rw [if_neg hx];have hp:x.toNat<10 ^ (8+1):=by omega
 have hd:=HY x.toNat (by omega);have Xm:=At 8 x.toNat hp;cases hD:fU x.toNat with
 | nil=>exact absurd hD (yG _)
 | cons b r=>
  rw [hD] at hd Xm;have hb:=Xm b (by simp);have n45:(b==45)=false:=beq_eq_false_iff_ne.2 (fun e=>by simp_all);have n43:(b==43)=false:=beq_eq_false_iff_ne.2 (fun e=>by simp_all);unfold Lib.atoi;simp only [n45,n43,Bool.false_eq_true,if_false];rw [hd];show Lib.NumEnd.ok ((x.toNat:Nat):Int)=_
  grind
theorem Xn (h0 : -999999999≤x) (h1:x≤999999999):fi.f n (aj x)=some (x,true,()):=by
 have hl:=W8 h0 h1;have ha:qD.f n (aj x)=some (x,true,()):=by unfold qD.f B2;rw [if_pos (by omega),afX h0 h1];rfl
 unfold fi.f;rw [ha,aq];simp only [ax];rw [afQ h0 h1,aq,decide_eq_true rfl]
theorem rB (h0 : -1000000≤x) (h1:x≤1000000):fi.f n (aj x)=some (x,true,()):=Xn (by omega) (by omega)
theorem Xo {s:BB} (hs:s.length≤1048576):W (fi.f n s) (fun r=>r.2.1=true→aj r.1=s):=by
 have ha:W (qD.f n s) (fun r=>r.2.1=true→-9223372036854775808≤r.1∧r.1≤9223372036854775807):=by
  unfold qD.f B2;rw [if_pos (by omega)];cases h:Lib.atoiAll s with
  | ok v=>exact ao.2 (fun _=>Lib.atoiAll_bounds h)
  | «syntax»=>exact ao.2 (fun h=>by cases h)
  | range=>exact ao.2 (fun h=>by cases h)
 unfold fi.f;rw [dt];refine bA ha (fun r hr=>?_);rw [cC];refine ⟨fun h=>?_,fun _=>ao.2 (fun h=>by cases h)⟩;unfold dV.f zt;rw [if_pos (hr h)];exact ao.2 (fun h=>of_decide_eq_true h)
theorem Av {s:BB} (hs:s.length≤1048576):W (fi.f n s) (fun _=>True):=bA (Xo hs) (fun _ _=>trivial)
theorem Xp (h0 : -1000000≤x) (h1:x≤1000000):∀ c∈aj x,c=45∨(48≤c.toNat∧c.toNat≤57):=by
 intro c hc;unfold aj at hc;split at hc
 ·rcases gC.1 hc with rfl | hc
  ·grind
  exact .inr (At 6 x.natAbs (by omega) c hc)
 exact .inr (At 6 x.toNat (by omega) c hc)
theorem qE (h : -1000000≤x∧x≤1000000) {c:UInt8} (Lu:c≠45) (hd:¬ (48≤c.toNat∧c.toNat≤57)):c∉aj x:=fun hc=>by
 rcases Xp h.1 h.2 c hc with e | e
 ·grind
 omega
theorem Xq (x:Int):aj x≠[]:=by
 unfold aj;split
 ·simp
 exact yG _
theorem afY (x y:Int) (r:List Int):eB (x::y::r)=aj x++44::eB (y::r):=by simp [eB,sF]
theorem Qq:∀ (r:List Int) (x:Int),(∀ y∈x::r,tok y=true)→bC 44 (eB (x::r))=(x::r).map aj
 | [],x,h=>by
  have:eB [x]=aj x:=by simp [eB]
  rw [this,As (qE (mC (h x (by simp))) (by decide) (by decide))];rfl
 | y::r,x,h=>by rw [afY,mE _ (qE (mC (h x (by simp))) (by decide) (by decide)),Qq r y (fun z hz=>h z (List.mem_cons_of_mem _ hz))];rfl
theorem Xr {s:List Int} (h:∀ y∈s,tok y=true) {c:UInt8} (Lu:c≠45) (h44:c≠44) (h46:c≠46) (hd:¬ (48≤c.toNat∧c.toNat≤57)):c∉eB s:=by
 cases s with
 | nil=>simpa [eB] using h46
 | cons x r=>
  intro hc;simp only [eB,eF,List.mem_flatten,List.mem_map] at hc;rcases hc with hc | ⟨l,⟨y,hy,rfl⟩,hc⟩
  ·exact qE (mC (h x (by simp))) Lu hd hc
  simp only [sF,eF,KM] at hc;rcases hc with hc | hc
  ·grind
  exact qE (mC (h y (by grind))) Lu hd hc
theorem Xs {r:List Int} (h:tok x=true):eB (x::r)≠[46]:=by
 intro e;have hi:=qE (mC h) (c:=46) (by decide) (by decide);simp only [eB] at e;cases hx:aj x with
 | nil=>exact Xq x hx
 | cons a b=>
  grind
theorem Qr {s:List Int} (h:bX s=true):(eB s).length≤4000:=by have:=Es s;rwa [fmtS,if_pos h] at this
theorem afZ {s:List Int} (h:bX s=true) (hn:1048577<n):sH.f n (eB s)=some (s,true,()):=by
 have hB:=iR;have hL:=Qr h;obtain ⟨hl,ht⟩:=pz h;unfold sH.f;cases s with
 | nil=>rw [aM (by rfl)]
 | cons x r=>
  rw [au (Xs (ht x (by simp))),rA (by omega) (by omega) (by omega) hn,aq];have Qs:eS (44:Int).toNat=44:=rfl;rw [Qs,Qq r x ht];refine vz (x::r) (fun y=>y) (fun i l=>(i,l,())) (fun ih i hi l pO=>?_) (fun ih=>?_) (by omega)
  ·have gU:(i:Int)<(((x::r).map aj).length:Int):=by rw [mD]; omega
   have hx:=mC (ht (x::r)[i] (bV _));have hg:((x::r).map aj).getD i []=aj (x::r)[i]:=by rw [aU (by omega),p5]
   simp only [aM gU,az];rw [af (by omega),hg,Au (by omega) hx.1 hx.2,aq];simp only [Bool.not_true,aw];rw [af (by grind),ba (by omega)]
  have gU:¬ (((x::r).length:Int)<(((x::r).map aj).length:Int)):=by rw [mD]; omega
  simp only [au gU];rw [List.map_id'' (fun _=>rfl),xg (by omega) (by omega),h,aq];rfl
theorem af_ {s:List Int} (h:bX s=true) (hn:1048577<n):pP.f n (eB s)=some (s,true,()):=by
 have hB:=iR;have hL:=Qr h;obtain ⟨hl,ht⟩:=pz h;unfold pP.f;cases s with
 | nil=>rw [aM (by rfl)]
 | cons x r=>
  rw [au (Xs (ht x (by simp))),sI (by omega),aq,Qq r x ht];refine vz (x::r) (fun y=>y) (fun i l=>(i,l,())) (fun ih i hi l pO=>?_) (fun ih=>?_) (by omega)
  ·have gU:(i:Int)<(((x::r).map aj).length:Int):=by rw [mD]; omega
   have hx:=mC (ht (x::r)[i] (bV _));have hg:((x::r).map aj).getD i []=aj (x::r)[i]:=by rw [aU (by omega),p5]
   simp only [aM gU,az];rw [af (by omega),hg,rB hx.1 hx.2,aq];simp only [Bool.not_true,aw];rw [af (by grind),ba (by omega)]
  have gU:¬ (((x::r).length:Int)<(((x::r).map aj).length:Int)):=by rw [mD]; omega
  simp only [au gU];rw [List.map_id'' (fun _=>rfl),vo (by omega) (by omega),h,aq];rfl
theorem af0 {s:BB} (hs:s.length≤1048575) (hn:1048577<n):W (sH.f n s) (fun r=>bX r.1=true):=by
 have hB:=iR;unfold sH.f;rw [cZ];refine ⟨fun _=>ao.2 rfl,fun _=>?_⟩;rw [rA (by omega) (by omega) (by omega) hn,aq];have hl:=vL (eS (44:Int).toNat) s;have hp:=oq (eS (44:Int).toNat) s;generalize bC (eS (44:Int).toNat) s=L at hl hp;refine gu (fun (i:Nat) (o:List Int)=>((i:Int),o,())) L.length (fun i o=>o.length≤i) (s0:=[]) rfl (by simp) (by omega) (fun ih o hI=>?_) (fun ih i o hi hI hS=>?_)
 ·have hI:o.length≤L.length:=hI;simp only [au (bH _)];rw [xg (by omega) (by omega),aq];cases ho:bX o
  ·exact ao.2 rfl
  exact ao.2 ho
 have hI:o.length≤i:=hI;simp only [aM (show (i:Int)<(L.length:Int) by omega),az];have hq:=hp (L.getD i []) (by grind);rw [af (by omega),dt];refine bA (Hz (by omega) (by omega)) (fun r _=>?_);rw [cC];refine ⟨fun _=>ao.2 rfl,fun _=>?_⟩;rw [af (by grind),ba (by omega)]
 grind
theorem af1 {s:BB} (hs:s.length≤1048575) (hn:1048577<n):W (pP.f n s) (fun r=>bX r.1=true):=by
 have hB:=iR;unfold pP.f;rw [cZ];refine ⟨fun _=>ao.2 rfl,fun _=>?_⟩;rw [sI (by omega),aq];have hl:=vL 44 s;have hp:=oq 44 s;generalize bC 44 s=L at hl hp;refine gu (fun (i:Nat) (o:List Int)=>((i:Int),o,())) L.length (fun i o=>o.length≤i) (s0:=[]) rfl (by simp) (by omega) (fun ih o hI=>?_) (fun ih i o hi hI hS=>?_)
 ·have hI:o.length≤L.length:=hI;simp only [au (bH _)];rw [vo (by omega) (by omega),aq];cases ho:bX o
  ·exact ao.2 rfl
  exact ao.2 ho
 have hI:o.length≤i:=hI;simp only [aM (show (i:Int)<(L.length:Int) by omega),az];have hq:=hp (L.getD i []) (by grind);rw [af (by omega),dt];refine bA (Av (by omega)) (fun r _=>?_);rw [cC];refine ⟨fun _=>ao.2 rfl,fun _=>?_⟩;rw [af (by grind),ba (by omega)]
 grind
structure HA (s:BB) (r:Int×Bool×Unit):Prop where
 yes:r.2.1=true→aj r.1=s
 all:∀ x,-999999999≤x→x≤999999999→aj x=s→r=(x,true,())
theorem HA.no {s:BB} {r:Int×(Bool×Unit)} (h:HA s r) (hr:r.2.1=false) {x:Int} (h0 : -999999999≤x) (h1:x≤999999999):s≠aj x:=fun e=>by rw [h.all x h0 h1 e.symm] at hr;cases hr
theorem Xt {s:BB} (hs:s.length≤1048576) (hn:1048576<n):W (bO.f n s) (fun r=>HA s r∧(r.2.1=true→-999999999≤r.1∧r.1≤999999999)):=by
 by_cases h:∃ x:Int,-999999999≤x∧x≤999999999∧aj x=s
 ·obtain ⟨x,h0,h1,e⟩:=h;rw [← e,Xj hn h0 h1];exact ao.2 ⟨⟨fun _=>rfl,fun y _ _ hy=>by rw [Hy hy]⟩,fun _=>⟨h0,h1⟩⟩
 exact bA (Xk hs hn) (fun r hr=>⟨⟨fun h=>(hr h).1,fun x h0 h1 e=>absurd ⟨x,h0,h1,e⟩ h⟩,fun h=>(hr h).2⟩)
theorem Xu {s:BB} (hs:s.length≤1048576):W (fi.f n s) (HA s):=by
 by_cases h:∃ x:Int,-999999999≤x∧x≤999999999∧aj x=s
 ·obtain ⟨x,h0,h1,e⟩:=h;rw [← e,Xn h0 h1];exact ao.2 ⟨fun _=>rfl,fun y _ _ hy=>by rw [Hy hy]⟩
 exact bA (Xo hs) (fun r hr=>⟨hr,fun x h0 h1 e=>absurd ⟨x,h0,h1,e⟩ h⟩)
structure xY (s:BB) (r:List Int×Bool×Unit):Prop where
 dot:s=[46]→r=([],true,())
 yes:s≠[46]→r.2.1=true→bX r.1=true∧bC 44 s=r.1.map aj
 no:s≠[46]→r.2.1=false→r.1=[]∧∀ l,bX l=true→bC 44 s≠l.map aj
theorem xY.ok {s:BB} {r:List Int×(Bool×Unit)} (h:xY s r):bX r.1=true:=by
 by_cases e:s=[46]
 ·rw [h.dot e]; rfl
 cases hr:r.2.1
 ·rw [(h.no e hr).1]; rfl
 exact (h.yes e hr).1
theorem map_inj {α β:Type} {f:α→β} (hf:∀ a b,f a=f b→a=b):∀ {l l':List α},l.map f=l'.map f→l=l'
 | [],[],_=>rfl
 | [],_::_,h=>by cases h
 | _::_,[],h=>by cases h
 | a::l,b::l',h=>by simp only [List.map_cons,List.cons.injEq] at h;rw [hf a b h.1,map_inj hf h.2]
theorem xY.one {s:BB} {r r':List Int×(Bool×Unit)} (h:xY s r) (h':xY s r'):r=r':=by
 obtain ⟨a,b,⟨⟩⟩:=r;obtain ⟨a',b',⟨⟩⟩:=r';by_cases e:s=[46]
 ·rw [h.dot e,h'.dot e]
 cases b<;>cases b'
 ·rw [show a=[] from (h.no e rfl).1,show a'=[] from (h'.no e rfl).1]
 ·exact absurd (h'.yes e rfl).2 ((h.no e rfl).2 _ (h'.yes e rfl).1)
 ·exact absurd (h.yes e rfl).2 ((h'.no e rfl).2 _ (h.yes e rfl).1)
 rw [show a=a' from map_inj (fun _ _=>Hy) ((h.yes e rfl).2.symm.trans (h'.yes e rfl).2)]
theorem Xv {s:BB} (hd:s≠[46]) {o:List Int} {b:Bool} (hb:bX o=b) (h:(bC 44 s).take (bC 44 s).length=o.map aj):xY s (if b=true then (o,true,()) else ([],false,())):=by
 rw [mN] at h;cases b
 ·exact ⟨fun e=>absurd e hd,fun _ h=>(by cases h),fun _ _=>⟨rfl,fun l hl e=>by rw [h] at e;rw [map_inj (fun _ _=>Hy) e,hl] at hb;cases hb⟩⟩
 exact ⟨fun e=>absurd e hd,fun _ _=>⟨hb,h⟩,fun _ h=>(by cases h)⟩
theorem Xw {s:BB} (hd:s≠[46]) {i:Nat} (hi:i<(bC 44 s).length) {r:Int×(Bool×Unit)} (h:HA ((bC 44 s).getD i []) r) (hr:r.2.1=false):xY s ([],false,()):=
 ⟨fun e=>absurd e hd,fun _ h=>(by cases h),fun _ _=>⟨rfl,fun l hl e=>by
  have jW:i<l.length:=by rw [e,mD] at hi; exact hi
  have ht:=mC ((pz hl).2 l[i] (bV _));refine h.no hr (x:=l[i]) (by omega) (by omega) ?_
  grind⟩⟩
theorem take_one {L:List (BB)} {o:List Int} {i:Nat} (hi:i<L.length) (h:L.take i=o.map aj) (hx:aj x=L.getD i []):L.take (i+1)=(o++[x]).map aj:=by rw [jt hi,h,List.map_append,List.map_cons,List.map_nil,hx,aU hi]
theorem af2 {s:BB} (hs:s.length≤1048575) (hn:1048577<n):W (sH.f n s) (xY s):=by
 have hB:=iR;unfold sH.f;rw [cZ];refine ⟨fun e=>ao.2 ⟨fun _=>rfl,fun h=>absurd e h,fun h=>absurd e h⟩,fun hd=>?_⟩;rw [rA (by omega) (by omega) (by omega) hn,aq];have Qs:eS (44:Int).toNat=44:=rfl;rw [Qs];have hl:=vL 44 s;have hp:=oq 44 s;have hE:=@Xv s hd;have hX:=@Xw s hd;generalize bC 44 s=L at hl hp hE hX;refine gu (fun (i:Nat) (o:List Int)=>((i:Int),o,())) L.length (fun i o=>o.length=i∧L.take i=o.map aj) (s0:=[]) rfl ⟨rfl,by simp⟩ (by omega) (fun ih o hI=>?_) (fun ih i o hi hI hS=>?_)
 ·have h1:=hI.1;simp only [au (bH _)];rw [xg (by omega) (by omega),aq];cases ho:bX o
  ·exact ao.2 (hE ho hI.2)
  exact ao.2 (hE ho hI.2)
 have h1:=hI.1;simp only [aM (show (i:Int)<(L.length:Int) by omega),az];have hq:=hp (L.getD i []) (by grind);rw [af (by omega),dt];refine bA (Xt (by omega) (by omega)) (fun r ⟨hr,_⟩=>?_);rw [vm];refine ⟨fun h=>ao.2 (hX hi hr h),fun h=>?_⟩;rw [af (by grind),ba (by omega)];exact hS _ ⟨by grind,take_one hi hI.2 (hr.yes h)⟩
theorem Xx {s:BB} (hs:s.length≤1048575) (hn:1048577<n):W (pP.f n s) (xY s):=by
 have hB:=iR;unfold pP.f;rw [cZ];refine ⟨fun e=>ao.2 ⟨fun _=>rfl,fun h=>absurd e h,fun h=>absurd e h⟩,fun hd=>?_⟩;rw [sI (by omega),aq];have hl:=vL 44 s;have hp:=oq 44 s;have hE:=@Xv s hd;have hX:=@Xw s hd;generalize bC 44 s=L at hl hp hE hX;refine gu (fun (i:Nat) (o:List Int)=>((i:Int),o,())) L.length (fun i o=>o.length=i∧L.take i=o.map aj) (s0:=[]) rfl ⟨rfl,by simp⟩ (by omega) (fun ih o hI=>?_) (fun ih i o hi hI hS=>?_)
 ·have h1:=hI.1;simp only [au (bH _)];rw [vo (by omega) (by omega),aq];cases ho:bX o
  ·exact ao.2 (hE ho hI.2)
  exact ao.2 (hE ho hI.2)
 have h1:=hI.1;simp only [aM (show (i:Int)<(L.length:Int) by omega),az];have hq:=hp (L.getD i []) (by grind);rw [af (by omega),dt];refine bA (Xu (by omega)) (fun r hr=>?_);rw [vm];refine ⟨fun h=>ao.2 (hX hi hr h),fun h=>?_⟩;rw [af (by grind),ba (by omega)];exact hS _ ⟨by grind,take_one hi hI.2 (hr.yes h)⟩
end Go.AmT
