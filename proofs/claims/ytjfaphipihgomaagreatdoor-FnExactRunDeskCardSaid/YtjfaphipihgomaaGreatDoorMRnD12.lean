/- Functions of the program, each as a plain Lean function. No condition. -/
import Derived.Test.YtjfaphipihgomaaGreatDoorMRnD11
import Derived.Lib.AtoiTie
import Derived.Lib.AtoiAllCases
open Go Go.Am
noncomputable section
set_option linter.unusedVariables false
set_option maxRecDepth 100000
set_option linter.unusedSimpArgs false
open Go.Lib renaming decDigits → fP, decDigits_one → pU, itoa → aj
open Int renaming lt_irrefl → bR, toNat_natCast → ay
open List renaming cons_append → oe, exists_mem_of_ne_nil → We, getD_eq_getElem?_getD → jN, getElem_map → og, getElem_mem → ct, length_cons → aQ, length_map → mn, length_nil → bh, length_pos_iff → jA, length_take → ll, mem_append → eh, mem_cons → fZ, mem_singleton → JZ, nil_append → oh, take_length → jj, take_succ_eq_append_getElem → iC
open Nat renaming pow_le_pow_right → Pr, pow_succ → J_
open UInt8 renaming ofNat → dH, toNat_ofNat' → GH
open UInt8.toNat renaming inj → GI
namespace Go.AmT
open Go.Proofs Go.Proofs.Tryz
def gB.f (n:Nat) (a0 a1:BB):Option (List (BB)×Unit):=Nk a0 a1
def gB.ae (n:Nat):au:=⟨[.val .str,.val .str],[.sh (.sl .str)],fun x=>gB.f n x.1 x.2.1⟩
theorem gB.aD:dh Tryz.prog 19:=eu func19 (by kernel_rfl) (by kernel_rfl)
theorem gB.sound (n:Nat):Sound Tryz.prog 19 (gB.ae n):=ach (b:=0) (by kernel_rfl) (fun s sep m w hs hm h1=>Tryz.strings_Split s sep m w hs hm h1)
def pV.f (n:Nat) (a0:BB):Option (Int×Bool×Unit):=Bb a0
def pV.ae (n:Nat):au:=⟨[.val .str],[.val (.int .i64),.val .err],fun x=>pV.f n x.1⟩
theorem pV.aD:dh Tryz.prog 217:=eu func217 (by kernel_rfl) (by kernel_rfl)
theorem pV.sound (n:Nat):Sound Tryz.prog 217 (pV.ae n):=aci (by kernel_rfl) (by kernel_rfl) (fun s h v hv w=>Tryz.strconv_Atoi_ok s h v hv w) (fun s h hv tp p w sZ=>(Tryz.strconv_Atoi_syntax_var s h hv tp p w sZ).mono fun e w' ⟨N,he,_,_,hb⟩=>⟨_,_,he,hb⟩) (fun s h hv tp p w sZ=>(Tryz.strconv_Atoi_range_var s h hv tp p w sZ).mono fun e w' ⟨N,he,_,_,hb⟩=>⟨_,_,he,hb⟩)
def bN.cE:List (Nat×LA):=[(1,⟨[(20,.bool)],[],[0],[]⟩),(4,⟨[(2,.int .i64),(3,.bool)],[],[],[]⟩),(5,⟨[(51,.bool)],[],[0],[]⟩),(11,⟨[(6,.int .i64),(7,.int .i64)],[],[0],[]⟩),(15,⟨[(67,.bool)],[],[0,6,7],[]⟩)]
def bN.la:LA:=⟨[(0,.str)],[],[],[]⟩
def bN.lb:LA:=⟨[(0,.int .i64),(1,.bool)],[],[],[]⟩
def bN.B (n:Nat) (slf:(BB)→Option (Int×Bool×Unit)) (a0:BB):Option (Int×Bool×Unit):=cut (br (decide (1<(a0.length:Int))) (ab ((0:Int)≤0∧0<(a0.length:Int)) (br (decide (((a0.getD 0 0).toNat:Int)=45)) (ab ((0:Int)≤1∧(1:Int)<(a0.length:Int)) (some (.inr (!decide (((a0.getD 1 0).toNat:Int)=45),())))) (some (.inr (false,()))))) (some (.inr (false,())))) fun y1=>br y1.1 (ab ((0:Int)≤1∧(1:Int)≤(a0.length:Int)∧(a0.length:Int)≤(a0.length:Int)) ((slf ((a0.take (a0.length:Int).toNat).drop 1)).bind fun r3=>cut (br r3.2.1 (some (.inr (ah (0-r3.1),!decide (r3.1=0),()))) (some (.inr (ah (0-r3.1),false,())))) fun y4=>some (y4.1,y4.2.1,()))) (cut (br (decide ((a0.length:Int)<1)) (some (.inr (true,()))) (br (decide (9<(a0.length:Int))) (some (.inr (true,()))) (ab ((0:Int)≤0∧0<(a0.length:Int)) (br (decide (((a0.getD 0 0).toNat:Int)=48)) (some (.inr (decide (1<(a0.length:Int)),()))) (some (.inr (false,()))))))) fun y5=>br y5.1 (some (0,false,())) (iter n (fun nH bO=>br (decide (bO.2.1<(a0.length:Int))) (cut (ab (0≤bO.2.1∧bO.2.1<(a0.length:Int)) (br (decide (((a0.getD bO.2.1.toNat 0).toNat:Int)<48)) (some (.inr (true,()))) (ab (0≤bO.2.1∧bO.2.1<(a0.length:Int)) (some (.inr (decide (57<((a0.getD bO.2.1.toNat 0).toNat:Int)),())))))) fun Dr=>br Dr.1 (some (0,false,())) (ab (0≤bO.2.1∧bO.2.1<(a0.length:Int)) (nH (ah ((ah (10*bO.1))+(ah (IntKind.wrap .u8 (((a0.getD bO.2.1.toNat 0).toNat:Int)-48)))),ah (bO.2.1+1),())))) (some (bO.1,true,()))) (0,0,())))
def bN.F (n:Nat):Nat→(BB)→Option (Int×Bool×Unit)
 | 0=>fun _=>none
 | d+1=>bN.B n (bN.F n d)
def bN.f (n:Nat) (a0:BB):Option (Int×Bool×Unit):=bN.F n n a0
def bN.oU (n:Nat) (slf:(BB)→Option (Int×Bool×Unit)):dn:=⟨bN.la,bN.lb,fun x=>slf x.1⟩
def bN.ae (n:Nat):dn:=⟨bN.la,bN.lb,fun x=>bN.f n x.1⟩
def bN.cfg (n:Nat) (slf:(BB)→Option (Int×Bool×Unit)):ba:=⟨mS,[],[(62,bN.oU n slf)],[]⟩
theorem bN.eq:∀ (n:Nat) (slf:(BB)→Option (Int×Bool×Unit)) (a0:BB) (mp:Mp),dn.run (bN.cfg n slf) n f62 (fm f62 bN.cE) bN.la bN.lb (a0,mp)=bN.B n slf a0:=by intros;kernel_rfl
theorem bN.aD:dh Tryz.prog 62:=eu func62 (by kernel_rfl) (by kernel_rfl)
theorem bN.tg (n:Nat):∀ d,pB Tryz.prog 62 (bN.oU n (bN.F n d))
 | 0=>fun _ _ h=>nomatch h
 | d+1=>Fk (fn:=f62) (M:=bN.oU n (bN.F n (d+1))) (c:=bN.cfg n (bN.F n d)) (uz mixed (sU (.of (c:=bN.cfg n (bN.F n d)) trivial) (.of (c:=bN.cfg n (bN.F n d)) ⟨⟨bN.tg n d,bN.aD⟩,trivial⟩)) (eo kC)) (eo kC) func62 (fun x=>(bN.eq n (bN.F n d) x.1 x.2).symm)
theorem bN.sound (n:Nat):pB Tryz.prog 62 (bN.ae n):=bN.tg n n
def nd.f (n:Nat) (a0:BB) (a1:Int):Option (List (BB)×Unit):=iter n (fun qx x8=>br (decide (x8.2.1<(a0.length:Int))) (ab (0≤x8.2.1∧x8.2.1<(a0.length:Int)) (br (decide (((a0.getD x8.2.1.toNat 0).toNat:Int)=a1)) (ab (0≤x8.1∧x8.1≤x8.2.1∧x8.2.1≤(a0.length:Int)) (ab ((x8.2.2.1.length+([((a0.take x8.2.1.toNat).drop x8.1.toNat)]:List (BB)).length)*16≤bo) (qx (ah (x8.2.1+1),ah (x8.2.1+1),x8.2.2.1++[((a0.take x8.2.1.toNat).drop x8.1.toNat)],())))) (qx (x8.1,ah (x8.2.1+1),x8.2.2.1,())))) (ab (0≤x8.1∧x8.1≤(a0.length:Int)∧(a0.length:Int)≤(a0.length:Int)) (ab ((x8.2.2.1.length+([((a0.take (a0.length:Int).toNat).drop x8.1.toNat)]:List (BB)).length)*16≤bo) (some (x8.2.2.1++[((a0.take (a0.length:Int).toNat).drop x8.1.toNat)],()))))) (0,0,[],())
def nd.ae (n:Nat):au:=⟨[.val .str,.val U8],[.val (.sl .str)],fun x=>nd.f n x.1 x.2.1⟩
theorem nd.ok (n:Nat):aP 17 (nd.ae n):=aU n [(5,⟨[(5,.own 1000 .str),(6,.int .i64),(7,.int .i64)],[(1000,.row true .str)],[0,1],[]⟩)] [] aK aL func17
def rT.f (n:Nat) (a0:BB):Option (List Int×Bool×Unit):=br (decide (a0=([46]:BB))) (some ([],true,())) ((nd.f n a0 44).bind fun r1=>iter n (fun nH bO=>br (decide (bO.1<(r1.1.length:Int))) (ab (0≤bO.1∧bO.1<(r1.1.length:Int)) ((bN.f n (r1.1.getD bO.1.toNat [])).bind fun fh=>br (!fh.2.1) (some ([],false,())) (ab ((bO.2.1.length+([fh.1]:List Int).length)*8≤bo) (nH (ah (bO.1+1),bO.2.1++[fh.1],()))))) ((fE.f n bO.2.1).bind fun fU=>br (!fU.1) (some ([],false,())) (some (bO.2.1,true,())))) (0,[],()))
def rT.ae (n:Nat):au:=⟨[.val .str],[.val IS,.val .bool],fun x=>rT.f n x.1⟩
theorem rT.ok (n:Nat):aP 68 (rT.ae n):=aU n [(7,⟨[(4,.own 1000 I),(16,.int .i64)],[(1000,.row true I)],[14,15],[]⟩)] [] (ai (nd.ok n) (ai ⟨fE.sound n,fE.aD⟩ aK)) (eM ⟨bN.sound n,bN.aD⟩ aL) func68
def e9.f (n:Nat) (a0:BB):Option (Int×Bool×Unit):=(pV.f n a0).bind fun r1=>br r1.2.1 ((dR.f n r1.1).bind fun r2=>some (r1.1,decide (r2.1=a0),())) (some (r1.1,false,()))
def e9.ae (n:Nat):au:=⟨[.val .str],[.val I,.val .bool],fun x=>e9.f n x.1⟩
theorem e9.ok (n:Nat):aP 159 (e9.ae n):=aU n [] [] (ai ⟨pV.sound n,pV.aD⟩ (ai ⟨dR.sound n,dR.aD⟩ aK)) aL func159
def oZ.f (n:Nat) (a0:BB):Option (List Int×Bool×Unit):=br (decide (a0=([46]:BB))) (some ([],true,())) ((gB.f n a0 ([44]:BB)).bind fun r1=>iter n (fun Gd j_=>br (decide (j_.1<(r1.1.length:Int))) (ab (0≤j_.1∧j_.1<(r1.1.length:Int)) (let Bj:=(r1.1.getD j_.1.toNat []); (e9.f n Bj).bind fun iA=>br (!iA.2.1) (some ([],false,())) (ab ((j_.2.1.length+([iA.1]:List Int).length)*8≤bo) (Gd (ah (j_.1+1),j_.2.1++[iA.1],()))))) ((eV.f n j_.2.1).bind fun fV=>br (!fV.1) (some ([],false,())) (some (j_.2.1,true,())))) (0,[],()))
def oZ.ae (n:Nat):au:=⟨[.val .str],[.val IS,.val .bool],fun x=>oZ.f n x.1⟩
theorem oZ.ok (n:Nat):aP 93 (oZ.ae n):=aU n [(7,⟨[(4,.own 1000 I),(15,.int .i64)],[(1000,.row true I)],[13,14],[]⟩)] [] (ai ⟨gB.sound n,gB.aD⟩ (ai (e9.ok n) (ai ⟨eV.sound n,eV.aD⟩ aK))) aL func93
end Go.AmT
namespace Go.AmT
variable {n:Nat} {s:BB} {x:Int}
theorem zq {c:UInt8} : ∀ {a:BB},c∉a→bt c a=[a]
 | [],_=>rfl
 | x::xs,h=>by have h1:x≠c:=fun e=>h (by simp [e]);have h2:c∉xs:=fun e=>h (by simp [e]);rw [bt,if_neg h1,zq h2]; rfl
theorem mo {c:UInt8} (b:BB):∀ {a:BB},c∉a→bt c (a++c::b)=a::bt c b
 | [],_=>by rw [oh,bt,if_pos rfl]
 | x::xs,h=>by have h1:x≠c:=fun e=>h (by simp [e]);have h2:c∉xs:=fun e=>h (by simp [e]);rw [oe,bt,if_neg h1,mo b h2]; rfl
theorem Wg (c:UInt8):∀ t:BB,bt c (t++[c])=bt c t++[[]]
 | []=>by simp [bt]
 | x::xs=>by
  rw [oe,bt,bt,Wg c xs];split
  ·rfl
  cases h:bt c xs with
  | nil=>exact absurd h (mR c xs)
  | cons a b=>rfl
theorem Ps {c:UInt8} : ∀ (l:List (BB)),(∀ a∈l,c∉a)→bt c ((l.map (·++[c])).flatten)=l++[[]]
 | [],_=>rfl
 | a::l,h=>by
  have e:((a::l).map (·++[c])).flatten=a++c::(l.map (·++[c])).flatten:=by simp
  rw [e,mo _ (h a (by simp)),Ps l (fun b hb=>h b (by simp [hb]))];rfl
theorem mq (c:UInt8):∀ t:BB,∀ p∈bt c t,p.length+(bt c t).length≤t.length+1
 | []=>by simp [bt]
 | x::xs=>by
  have h2:=mq c xs;rw [bt];have aA:=mR c xs;split
  ·intro p hp;rcases fZ.1 hp with rfl | hp
   ·obtain ⟨a,ha⟩:=We _ aA;have:=h2 a ha;simp only [aQ,bh]; omega
   have:=h2 p hp; simp only [aQ]; omega
  cases h:bt c xs with
  | nil=>exact absurd h aA
  | cons a b=>
   rw [h] at h2;intro p hp;rcases fZ.1 hp with rfl | hp
   ·have:=h2 a (by simp); simp only [uC,aQ] at this ⊢; omega
   have:=h2 p (by simp [hp]); simp only [uC,aQ] at this ⊢; omega
theorem u6 (c:UInt8) (t:BB):(bt c t).length≤t.length+1:=by obtain ⟨a,ha⟩:=We _ (mR c t);have:=mq c t a ha;omega
def begun (a:BB):List (BB)→List (BB)
 | []=>[a]
 | h::t=>(a++h)::t
theorem aet (a:BB) (x:UInt8) (l:List (BB)) (hl:l≠[]):begun (a++[x]) l=begun a (uC x l):=by
 cases l with
 | nil=>exact absurd rfl hl
 | cons h t=>simp [begun,uC]
theorem qL {s:BB} {c:Int} (h0:0≤c) (h1:c<256) (hs:s.length≤1048576) (hn:1048577<n):nd.f n s c=some (bt (dH c.toNat) s,()):=by
 have hB:=iD;have JE:∀ b:UInt8,((b.toNat:Int)=c)↔b=dH c.toNat:=fun b=>by
  constructor
  ·intro e;apply GI;rw [GH];omega
  intro e;rw [e,GH];omega
 unfold nd.f;refine dZ.1 (bz (P:=fun (r:List (BB)×Unit)=>r.1=bt (dH c.toNat) s) ?_ (fun r hr=>by obtain ⟨r,⟨⟩⟩:=r; exact congrArg (fun z=>(z,())) hr))
 ·refine fT (fun (i:Nat) (o:Nat×List (BB))=>((o.1:Int),(i:Int),o.2,())) s.length (fun i o=>o.1≤i∧o.2.length≤i∧o.2++begun ((s.take i).drop o.1) (bt (dH c.toNat) (s.drop i))=bt (dH c.toNat) s) (s0:=(0,[])) rfl ⟨Nat.le_refl _,by simp,?_⟩ (by omega) (fun ih o hI=>?_) (fun ih i o hi hI hS=>?_)
  ·show []++begun [] (bt _ s)=_;cases h:bt (dH c.toNat) s with
   | nil=>exact absurd h (mR _ s)
   | cons a b=>rfl
  ·obtain ⟨o1,o2,o3⟩:=hI;simp only [av (bR _)];rw [af (by omega),af (by simp only [aQ,bh]; omega),ak];show o.2++[_]=_;rw [← o3,List.drop_length];simp [bt,begun]
  obtain ⟨o1,o2,o3⟩:=hI;simp only [aG (show (i:Int)<(s.length:Int) by omega),ay];rw [af (by omega)];have hd:s.drop i=s[i]::s.drop (i+1):=List.drop_eq_getElem_cons hi;have hg:s.getD i 0=s[i]:=aJ hi 0;have ht:(s.take (i+1)).drop o.1=(s.take i).drop o.1++[s[i]]:=by rw [iC hi,List.drop_append_of_le_length (by rw [ll]; omega)]
  by_cases e:s[i]=dH c.toNat
  ·rw [aG (show ((s.getD i 0).toNat:Int)=c by rw [hg]; exact (JE _).2 e),af (by omega),af (by simp only [aQ,bh]; omega),a_ (by omega)];refine hS (i+1,o.2++[(s.take i).drop o.1]) ⟨Nat.le_refl _,by simp; omega,?_⟩;show (o.2++[_])++begun ((s.take (i+1)).drop (i+1)) _=_;rw [← o3,hd,bt,if_pos e];have hz:(s.take (i+1)).drop (i+1)=[]:=List.drop_eq_nil_of_le (by rw [ll]; omega);rw [hz];cases h:bt (dH c.toNat) (s.drop (i+1)) with
   | nil=>exact absurd h (mR _ _)
   | cons a b=>simp [begun]
  rw [av (show ¬ ((s.getD i 0).toNat:Int)=c by rw [hg]; exact fun h=>e ((JE _).1 h)),a_ (by omega)];refine hS (o.1,o.2) ⟨by show o.1≤i+1; omega,by show o.2.length≤i+1; omega,?_⟩;show o.2++begun ((s.take (i+1)).drop o.1) _=_;rw [← o3,hd,bt,if_neg e,ht,aet _ _ _ (mR _ _)]
theorem qM {s:BB} {c:UInt8} (hs:s.length≤1048576):gB.f n s [c]=some (bt c s,()):=by exact if_pos (show s.length<4294967281 by omega)
theorem BA {k:Nat} (h:k<10):(dH (48+k)).toNat=48+k:=by rw [GH]; omega
theorem zr:∀ (k u:Nat),u<10 ^ (k+1)→∀ c∈fP u,48≤c.toNat∧c.toNat≤57
 | 0,u,h=>by
  rw [pU (by simpa using h)];intro c hc;rw [JZ.1 hc,BA (by simpa using h)];have:u<10:=by simpa using h
  omega
 | k+1,u,h=>by
  by_cases hu:u<10
  ·rw [pU hu];intro c hc;rw [JZ.1 hc,BA hu];omega
  rw [zn hu];rw [J_] at h;intro c hc;rcases eh.1 hc with hc | hc
  ·exact zr k (u / 10) (by omega) c hc
  rw [JZ.1 hc,BA (by omega)];omega
theorem xd (u:Nat):fP u≠[]:=by
 by_cases hu:u<10
 ·rw [pU hu]; simp
 rw [zn hu]; simp
theorem Wh:∀ (k u:Nat),u<10 ^ (k+1)→(fP u).length=1∨(fP u).getD 0 0≠48
 | 0,u,h=>by rw [pU (by simpa using h)]; exact .inl rfl
 | k+1,u,h=>by
  by_cases hu:u<10
  ·rw [pU hu]; exact .inl rfl
  rw [J_] at h;rw [zn hu];refine .inr ?_;have aA:=xd (u / 10);by_cases h9:u / 10<10
  ·rw [pU h9];intro e;have e:dH (48+u / 10)=48:=e;have:=congrArg UInt8.toNat e;rw [BA h9] at this;have:48+u / 10=48:=this;omega
  rcases Wh k (u / 10) (by omega) with h1 | h1
  ·rw [zn h9] at h1;have:=xd (u / 10 / 10);have:=jA.2 this;simp only [List.length_append,aQ,bh] at h1;omega
  rw [jN,List.getElem?_append_left (jA.2 aA),← jN];exact h1
def hY (l:BB):Nat:=l.foldl (fun a c=>10*a+(c.toNat-48)) 0
theorem DH (l:BB) (c:UInt8):hY (l++[c])=10*hY l+(c.toNat-48):=by simp [hY]
theorem J0:∀ (k u:Nat),u<10 ^ (k+1)→hY (fP u)=u
 | 0,u,h=>by
  have h:u<10:=by simpa using h
  rw [pU h,← oh [_],DH,BA h];simp [hY]
 | k+1,u,h=>by
  by_cases hu:u<10
  ·rw [pU hu,← oh [_],DH,BA hu];simp [hY]
  rw [J_] at h;rw [zn hu,DH,J0 k (u / 10) (by omega),BA (by omega)];omega
theorem Wi:∀ (l:BB) (a:Nat),(∀ c∈l,48≤c.toNat∧c.toNat≤57)→l.foldl (fun a c=>10*a+(c.toNat-48)) a<(a+1)*10 ^ l.length
 | [],a,_=>by simp
 | c::l,a,h=>by have h2:=h c (by simp);have h1:=Wi l (10*a+(c.toNat-48)) (fun d hd=>h d (by simp [hd]));have h3:(10*a+(c.toNat-48)+1)*10 ^ l.length≤((a+1)*10)*10 ^ l.length:=Nat.mul_le_mul_right _ (by omega);rw [List.foldl_cons,aQ,J_,Nat.mul_comm (10 ^ l.length) 10,← Nat.mul_assoc];omega
theorem J1 (l:BB) (h:∀ c∈l,48≤c.toNat∧c.toNat≤57):hY l<10 ^ l.length:=by have:=Wi l 0 h;simpa [hY] using this
theorem aeu {s:BB} (hd:∀ c∈s,48≤c.toNat∧c.toNat≤57) (hl:s.length≤9) (hn:1048576<n) {F:((Int×Int×Unit)→Option (Int×Bool×Unit))→(Int×Int×Unit)→Option (Int×Bool×Unit)}
  (h1:∀ ih (i:Nat) (v:Int),i<s.length→0≤v→v≤1000000000→F ih (v,(i:Int),())=ih (10*v+(((s.getD i 0).toNat:Int)-48),((i+1:Nat):Int),()))
  (h2:∀ ih v,F ih (v,(s.length:Int),())=some (v,true,())):iter n F (0,0,())=some ((hY s:Int),true,()):=by
 have hp:∀ i,i≤s.length→hY (s.take i)<10 ^ i:=fun i hi=>by have:=J1 (s.take i) (fun c hc=>hd c (List.mem_of_mem_take hc));rwa [ll,Nat.min_eq_left hi] at this
 have:=mc (F:=F) (fun i=>(((hY (s.take i):Nat):Int),(i:Int),())) s.length (R:=some ((hY s:Int),true,())) (fun ih i hi=>?_) (fun ih=>?_) (n:=n) (by omega)
 ·exact this
 ·have hb:=hp i (by omega);have kr:10 ^ i≤10 ^ 9:=Pr (by omega) (by omega);have hc:=hd s[i] (ct _);rw [h1 ih i _ hi (by omega) (by omega),iC hi,DH,aJ hi];congr 2;omega
 rw [h2 ih,jj]
theorem Wj {b:UInt8} (h:48≤b.toNat∧b.toNat≤57):ah (IntKind.wrap .u8 ((b.toNat:Int)-48))=(b.toNat:Int)-48:=by
 have c:b.toNat=48∨b.toNat=49∨b.toNat=50∨b.toNat=51∨b.toNat=52∨b.toNat=53∨b.toNat=54∨b.toNat=55∨b.toNat=56∨b.toNat=57:=by omega
 rcases c with h | h | h | h | h | h | h | h | h | h<;>(rw [h]; decide)
theorem aev {slf:BB→Option (Int×Bool×Unit)} {s:BB} (h0:s≠[]) (hd:∀ c∈s,48≤c.toNat∧c.toNat≤57) (hl:s.length≤9) (hz:s.length=1∨s.getD 0 0≠48) (hn:1048576<n) :
  bN.B n slf s=some ((hY s:Int),true,()):=by
 have fw:=jA.2 h0;have Lt:=hd (s.getD 0 0) (by rw [aJ fw]; exact ct _);have e45:¬ (((s.getD 0 0).toNat:Int)=45):=by omega
 have flag:(br (decide (1<(s.length:Int))) (ab ((0:Int)≤0∧(0:Int)<(s.length:Int)) (br (decide (((s.getD 0 0).toNat:Int)=45)) (ab ((0:Int)≤1∧(1:Int)<(s.length:Int)) (some (Sum.inr (α:=Int×Bool×Unit) (!decide (((s.getD 1 0).toNat:Int)=45),())))) (some (.inr (false,()))))) (some (.inr (false,()))))=some (.inr (false,())):=by
  rw [av e45,af (by omega)];by_cases h:1<(s.length:Int)
  ·rw [aG h]
  rw [av h]
 unfold bN.B;rw [flag];simp only [aY,ar];rw [av (by omega),av (by omega),af (by omega)];have iI:(br (decide (((s.getD 0 0).toNat:Int)=48)) (some (Sum.inr (α:=Int×Bool×Unit) (decide (1<(s.length:Int)),()))) (some (.inr (false,()))))=some (.inr (false,())):=by
  rcases hz with h | h
  ·rw [decide_eq_false (show ¬ 1<(s.length:Int) by omega)];by_cases e:((s.getD 0 0).toNat:Int)=48
   ·rw [aG e]
   rw [av e]
  rw [av (fun e=>h (GI (by show _=48; omega)))]
 rw [iI];simp only [aY,ar];refine aeu hd hl hn (fun ih i v hi v0 v1=>?_) (fun ih v=>?_)
 ·have gm:(i:Int)<(s.length:Int):=by omega
  have hc:=hd (s.getD i 0) (by rw [aJ hi]; exact ct _);simp only [aG gm,ay];rw [af (by omega),av (by omega),af (by omega),decide_eq_false (show ¬ 57<((s.getD i 0).toNat:Int) by omega)];simp only [aY,ar];rw [af (by omega),Wj hc,bP (n:=10*v) (by omega) (by omega),bP (n:=10*v+_) (by omega) (by omega),a_ (by omega)]
 simp only [av (bR _)]
theorem Wk (u:Nat):u<10 ^ (u+1):=Nat.lt_trans (Nat.lt_succ_self u) (Nat.lt_pow_self (by omega))
theorem Pt (u:Nat):hY (fP u)=u:=J0 u u (Wk u)
theorem Pu (u:Nat):∀ c∈fP u,48≤c.toNat∧c.toNat≤57:=zr u u (Wk u)
theorem Wl:∀ (k:Nat) (l:BB),l.length=k+1→(∀ c∈l,48≤c.toNat∧c.toNat≤57)→(l.length=1∨l.getD 0 0≠48)→fP (hY l)=l
 | 0,l,hl,hd,_=>by
  obtain ⟨c,rfl⟩:=List.length_eq_one_iff.1 hl;have hc:=hd c (by simp);have e:hY [c]=c.toNat-48:=by simp [hY]
  rw [e,pU (by omega)];exact congrArg (fun z=>[z]) (GI (by rw [GH]; omega))
 | k+1,l,hl,hd,hz=>by
  obtain ⟨a,c,rfl⟩:∃ a c,l=a++[c]:=⟨l.dropLast,l.getLast (by intro e; simp [e] at hl),(List.dropLast_concat_getLast _).symm⟩
  have ha:a.length=k+1:=by simpa using hl
  have hg:a.getD 0 0≠48:=by
   rcases hz with h | h
   ·rw [List.length_append,List.length_singleton] at h; omega
   cases a with
   | nil=>simp at ha
   | cons b r=>simpa using h
  have ih:=Wl k a ha (fun d gC=>hd d (by simp [gC])) (.inr hg);have hc:=hd c (by simp);have hp:hY a≠0:=fun e=>by rw [e,pU (by omega)] at ih;rw [← ih] at hg;exact hg rfl
  rw [DH,zn (by omega),show (10*hY a+(c.toNat-48)) / 10=hY a by omega,ih,show (10*hY a+(c.toNat-48)) % 10=c.toNat-48 by omega];exact congrArg (fun z=>a++[z]) (GI (by rw [GH]; omega))
def GJ:BB→Int
 | []=>0
 | c::l=>if c=45 then -(hY l:Int) else (hY (c::l):Int)
theorem Pv (x:Int):GJ (aj x)=x:=by
 unfold aj;split
 ·show (if (45:UInt8)=45 then -(hY (fP x.natAbs):Int) else (hY (45::fP x.natAbs):Int))=_;rw [if_pos rfl,Pt]; omega
 have h:=Pu x.toNat;have e:=Pt x.toNat;cases hD:fP x.toNat with
 | nil=>exact absurd hD (xd _)
 | cons c l=>
  rw [hD] at h e;have hc:c≠45:=fun e=>by have:=(h c (by simp)).1; rw [e] at this; exact absurd this (by decide)
  show (if c=45 then -(hY l:Int) else (hY (c::l):Int))=_;rw [if_neg hc,e]; omega
theorem GK {y:Int} (h:aj x=aj y):x=y:=by rw [← Pv x,← Pv y,h]
theorem Wm (hn:1048576<n) (h0 : -999999999≤x) (h1:x≤999999999):bN.f n (aj x)=some (x,true,()):=by
 obtain ⟨m,rfl⟩:∃ m,n=m+2:=⟨n-2,by omega⟩
 have GL:∀ (k:Nat) (slf:BB→Option (Int×Bool×Unit)),k≤999999999→bN.B (m+2) slf (fP k)=some ((k:Int),true,()):=fun k slf hk=>by
  have hp:k<10 ^ (8+1):=by omega
  have:=w8 8 k hp;rw [aev (xd k) (zr 8 k hp) (by omega) (Wh 8 k hp) hn,J0 8 k hp]
 show bN.B (m+2) (bN.F (m+2) (m+1)) (aj x)=_;unfold aj;by_cases hx:x<0
 ·rw [if_pos hx];have hk:=GL x.natAbs (bN.F (m+2) m) (by omega);have aA:=jA.2 (xd x.natAbs);have hp:x.natAbs<10 ^ (8+1):=by omega
  have hd:=zr 8 x.natAbs hp ((fP x.natAbs).getD 0 0) (by rw [aJ aA]; exact ct _);generalize hD:fP x.natAbs=D at hk aA hd;unfold bN.B;have e0:(45::D).getD 0 0=45:=rfl;have e1:(45::D).getD 1 0=D.getD 0 0:=rfl;have e2:((45::D).take ((45::D).length:Int).toNat).drop 1=D:=by rw [ay,jj]; rfl
  have hl:((45::D).length:Int)=(D.length:Int)+1:=by simp
  rw [e0,e1,e2,hl,aG (by omega),af (by omega),aG (by decide),af (by omega),decide_eq_false (by omega)];simp only [Bool.not_false,aY,aB];rw [af (by omega)];show (bN.B (m+2) (bN.F (m+2) m) D).bind _=_;rw [hk,ao];simp only [aB];rw [decide_eq_false (show ¬ (x.natAbs:Int)=0 by omega),bP (n:=0-(x.natAbs:Int)) (by omega) (by omega)];simp only [aY,Bool.not_false];rw [show (0:Int)-(x.natAbs:Int)=x by omega]
 rw [if_neg hx,GL x.toNat _ (by omega),show ((x.toNat:Nat):Int)=x by omega]
theorem zt (hn:1048576<n) (h0 : -1000000≤x) (h1:x≤1000000):bN.f n (aj x)=some (x,true,()):=Wm hn (by omega) (by omega)
theorem Wn {s:BB} (hs:s.length≤1048576) (hn:1048576<n):W (bN.f n s) (fun r=>r.2.1=true→aj r.1=s∧-999999999≤r.1∧r.1≤999999999):=by
 have flag:∀ t:BB,(br (decide (1<(t.length:Int))) (ab ((0:Int)≤0∧(0:Int)<(t.length:Int)) (br (decide (((t.getD 0 0).toNat:Int)=45)) (ab ((0:Int)≤1∧(1:Int)<(t.length:Int)) (some (Sum.inr (α:=Int×Bool×Unit) (!decide (((t.getD 1 0).toNat:Int)=45),())))) (some (.inr (false,()))))) (some (.inr (false,()))))=some (.inr (decide (1<(t.length:Int))&&(decide (((t.getD 0 0).toNat:Int)=45)&&!decide (((t.getD 1 0).toNat:Int)=45)),())):=fun t=>by
  by_cases h1:1<(t.length:Int)
  ·rw [aG h1,af (by omega),decide_eq_true h1,Bool.true_and];by_cases h2:((t.getD 0 0).toNat:Int)=45
   ·rw [aG h2,af (by omega),decide_eq_true h2,Bool.true_and]
   rw [av h2,decide_eq_false h2,Bool.false_and]
  rw [av h1,decide_eq_false h1,Bool.false_and]
 have plain:∀ (t:BB) (slf:BB→Option (Int×Bool×Unit)),t.length≤1048576→(decide (1<(t.length:Int))&&(decide (((t.getD 0 0).toNat:Int)=45)&&!decide (((t.getD 1 0).toNat:Int)=45)))=false→W (bN.B n slf t) (fun r=>r.2.1=true→0≤r.1∧r.1≤999999999∧fP r.1.toNat=t):=fun t slf ht hf=>by
  unfold bN.B;rw [flag,hf];simp only [aY,ar];refine fx.2 (bz (P:=fun z=>∃ y:Bool×Unit,z = .inr y∧(y.1=false→0<t.length∧t.length≤9∧(t.length=1∨t.getD 0 0≠48))) ?_ (fun z hz=>?_))
  ·rw [cM];refine ⟨fun _=>ak.2 ⟨_,rfl,fun h=>by cases h⟩,fun h1=>?_⟩;rw [cM];refine ⟨fun _=>ak.2 ⟨_,rfl,fun h=>by cases h⟩,fun h2=>?_⟩;rw [af (by omega),cM];exact ⟨fun _=>ak.2 ⟨_,rfl,fun h=>⟨by omega,by omega,.inl (by have:=of_decide_eq_false h; omega)⟩⟩,fun h3=>ak.2 ⟨_,rfl,fun _=>⟨by omega,by omega,.inr (fun e=>h3 (by rw [e]; rfl))⟩⟩⟩
  obtain ⟨y,rfl,hy⟩:=hz;simp only;rw [cw];refine ⟨fun _=>ak.2 (fun h=>by cases h),fun h=>?_⟩;obtain ⟨h0,hl,hz⟩:=hy h;refine fT (fun (i:Nat) (v:Int)=>(v,(i:Int),())) t.length (fun i v=>v=(hY (t.take i):Int)∧∀ c∈t.take i,48≤c.toNat∧c.toNat≤57) (s0:=0) rfl ⟨by simp [hY],by simp⟩ (by omega) (fun ih v hI=>?_) (fun ih i v hi hI hS=>?_)
  ·obtain ⟨e,hd⟩:=hI;rw [jj] at e hd;have hb:=J1 t hd;have h9:10 ^ t.length≤10 ^ 9:=Pr (by omega) hl;simp only [av (bR _)];refine ak.2 (fun _=>⟨by show (0:Int)≤v; omega,by show v≤999999999; omega,?_⟩);show fP v.toNat=t;rw [e,ay];exact Wl (t.length-1) t (by omega) hd hz
  obtain ⟨e,hd⟩:=hI;have hb:=J1 (t.take i) hd;have h9:10 ^ (t.take i).length≤10 ^ 9:=Pr (by omega) (by rw [ll]; omega);simp only [aG (show (i:Int)<(t.length:Int) by omega),ay];refine fx.2 (bz (P:=fun z=>∃ y:Bool×Unit,z = .inr y∧(y.1=false→48≤(t.getD i 0).toNat∧(t.getD i 0).toNat≤57)) ?_ (fun z hz=>?_))
  ·rw [af (by omega),cM];refine ⟨fun _=>ak.2 ⟨_,rfl,fun h=>by cases h⟩,fun h1=>?_⟩;rw [af (by omega)];exact ak.2 ⟨_,rfl,fun h=>by have:=of_decide_eq_false h; omega⟩
  obtain ⟨y,rfl,hy⟩:=hz;simp only;rw [cw];refine ⟨fun _=>ak.2 (fun h=>by cases h),fun h=>?_⟩;have hc:=hy h;rw [af (by omega),Wj hc,bP (n:=10*v) (by omega) (by omega),bP (n:=10*v+_) (by omega) (by omega),a_ (by omega)];rw [aJ hi] at hc ⊢;refine hS _ ⟨?_,?_⟩
  ·rw [iC hi,DH]; omega
  rw [iC hi];exact JV hd hc
 obtain ⟨m,rfl⟩:∃ m,n=m+2:=⟨n-2,by omega⟩
 show W (bN.B (m+2) (bN.F (m+2) (m+1)) s) _;cases hf:(decide (1<(s.length:Int))&&(decide (((s.getD 0 0).toNat:Int)=45)&&!decide (((s.getD 1 0).toNat:Int)=45))) with
 | false=>
  refine bz (plain s _ hs hf) (fun r hr h=>?_);obtain ⟨a,b,c⟩:=hr h;exact ⟨by rw [aj,if_neg (by omega),c],by omega,b⟩
 | true=>
  have yd:=hf;simp only [Bool.and_eq_true,decide_eq_true_eq,Bool.not_eq_true',decide_eq_false_iff_not] at yd;obtain ⟨f1,f2,f3⟩:=yd;have e2:(s.take (s.length:Int).toNat).drop 1=s.drop 1:=by rw [ay,jj]
  unfold bN.B;rw [flag,hf];simp only [aY,aB];rw [af (by omega),e2,c8];refine bz (show W (bN.B (m+2) (bN.F (m+2) m) (s.drop 1)) _ from plain _ _ (by rw [List.length_drop]; omega) ?_) (fun r hr=>?_)
  ·have:(s.drop 1).getD 0 0=s.getD 1 0:=by simp [jN]
   rw [this,decide_eq_false f3];simp
  refine fx.2 (bz (P:=fun z=>∃ y:Int×(Bool×Unit),z = .inr y∧(y.2.1=true→y.1=ah (0-r.1)∧r.2.1=true∧r.1≠0)) ?_ (fun z hz=>?_))
  ·rw [cw];exact ⟨fun h=>ak.2 ⟨_,rfl,fun h2=>⟨rfl,h,by simpa using h2⟩⟩,fun _=>ak.2 ⟨_,rfl,fun h2=>by cases h2⟩⟩
  obtain ⟨y,rfl,hy⟩:=hz;refine ak.2 (fun h=>?_);obtain ⟨e,h2,h3⟩:=hy h;obtain ⟨a,b,c⟩:=hr h2;have es:s=45::s.drop 1:=by
   cases s with
   | nil=>simp at f1
   | cons x t=>exact congrArg (·::t) (GI (by show _=45; simpa using (by omega:((((x::t).getD 0 0).toNat):Nat)=45)))
  have e:y.1 = - r.1:=by rw [e,bP (n:=0-r.1) (by omega) (by omega)]; omega
  show aj y.1=s∧_;refine ⟨?_,by show -999999999≤y.1; omega,by show y.1≤999999999; omega⟩;rw [e,aj,if_pos (by omega),show (-r.1).natAbs=r.1.toNat by omega,c,← es]
theorem GM {s:BB} (hs:s.length≤1048576) (hn:1048576<n):W (bN.f n s) (fun _=>True):=bz (Wn hs hn) (fun _ _=>trivial)
theorem Wo:∀ (l:BB) (a:Nat),(∀ c∈l,48≤c.toNat∧c.toNat≤57)→Lib.decFrom a l=some (l.foldl (fun a c=>10*a+(c.toNat-48)) a)
 | [],a,_=>rfl
 | c::l,a,h=>by have h2:=h c (by simp);rw [Lib.decFrom,Lib.digitVal,if_pos h2];show Lib.decFrom (a*10+(c.toNat-48)) l=_;rw [Wo l _ (fun d hd=>h d (by simp [hd])),Nat.mul_comm];rfl
theorem aew (h0 : -999999999≤x) (h1:x≤999999999):Lib.atoiAll (aj x) = .ok x:=by
 have hl:=Wa h0 h1;have GL:∀ k:Nat,k≤999999999→Lib.decNat (fP k)=some k:=fun k hk=>by
  have hp:k<10 ^ (8+1):=by omega
  have aA:=xd k;unfold Lib.decNat;rw [if_neg (by simpa using aA),Wo _ 0 (zr 8 k hp)];exact congrArg some (J0 8 k hp)
 rw [Lib.atoiAll_short _ (by omega)];unfold aj;by_cases hx:x<0
 ·rw [if_pos hx];show Lib.NumEnd.ofOption ((Lib.decNat (fP x.natAbs)).map fun (m:Nat)=>-(m:Int))=_;rw [GL _ (by omega)];show Lib.NumEnd.ok (-(x.natAbs:Int))=_;rw [show -(x.natAbs:Int)=x by omega]
 rw [if_neg hx];have hp:x.toNat<10 ^ (8+1):=by omega
 have hd:=GL x.toNat (by omega);have Wp:=zr 8 x.toNat hp;cases hD:fP x.toNat with
 | nil=>exact absurd hD (xd _)
 | cons b r=>
  rw [hD] at hd Wp;have hb:=Wp b (by simp);have n45:(b==45)=false:=beq_eq_false_iff_ne.2 (fun e=>by rw [e] at hb; exact absurd hb.1 (by decide));have n43:(b==43)=false:=beq_eq_false_iff_ne.2 (fun e=>by rw [e] at hb; exact absurd hb.1 (by decide));unfold Lib.atoi;simp only [n45,n43,Bool.false_eq_true,if_false];rw [hd];show Lib.NumEnd.ok ((x.toNat:Nat):Int)=_;rw [show ((x.toNat:Nat):Int)=x by omega]
theorem Wq (h0 : -999999999≤x) (h1:x≤999999999):e9.f n (aj x)=some (x,true,()):=by
 have hl:=Wa h0 h1;have ha:pV.f n (aj x)=some (x,true,()):=by unfold pV.f Bb;rw [if_pos (by omega),aew h0 h1];rfl
 unfold e9.f;rw [ha,ao];simp only [aB];rw [aep h0 h1,ao,decide_eq_true rfl]
theorem qN (h0 : -1000000≤x) (h1:x≤1000000):e9.f n (aj x)=some (x,true,()):=Wq (by omega) (by omega)
theorem Wr {s:BB} (hs:s.length≤1048576):W (e9.f n s) (fun r=>r.2.1=true→aj r.1=s):=by
 have ha:W (pV.f n s) (fun r=>r.2.1=true→-9223372036854775808≤r.1∧r.1≤9223372036854775807):=by
  unfold pV.f Bb;rw [if_pos (by omega)];cases h:Lib.atoiAll s with
  | ok v=>exact ak.2 (fun _=>Lib.atoiAll_bounds h)
  | «syntax»=>exact ak.2 (fun h=>by cases h)
  | range=>exact ak.2 (fun h=>by cases h)
 unfold e9.f;rw [c8];refine bz ha (fun r hr=>?_);rw [cw];refine ⟨fun h=>?_,fun _=>ak.2 (fun h=>by cases h)⟩;unfold dR.f yB;rw [if_pos (hr h)];exact ak.2 (fun h=>of_decide_eq_true h)
theorem zu {s:BB} (hs:s.length≤1048576):W (e9.f n s) (fun _=>True):=bz (Wr hs) (fun _ _=>trivial)
theorem Ws (h0 : -1000000≤x) (h1:x≤1000000):∀ c∈aj x,c=45∨(48≤c.toNat∧c.toNat≤57):=by
 intro c hc;unfold aj at hc;split at hc
 ·rcases fZ.1 hc with rfl | hc
  ·exact .inl rfl
  exact .inr (zr 6 x.natAbs (by omega) c hc)
 exact .inr (zr 6 x.toNat (by omega) c hc)
theorem pW (h : -1000000≤x∧x≤1000000) {c:UInt8} (J2:c≠45) (hd:¬ (48≤c.toNat∧c.toNat≤57)):c∉aj x:=fun hc=>by
 rcases Ws h.1 h.2 c hc with e | e
 ·exact J2 e
 exact hd e
theorem Wt (x:Int):aj x≠[]:=by
 unfold aj;split
 ·simp
 exact xd _
theorem aex (x y:Int) (r:List Int):eC (x::y::r)=aj x++44::eC (y::r):=by simp [eC,rR]
theorem Pw:∀ (r:List Int) (x:Int),(∀ y∈x::r,tok y=true)→bt 44 (eC (x::r))=(x::r).map aj
 | [],x,h=>by
  have:eC [x]=aj x:=by simp [eC]
  rw [this,zq (pW (ml (h x (by simp))) (by decide) (by decide))];rfl
 | y::r,x,h=>by rw [aex,mo _ (pW (ml (h x (by simp))) (by decide) (by decide)),Pw r y (fun z hz=>h z (List.mem_cons_of_mem _ hz))];rfl
theorem Wu {s:List Int} (h:∀ y∈s,tok y=true) {c:UInt8} (J2:c≠45) (h44:c≠44) (h46:c≠46) (hd:¬ (48≤c.toNat∧c.toNat≤57)):c∉eC s:=by
 cases s with
 | nil=>simpa [eC] using h46
 | cons x r=>
  intro hc;simp only [eC,eh,List.mem_flatten,List.mem_map] at hc;rcases hc with hc | ⟨l,⟨y,hy,rfl⟩,hc⟩
  ·exact pW (ml (h x (by simp))) J2 hd hc
  simp only [rR,eh,JZ] at hc;rcases hc with hc | hc
  ·exact h44 hc
  exact pW (ml (h y (by simp [hy]))) J2 hd hc
theorem Wv {r:List Int} (h:tok x=true):eC (x::r)≠[46]:=by
 intro e;have hi:=pW (ml h) (c:=46) (by decide) (by decide);simp only [eC] at e;cases hx:aj x with
 | nil=>exact Wt x hx
 | cons a b=>
  rw [hx] at e hi;simp only [oe,List.cons.injEq] at e;exact hi (by simp [e.1])
theorem Px {s:List Int} (h:bS s=true):(eC s).length≤4000:=by have:=DF s;rwa [fmtS,if_pos h] at this
theorem aey {s:List Int} (h:bS s=true) (hn:1048577<n):rT.f n (eC s)=some (s,true,()):=by
 have hB:=iD;have hL:=Px h;obtain ⟨hl,ht⟩:=oX h;unfold rT.f;cases s with
 | nil=>rw [aG (by rfl)]
 | cons x r=>
  rw [av (Wv (ht x (by simp))),qL (by omega) (by omega) (by omega) hn,ao];have Py:dH (44:Int).toNat=44:=rfl;rw [Py,Pw r x ht];refine uL (x::r) (fun y=>y) (fun i l=>(i,l,())) (fun ih i hi l oY=>?_) (fun ih=>?_) (by omega)
  ·have gm:(i:Int)<(((x::r).map aj).length:Int):=by rw [mn]; omega
   have hx:=ml (ht (x::r)[i] (ct _));have hg:((x::r).map aj).getD i []=aj (x::r)[i]:=by rw [aJ (by rw [mn]; exact hi),og]
   simp only [aG gm,ay];rw [af (by omega),hg,zt (by omega) hx.1 hx.2,ao];simp only [Bool.not_true,ar];rw [af (by simp only [aQ,bh] at hl hi oY ⊢; omega),a_ (by omega)]
  have gm:¬ (((x::r).length:Int)<(((x::r).map aj).length:Int)):=by rw [mn]; omega
  simp only [av gm];rw [List.map_id'' (fun _=>rfl),wG (by omega) (by omega),h,ao];rfl
theorem aez {s:List Int} (h:bS s=true) (hn:1048577<n):oZ.f n (eC s)=some (s,true,()):=by
 have hB:=iD;have hL:=Px h;obtain ⟨hl,ht⟩:=oX h;unfold oZ.f;cases s with
 | nil=>rw [aG (by rfl)]
 | cons x r=>
  rw [av (Wv (ht x (by simp))),qM (by omega),ao,Pw r x ht];refine uL (x::r) (fun y=>y) (fun i l=>(i,l,())) (fun ih i hi l oY=>?_) (fun ih=>?_) (by omega)
  ·have gm:(i:Int)<(((x::r).map aj).length:Int):=by rw [mn]; omega
   have hx:=ml (ht (x::r)[i] (ct _));have hg:((x::r).map aj).getD i []=aj (x::r)[i]:=by rw [aJ (by rw [mn]; exact hi),og]
   simp only [aG gm,ay];rw [af (by omega),hg,qN hx.1 hx.2,ao];simp only [Bool.not_true,ar];rw [af (by simp only [aQ,bh] at hl hi oY ⊢; omega),a_ (by omega)]
  have gm:¬ (((x::r).length:Int)<(((x::r).map aj).length:Int)):=by rw [mn]; omega
  simp only [av gm];rw [List.map_id'' (fun _=>rfl),uD (by omega) (by omega),h,ao];rfl
theorem aeA {s:BB} (hs:s.length≤1048575) (hn:1048577<n):W (rT.f n s) (fun r=>bS r.1=true):=by
 have hB:=iD;unfold rT.f;rw [cM];refine ⟨fun _=>ak.2 rfl,fun _=>?_⟩;rw [qL (by omega) (by omega) (by omega) hn,ao];have hl:=u6 (dH (44:Int).toNat) s;have hp:=mq (dH (44:Int).toNat) s;generalize bt (dH (44:Int).toNat) s=L at hl hp;refine fT (fun (i:Nat) (o:List Int)=>((i:Int),o,())) L.length (fun i o=>o.length≤i) (s0:=[]) rfl (by simp) (by omega) (fun ih o hI=>?_) (fun ih i o hi hI hS=>?_)
 ·have hI:o.length≤L.length:=hI;simp only [av (bR _)];rw [wG (by omega) (by omega),ao];cases ho:bS o
  ·exact ak.2 rfl
  exact ak.2 ho
 have hI:o.length≤i:=hI;simp only [aG (show (i:Int)<(L.length:Int) by omega),ay];have hq:=hp (L.getD i []) (by rw [aJ hi]; exact ct _);rw [af (by omega),c8];refine bz (GM (by omega) (by omega)) (fun r _=>?_);rw [cw];refine ⟨fun _=>ak.2 rfl,fun _=>?_⟩;rw [af (by simp only [aQ,bh]; omega),a_ (by omega)];exact hS _ (by show (o++[r.1]).length≤i+1; simp; omega)
theorem aeB {s:BB} (hs:s.length≤1048575) (hn:1048577<n):W (oZ.f n s) (fun r=>bS r.1=true):=by
 have hB:=iD;unfold oZ.f;rw [cM];refine ⟨fun _=>ak.2 rfl,fun _=>?_⟩;rw [qM (by omega),ao];have hl:=u6 44 s;have hp:=mq 44 s;generalize bt 44 s=L at hl hp;refine fT (fun (i:Nat) (o:List Int)=>((i:Int),o,())) L.length (fun i o=>o.length≤i) (s0:=[]) rfl (by simp) (by omega) (fun ih o hI=>?_) (fun ih i o hi hI hS=>?_)
 ·have hI:o.length≤L.length:=hI;simp only [av (bR _)];rw [uD (by omega) (by omega),ao];cases ho:bS o
  ·exact ak.2 rfl
  exact ak.2 ho
 have hI:o.length≤i:=hI;simp only [aG (show (i:Int)<(L.length:Int) by omega),ay];have hq:=hp (L.getD i []) (by rw [aJ hi]; exact ct _);rw [af (by omega),c8];refine bz (zu (by omega)) (fun r _=>?_);rw [cw];refine ⟨fun _=>ak.2 rfl,fun _=>?_⟩;rw [af (by simp only [aQ,bh]; omega),a_ (by omega)];exact hS _ (by show (o++[r.1]).length≤i+1; simp; omega)
structure GN (s:BB) (r:Int×Bool×Unit):Prop where
 yes:r.2.1=true→aj r.1=s
 all:∀ x,-999999999≤x→x≤999999999→aj x=s→r=(x,true,())
theorem GN.no {s:BB} {r:Int×(Bool×Unit)} (h:GN s r) (hr:r.2.1=false) {x:Int} (h0 : -999999999≤x) (h1:x≤999999999):s≠aj x:=fun e=>by rw [h.all x h0 h1 e.symm] at hr;cases hr
theorem Ww {s:BB} (hs:s.length≤1048576) (hn:1048576<n):W (bN.f n s) (fun r=>GN s r∧(r.2.1=true→-999999999≤r.1∧r.1≤999999999)):=by
 by_cases h:∃ x:Int,-999999999≤x∧x≤999999999∧aj x=s
 ·obtain ⟨x,h0,h1,e⟩:=h;rw [← e,Wm hn h0 h1];exact ak.2 ⟨⟨fun _=>rfl,fun y _ _ hy=>by rw [GK hy]⟩,fun _=>⟨h0,h1⟩⟩
 exact bz (Wn hs hn) (fun r hr=>⟨⟨fun h=>(hr h).1,fun x h0 h1 e=>absurd ⟨x,h0,h1,e⟩ h⟩,fun h=>(hr h).2⟩)
theorem Wx {s:BB} (hs:s.length≤1048576):W (e9.f n s) (GN s):=by
 by_cases h:∃ x:Int,-999999999≤x∧x≤999999999∧aj x=s
 ·obtain ⟨x,h0,h1,e⟩:=h;rw [← e,Wq h0 h1];exact ak.2 ⟨fun _=>rfl,fun y _ _ hy=>by rw [GK hy]⟩
 exact bz (Wr hs) (fun r hr=>⟨hr,fun x h0 h1 e=>absurd ⟨x,h0,h1,e⟩ h⟩)
structure xe (s:BB) (r:List Int×Bool×Unit):Prop where
 dot:s=[46]→r=([],true,())
 yes:s≠[46]→r.2.1=true→bS r.1=true∧bt 44 s=r.1.map aj
 no:s≠[46]→r.2.1=false→r.1=[]∧∀ l,bS l=true→bt 44 s≠l.map aj
theorem xe.ok {s:BB} {r:List Int×(Bool×Unit)} (h:xe s r):bS r.1=true:=by
 by_cases e:s=[46]
 ·rw [h.dot e]; rfl
 cases hr:r.2.1
 ·rw [(h.no e hr).1]; rfl
 exact (h.yes e hr).1
theorem map_inj {α β:Type} {f:α→β} (hf:∀ a b,f a=f b→a=b):∀ {l l':List α},l.map f=l'.map f→l=l'
 | [],[],_=>rfl
 | [],_::_,h=>by cases h
 | _::_,[],h=>by cases h
 | a::l,b::l',h=>by simp only [List.map_cons,List.cons.injEq] at h;rw [hf a b h.1,map_inj hf h.2]
theorem xe.one {s:BB} {r r':List Int×(Bool×Unit)} (h:xe s r) (h':xe s r'):r=r':=by
 obtain ⟨a,b,⟨⟩⟩:=r;obtain ⟨a',b',⟨⟩⟩:=r';by_cases e:s=[46]
 ·rw [h.dot e,h'.dot e]
 cases b<;>cases b'
 ·rw [show a=[] from (h.no e rfl).1,show a'=[] from (h'.no e rfl).1]
 ·exact absurd (h'.yes e rfl).2 ((h.no e rfl).2 _ (h'.yes e rfl).1)
 ·exact absurd (h.yes e rfl).2 ((h'.no e rfl).2 _ (h.yes e rfl).1)
 rw [show a=a' from map_inj (fun _ _=>GK) ((h.yes e rfl).2.symm.trans (h'.yes e rfl).2)]
theorem Wy {s:BB} (hd:s≠[46]) {o:List Int} {b:Bool} (hb:bS o=b) (h:(bt 44 s).take (bt 44 s).length=o.map aj):xe s (if b=true then (o,true,()) else ([],false,())):=by
 rw [jj] at h;cases b
 ·exact ⟨fun e=>absurd e hd,fun _ h=>(by cases h),fun _ _=>⟨rfl,fun l hl e=>by rw [h] at e;rw [map_inj (fun _ _=>GK) e,hl] at hb;cases hb⟩⟩
 exact ⟨fun e=>absurd e hd,fun _ _=>⟨hb,h⟩,fun _ h=>(by cases h)⟩
theorem Wz {s:BB} (hd:s≠[46]) {i:Nat} (hi:i<(bt 44 s).length) {r:Int×(Bool×Unit)} (h:GN ((bt 44 s).getD i []) r) (hr:r.2.1=false):xe s ([],false,()):=
 ⟨fun e=>absurd e hd,fun _ h=>(by cases h),fun _ _=>⟨rfl,fun l hl e=>by
  have kT:i<l.length:=by rw [e,mn] at hi; exact hi
  have ht:=ml ((oX hl).2 l[i] (ct _));refine h.no hr (x:=l[i]) (by omega) (by omega) ?_;rw [e,aJ (by rw [mn]; exact kT),og]⟩⟩
theorem take_one {L:List (BB)} {o:List Int} {i:Nat} (hi:i<L.length) (h:L.take i=o.map aj) (hx:aj x=L.getD i []):L.take (i+1)=(o++[x]).map aj:=by rw [iC hi,h,List.map_append,List.map_cons,List.map_nil,hx,aJ hi]
theorem aeC {s:BB} (hs:s.length≤1048575) (hn:1048577<n):W (rT.f n s) (xe s):=by
 have hB:=iD;unfold rT.f;rw [cM];refine ⟨fun e=>ak.2 ⟨fun _=>rfl,fun h=>absurd e h,fun h=>absurd e h⟩,fun hd=>?_⟩;rw [qL (by omega) (by omega) (by omega) hn,ao];have Py:dH (44:Int).toNat=44:=rfl;rw [Py];have hl:=u6 44 s;have hp:=mq 44 s;have hE:=@Wy s hd;have hX:=@Wz s hd;generalize bt 44 s=L at hl hp hE hX;refine fT (fun (i:Nat) (o:List Int)=>((i:Int),o,())) L.length (fun i o=>o.length=i∧L.take i=o.map aj) (s0:=[]) rfl ⟨rfl,by simp⟩ (by omega) (fun ih o hI=>?_) (fun ih i o hi hI hS=>?_)
 ·have h1:=hI.1;simp only [av (bR _)];rw [wG (by omega) (by omega),ao];cases ho:bS o
  ·exact ak.2 (hE ho hI.2)
  exact ak.2 (hE ho hI.2)
 have h1:=hI.1;simp only [aG (show (i:Int)<(L.length:Int) by omega),ay];have hq:=hp (L.getD i []) (by rw [aJ hi]; exact ct _);rw [af (by omega),c8];refine bz (Ww (by omega) (by omega)) (fun r ⟨hr,_⟩=>?_);rw [uB];refine ⟨fun h=>ak.2 (hX hi hr h),fun h=>?_⟩;rw [af (by simp only [aQ,bh]; omega),a_ (by omega)];exact hS _ ⟨by simp [h1],take_one hi hI.2 (hr.yes h)⟩
theorem WA {s:BB} (hs:s.length≤1048575) (hn:1048577<n):W (oZ.f n s) (xe s):=by
 have hB:=iD;unfold oZ.f;rw [cM];refine ⟨fun e=>ak.2 ⟨fun _=>rfl,fun h=>absurd e h,fun h=>absurd e h⟩,fun hd=>?_⟩;rw [qM (by omega),ao];have hl:=u6 44 s;have hp:=mq 44 s;have hE:=@Wy s hd;have hX:=@Wz s hd;generalize bt 44 s=L at hl hp hE hX;refine fT (fun (i:Nat) (o:List Int)=>((i:Int),o,())) L.length (fun i o=>o.length=i∧L.take i=o.map aj) (s0:=[]) rfl ⟨rfl,by simp⟩ (by omega) (fun ih o hI=>?_) (fun ih i o hi hI hS=>?_)
 ·have h1:=hI.1;simp only [av (bR _)];rw [uD (by omega) (by omega),ao];cases ho:bS o
  ·exact ak.2 (hE ho hI.2)
  exact ak.2 (hE ho hI.2)
 have h1:=hI.1;simp only [aG (show (i:Int)<(L.length:Int) by omega),ay];have hq:=hp (L.getD i []) (by rw [aJ hi]; exact ct _);rw [af (by omega),c8];refine bz (Wx (by omega)) (fun r hr=>?_);rw [uB];refine ⟨fun h=>ak.2 (hX hi hr h),fun h=>?_⟩;rw [af (by simp only [aQ,bh]; omega),a_ (by omega)];exact hS _ ⟨by simp [h1],take_one hi hI.2 (hr.yes h)⟩
end Go.AmT
