/- Functions of the program, each as a plain Lean function. No condition. -/
import Derived.Test.YtjfaphipihgomaaGreatDoorMRnD21
open Go Go.Am
noncomputable section
set_option linter.unusedVariables false
set_option maxRecDepth 100000
set_option linter.unusedSimpArgs false
open Bool renaming not_true → bf
open Int renaming lt_irrefl → bR, toNat_natCast → ay
open List renaming length_pos_iff → jA, length_singleton → iQ
open UInt8 renaming ofNat → dH
namespace Go.AmT
open Go.Proofs Go.Proofs.Tryz
def xA.f (n:Nat) (a0:BB):Option (List (BB)×Bool×Unit):=(xz.f n a0 10).bind fun r1=>br (decide (50<(r1.1.length:Int))) (some ([],false,())) ((BT.f n ).bind fun r2=>iter n (fun GZ fA=>br (decide (fA.1<(r1.1.length:Int))) (ab (0≤fA.1∧fA.1<(r1.1.length:Int)) (let G4:=(r1.1.getD fA.1.toNat []); (vo.f n ((fA.2.1,fA.2.2.1),(fA.2.2.2.1,fA.2.2.2.2.1,fA.2.2.2.2.2.1,fA.2.2.2.2.2.2.1),fA.2.2.2.2.2.2.2.1) G4).bind fun dw=>ab ((fA.2.2.2.2.2.2.2.2.1.length+([dw.2.1]:List (BB)).length)*16≤bo) (GZ (ah (fA.1+1),dw.1.1.1,dw.1.1.2,dw.1.2.1.1,dw.1.2.1.2.1,dw.1.2.1.2.2.1,dw.1.2.1.2.2.2,dw.1.2.2,fA.2.2.2.2.2.2.2.2.1++[dw.2.1],())))) (some (fA.2.2.2.2.2.2.2.2.1,true,()))) (0,r2.1.1.1,r2.1.1.2,r2.1.2.1.1,r2.1.2.1.2.1,r2.1.2.1.2.2.1,r2.1.2.1.2.2.2,r2.1.2.2,[],()))
def xA.ae (n:Nat):au:=⟨[.val .str],[.val (.sl .str),.val .bool],fun x=>xA.f n x.1⟩
theorem xA.ok (n:Nat):aP 5 (xA.ae n):=aU n [(9,⟨[(5,.bn 1000 0),(6,.own 1001 .str),(20,.int .i64)],[(1000,.cells [] [.sh b_,.sh du,.sh bp,.sh IS,.sh IS,.int .i64,.sh I]),(1001,.row true .str)],[18,19],[]⟩)] [] (ai (xz.ok n) (ai (BT.ok n) (ai (vo.ok n) aK))) aL func5
def vp.f (n:Nat) (a0:BB):Option (List (BB)×Bool×Unit):=(gB.f n a0 ([10]:BB)).bind fun r1=>br (decide (50<(r1.1.length:Int))) (some ([],false,())) ((BN.f n ).bind fun r2=>iter n (fun GZ fA=>br (decide (fA.1<(r1.1.length:Int))) (ab (0≤fA.1∧fA.1<(r1.1.length:Int)) (let G4:=(r1.1.getD fA.1.toNat []); (tH.f n ((fA.2.1,fA.2.2.1),(fA.2.2.2.1,fA.2.2.2.2.1,fA.2.2.2.2.2.1,fA.2.2.2.2.2.2.1),fA.2.2.2.2.2.2.2.1) G4).bind fun dw=>ab ((fA.2.2.2.2.2.2.2.2.1.length+([dw.2.1]:List (BB)).length)*16≤bo) (GZ (ah (fA.1+1),dw.1.1.1,dw.1.1.2,dw.1.2.1.1,dw.1.2.1.2.1,dw.1.2.1.2.2.1,dw.1.2.1.2.2.2,dw.1.2.2,fA.2.2.2.2.2.2.2.2.1++[dw.2.1],())))) (some (fA.2.2.2.2.2.2.2.2.1,true,()))) (0,r2.1.1.1,r2.1.1.2,r2.1.2.1.1,r2.1.2.1.2.1,r2.1.2.1.2.2.1,r2.1.2.1.2.2.2,r2.1.2.2,[],()))
def vp.ae (n:Nat):au:=⟨[.val .str],[.val (.sl .str),.val .bool],fun x=>vp.f n x.1⟩
theorem vp.ok (n:Nat):aP 6 (vp.ae n):=aU n [(8,⟨[(5,.bn 1000 0),(6,.own 1001 .str),(19,.int .i64)],[(1000,.cells [] [.sh b_,.sh du,.sh bp,.sh IS,.sh IS,.int .i64,.sh I]),(1001,.row true .str)],[17,18],[]⟩)] [] (ai ⟨gB.sound n,gB.aD⟩ (ai (BN.ok n) (ai (tH.ok n) aK))) aL func6
def vq.f (n:Nat) (a0 a1:List (BB)):Option (Bool×Unit):=br (!decide ((a0.length:Int)=(a1.length:Int))) (some (false,())) (iter n (fun ih5 x4=>br (decide (x4.1<(a0.length:Int))) (ab (0≤x4.1∧x4.1<(a0.length:Int)) (ab (0≤x4.1∧x4.1<(a1.length:Int)) (br (!decide ((a0.getD x4.1.toNat [])=(a1.getD x4.1.toNat []))) (some (false,())) (ih5 (ah (x4.1+1),()))))) (some (true,()))) (0,()))
def vq.ae (n:Nat):au:=⟨[.val (.sl .str),.val (.sl .str)],[.val .bool],fun x=>vq.f n x.1 x.2.1⟩
theorem vq.ok (n:Nat):aP 7 (vq.ae n):=aU n [(6,⟨[(5,.int .i64)],[],[0,1],[]⟩)] [] aK aL func7
def si.f (n:Nat) (a0:Int):Option ((BB)×Unit):=br (decide (a0≤0)) (some ([109,48],())) (iter n (fun ih4 x3=>br (decide (0<x3.1)) (ab ((([(IntKind.wrap .u8 (ah (48+(x3.1.tmod 10))))]:List Int).map fun n=>dH n.toNat).length+x3.2.1.length<bU) (ih4 (ah (x3.1.tdiv 10),(([(IntKind.wrap .u8 (ah (48+(x3.1.tmod 10))))]:List Int).map fun n=>dH n.toNat)++x3.2.1,()))) (ab (([109]:BB).length+x3.2.1.length<bU) (some (([109]:BB)++x3.2.1,())))) (a0,[],()))
def si.ae (n:Nat):au:=⟨[.val I],[.val .str],fun x=>si.f n x.1⟩
theorem si.ok (n:Nat):aP 21 (si.ae n):=aU n [(6,⟨[(0,.int .i64),(3,.str)],[],[],[]⟩)] [] aK aL func21
def xB.f (n:Nat) (a0:List (BB)) (a1:Int):Option (Int×List (BB)×Unit):=iter n (fun jY x5=>br (decide (x5.2.1<(x5.2.2.1.length:Int))) ((si.f n x5.1).bind fun r7=>ab (0≤x5.2.1∧x5.2.1<(x5.2.2.1.length:Int)) (let v8:=(x5.2.2.1.set x5.2.1.toNat r7.1); jY (ah (x5.1+1),ah (x5.2.1+1),v8,()))) (some (x5.1,x5.2.2.1,()))) (a1,0,a0,())
def xB.ae (n:Nat):au:=⟨[.io (.sl .str),.val I],[.val I],fun x=>xB.f n x.1 x.2.1⟩
theorem xB.ok (n:Nat):aP 8 (xB.ae n):=aU n [(3,⟨[(0,.own 0 .str),(1,.int .i64),(5,.int .i64)],[(0,.row true .str)],[],[]⟩)] [] (ai (si.ok n) aK) aL func8
def vt.f (n:Nat) (a0:List (BB)) (a1:Int):Option (Int×Unit):=iter n (fun jY x5=>br (decide (x5.2.1<(a0.length:Int))) (ab (0≤x5.2.1∧x5.2.1<(a0.length:Int)) (let v7:=(a0.getD x5.2.1.toNat []); (si.f n x5.1).bind fun r8=>br (!decide (v7=r8.1)) (some (-1,())) (jY (ah (x5.1+1),ah (x5.2.1+1),())))) (some (x5.1,()))) (a1,0,())
def vt.ae (n:Nat):au:=⟨[.val (.sl .str),.val I],[.val I],fun x=>vt.f n x.1 x.2.1⟩
theorem vt.ok (n:Nat):aP 9 (vt.ae n):=aU n [(3,⟨[(1,.int .i64),(5,.int .i64)],[],[0],[]⟩)] [] (ai (si.ok n) aK) aL func9
def law.cE:List (Nat×LA):=[(6,⟨[(32,.bool)],[],[0,3,4,5],[]⟩),(20,⟨[(57,.bool)],[],[5,7],[]⟩)]
def law.f (n:Nat) (a0:BB):Option (Bool×Unit):=br (decide (1048576<(a0.length:Int))) (some (true,())) ((xA.f n a0).bind fun r1=>(vp.f n a0).bind fun r2=>cut ((vq.f n r2.1 r1.1).bind fun r5=>br (!r5.1) (some (.inr (true,()))) (some (.inr (!decide (r2.2.1=r1.2.1),())))) fun y4=>br y4.1 (some (false,())) ((xB.f n r2.1 1).bind fun r6=>(vt.f n r6.2.1 1).bind fun r7=>br (decide (r7.1<0)) (some (false,())) (br (!decide (r7.1=r6.1)) (some (false,())) ((vp.f n a0).bind fun r8=>cut ((vq.f n r8.1 r1.1).bind fun dT=>br (!dT.1) (some (.inr (true,()))) (some (.inr (!decide (r8.2.1=r1.2.1),())))) fun s_=>br s_.1 (some (false,())) ((vt.f n r6.2.1 1).bind fun fh=>br (decide (fh.1<0)) (some (false,())) (br (!decide (fh.1=r6.1)) (some (false,())) (some (true,()))))))))
def law.ae (n:Nat):au:=⟨[.val .str],[.val .bool],fun x=>law.f n x.1⟩
def law.cfg (n:Nat):ba:=⟨mS,[(5,xA.ae n),(6,vp.ae n),(7,vq.ae n),(8,xB.ae n),(9,vt.ae n)],[],[]⟩
theorem law.sound (n:Nat):Sound Tryz.prog 3 (law.ae n):=jX (c:=law.cfg n) (n:=n) (an:=fm f3 law.cE) ⟨xA.ok n,⟨vp.ok n,⟨vq.ok n,⟨xB.ok n,⟨vt.ok n,trivial⟩⟩⟩⟩⟩ trivial (eo kC) func3 (fun x=>by kernel_rfl)
end Go.AmT
namespace Go.AmT
variable {n:Nat} {d:bV} {k:Int} {l:List (BB)}
theorem Yg {c:UInt8} : ∀ {l a:BB},bt c l=[a]→l=a
 | [],a,h=>by have h:[([]:BB)]=[a]:=h;cases h; rfl
 | x::xs,a,h=>by
  rw [bt] at h;have aA:=mR c xs;split at h
  ·cases hs:bt c xs with
   | nil=>exact absurd hs aA
   | cons u v=>rw [hs] at h; cases h
  cases hs:bt c xs with
  | nil=>exact absurd hs aA
  | cons u v=>
   rw [hs] at h;simp only [uC,List.cons.injEq] at h;obtain ⟨h1,h2⟩:=h;subst h2;rw [← h1,Yg hs]
theorem Yh {s:BB} {c:Int} (h0:0≤c) (h1:c<256) (hs:s.length≤1048576) (hn:1048577<n):xz.f n s c=some (bt (dH c.toNat) s,()):=qL h0 h1 hs hn
theorem agf {w:BB} (h:eI d) (e:(mA d w k).2=bJ):mA d w k=(d,bJ):=by
 have hb:∀ x:Int,(x=1∨x=2∨x=3)→qw x≠bJ:=fun x hx=>by rcases hx with rfl | rfl | rfl<;>decide
 unfold mA at e ⊢;split at e
 ·rename_i h1;rw [if_pos h1];split at e
  ·rename_i hc;have o:=(step_end h hc).st.steps;simp only at o e;have:=Ws (x:=(cX d.1 d.2.1 k.toNat).2.2.2) (by omega) (by omega) 110 (by rw [e]; simp);rcases this with h | h
   ·exact absurd h (by decide)
   exact absurd h (by decide)
  rename_i hc;rw [if_neg hc]
 rename_i h1;rw [if_neg h1];split at e
 ·simp only at e;split at e<;>exact absurd e (by decide)
 rename_i h2;rw [if_neg h2];split at e
 ·exact absurd e (hb _ (Qs h k).2)
 rename_i h3;rw [if_neg h3];split at e
 ·exact absurd e (hb _ (Qt h k).2)
 rename_i h4;rw [if_neg h4];split at e
 ·rename_i h5;rw [if_pos h5];split at e
  ·exact absurd (show qU=bJ from e) (by decide)
  rename_i hc;rw [if_neg hc]
 rename_i h5;rw [if_neg h5]
theorem agh {x y:Int} (e:(nj n d x y).2=bJ):nj n d x y=(d,bJ):=by
 unfold nj at e ⊢;split at e
 ·simp only at e;split at e<;>exact absurd e (by decide)
 rename_i h;rw [if_neg h]
theorem Qz {w:BB} (h1:w≠Qp) (h2:w≠Ql) (h3:w≠Qm) (h4:w≠Qq) (h5:w≠Qk):mA d w k=(d,bJ):=by unfold mA;rw [if_neg h1,if_neg h2,if_neg h3,if_neg h4,if_neg h5]
theorem agi {nt:aq} (h:k<0):(mz nt k).2.1=false:=by unfold mz;rw [decide_eq_false (by omega),Bool.and_false,if_neg (by simp)]
theorem agj {c:BB} (h:k<0):tJ n d k c=(d,bJ):=by
 have e:∀ ts,(o6 d.1 k ts).2.1=false:=fun ts=>by unfold o6;rw [if_neg (by omega)]
 unfold tJ;cases oZ.f n c with
 | none=>rfl
 | some r=>
  dsimp only;rw [e];cases r.2.1<;>rfl
theorem agk {l b:BB} {Q:List (BB)} (h:bt 32 l=ko::b::Q):l.take 5=[108,111,97,100,32]:=by
 have one:∀ {x:UInt8} {t w:BB} {R:List (BB)},bt 32 t=(x::w)::R→∃ u,t=x::u∧bt 32 u=w::R:=fun {x t w R} h=>by
  cases t with
  | nil=>cases h
  | cons y u=>
   rw [bt] at h;split at h
   ·cases h
   cases hs:bt 32 u with
   | nil=>exact absurd hs (mR 32 u)
   | cons p q=>
    rw [hs] at h;simp only [uC,List.cons.injEq] at h;obtain ⟨⟨h1,h2⟩,h3⟩:=h;exact ⟨u,by rw [h1],by rw [hs,h2,h3]⟩
 obtain ⟨u1,rfl,h1⟩:=one h;obtain ⟨u2,rfl,h2⟩:=one h1;obtain ⟨u3,rfl,h3⟩:=one h2;obtain ⟨u4,rfl,h4⟩:=one h3;clear h h1 h2 h3;cases u4 with
 | nil=>cases h4
 | cons x u=>
  rw [bt] at h4;split at h4
  ·rename_i e;rw [e]; rfl
  cases hs:bt 32 u with
  | nil=>exact absurd hs (mR 32 u)
  | cons p q=>
   rw [hs] at h4;simp only [uC,List.cons.injEq] at h4;exact absurd h4.1 (by simp)
theorem agl {l:BB} {Z:List Int} : lq.f n d l [ko] Z=some (jx (d,bJ)):=by rfl
theorem agm {s:BB} (e:(xx n d s).2=bJ):xx n d s=(d,bJ):=by
 unfold xx at e ⊢;cases hp:qP.f n s with
 | none=>rfl
 | some r=>
  rw [hp] at e;dsimp only at e ⊢;by_cases hb:r.2.1=true
  ·rw [if_pos hb] at e;exact absurd (show qU=bJ from e) (by decide)
  rw [if_neg hb]
theorem agn {c:BB} (e:(tJ n d k c).2=bJ):tJ n d k c=(d,bJ):=by
 unfold tJ at e ⊢;cases hp:oZ.f n c with
 | none=>rfl
 | some r=>
  rw [hp] at e;dsimp only at e ⊢;by_cases hb:r.2.1=true
  ·rw [if_pos hb] at e ⊢;by_cases hf:(o6 d.1 k r.1).2.1=true
   ·rw [if_pos hf] at e;exact absurd (show qU=bJ from e) (by decide)
   rw [if_neg hf]
  rw [if_neg hb]
theorem ago {R:bV×BB} (h:R.2=bJ→R=(d,bJ)):br (decide ((jx R).2.1=([110,111]:BB))) (some (d,(jx R).2.1,())) (some ((jx R).1,(jx R).2.1,()))=some (jx R):=by
 by_cases e:R.2=bJ
 ·rw [aG e,h e]
 rw [av e]
theorem agp {l:BB} (h:eI d) (hl:l.length≤1048576) (hn:1048577<n):vo.f n d l=some (jx (p_ n d l)):=by
 have fC:1048576<n:=by omega
 unfold vo.f;rw [af4 h fC,ao];dsimp only;rw [af5 h fC,ao];simp only [bf,ar];by_cases e1:l=X4
 ·subst e1;rw [aG rfl,Vr h.small h.st.cf fC,ao];rfl
 rw [av e1];by_cases e2:l=Qv
 ·subst e2;rw [aG rfl,af9 h fC,ao];rfl
 rw [av e2,Yh (by omega) (by omega) hl hn,ao];have DM:dH (32:Int).toNat=32:=rfl;rw [DM];dsimp only;have hp:=mq 32 l;have hlen:=u6 32 l;have aA:=mR 32 l;have qk:∀ a,bt 32 l=[a]→l=a:=fun a h=>Yg h;have cI:∀ p∈bt 32 l,p.length+(bt 32 l).length≤1048577:=fun p kU=>by have:=hp p kU; omega
 rw [af6 (by omega) (fun p kU=>by have:=cI p kU; have:=jA.2 aA; omega) hn,ao];dsimp only;have tail:∀ {P:List (BB)} {B R T:bV×BB},lq.f n d l P (P.map cn)=some (jx B)→(B.2=bJ→lO.f n d P (P.map cn)=some (jx R)∧(R.2=bJ→R=(d,bJ))∧R=T)→(B.2≠bJ→B=T)→((some (d,())).bind fun fV=>(lq.f n fV.1 l P (P.map cn)).bind fun jf=>br (!decide (jf.2.1=([110,111]:BB))) (some (jf.1,jf.2.1,())) ((some (d,())).bind fun fD=>(lO.f n fD.1 P (P.map cn)).bind fun dw=>br (decide (dw.2.1=([110,111]:BB))) (some (d,dw.2.1,())) (some (dw.1,dw.2.1,()))))=some (jx T):=fun {P B R T} h1 h2 h3=>by
  rw [ao];dsimp only;rw [h1,ao];by_cases e:B.2=bJ
  ·obtain ⟨h4,h5,h6⟩:=h2 e;rw [decide_eq_true (show (jx B).2.1=([110,111]:BB) from e),bf,ar,ao];dsimp only;rw [h4,ao,ago h5,h6]
  rw [decide_eq_false (show ¬ (jx B).2.1=([110,111]:BB) from e),Bool.not_false,aB,← h3 e]
 by_cases h5:l.take 5=[108,111,97,100,32]
 ·have eR:p_ n d l=xx n d (kN 124 10 (l.drop 5)):=if_pos h5;have eP:bt 32 l=ko::bt 32 (l.drop 5):=by
   have el:l=[108,111,97,100]++32::l.drop 5:=by have:l=l.take 5++l.drop 5:=(List.take_append_drop 5 l).symm;rw [h5] at this;exact this
   conv=>lhs; rw [el]
   rw [mo _ (by decide)]
  have hQ:=mR 32 (l.drop 5);rw [eR,eP];generalize bt 32 (l.drop 5)=Q at hQ;have hB:=agb (n:=n) (d:=d) (l:=l) (Q:=Q) (Z:=(ko::Q).map cn) hl h5 hQ hn;have agq:lO.f n d (ko::Q) ((ko::Q).map cn)=some (jx (d,bJ)):=by
   match Q with
   | [b]=>
    have hz:=Ks b;show lO.f n d [ko,b] [cn ko,cn b]=_;rw [Ye h (by omega) fC,Qz (by decide) (by decide) (by decide) (by decide) (by decide),ite_self]
   | [b,c]=>
    show lO.f n d [ko,b,c] [cn ko,cn b,cn c]=_;rw [Yf h fC,if_neg (fun e=>absurd e.1 (by decide))]
   | []=>exact Ku (by simp) (by simp)
   | _::_::_::_=>exact Ku (by simp) (by simp)
  have T:=tail (R:=(d,bJ)) hB (fun e=>⟨agq,fun _=>rfl,(agm e).symm⟩) (fun _=>rfl);refine dZ.1 ?_;rw [fx];refine bz (P:=fun s=>s=Sum.inr ()) ?_ (fun s e=>?_)
  ·rw [cM];refine ⟨fun e3=>?_,fun _=>ak.2 rfl⟩;have e4:((ko::Q).getD 0 [])=ko:=rfl;rw [af (by omega),af (by simp only [List.length_map]; omega),e4,Yc h fC,ao,X3 (by decide)];exact ak.2 rfl
  subst e;show W _ _;exact dZ.2 T
 have eR:p_ n d l=sg n d (bt 32 l):=if_neg h5;have xC:∀ b Q,bt 32 l=ko::b::Q→False:=fun b Q e=>h5 (agk e);rw [eR];generalize bt 32 l=P at hp hlen aA qk cI xC
 match P,aA,qk,cI,xC with
 | [a],aA,qk,cI,xC=>
  have ea:=qk a rfl;have ew:sg n d [a]=(d,bJ):=by show DX d a=_;unfold DX;rw [if_neg (fun e=>e1 (ea.trans e)),if_neg (fun e=>e2 (ea.trans e))]
  rw [av (by simp),aY,ew];have hB:lq.f n d l [a] ([a].map cn)=some (jx (d,bJ)):=by
   by_cases ha:a=ko
   ·subst ha; exact agl
   exact Kt ha (by simp) (by simp)
  exact tail (R:=(d,bJ)) hB (fun _=>⟨Ku (by simp) (by simp),fun _=>rfl,rfl⟩) (fun _=>rfl)
 | [a,b],aA,qk,cI,xC=>
  have hz:=Ks b;have ha:a≠ko:=fun e=>xC b [] (by rw [e]);have g0:([a,b]:List (BB)).getD 0 []=a:=rfl;have g1:(([a,b]:List (BB)).map cn).getD 1 0=cn b:=rfl;have ew:sg n d [a,b]=if cn b < -999999999 then (d,bJ) else sf d a (cn b):=by
   show (match ee b with | some k=>sf d a k | none=>(d,bJ))=_;rcases hz with ⟨z1,z2⟩ | ⟨z1,z2,z3⟩
   ·rw [z1,if_pos (by omega)]
   rw [z1,if_neg (by omega)]
  have hR:lO.f n d [a,b] ([a,b].map cn)=some (jx (if cn b < -999999999 then (d,bJ) else mA d a (cn b))):=Ye (z:=cn a) h (by omega) fC;have G8:(if cn b < -999999999 then (d,bJ) else mA d a (cn b)).2=bJ→(if cn b < -999999999 then (d,bJ) else mA d a (cn b))=(d,bJ):=fun e=>by
   split at e
   ·rename_i hk; rw [if_pos hk]
   rename_i hk; rw [if_neg hk]; exact agf h e
  refine dZ.1 ?_;rw [fx];refine bz (P:=fun s=>(nT d a (cn b)≠bJ∧s=Sum.inl (d,nT d a (cn b),()))∨(nT d a (cn b)=bJ∧s=Sum.inr ())) ?_ (fun s e=>?_)
  ·rw [aG (by rfl),af (by simp),af (by simp),g0,g1,Yc h fC,ao];by_cases e:nT d a (cn b)=bJ
   ·rw [decide_eq_true (show nT d a (cn b)=([110,111]:BB) from e),bf,ar];exact ak.2 (.inr ⟨e,rfl⟩)
   rw [decide_eq_false (show ¬ nT d a (cn b)=([110,111]:BB) from e),Bool.not_false,aB];exact ak.2 (.inl ⟨e,rfl⟩)
  rcases e with ⟨e,rfl⟩ | ⟨e,rfl⟩
  ·show _=jx (sg n d [a,b]);have hw:DW a:=by refine Decidable.byContradiction (fun hw=>e (X3 hw))
   have hk:0≤cn b∧cn b<(d.1.2.length:Int):=Decidable.byContradiction (fun hk=>e (G6 hk));rw [ew,if_neg (by omega),Kr hw]
  show W _ _;refine dZ.2 ?_;by_cases hs:a=se
  ·subst hs;have hB:lq.f n d l [se,b] ([se,b].map cn)=_:=agc (z:=cn se) h fC;have eL:sf d se (cn b)=if (mz d.1 (cn b)).2.1=true then (BQ (mz d.1 (cn b)).1,qU) else (d,bJ):=if_pos rfl
   refine tail hB (fun e=>⟨hR,G8,?_⟩) (fun e=>?_)
   ·rw [ew,eL,Qz (by decide) (by decide) (by decide) (by decide) (by decide)];by_cases hb:(mz d.1 (cn b)).2.1=true
    ·rw [if_pos hb] at e;exact absurd (show qU=bJ from e) (by decide)
    rw [if_neg hb]
   by_cases hb:(mz d.1 (cn b)).2.1=true
   ·rw [ew,eL,if_pos hb,if_neg (fun hk=>by rw [agi (by omega)] at hb; cases hb)]
   rw [if_neg hb] at e;exact absurd rfl e
  refine tail (Kt (d:=d) (l:=l) (Z:=[a,b].map cn) ha (by simp) (fun e=>hs e.1)) (fun _=>⟨hR,G8,?_⟩) (fun e=>absurd rfl e);rw [ew];by_cases hw:DW a
  ·rw [Kr hw,e,Qz (by rcases hw with h | h | h | h<;>(rw [h]; decide)) (by rcases hw with h | h | h | h<;>(rw [h]; decide)) (by rcases hw with h | h | h | h<;>(rw [h]; decide)) (by rcases hw with h | h | h | h<;>(rw [h]; decide)) (by rcases hw with h | h | h | h<;>(rw [h]; decide))]
  rw [BR hs hw]
 | [a,b,c],aA,qk,cI,xC=>
  have gj:=cI b (by simp);have ue:=cI c (by simp);simp only [List.length_cons,List.length_nil] at gj ue;have ha:a≠ko:=fun e=>xC b [c] (by rw [e]);have hR:lO.f n d [a,b,c] ([a,b,c].map cn)=some (jx (if a=tI∧-999999999≤cn c then nj n d (cn b) (cn c) else (d,bJ))):=Yf (z:=cn a) h fC;have G8:(if a=tI∧-999999999≤cn c then nj n d (cn b) (cn c) else (d,bJ)).2=bJ→(if a=tI∧-999999999≤cn c then nj n d (cn b) (cn c) else (d,bJ))=(d,bJ):=fun e=>by
   split at e
   ·rename_i hk; rw [if_pos hk]; exact agh e
   rename_i hk; rw [if_neg hk]
  rw [av (by simp),aY];have Yi:=Ks b;have hzc:=Ks c;by_cases hf:a=ni
  ·subst hf;have hB:lq.f n d l [ni,b,c] ([ni,b,c].map cn)=_:=agd (z:=cn ni) h (by omega) hn;have ew:sg n d [ni,b,c]=tJ n d (cn b) c:=by
    show xy n d ni b c=_;unfold xy;rw [if_pos rfl];rcases Yi with ⟨z1,z2⟩ | ⟨z1,z2,z3⟩
    ·rw [z1,agj (by omega)]
    rw [z1]
   rw [ew];refine tail hB (fun e=>⟨hR,G8,?_⟩) (fun _=>rfl);rw [if_neg (fun e=>absurd e.1 (by decide))];exact (agn e).symm
  have ew:sg n d [a,b,c]=if a=tI then (match ee b,ee c with | some x,some y=>nj n d x y | _,_=>(d,bJ)) else (d,bJ):=by show xy n d a b c=_;unfold xy;rw [if_neg hf];rfl
  refine tail (Kt (d:=d) (l:=l) (Z:=[a,b,c].map cn) ha (fun e=>hf e.1) (by simp)) (fun _=>⟨hR,G8,?_⟩) (fun e=>absurd rfl e);rw [ew];by_cases hd:a=tI
  ·rw [if_pos hd];have dm:∀ y,cn b<0→nj n d (cn b) y=(d,bJ):=fun y hk=>by unfold nj;rw [if_neg (by omega)]
   rcases hzc with ⟨y1,y2⟩ | ⟨y1,y2,y3⟩
   ·rw [if_neg (fun e=>by have:=e.2; omega),y1];cases ee b<;>rfl
   rw [if_pos ⟨hd,y2⟩,y1];rcases Yi with ⟨z1,z2⟩ | ⟨z1,z2,z3⟩
   ·rw [z1,dm _ (by omega)]
   rw [z1]
  rw [if_neg hd,if_neg (fun e=>hd e.1)]
 | a::b::c::e::P,aA,qk,cI,xC=>
  have ha:a≠ko:=fun e'=>xC b (c::e::P) (by rw [e']);rw [av (by simp only [List.length_cons]; omega),aY];exact tail (R:=(d,bJ)) (Kt (n:=n) (d:=d) (l:=l) (Z:=(a::b::c::e::P).map cn) ha (by simp) (by simp)) (fun _=>⟨Ku (by simp) (by simp),fun _=>rfl,rfl⟩) (fun _=>rfl)
def script (n:Nat):bV→List (BB)→List (BB)
 | _,[]=>[]
 | d,l::ls=>(p_ n d l).2::script n (p_ n d l).1 ls
def Ag (n:Nat) (t:BB):List (BB)×(Bool×Unit):=if 50<(bt 10 t).length then ([],false,()) else (script n zD (bt 10 t),true,())
theorem Yj (n:Nat):∀ (L:List (BB)) (d:bV),(script n d L).length=L.length
 | [],_=>rfl
 | l::ls,d=>by show (script n _ ls).length+1=ls.length+1;rw [Yj n ls]
theorem agr (n:Nat) (t:BB):(Ag n t).1.length≤50:=by
 unfold Ag;split
 ·simp
 rw [Yj]; omega
abbrev Ls:Type:=Int×(List Program×List bb×List bM×List (List Int)×List (List Int)×Int×List Int×List (BB)×Unit)
abbrev G9 (i:Int) (d:bV) (o:List (BB)):Ls:=(i,d.1.1,d.1.2,d.2.1.1,d.2.1.2.1,d.2.1.2.2.1,d.2.1.2.2.2,d.2.2,o,())
theorem Yk {L:List (BB)} (ex:bV→BB→Option (bV×BB×Unit)) (hE:∀ d l,eI d→l∈L→ex d l=some (jx (p_ n d l))∧eI (p_ n d l).1) (hL:L.length≤50) (hn:1048576<n)
  {F:(Ls→Option (List (BB)×Bool×Unit))→Ls→Option (List (BB)×Bool×Unit)}
  (h1:∀ ih (i:Nat) (d:bV) (o:List (BB)),i<L.length→o.length≤50→F ih (G9 (i:Int) d o)=(ex d (L.getD i [])).bind fun r=>ih (G9 ((i+1:Nat):Int) r.1 (o++[r.2.1])))
  (h2:∀ ih (d:bV) (o:List (BB)),F ih (G9 (L.length:Int) d o)=some (o,true,())):iter n F (G9 0 zD [])=some (script n zD L,true,()):=by
 refine dZ.1 ?_;refine fT (fun (i:Nat) (o:bV×List (BB))=>G9 (i:Int) o.1 o.2) L.length (fun i o=>eI o.1∧o.2.length=i∧o.2++script n o.1 (L.drop i)=script n zD L) (s0:=(zD,[])) rfl ⟨afS,rfl,rfl⟩ (by omega) (fun ih o hI=>?_) (fun ih i o hi hI hS=>?_)
 ·obtain ⟨d,o⟩:=o;have h3:=hI.2.2;rw [List.drop_length] at h3;rw [h2];exact ak.2 (by rw [← h3]; simp [script])
 obtain ⟨d,o⟩:=o;obtain ⟨a,b,c⟩:=hI;simp only at a b c;have hm:L.getD i []∈L:=by rw [aJ hi]; exact List.getElem_mem _
 obtain ⟨e,a'⟩:=hE d _ a hm;rw [h1 ih i d o hi (by omega),e,ao];refine hS ((p_ n d (L.getD i [])).1,o++[(p_ n d (L.getD i [])).2]) ⟨a',by simp [b],?_⟩;rw [← c,List.drop_eq_getElem_cons hi,aJ hi];simp [script]
theorem ags {t:BB} (ht:t.length≤1048576) (hn:1048577<n):vp.f n t=some (Ag n t):=by
 have hp:=mq 10 t;unfold vp.f Ag;rw [qM ht,ao];dsimp only;generalize bt 10 t=L at hp;by_cases h:50<L.length
 ·rw [aG (by omega),if_pos h]
 rw [av (by omega),if_neg h];unfold BN.f;rw [ao];refine Yk (L:=L) (fun d l=>tH.f n d l) (fun d l o hm=>Ya o (by have:=hp l hm; have:0<L.length:=jA.2 (fun e=>by rw [e] at hm; simp at hm); omega) hn) (by omega) (by omega) (fun ih i d o hi ho=>?_) (fun ih d o=>av (bR _));simp only [aG (show (i:Int)<(L.length:Int) by omega),ay];rw [af (by omega)];show (tH.f n d (L.getD i [])).bind _=_;congr 1;funext r;rw [db (by simp only [iQ]; omega),a_ (by omega)]
theorem agt {t:BB} (ht:t.length≤1048576) (hn:1048577<n):xA.f n t=some (Ag n t):=by
 have hp:=mq 10 t;unfold xA.f Ag;rw [Yh (by omega) (by omega) ht hn,ao];have PV:dH (10:Int).toNat=10:=rfl;rw [PV];dsimp only;generalize bt 10 t=L at hp;by_cases h:50<L.length
 ·rw [aG (by omega),if_pos h]
 rw [av (by omega),if_neg h];unfold BT.f;rw [ao];refine Yk (L:=L) (fun d l=>vo.f n d l) (fun d l o hm=>?_) (by omega) (by omega) (fun ih i d o hi ho=>?_) (fun ih d o=>av (bR _))
 ·have hl:l.length≤1048576:=by have:=hp l hm; have:0<L.length:=jA.2 (fun e=>by rw [e] at hm; simp at hm); omega
  exact ⟨agp o hl hn,(Ya o hl hn).2⟩
 simp only [aG (show (i:Int)<(L.length:Int) by omega),ay];rw [af (by omega)];show (vo.f n d (L.getD i [])).bind _=_;congr 1;funext r;rw [db (by simp only [iQ]; omega),a_ (by omega)]
theorem agu (h0:0≤k) (h1:k≤1000) (hn:1048576<n):W (si.f n k) (fun _=>True):=by
 unfold si.f;rw [cM];refine ⟨fun _=>ak.2 trivial,fun _=>?_⟩;simp only [List.map_cons,List.map_nil];refine TA (fun y=>0≤y.1∧y.1≤1000∧(y.2.1.length:Int)≤1000-y.1) (fun y=>y.1.toNat) (fun ih y hy hS=>?_) ⟨h0,h1,by show ((0:Nat):Int)≤1000-k; omega⟩ (by show k.toNat<n; omega);obtain ⟨v,out,⟨⟩⟩:=y;obtain ⟨a0,a1,a2⟩:=hy;simp only at a0 a1 a2;by_cases hv:0<v
 ·simp only [aG hv];have hd:v.tdiv 10=v / 10:=Int.tdiv_eq_ediv_of_nonneg a0;rw [hd,bP (n:=v / 10) (by omega) (by omega),jq (by simp; omega)];exact hS _ ⟨by simp only; omega,by simp only; omega,by simp; omega⟩ (by simp only; omega)
 simp only [av hv];rw [jq (by simp; omega)];exact ak.2 trivial
def mB (n:Nat) (_:BB) (k:Int):BB×Int:=((match si.f n k with | some r=>r.1 | none=>[]),k+1)
theorem Yl (t:BB) (h0:0≤k) (h1:k≤1000) (hn:1048576<n):si.f n k=some ((mB n t k).1,()):=by obtain ⟨⟨r,⟨⟩⟩,e,-⟩:=agu h0 h1 hn;unfold mB;rw [e]
theorem QA {l:List (BB)} (hl:l.length≤50) (i:Nat):1≤iE (mB n) l 1 i∧iE (mB n) l 1 i≤51:=by have:=adb (f:=mB n) (l:=l) (k:=1) (B:=1) (by omega) (fun x _ k=>by simp [mB]; omega) i;omega
theorem agv {l:List (BB)} (hl:l.length≤50) (hn:1048576<n):xB.f n l 1=some ((eY (mB n) l 1).2,(eY (mB n) l 1).1,()):=by
 unfold xB.f;refine ade (l:=l) (k:=1) (mB n) (fun k i m=>(k,(i:Int),m,())) (fun ih i hi m hm hg=>?_) (fun ih m hm e=>?_) (by omega)
 ·have hk:=QA (n:=n) hl i;simp only [aG (show (i:Int)<(m.length:Int) by omega),ay];rw [Yl l[i] (by omega) (by omega) hn,ao,af (by omega),a_ (by omega),bP (n:=iE (mB n) l 1 i+1) (by omega) (by omega)];rfl
 simp only [av (show ¬ (l.length:Int)<(m.length:Int) by omega)];rw [← e]
theorem agw {l:List (BB)} (hl:l.length≤50) (hn:1048576<n):vt.f n (eY (mB n) l 1).1 1=some ((eY (mB n) l 1).2,()):=by
 unfold vt.f;refine adf (l:=l) (k:=1) (mB n) (fun k i=>(k,(i:Int),())) (fun ih i hi hg=>?_) (fun ih=>?_) (by omega)
 ·have hk:=QA (n:=n) hl i;have hlen:(eY (mB n) l 1).1.length=l.length:=wP _ _;simp only [aG (show (i:Int)<((eY (mB n) l 1).1.length:Int) by omega),ay];rw [af (by omega),Yl l[i] (by omega) (by omega) hn,ao,decide_eq_true (hg _),bf,ar,a_ (by omega),bP (n:=iE (mB n) l 1 i+1) (by omega) (by omega)];rfl
 simp only [av (show ¬ (l.length:Int)<((eY (mB n) l 1).1.length:Int) by rw [wP]; omega)]
theorem agx {l:List (BB)} (hl:l.length≤50) (hn:1048576<n):vq.f n l l=some (true,()):=by
 refine dZ.1 ?_;unfold vq.f;rw [decide_eq_true rfl,bf,ar];refine fT (fun (i:Nat) (_:Unit)=>((i:Int),())) l.length (fun _ _=>True) (s0:=()) rfl trivial (by omega) (fun ih o hI=>?_) (fun ih i o hi hI hS=>?_)
 ·simp only [av (bR _)];exact ak.2 rfl
 simp only [aG (show (i:Int)<(l.length:Int) by omega)];rw [af (by omega),af (by omega)];simp only [decide_true,bf,ar];rw [a_ (by omega)];exact hS () trivial
theorem agy (t:BB):∃ n,law.f n t=some (true,()):=by
 refine ⟨1048578,?_⟩;have hn:1048576<1048578:=by omega
 unfold law.f;by_cases hl:t.length≤1048576
 ·rw [av (by omega)];have e1:=agt (n:=1048578) hl (by omega);have e2:=ags (n:=1048578) hl (by omega);have Kv:=agr 1048578 t;have k1:=QA (n:=1048578) Kv (Ag 1048578 t).1.length;rw [NZ] at k1;have c1:¬ (eY (mB 1048578) (Ag 1048578 t).1 1).2<0:=by omega
  simp only [e1,e2,Option.bind_some,agx Kv hn,decide_true,bf,ar,aY,agv Kv hn,agw Kv hn,c1,decide_false]
 rw [aG (by omega)]
end Go.AmT
