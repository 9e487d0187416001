/- Functions of the program, each as a plain Lean function. No condition. -/
import Derived.Test.YtjfaphipihgomaaGreatDoorMExL15
open Go Go.Am
noncomputable section
set_option linter.unusedVariables false
set_option maxRecDepth 100000
set_option linter.unusedSimpArgs false
open Bool renaming and_eq_true → aB, not_true → bo
open Go.Lib renaming itoa → aj
open Int renaming toNat_natCast → az
open List renaming length_append → cY, length_cons → bh, length_nil → bP, length_pos_iff → kX
open UInt8 renaming ofNat → eS
namespace Go.AmT
open Go.Proofs Go.Proofs.Tryz
def sJ.f (n:Nat) (a0:List (BB)) (a1:BB):Option (Int×Unit):=iter n (fun fa x5=>br (decide (x5.1<(a0.length:Int))) (ab (0≤x5.1∧x5.1<(a0.length:Int)) (br (decide (a1=(a0.getD x5.1.toNat []))) (some (x5.1,())) (fa (ag (x5.1+1),())))) (some (-1,()))) (0,())
def sJ.ae (n:Nat):ar:=⟨[.val (.sl .str),.val .str],[.val I],fun x=>sJ.f n x.1 x.2.1⟩
theorem sJ.ok (n:Nat):aH 254 (sJ.ae n):=aJ n [(3,⟨[(8,.int .i64)],[],[0,1,7],[]⟩)] [] aC aD func254
def jb.bq:List (Nat×LA):=[(500012,⟨[],[],[],[]⟩)]
def jb.f (n:Nat) (a0:BB):Option (Instr×Bool×Unit):=(iE.f n a0 ([32]:BB)).bind fun r1=>(uk.f n ).bind fun r2=>ab ((0:Int)≤0∧0<(r1.1.length:Int)) ((sJ.f n r2.1 (r1.1.getD 0 [])).bind fun r3=>br (decide (r3.1<1)) (some ((0,0,0,0),false,())) (br (k9 r3.1) (br (!decide (2=(ag ((r1.1.length:Int)-1)))) (some ((0,0,0,0),false,())) (ab ((0:Int)≤1∧(1:Int)<(r1.1.length:Int)) ((fi.f n (r1.1.getD 1 [])).bind fun r6=>br (!r6.2.1) (some ((0,0,0,0),false,())) (ab ((0:Int)≤2∧(2:Int)<(r1.1.length:Int)) ((fi.f n (r1.1.getD 2 [])).bind fun r7=>br (!r7.2.1) (some ((0,0,0,0),false,())) ((iu.f n (r3.1,r6.1,r7.1,0)).bind fun r8=>br (!decide (r8.1=a0)) (some ((0,0,0,0),false,())) (some ((r3.1,r6.1,r7.1,0),true,())))))))) (br (j4 r3.1) (br (!decide (3=(ag ((r1.1.length:Int)-1)))) (some ((0,0,0,0),false,())) (ab ((0:Int)≤1∧(1:Int)<(r1.1.length:Int)) ((fi.f n (r1.1.getD 1 [])).bind fun r9=>br (!r9.2.1) (some ((0,0,0,0),false,())) (ab ((0:Int)≤2∧(2:Int)<(r1.1.length:Int)) ((fi.f n (r1.1.getD 2 [])).bind fun gi=>br (!gi.2.1) (some ((0,0,0,0),false,())) (ab ((0:Int)≤3∧(3:Int)<(r1.1.length:Int)) ((fi.f n (r1.1.getD 3 [])).bind fun cW=>br (!cW.2.1) (some ((0,0,0,0),false,())) ((iu.f n (r3.1,r9.1,gi.1,cW.1)).bind fun fq=>br (!decide (fq.1=a0)) (some ((0,0,0,0),false,())) (some ((r3.1,r9.1,gi.1,cW.1),true,())))))))))) (br (nK r3.1) (br (!decide (1=(ag ((r1.1.length:Int)-1)))) (some ((0,0,0,0),false,())) (ab ((0:Int)≤1∧(1:Int)<(r1.1.length:Int)) ((fi.f n (r1.1.getD 1 [])).bind fun fD=>br (!fD.2.1) (some ((0,0,0,0),false,())) ((iu.f n (r3.1,0,fD.1,0)).bind fun ie=>br (!decide (ie.1=a0)) (some ((0,0,0,0),false,())) (some ((r3.1,0,fD.1,0),true,())))))) (br (!decide (0=(ag ((r1.1.length:Int)-1)))) (some ((0,0,0,0),false,())) ((iu.f n (r3.1,0,0,0)).bind fun dz=>br (!decide (dz.1=a0)) (some ((0,0,0,0),false,())) (some ((r3.1,0,0,0),true,()))))))))
def jb.ae (n:Nat):ar:=⟨[.val .str],[.val cV,.val .bool],fun x=>jb.f n x.1⟩
def jb.cfg (n:Nat):bd:=⟨m_,[(19,iE.ae n),(255,uk.ae n),(254,sJ.ae n),(159,fi.ae n),(257,iu.ae n)],[],[3000256]⟩
theorem jb.eq:∀ (n:Nat) (a0:BB),Dj (jb.cfg n) n f211 (cT f211 jb.bq) [.val .str] [.val cV,.val .bool] (a0,())=jb.f n a0:=by intros;kernel_rfl
theorem jb.av:ck Tryz.prog 211:=cD func211 (by kernel_rfl) (by kernel_rfl)
theorem jb.sound (n:Nat):Sound Tryz.prog 211 (jb.ae n):=Nc (fn:=f211) (m:=jb.ae n) (c:=jb.cfg n) (vl mixed (tP (.of (c:=jb.cfg n) ⟨⟨iE.sound n,iE.av⟩,⟨uk.ok n,⟨sJ.ok n,⟨fi.ok n,⟨⟨iu.sound n,iu.av⟩,trivial⟩⟩⟩⟩⟩ (TY (f:=256) rfl Hw.Xa Hw.av)) (.of (c:=jb.cfg n) trivial)) (cB kL)) (cB kL) func211 (fun x=>(jb.eq n x.1).symm)
def um.f (n:Nat) (a0:BB):Option (Instr×Bool×Unit):=(nu.f n a0 32).bind fun r1=>(xX.f n ).bind fun r2=>iter n (fun Ev fw=>br (decide (fw.1<(r2.1.length:Int))) (ab (0≤fw.1∧fw.1<(r2.1.length:Int)) (cut (br (decide (0<fw.1)) (ab ((0:Int)≤0∧0<(r1.1.length:Int)) (some (.inr (decide ((r1.1.getD 0 [])=(r2.1.getD fw.1.toNat [])),())))) (some (.inr (false,())))) fun Qt=>br Qt.1 (Ev (ag (fw.1+1),fw.1,fw.2.2.1,fw.2.2.2.1,fw.2.2.2.2.1,())) (Ev (ag (fw.1+1),fw.2.1,fw.2.2.1,fw.2.2.2.1,fw.2.2.2.2.1,())))) ((vK.f n fw.2.1).bind fun eg=>iter n (fun Qu fN=>br (decide (fN.2.1<(eg.1.length:Int))) (ab (0≤fN.2.1∧fN.2.1<(eg.1.length:Int)) (cut (br (eg.1.getD fN.2.1.toNat false) (some (.inr (decide (fN.1<(r1.1.length:Int)),()))) (some (.inr (false,())))) fun HB=>cut (br HB.1 (ab (0≤fN.1∧fN.1<(r1.1.length:Int)) ((bO.f n (r1.1.getD fN.1.toNat [])).bind fun pn=>some (.inr (ag (fN.1+1),pn.1,())))) (some (.inr (fN.1,0,())))) fun Ew=>br (decide (fN.2.1=0)) (Qu (Ew.1,ag (fN.2.1+1),fN.2.2.1,Ew.2.1,fN.2.2.2.2.1,fN.2.2.2.2.2.1,())) (br (decide (fN.2.1=1)) (Qu (Ew.1,ag (fN.2.1+1),fN.2.2.1,fN.2.2.2.1,Ew.2.1,fN.2.2.2.2.2.1,())) (Qu (Ew.1,ag (fN.2.1+1),fN.2.2.1,fN.2.2.2.1,fN.2.2.2.2.1,Ew.2.1,()))))) (cut ((sG.f n (fN.2.2.1,fN.2.2.2.1,fN.2.2.2.2.1,fN.2.2.2.2.2.1)).bind fun xu=>br (!xu.1) (some (.inr (true,()))) ((uj.f n (fN.2.2.1,fN.2.2.2.1,fN.2.2.2.2.1,fN.2.2.2.2.2.1)).bind fun nk=>some (.inr (!decide (nk.1=a0),())))) fun Qv=>br Qv.1 (some ((0,0,0,0),false,())) (some ((fN.2.2.1,fN.2.2.2.1,fN.2.2.2.2.1,fN.2.2.2.2.2.1),true,())))) (1,0,fw.2.1,fw.2.2.1,fw.2.2.2.1,fw.2.2.2.2.1,()))) (0,0,0,0,0,())
def um.ae (n:Nat):ar:=⟨[.val .str],[.val cV,.val .bool],fun x=>um.f n x.1⟩
theorem um.ok (n:Nat):aH 192 (um.ae n):=aJ n [(5,⟨[(5,.bt 1000 0),(17,.int .i64)],[(1000,.cells [] [.int .i64,.int .i64,.int .i64,.int .i64])],[0,2,4,15,16],[]⟩),(10,⟨[(30,.bool)],[],[0,2,4,5,6,15,16,17],[]⟩),(17,⟨[(5,.bt 1000 0),(8,.int .i64),(38,.int .i64)],[(1000,.cells [] [.int .i64,.int .i64,.int .i64,.int .i64])],[0,2,4,36,37],[]⟩),(23,⟨[(49,.bool)],[],[0,2,4,5,8,9,11,36,37,38],[]⟩),(24,⟨[(8,.int .i64),(11,.int .i64)],[],[0,2,4,5,9,36,37,38],[]⟩),(37,⟨[(80,.bool)],[],[2,5],[]⟩)] [] (ai (nu.ok n) (ai (xX.ok n) (ai (vK.ok n) (ai (sG.ok n) (ai (uj.ok n) aC))))) (dI ⟨bO.sound n,bO.av⟩ aD) func192
end Go.AmT
namespace Go.AmT
variable {op:Int} {x:Instr} {s:BB} {n:Nat} {L:List (BB)}
abbrev HC:Instr:=(0,0,0,0)
theorem Xy (h:1≤op∧op≤11) {c:UInt8} (hc:c.toNat<97):c∉fh op:=by
 have:∀ d∈fh op,97≤d.toNat:=by rcases HX h with rfl | rfl | rfl | rfl | rfl | rfl | rfl | rfl | rfl | rfl | rfl<;>decide
 grind
noncomputable def jz (x:Instr):List (BB):=
 fh x.1::(if k9 x.1 then [aj x.2.1,aj x.2.2.1] else if j4 x.1 then [aj x.2.1,aj x.2.2.1,aj x.2.2.2] else if nK x.1 then [aj x.2.2.1] else [])
theorem Xz (O:KJ x):bC 32 (du x)=jz x:=by
 have h0:(32:UInt8)∉fh x.1:=Xy O.op (by decide);have ha:(32:UInt8)∉aj x.2.1:=qE O.a (by decide) (by decide);have hb:(32:UInt8)∉aj x.2.2.1:=qE O.b (by decide) (by decide);have hc:(32:UInt8)∉aj x.2.2.2:=qE O.c (by decide) (by decide);unfold du jz lX;split
 ·have:fh x.1++([32]++aj x.2.1++([32]++aj x.2.2.1))=fh x.1++32::(aj x.2.1++32::aj x.2.2.1):=by simp
  rw [this,mE _ h0,mE _ ha,As hb]
 split
 ·have:fh x.1++([32]++aj x.2.1++([32]++aj x.2.2.1++([32]++aj x.2.2.2)))=fh x.1++32::(aj x.2.1++32::(aj x.2.2.1++32::aj x.2.2.2)):=by simp
  rw [this,mE _ h0,mE _ ha,mE _ hb,As hc]
 split
 ·have:fh x.1++([32]++aj x.2.2.1)=fh x.1++32::aj x.2.2.1:=by simp
  rw [this,mE _ h0,As hb]
 rw [List.append_nil,As h0]
structure Cs (s:BB) (r:Instr×Bool×Unit):Prop where
 all:∀ x,fH 3 3 24 x=true→du x=s→r=(x,true,())
 uq:(∃ x,fH 3 3 24 x=true∧du x=s)∨r=(HC,false,())
theorem Cs.one {s:BB} {r r':Instr×(Bool×Unit)} (h:Cs s r) (h':Cs s r'):r=r':=by
 rcases h.uq with ⟨x,o,e⟩ | e
 ·rw [h.all x o e,h'.all x o e]
 rcases h'.uq with ⟨x,o,e'⟩ | e'
 ·rw [h.all x o e',h'.all x o e']
 grind
theorem Qw {s:BB} {m:Option (Instr×Bool×Unit)} (h1:W m (fun r=>r=(HC,false,())∨(fH 3 3 24 r.1=true∧du r.1=s))) (h2:∀ x,fH 3 3 24 x=true→du x=s→m=some (x,true,())):W m (Cs s):=by
 obtain ⟨r,e,h⟩:=h1;refine ⟨r,e,⟨fun x o et=>?_,?_⟩⟩
 ·grind
 grind
theorem KP {γ ρ:Type} {F:(γ→Option ρ)→γ→Option ρ} {x0:γ} (x1 x2 x3:γ) {R:Option ρ} (h0:∀ ih,F ih x0=ih x1) (h1:∀ ih,F ih x1=ih x2) (h2:∀ ih,F ih x2=ih x3) (h3:∀ ih,F ih x3=R) {n:Nat} (hn:3<n):iter n F x0=R:=by
 obtain ⟨m,rfl⟩:∃ m,n=m+4:=⟨n-4,by omega⟩
 exact (h0 _).trans ((h1 _).trans ((h2 _).trans (h3 _)))
theorem Ey {ρ:Type} {L:List (BB)} {k:Int} {v:Int} (h0:0≤k) (hk:k<(L.length:Int)) (hL:(L.length:Int)≤2000000) (hg:L.getD k.toNat []=aj v) (hv:Cq v) (hn:1048576<n) (G:Int×(Int×Unit)→Option ρ) :
  (cut (α:=Bool×Unit) (br true (some (.inr (decide (k<(L.length:Int)),()))) (some (.inr (false,())))) fun HB=>cut (α:=(Int×Int×Unit)) (br HB.1 (ab (0≤k∧k<(L.length:Int)) ((bO.f n (L.getD k.toNat [])).bind fun pn=>some (.inr (ag (k+1),pn.1,())))) (some (.inr (k,0,())))) G)=G (k+1,v,()):=by
 rw [ax];simp only [bg];rw [decide_eq_true hk,ax,af ⟨h0,hk⟩,hg,Au hn hv.1 hv.2,aq,bM (by omega) (by omega)];simp only [bg]
theorem Ez {ρ:Type} {L:List (BB)} {k:Int} (G:Int×(Int×Unit)→Option ρ) :
  (cut (α:=Bool×Unit) (br false (some (.inr (decide (k<(L.length:Int)),()))) (some (.inr (false,())))) fun HB=>cut (α:=(Int×Int×Unit)) (br HB.1 (ab (0≤k∧k<(L.length:Int)) ((bO.f n (L.getD k.toNat [])).bind fun pn=>some (.inr (ag (k+1),pn.1,())))) (some (.inr (k,0,())))) G)=G (k,0,()):=by
 rw [aw];simp only [bg,aw]
theorem KQ (h:1≤op∧op≤11) (i:Nat) (hi:i<12):jy.getD i []=fh op↔(i:Int)=op:=by
 constructor
 ·intro e;have:∀ i:Fin 12,∀ j:Fin 12,jy.getD i.val []=jy.getD j.val []→i=j:=by decide
  have h2:=this ⟨i,hi⟩ ⟨op.toNat,by omega⟩ e
  grind
 intro e;rw [← e];unfold fh
 grind
theorem af3 (h:1≤op∧op≤11) (hn:1048576<n):sJ.f n jy (fh op)=some (op,()):=by
 have qN:jy.length=12:=rfl;unfold sJ.f;refine eM.1 (gu (fun (i:Nat) (_:Unit)=>((i:Int),())) 12 (fun i _=>(i:Int)≤op) (s0:=()) rfl (by omega) (by omega) (fun ih _ hI=>?_) (fun ih i _ hi hI hS=>?_))
 ·omega
 have hI:(i:Int)≤op:=hI;simp only [aM (show (i:Int)<(jy.length:Int) by omega),az];rw [af (by omega),cZ];refine ⟨fun e=>?_,fun e=>?_⟩
 ·rw [ao,(KQ h i hi).1 e.symm]
 rw [ba (by omega)];refine hS () ?_;have:¬ (i:Int)=op:=fun c=>e ((KQ h i hi).2 c).symm;omega
theorem af4 {w:BB} (hn:1048576<n):W (sJ.f n jy w) (fun _=>True):=by
 have qN:jy.length=12:=rfl;unfold sJ.f;refine gu (fun (i:Nat) (_:Unit)=>((i:Int),())) 12 (fun i _=>True) (s0:=()) rfl trivial (by omega) (fun ih _ hI=>?_) (fun ih i _ hi hI hS=>?_)
 ·simp only [au (show ¬ ((12:Nat):Int)<(jy.length:Int) by rw [qN]; omega)];exact ao.2 trivial
 simp only [aM (show (i:Int)<(jy.length:Int) by rw [qN]; omega),az];rw [af (by rw [qN]; omega),cZ];exact ⟨fun e=>ao.2 trivial,fun e=>by rw [ba (by omega)]; exact hS () trivial⟩
theorem XA (h:k9 op=true):j4 op=false:=by simp only [k9,j4,decide_eq_true_eq,decide_eq_false_iff_not] at h ⊢;omega
theorem XB (h:1≤op∧op≤11) (ha:k9 op=false) (hb:j4 op=false) (hc:nK op=false):op=11:=by simp only [k9,j4,nK,decide_eq_false_iff_not] at ha hb hc;omega
theorem Ct {a b c:Int} (h1:a=x.2.1) (h2:b=x.2.2.1) (h3:c=x.2.2.2):(x.1,a,b,c)=x:=by grind
theorem Qx (h:fH 3 3 24 x=true) (hn:1048577<n):jb.f n (du x)=some (x,true,()):=by
 have O:=Ar h (by omega) (by omega) (by omega);have hl:=Qj O;have hf:nr x=du x:=if_pos h;have aP:=O.op;unfold jb.f;rw [sI (by omega),Xz O,aq,KI,aq];have g0:(jz x).getD 0 []=fh x.1:=rfl;dsimp only;rw [af (by simp [jz]),g0,af3 aP (by omega),aq];dsimp only;rw [au (by omega)];cases hA:k9 x.1
 ·cases hB:j4 x.1
  ·cases hC:nK x.1
   ·have hp:jz x=[fh x.1]:=by simp [jz,hA,hB,hC]
    have KR:=XB aP hA hB hC;simp only [aw];rw [hp];have w0:ag (([fh x.1].length:Int)-1)=0:=bM (n:=0) (by omega) (by omega);rw [w0,decide_eq_true rfl,Ct (O.na hA hB).symm (O.nb KR).symm (O.nc hB).symm,Et,hf,aq,decide_eq_true rfl];rfl
   have hp:jz x=[fh x.1,aj x.2.2.1]:=by simp [jz,hA,hB,hC]
   simp only [aw,ax];rw [hp];have w0:ag (([fh x.1,aj x.2.2.1].length:Int)-1)=1:=bM (n:=1) (by omega) (by omega);have g1:[fh x.1,aj x.2.2.1].getD 1 []=aj x.2.2.1:=rfl;rw [w0,decide_eq_true rfl];simp only [bo,aw];rw [af (by simp),g1,rB O.b.1 O.b.2,aq];simp only [bo,aw];rw [Ct (O.na hA hB).symm rfl (O.nc hB).symm,Et,hf,aq,decide_eq_true rfl];rfl
  have hp:jz x=[fh x.1,aj x.2.1,aj x.2.2.1,aj x.2.2.2]:=by simp [jz,hA,hB]
  simp only [aw,ax];rw [hp];have w0:ag (([fh x.1,aj x.2.1,aj x.2.2.1,aj x.2.2.2].length:Int)-1)=3:=bM (n:=3) (by omega) (by omega);have g1:[fh x.1,aj x.2.1,aj x.2.2.1,aj x.2.2.2].getD 1 []=aj x.2.1:=rfl;have g2:[fh x.1,aj x.2.1,aj x.2.2.1,aj x.2.2.2].getD 2 []=aj x.2.2.1:=rfl;have g3:[fh x.1,aj x.2.1,aj x.2.2.1,aj x.2.2.2].getD 3 []=aj x.2.2.2:=rfl;rw [w0,decide_eq_true rfl];simp only [bo,aw];rw [af (by simp),g1,rB O.a.1 O.a.2,aq];simp only [bo,aw];rw [af (by simp),g2,rB O.b.1 O.b.2,aq];simp only [bo,aw];rw [af (by simp),g3,rB O.c.1 O.c.2,aq];simp only [bo,aw];rw [Ct rfl rfl rfl,Et,hf,aq,decide_eq_true rfl];rfl
 have hB:=XA hA;have hp:jz x=[fh x.1,aj x.2.1,aj x.2.2.1]:=by simp [jz,hA]
 simp only [aw,ax];rw [hp];have w0:ag (([fh x.1,aj x.2.1,aj x.2.2.1].length:Int)-1)=2:=bM (n:=2) (by omega) (by omega);have g1:[fh x.1,aj x.2.1,aj x.2.2.1].getD 1 []=aj x.2.1:=rfl;have g2:[fh x.1,aj x.2.1,aj x.2.2.1].getD 2 []=aj x.2.2.1:=rfl;rw [w0,decide_eq_true rfl];simp only [bo,aw];rw [af (by simp),g1,rB O.a.1 O.a.2,aq];simp only [bo,aw];rw [af (by simp),g2,rB O.b.1 O.b.2,aq];simp only [bo,aw];rw [Ct rfl rfl (O.nc hB).symm,Et,hf,aq,decide_eq_true rfl];rfl
theorem XC {s:BB} (hs:s.length≤1048576) (hn:1048577<n):W (jb.f n s) (fun r=>r=(HC,false,())∨(fH 3 3 24 r.1=true∧du r.1=s)):=by
 by_cases h0:s=[]
 ·subst h0;have hx:sJ.f n jy []=some (0,()):=by
   obtain ⟨m,rfl⟩:∃ m,n=m+1:=⟨n-1,by omega⟩
   rfl
  unfold jb.f;rw [sI (by simp),aq,KI,aq];dsimp only;have g0:(bC 32 []).getD 0 []=[]:=rfl;rw [af (by simp [bC]),g0,hx,aq,aM (by decide)];exact ao.2 (.inl rfl)
 have fin:∀ x:Instr,W ((iu.f n x).bind fun r8=>br (!decide (r8.1=s)) (some ((0,0,0,0),false,())) (some (x,true,()))) (fun r=>r=(HC,false,())∨(fH 3 3 24 r.1=true∧du r.1=s)):=fun x=>by
  rw [Et,aq];by_cases e:nr x=s
  ·rw [decide_eq_true e];refine ao.2 (.inr ?_);unfold nr at e
   grind
  rw [decide_eq_false e];exact ao.2 (.inl rfl)
 unfold jb.f;rw [sI (by omega),aq,KI,aq];have hp:=oq 32 s;have aG:=nD 32 s;have hlen:=vL 32 s;dsimp only;generalize bC 32 s=L at hp aG hlen;have fG:=kX.2 aG;have piece:∀ j,j<L.length→(L.getD j []).length≤1048576:=fun j hj=>by grind
 have hw:ag ((L.length:Int)-1)=(L.length:Int)-1:=bM (by omega) (by omega);rw [af (by omega),dt];refine bA (af4 (by omega)) (fun r3 _=>?_);rw [cZ];refine ⟨fun _=>ao.2 (.inl rfl),fun _=>?_⟩;rw [hw,cC];refine ⟨fun _=>?_,fun _=>?_⟩
 ·rw [cC];refine ⟨fun _=>ao.2 (.inl rfl),fun c=>?_⟩;have c:(2:Int)=(L.length:Int)-1:=by simpa using c
  rw [af (by omega),dt];refine bA (Av (piece 1 (by omega))) (fun r6 _=>?_);rw [cC];refine ⟨fun _=>ao.2 (.inl rfl),fun _=>?_⟩;rw [af (by omega),dt];refine bA (Av (piece 2 (by omega))) (fun r7 _=>?_);rw [cC];exact ⟨fun _=>ao.2 (.inl rfl),fun _=>fin _⟩
 rw [cC];refine ⟨fun _=>?_,fun _=>?_⟩
 ·rw [cC];refine ⟨fun _=>ao.2 (.inl rfl),fun c=>?_⟩;have c:(3:Int)=(L.length:Int)-1:=by simpa using c
  rw [af (by omega),dt];refine bA (Av (piece 1 (by omega))) (fun r6 _=>?_);rw [cC];refine ⟨fun _=>ao.2 (.inl rfl),fun _=>?_⟩;rw [af (by omega),dt];refine bA (Av (piece 2 (by omega))) (fun r7 _=>?_);rw [cC];refine ⟨fun _=>ao.2 (.inl rfl),fun _=>?_⟩;rw [af (by omega),dt];refine bA (Av (piece 3 (by omega))) (fun r8 _=>?_);rw [cC];exact ⟨fun _=>ao.2 (.inl rfl),fun _=>fin _⟩
 rw [cC];refine ⟨fun _=>?_,fun _=>?_⟩
 ·rw [cC];refine ⟨fun _=>ao.2 (.inl rfl),fun c=>?_⟩;have c:(1:Int)=(L.length:Int)-1:=by simpa using c
  rw [af (by omega),dt];refine bA (Av (piece 1 (by omega))) (fun r6 _=>?_);rw [cC];exact ⟨fun _=>ao.2 (.inl rfl),fun _=>fin _⟩
 rw [cC];exact ⟨fun _=>ao.2 (.inl rfl),fun _=>fin _⟩
theorem af5 {L:List (BB)} {ρ:Type} {F:((Int×Int×Int×Int×Int×Unit)→Option ρ)→(Int×Int×Int×Int×Int×Unit)→Option ρ} (aP:1≤op∧op≤11) (hw:L.getD 0 []=fh op) {X:Option ρ}
  (h1:∀ ih (i:Nat) (op:Int),i<12→F ih ((i:Int),op,0,0,0,())=if 0<i∧L.getD 0 []=jy.getD i [] then ih (((i+1:Nat):Int),(i:Int),0,0,0,()) else ih (((i+1:Nat):Int),op,0,0,0,()))
  (h2:∀ ih,F ih (((12:Nat):Int),op,0,0,0,())=X) (hn:12<n):iter n F (0,0,0,0,0,())=X:=by
 have:=mu (F:=F) (fun i=>((i:Int),if op.toNat<i then op else 0,0,0,0,())) 12 (R:=X) (fun ih i hi=>by
  show F ih ((i:Int),if op.toNat<i then op else 0,0,0,0,())=ih (((i+1:Nat):Int),if op.toNat<i+1 then op else 0,0,0,0,());rw [h1 ih i _ hi];by_cases e:(i:Int)=op
  ·rw [if_pos ⟨by omega,by rw [hw]; exact ((KQ aP i hi).2 e).symm⟩,if_pos (by omega),e]
  ·rw [if_neg (fun c=>e ((KQ aP i hi).1 (by grind)))]
   grind) (fun ih=>by
  grind) (n:=n) hn
 grind
theorem XD (n:Nat) (x:Instr):sG.f n x=some (fH 3 3 24 x,()):=by
 have hm:=iR;unfold sG.f;have hf:=OB n (3,3,List.replicate 24 ((0,0,0,0):Instr)) x ⟨by decide,by decide⟩ ⟨by decide,by decide⟩;rw [af (by omega),hf,aq]
 grind
theorem XE (h:fH 3 3 24 x=true) (hn:1048577<n):um.f n (du x)=some (x,true,()):=by
 have O:=Ar h (by omega) (by omega) (by omega);have hl:=Qj O;have hf:nr x=du x:=if_pos h;have aP:=O.op;unfold um.f;have EA:eS (32:Int).toNat=32:=rfl;rw [rA (by omega) (by omega) (by omega) hn,aq,Qg,aq,EA,Xz O];dsimp only;have qN:(jy.length:Int)=12:=rfl;refine af5 (L:=jz x) aP rfl (fun ih i op hi=>?_) (fun ih=>?_) (by omega);rotate_left
 ·simp only [au (show ¬ ((12:Nat):Int)<(jy.length:Int) by omega),Qi,aq];have fin:∀ at0:Int,cut (α:=(Bool×Unit)) ((sG.f n x).bind fun xu=>br (!xu.1) (some (Sum.inr (α:=Instr×Bool×Unit) (true,()))) ((uj.f n x).bind fun nk=>some (.inr (!decide (nk.1=du x),())))) (fun Qv=>br Qv.1 (some ((0,0,0,0),false,())) (some (x,true,())))=some (x,true,()):=fun _=>by rw [XD,h,aq];simp only [bo,aw];rw [Qk (by omega),hf,aq,decide_eq_true rfl];rfl
  have EB:((jz x).length:Int)≤2000000:=by
   have:(jz x).length≤4:=by
    unfold jz
    repeat' split
    all_goals simp
   omega
  cases hA:k9 x.1
  ·cases hB:j4 x.1
   ·cases hC:nK x.1
    ·have KR:=XB aP hA hB hC;have hu:kU x.1=[false,false,false]:=by rw [KR]; rfl
     rw [hu];refine KP (1,1,x.1,0,0,0,()) (1,2,x.1,0,0,0,()) (1,3,x.1,0,0,0,()) (fun ih=>?_) (fun ih=>?_) (fun ih=>?_) (fun ih=>?_) (by omega)
     ·show br (decide ((0:Int)<3)) (ab ((0:Int)≤0∧(0:Int)<3) (cut _ _)) _=_;rw [aM (by decide),af (by decide)];exact Ez _
     ·show br (decide ((1:Int)<3)) (ab ((0:Int)≤1∧(1:Int)<3) (cut _ _)) _=_;rw [aM (by decide),af (by decide)];exact Ez _
     ·show br (decide ((2:Int)<3)) (ab ((0:Int)≤2∧(2:Int)<3) (cut _ _)) _=_;rw [aM (by decide),af (by decide)];exact Ez _
     show br (decide ((3:Int)<3)) _ _=_;rw [au (by decide)];have ex:((x.1,0,0,0):Instr)=x:=Ct (O.na hA hB).symm (O.nb KR).symm (O.nc hB).symm;simp_all
    have e8:x.1=8:=by simpa [nK] using hC
    have hu:kU x.1=[false,true,false]:=by rw [e8]; rfl
    have hp:jz x=[fh x.1,aj x.2.2.1]:=by simp [jz,hA,hB,hC]
    rw [hu];refine KP (1,1,x.1,0,0,0,()) (2,2,x.1,0,x.2.2.1,0,()) (2,3,x.1,0,x.2.2.1,0,()) (fun ih=>?_) (fun ih=>?_) (fun ih=>?_) (fun ih=>?_) (by omega)
    ·show br (decide ((0:Int)<3)) (ab ((0:Int)≤0∧(0:Int)<3) (cut _ _)) _=_;rw [aM (by decide),af (by decide)];exact Ez _
    ·show br (decide ((1:Int)<3)) (ab ((0:Int)≤1∧(1:Int)<3) (cut _ _)) _=_;rw [aM (by decide),af (by decide)];exact Ey (k:=1) (by omega) (by grind) EB (by grind) O.b (by omega) _
    ·show br (decide ((2:Int)<3)) (ab ((0:Int)≤2∧(2:Int)<3) (cut _ _)) _=_;rw [aM (by decide),af (by decide)];exact Ez _
    show br (decide ((3:Int)<3)) _ _=_;rw [au (by decide)];have ex:((x.1,0,x.2.2.1,0):Instr)=x:=Ct (O.na hA hB).symm rfl (O.nc hB).symm;simp_all
   have hu:kU x.1=[true,true,true]:=by unfold kU; rw [hB]; rfl
   have hp:jz x=[fh x.1,aj x.2.1,aj x.2.2.1,aj x.2.2.2]:=by simp [jz,hA,hB]
   rw [hu];refine KP (2,1,x.1,x.2.1,0,0,()) (3,2,x.1,x.2.1,x.2.2.1,0,()) (4,3,x.1,x.2.1,x.2.2.1,x.2.2.2,()) (fun ih=>?_) (fun ih=>?_) (fun ih=>?_) (fun ih=>?_) (by omega)
   ·show br (decide ((0:Int)<3)) (ab ((0:Int)≤0∧(0:Int)<3) (cut _ _)) _=_;rw [aM (by decide),af (by decide)];exact Ey (k:=1) (by omega) (by grind) EB (by grind) O.a (by omega) _
   ·show br (decide ((1:Int)<3)) (ab ((0:Int)≤1∧(1:Int)<3) (cut _ _)) _=_;rw [aM (by decide),af (by decide)];exact Ey (k:=2) (by omega) (by grind) EB (by grind) O.b (by omega) _
   ·show br (decide ((2:Int)<3)) (ab ((0:Int)≤2∧(2:Int)<3) (cut _ _)) _=_;rw [aM (by decide),af (by decide)];exact Ey (k:=3) (by omega) (by grind) EB (by grind) O.c (by omega) _
   show br (decide ((3:Int)<3)) _ _=_;rw [au (by decide)];simp_all
  have hB:=XA hA;have hu:kU x.1=[true,true,false]:=by unfold kU;simp only [k9,decide_eq_true_eq] at hA;rw [hB,if_neg (by decide),if_neg (by omega),if_neg (by omega)]
  have hp:jz x=[fh x.1,aj x.2.1,aj x.2.2.1]:=by simp [jz,hA]
  rw [hu];refine KP (2,1,x.1,x.2.1,0,0,()) (3,2,x.1,x.2.1,x.2.2.1,0,()) (3,3,x.1,x.2.1,x.2.2.1,0,()) (fun ih=>?_) (fun ih=>?_) (fun ih=>?_) (fun ih=>?_) (by omega)
  ·show br (decide ((0:Int)<3)) (ab ((0:Int)≤0∧(0:Int)<3) (cut _ _)) _=_;rw [aM (by decide),af (by decide)];exact Ey (k:=1) (by omega) (by grind) EB (by grind) O.a (by omega) _
  ·show br (decide ((1:Int)<3)) (ab ((0:Int)≤1∧(1:Int)<3) (cut _ _)) _=_;rw [aM (by decide),af (by decide)];exact Ey (k:=2) (by omega) (by grind) EB (by grind) O.b (by omega) _
  ·show br (decide ((2:Int)<3)) (ab ((0:Int)≤2∧(2:Int)<3) (cut _ _)) _=_;rw [aM (by decide),af (by decide)];exact Ez _
  show br (decide ((3:Int)<3)) _ _=_;rw [au (by decide)];have ex:((x.1,x.2.1,x.2.2.1,0):Instr)=x:=Ct rfl rfl (O.nc hB).symm;simp_all
 simp only [aM (show (i:Int)<(jy.length:Int) by omega),az];rw [af (by omega),ba (by omega)];have fG:(0:Int)<((jz x).length:Int):=by simp [jz]
 by_cases h0:(0:Int)<(i:Int)
 ·rw [aM h0,af ⟨by omega,fG⟩];simp only [bg];by_cases e:(jz x).getD 0 []=jy.getD i []
  ·rw [decide_eq_true e,ax,if_pos ⟨by omega,e⟩]
  rw [decide_eq_false e,aw,if_neg (fun c=>e c.2)]
 rw [au h0];simp only [bg,aw]
 grind
theorem af6 {s:BB} (hs:s.length≤1048576) (hn:1048577<n):W (um.f n s) (fun r=>r=(HC,false,())∨(fH 3 3 24 r.1=true∧du r.1=s)):=by
 unfold um.f;rw [rA (by omega) (by omega) (by omega) hn,aq,Qg,aq];have hp:=oq (eS (32:Int).toNat) s;have aG:=nD (eS (32:Int).toNat) s;have hlen:=vL (eS (32:Int).toNat) s;dsimp only;generalize bC (eS (32:Int).toNat) s=L at hp aG hlen;have fG:=kX.2 aG;have qN:(jy.length:Int)=12:=rfl;refine gu (fun (i:Nat) (o:Int)=>((i:Int),o,0,0,0,())) 12 (fun i o=>True) (s0:=0) rfl trivial (by omega) (fun ih op _=>?_) (fun ih i op hi _ hS=>?_)
 ·simp only [au (show ¬ ((12:Nat):Int)<(jy.length:Int) by omega),Qi,aq];have ES:(kU op).length=3:=by
   unfold kU
   repeat' split
   all_goals rfl
  refine gu (fun (i:Nat) (o:Int×Int×Int×Int)=>(o.1,(i:Int),op,o.2.1,o.2.2.1,o.2.2.2,())) 3 (fun i o=>0≤o.1∧o.1≤(i:Int)+1) (s0:=(1,0,0,0)) rfl ⟨by decide,by decide⟩ (by omega) (fun ih o _=>?_) (fun ih i o hi hI xR=>?_)
  ·simp only [au (show ¬ ((3:Nat):Int)<((kU op).length:Int) by omega)];refine fB.2 (bA (P:=fun z=>∃ y:Bool×Unit,z = .inr y∧(y.1=false→fH 3 3 24 (op,o.2.1,o.2.2.1,o.2.2.2)=true∧du (op,o.2.1,o.2.2.1,o.2.2.2)=s)) ?_ (fun z hz=>?_))
   ·rw [XD,aq];cases hk:fH 3 3 24 (op,o.2.1,o.2.2.1,o.2.2.2)
    ·exact ao.2 ⟨_,rfl,fun h=>by cases h⟩
    simp only [bo,aw];rw [Qk (by omega),aq,nr,if_pos hk];exact ao.2 ⟨_,rfl,fun h=>⟨trivial,by grind⟩⟩
   obtain ⟨y,rfl,hy⟩:=hz;simp only;rw [cC];exact ⟨fun _=>ao.2 (.inl rfl),fun h=>ao.2 (.inr (hy h))⟩
  simp only [aM (show (i:Int)<((kU op).length:Int) by omega),az];have hI:0≤o.1∧o.1≤(i:Int)+1:=hI;rw [af (by omega)];refine fB.2 (bA (P:=fun z=>∃ y:Bool×Unit,z = .inr y∧(y.1=true→o.1<(L.length:Int))) ?_ (fun z hz=>?_))
  ·rw [cC];exact ⟨fun _=>ao.2 ⟨_,rfl,fun h=>by grind⟩,fun _=>ao.2 ⟨_,rfl,fun h=>by cases h⟩⟩
  obtain ⟨y,rfl,hy⟩:=hz;simp only;refine fB.2 (bA (P:=fun z=>∃ y:Int×(Int×Unit),z = .inr y∧0≤y.1∧y.1≤(i:Int)+2) ?_ (fun z hz=>?_))
  ·rw [cC];refine ⟨fun h=>?_,fun _=>ao.2 ⟨_,rfl,by omega,by omega⟩⟩;have hk:=hy h;have:=hp (L.getD o.1.toNat []) (by grind);rw [af ⟨hI.1,hk⟩,dt];refine bA (Hz (by omega) (by omega)) (fun r _=>ao.2 ⟨_,rfl,?_,?_⟩)
   ·show 0≤ag (o.1+1);rw [bM (by omega) (by omega)]; omega
   show ag (o.1+1)≤_;rw [bM (by omega) (by omega)]; omega
  obtain ⟨y2,rfl,BN,EM⟩:=hz;simp only;rw [ba (by omega),cZ];refine ⟨fun _=>xR (y2.1,y2.2.1,o.2.2.1,o.2.2.2) ⟨BN,by omega⟩,fun _=>?_⟩;rw [cZ];exact ⟨fun _=>xR (y2.1,o.2.1,y2.2.1,o.2.2.2) ⟨BN,by omega⟩,fun _=>xR (y2.1,o.2.1,o.2.2.1,y2.2.1) ⟨BN,by omega⟩⟩
 simp only [aM (show (i:Int)<(jy.length:Int) by omega),az];rw [af (by omega)];refine fB.2 (bA (P:=fun z=>∃ y:Bool×Unit,z = .inr y) ?_ (fun z hz=>?_))
 ·rw [cZ];refine ⟨fun _=>?_,fun _=>ao.2 ⟨_,rfl⟩⟩;rw [af (by omega)];exact ao.2 ⟨_,rfl⟩
 obtain ⟨y,rfl⟩:=hz;simp only;rw [ba (by omega),cC]
 grind
theorem af7 {s:BB} (hs:s.length≤1048576) (hn:1048577<n):∃ r,jb.f n s=some r∧Cs s r:=Qw (XC hs hn) (fun x o et=>by subst et; exact Qx o hn)
theorem af8 {s:BB} (hs:s.length≤1048576) (hn:1048577<n):∃ r,um.f n s=some r∧jb.f n s=some r∧Cs s r:=by
 obtain ⟨r,e,h⟩:=Qw (af6 hs hn) (fun x o et=>by subst et; exact XE o hn);obtain ⟨r',e',h'⟩:=Qw (XC hs hn) (fun x o et=>by subst et; exact Qx o hn);have:=h.one h'
 grind
end Go.AmT
namespace Go.AmT
open Go.Proofs Go.Proofs.Tryz
def ur.f (n:Nat) (a0:Program):Option ((BB)×Unit):=(jn.f n a0).bind fun r1=>br (!r1.1) (some ([],())) ((cf.f n a0.1).bind fun r2=>ab (r2.1.length+([59]:BB).length<ca) ((cf.f n a0.2.1).bind fun r3=>ab ((r2.1++([59]:BB)).length+r3.1.length<ca) (iter n (fun oa bT=>br (decide (bT.2.1<(a0.2.2.length:Int))) (ab (0≤bT.2.1∧bT.2.1<(a0.2.2.length:Int)) (let v12:=(a0.2.2.getD bT.2.1.toNat fK); ab (bT.1.length+([59]:BB).length<ca) ((uj.f n v12).bind fun fD=>ab ((bT.1++([59]:BB)).length+fD.1.length<ca) (oa ((bT.1++([59]:BB))++fD.1,ag (bT.2.1+1),()))))) (some (bT.1,()))) ((r2.1++([59]:BB))++r3.1,0,()))))
def ur.ae (n:Nat):ar:=⟨[.val bp],[.val .str],fun x=>ur.f n x.1⟩
theorem ur.ok (n:Nat):aH 193 (ur.ae n):=aJ n [(7,⟨[(3,.str),(20,.int .i64)],[],[18,19],[]⟩)] [] (ai ⟨jn.sound n,jn.av⟩ (ai (uj.ok n) aC)) (dI ⟨cf.sound n,cf.av⟩ aD) func193
def Aw.f (n:Nat) (a0:Program):Option ((BB)×Unit):=(jo.f n a0).bind fun r1=>br (!r1.1) (some ([],())) ((dV.f n a0.1).bind fun r2=>(dV.f n a0.2.1).bind fun r3=>iter n (fun oa bT=>br (decide (bT.1<(a0.2.2.length:Int))) (ab (0≤bT.1∧bT.1<(a0.2.2.length:Int)) (let v12:=(a0.2.2.getD bT.1.toNat fK); (iu.f n v12).bind fun fD=>ab ((bT.2.1.length+([fD.1]:List (BB)).length)*16≤bn) (oa (ag (bT.1+1),bT.2.1++[fD.1],())))) ((om.f n bT.2.1 ([59]:BB)).bind fun ie=>some (ie.1,()))) (0,[r2.1,r3.1],()))
def Aw.ae (n:Nat):ar:=⟨[.val bp],[.val .str],fun x=>Aw.f n x.1⟩
theorem Aw.ok (n:Nat):aH 212 (Aw.ae n):=aJ n [(7,⟨[(3,.own 1000 .str),(19,.int .i64)],[(1000,.row true .str)],[17,18],[]⟩)] [] (ai ⟨jo.sound n,jo.av⟩ (ai ⟨dV.sound n,dV.av⟩ (ai ⟨iu.sound n,iu.av⟩ (ai ⟨om.sound n,om.av⟩ aC)))) aD func212
end Go.AmT
namespace Go.AmT
variable {p:Program}
theorem uw (hp:cP p=true):(0≤p.1∧p.1≤3)∧(0≤p.2.1∧p.2.1≤3)∧(1≤p.2.2.length∧p.2.2.length≤24)∧∀ x∈p.2.2,fH p.1 p.2.1 (p.2.2.length:Int) x=true:=by
 unfold cP at hp
 grind
theorem af9 {ins outs size:Int} {x:Instr} (h:fH ins outs size x=true) (hi:ins≤3) (ho:outs≤3) (hs:size≤24):fH 3 3 24 x=true:=by
 have O:=Ar h hi ho hs;obtain ⟨op,a,b,c⟩:=x;have key:=O.op;unfold fH at h ⊢
 grind
def ux (x:Instr):BB:=[59]++nr x
def jA (p:Program):BB:=aj p.1++[59]++aj p.2.1++(p.2.2.map ux).flatten
def vM (p:Program):BB:=if cP p then jA p else []
theorem XF (x:Instr):(ux x).length≤41:=by have:=Xb x;simp only [ux,cY,bh,bP];omega
theorem HD (h:cP p=true):(jA p).length≤1100:=by obtain ⟨h1,h2,h3,h4⟩:=uw h;have l1:=fv (x:=p.1) (by omega) (by omega);have l2:=fv (x:=p.2.1) (by omega) (by omega);have l3:=kq ux 41 p.2.2 (fun x _=>XF x);simp only [jA,cY,bh,bP];omega
theorem Qy (p:Program):(vM p).length≤1100:=by
 unfold vM;split
 ·rename_i h; exact HD h
 simp
theorem Qz {n:Nat} (hp:jq p) (hn:1048576<n):ur.f n p=some (vM p,()):=by
 unfold ur.f vM;rw [GK hp hn,aq];cases hk:cP p
 ·simp only [Bool.not_false,ax]; rfl
 obtain ⟨h1,h2,h3,h4⟩:=uw hk;have l1:=fv (x:=p.1) (by omega) (by omega);have l2:=fv (x:=p.2.1) (by omega) (by omega);simp only [bo,aw,if_true];rw [sE hn (by omega) (by omega),aq,ka (by grind),sE hn (by omega) (by omega),aq,ka (by grind)];have hm:∀ i,((p.2.2.take i).map ux).flatten.length≤1000:=fun i=>by
  have:=kq ux 41 (p.2.2.take i) (fun y hy=>XF y)
  grind
 refine Qe ux p.2.2 (aj p.1++[59]++aj p.2.1) (fun t i=>(t,i,())) (fun ih i hi=>?_) (fun ih=>?_) (by omega)
 ·have aF:(i:Int)<(p.2.2.length:Int):=by omega
  have W9:=hm i;have hf:=Xb (p.2.2.getD i fK);simp only [aM aF,az];rw [af (by omega),ka (by grind),Qk hn,aq,ka (by grind),ba (by omega)];rw [Qc ux p.2.2 i hi,aU hi];simp only [ux,List.append_assoc]
 simp only [au (Int.lt_irrefl _)];rfl
theorem XG (p:Program):Lib.join (aj p.1::aj p.2.1::p.2.2.map nr) [59]=jA p:=by rw [Lib.join_cons,Lib.joinTail,List.map_cons,List.map_map,List.flatten_cons];unfold jA;simp only [List.append_assoc];rfl
theorem aga {n:Nat} (hp:jq p) (hn:1048576<n):Aw.f n p=some (vM p,()):=by
 have hB:=iR;unfold Aw.f vM;rw [GL hp hn,aq];cases hk:cP p
 ·simp only [Bool.not_false,ax]; rfl
 obtain ⟨h1,h2,h3,h4⟩:=uw hk;have hL:=HD hk;simp only [bo,aw,if_true];rw [ui (by omega) (by omega),aq,ui (by omega) (by omega),aq];refine afS p.2.2 nr [aj p.1,aj p.2.1] (fun i l=>(i,l,())) (fun ih i hi l hl=>?_) (fun ih=>?_) (by omega)
 ·have aF:(i:Int)<(p.2.2.length:Int):=by omega
  simp only [bh,bP] at hl;simp only [aM aF,az];rw [af (by omega),Et,aq,af (by grind),ba (by omega),aU hi]
 simp only [au (Int.lt_irrefl _)];have e:[aj p.1,aj p.2.1]++p.2.2.map nr=aj p.1::aj p.2.1::p.2.2.map nr:=rfl;rw [e,Qf (by grind) (by rw [XG]; omega),aq,XG]
end Go.AmT
namespace Go.AmT
open Go.Proofs Go.Proofs.Tryz
def rC.f (n:Nat) (a0:BB):Option (Program×Bool×Unit):=(iE.f n a0 ([59]:BB)).bind fun r1=>br (decide ((r1.1.length:Int)<3)) (some ((0,0,[]),false,())) (ab ((0:Int)≤0∧0<(r1.1.length:Int)) ((fi.f n (r1.1.getD 0 [])).bind fun r2=>ab ((0:Int)≤1∧(1:Int)<(r1.1.length:Int)) ((fi.f n (r1.1.getD 1 [])).bind fun r3=>ab ((0:Int)≤2∧(2:Int)≤(r1.1.length:Int)∧(r1.1.length:Int)≤(r1.1.length:Int)) (iter n (fun rD b_=>br (decide (b_.1<(((r1.1.take (r1.1.length:Int).toNat).drop 2).length:Int))) (ab (0≤b_.1∧b_.1<(((r1.1.take (r1.1.length:Int).toNat).drop 2).length:Int)) (let v31:=(((r1.1.take (r1.1.length:Int).toNat).drop 2).getD b_.1.toNat []); (jb.f n v31).bind fun gE=>br (!gE.2.1) (some ((0,0,[]),false,())) (ab ((b_.2.2.2.1.length+([gE.1]:List Instr).length)*32≤bn) (rD (ag (b_.1+1),b_.2.1,b_.2.2.1,b_.2.2.2.1++[gE.1],()))))) (cut (br (!r2.2.1) (some (.inr (true,()))) (br (!r3.2.1) (some (.inr (true,()))) ((jo.f n (b_.2.1,b_.2.2.1,b_.2.2.2.1)).bind fun kb=>some (.inr (!kb.1,()))))) fun HE=>br HE.1 (some ((0,0,[]),false,())) (some ((b_.2.1,b_.2.2.1,b_.2.2.2.1),true,())))) (0,r2.1,r3.1,[],())))))
def rC.ae (n:Nat):ar:=⟨[.val .str],[.val bp,.val .bool],fun x=>rC.f n x.1⟩
theorem rC.ok (n:Nat):aH 155 (rC.ae n):=aJ n [(10,⟨[(9,.bt 1000 0),(40,.int .i64)],[(1000,.cells [] [.int .i64,.int .i64,.own 1001 cV]),(1001,.row true cV)],[2,6,8,38,39],[]⟩),(21,⟨[(69,.bool)],[],[2,9],[]⟩)] [] (ai ⟨iE.sound n,iE.av⟩ (ai (fi.ok n) (ai ⟨jb.sound n,jb.av⟩ (ai ⟨jo.sound n,jo.av⟩ aC)))) aD func155
def uz.f (n:Nat) (a0:BB):Option (Program×Bool×Unit):=(nu.f n a0 59).bind fun r1=>(ch.f n (r1.1.length:Int) 3 26).bind fun r2=>br (!r2.1) (some ((0,0,[]),false,())) (ab ((0:Int)≤0∧0<(r1.1.length:Int)) ((bO.f n (r1.1.getD 0 [])).bind fun r3=>ab ((0:Int)≤1∧(1:Int)<(r1.1.length:Int)) ((bO.f n (r1.1.getD 1 [])).bind fun r4=>ab ((0:Int)≤2∧(2:Int)≤(r1.1.length:Int)∧(r1.1.length:Int)≤(r1.1.length:Int)) (iter n (fun agb mF=>br (decide (mF.1<((((r1.1.length:Int).toNat-2):Nat):Int))) (ab (0≤mF.1∧mF.1<((((r1.1.length:Int).toNat-2):Nat):Int)) ((um.f n (r1.1.getD (2+mF.1.toNat) [])).bind fun kN=>br (!kN.2.1) (some ((0,0,[]),false,())) (ab ((mF.2.2.2.1.length+([kN.1]:List Instr).length)*32≤bn) (agb (ag (mF.1+1),mF.2.1,mF.2.2.1,mF.2.2.2.1++[kN.1],()))))) (cut ((jn.f n (mF.2.1,mF.2.2.1,mF.2.2.2.1)).bind fun QA=>br (!QA.1) (some (.inr (true,()))) ((ur.f n (mF.2.1,mF.2.2.1,mF.2.2.2.1)).bind fun ov=>some (.inr (!decide (ov.1=a0),())))) fun y36=>br y36.1 (some ((0,0,[]),false,())) (some ((mF.2.1,mF.2.2.1,mF.2.2.2.1),true,())))) (0,r3.1,r4.1,[],())))))
def uz.ae (n:Nat):ar:=⟨[.val .str],[.val bp,.val .bool],fun x=>uz.f n x.1⟩
theorem uz.ok (n:Nat):aH 130 (uz.ae n):=aJ n [(10,⟨[(5,.bt 1000 0),(37,.int .i64)],[(1000,.cells [] [.int .i64,.int .i64,.own 1001 cV]),(1001,.row true cV)],[0,2,35,36],[]⟩),(21,⟨[(64,.bool)],[],[2,5],[]⟩)] [] (ai (nu.ok n) (ai ⟨ch.sound n,ch.av⟩ (ai (um.ok n) (ai ⟨jn.sound n,jn.av⟩ (ai (ur.ok n) aC))))) (dI ⟨bO.sound n,bO.av⟩ aD) func130
end Go.AmT
