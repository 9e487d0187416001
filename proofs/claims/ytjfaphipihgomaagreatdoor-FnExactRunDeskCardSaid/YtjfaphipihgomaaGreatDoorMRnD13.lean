/- Functions of the program, each as a plain Lean function. No condition. -/
import Derived.Test.YtjfaphipihgomaaGreatDoorMRnD12
open Go Go.Am
noncomputable section
set_option linter.unusedVariables false
set_option maxRecDepth 100000
set_option linter.unusedSimpArgs false
open Bool renaming and_eq_true → aw, not_true → bf
open Go.Lib renaming itoa → aj
open Int renaming toNat_natCast → ay
open List renaming length_append → cg, length_cons → aQ, length_nil → bh, length_pos_iff → jA
open UInt8 renaming ofNat → dH
namespace Go.AmT
open Go.Proofs Go.Proofs.Tryz
def rU.f (n:Nat) (a0:List (BB)) (a1:BB):Option (Int×Unit):=iter n (fun jY x5=>br (decide (x5.1<(a0.length:Int))) (ab (0≤x5.1∧x5.1<(a0.length:Int)) (br (decide (a1=(a0.getD x5.1.toNat []))) (some (x5.1,())) (jY (ah (x5.1+1),())))) (some (-1,()))) (0,())
def rU.ae (n:Nat):au:=⟨[.val (.sl .str),.val .str],[.val I],fun x=>rU.f n x.1 x.2.1⟩
theorem rU.ok (n:Nat):aP 254 (rU.ae n):=aU n [(3,⟨[(8,.int .i64)],[],[0,1,7],[]⟩)] [] aK aL func254
def iV.cE:List (Nat×LA):=[(500012,⟨[],[],[],[]⟩)]
def iV.f (n:Nat) (a0:BB):Option (Instr×Bool×Unit):=(gB.f n a0 ([32]:BB)).bind fun r1=>(tn.f n ).bind fun r2=>ab ((0:Int)≤0∧0<(r1.1.length:Int)) ((rU.f n r2.1 (r1.1.getD 0 [])).bind fun r3=>br (decide (r3.1<1)) (some ((0,0,0,0),false,())) (br (kQ r3.1) (br (!decide (2=(ah ((r1.1.length:Int)-1)))) (some ((0,0,0,0),false,())) (ab ((0:Int)≤1∧(1:Int)<(r1.1.length:Int)) ((e9.f n (r1.1.getD 1 [])).bind fun r6=>br (!r6.2.1) (some ((0,0,0,0),false,())) (ab ((0:Int)≤2∧(2:Int)<(r1.1.length:Int)) ((e9.f n (r1.1.getD 2 [])).bind fun r7=>br (!r7.2.1) (some ((0,0,0,0),false,())) ((g_.f n (r3.1,r6.1,r7.1,0)).bind fun r8=>br (!decide (r8.1=a0)) (some ((0,0,0,0),false,())) (some ((r3.1,r6.1,r7.1,0),true,())))))))) (br (jT r3.1) (br (!decide (3=(ah ((r1.1.length:Int)-1)))) (some ((0,0,0,0),false,())) (ab ((0:Int)≤1∧(1:Int)<(r1.1.length:Int)) ((e9.f n (r1.1.getD 1 [])).bind fun r9=>br (!r9.2.1) (some ((0,0,0,0),false,())) (ab ((0:Int)≤2∧(2:Int)<(r1.1.length:Int)) ((e9.f n (r1.1.getD 2 [])).bind fun gv=>br (!gv.2.1) (some ((0,0,0,0),false,())) (ab ((0:Int)≤3∧(3:Int)<(r1.1.length:Int)) ((e9.f n (r1.1.getD 3 [])).bind fun dT=>br (!dT.2.1) (some ((0,0,0,0),false,())) ((g_.f n (r3.1,r9.1,gv.1,dT.1)).bind fun fh=>br (!decide (fh.1=a0)) (some ((0,0,0,0),false,())) (some ((r3.1,r9.1,gv.1,dT.1),true,())))))))))) (br (np r3.1) (br (!decide (1=(ah ((r1.1.length:Int)-1)))) (some ((0,0,0,0),false,())) (ab ((0:Int)≤1∧(1:Int)<(r1.1.length:Int)) ((e9.f n (r1.1.getD 1 [])).bind fun fU=>br (!fU.2.1) (some ((0,0,0,0),false,())) ((g_.f n (r3.1,0,fU.1,0)).bind fun iA=>br (!decide (iA.1=a0)) (some ((0,0,0,0),false,())) (some ((r3.1,0,fU.1,0),true,())))))) (br (!decide (0=(ah ((r1.1.length:Int)-1)))) (some ((0,0,0,0),false,())) ((g_.f n (r3.1,0,0,0)).bind fun fV=>br (!decide (fV.1=a0)) (some ((0,0,0,0),false,())) (some ((r3.1,0,0,0),true,()))))))))
def iV.ae (n:Nat):au:=⟨[.val .str],[.val dO,.val .bool],fun x=>iV.f n x.1⟩
def iV.cfg (n:Nat):ba:=⟨mS,[(19,gB.ae n),(255,tn.ae n),(254,rU.ae n),(159,e9.ae n),(257,g_.ae n)],[],[3000256]⟩
theorem iV.eq:∀ (n:Nat) (a0:BB),AA (iV.cfg n) n f211 (fm f211 iV.cE) [.val .str] [.val dO,.val .bool] (a0,())=iV.f n a0:=by intros;kernel_rfl
theorem iV.aD:dh Tryz.prog 211:=eu func211 (by kernel_rfl) (by kernel_rfl)
theorem iV.sound (n:Nat):Sound Tryz.prog 211 (iV.ae n):=Ix (fn:=f211) (m:=iV.ae n) (c:=iV.cfg n) (uz mixed (sU (.of (c:=iV.cfg n) ⟨⟨gB.sound n,gB.aD⟩,⟨tn.ok n,⟨rU.ok n,⟨e9.ok n,⟨⟨g_.sound n,g_.aD⟩,trivial⟩⟩⟩⟩⟩ (SQ (f:=256) rfl GF.Wc GF.aD)) (.of (c:=iV.cfg n) trivial)) (eo kC)) (eo kC) func211 (fun x=>(iV.eq n x.1).symm)
def tr.f (n:Nat) (a0:BB):Option (Instr×Bool×Unit):=(nd.f n a0 32).bind fun r1=>(w9.f n ).bind fun r2=>iter n (fun DI fl=>br (decide (fl.1<(r2.1.length:Int))) (ab (0≤fl.1∧fl.1<(r2.1.length:Int)) (cut (br (decide (0<fl.1)) (ab ((0:Int)≤0∧0<(r1.1.length:Int)) (some (.inr (decide ((r1.1.getD 0 [])=(r2.1.getD fl.1.toNat [])),())))) (some (.inr (false,())))) fun Pz=>br Pz.1 (DI (ah (fl.1+1),fl.1,fl.2.2.1,fl.2.2.2.1,fl.2.2.2.2.1,())) (DI (ah (fl.1+1),fl.2.1,fl.2.2.1,fl.2.2.2.1,fl.2.2.2.2.1,())))) ((u5.f n fl.2.1).bind fun ec=>iter n (fun PA fH=>br (decide (fH.2.1<(ec.1.length:Int))) (ab (0≤fH.2.1∧fH.2.1<(ec.1.length:Int)) (cut (br (ec.1.getD fH.2.1.toNat false) (some (.inr (decide (fH.1<(r1.1.length:Int)),()))) (some (.inr (false,())))) fun GO=>cut (br GO.1 (ab (0≤fH.1∧fH.1<(r1.1.length:Int)) ((bN.f n (r1.1.getD fH.1.toNat [])).bind fun rC=>some (.inr (ah (fH.1+1),rC.1,())))) (some (.inr (fH.1,0,())))) fun DJ=>br (decide (fH.2.1=0)) (PA (DJ.1,ah (fH.2.1+1),fH.2.2.1,DJ.2.1,fH.2.2.2.2.1,fH.2.2.2.2.2.1,())) (br (decide (fH.2.1=1)) (PA (DJ.1,ah (fH.2.1+1),fH.2.2.1,fH.2.2.2.1,DJ.2.1,fH.2.2.2.2.2.1,())) (PA (DJ.1,ah (fH.2.1+1),fH.2.2.1,fH.2.2.2.1,fH.2.2.2.2.1,DJ.2.1,()))))) (cut ((rS.f n (fH.2.2.1,fH.2.2.2.1,fH.2.2.2.2.1,fH.2.2.2.2.2.1)).bind fun wN=>br (!wN.1) (some (.inr (true,()))) ((tl.f n (fH.2.2.1,fH.2.2.2.1,fH.2.2.2.2.1,fH.2.2.2.2.2.1)).bind fun mU=>some (.inr (!decide (mU.1=a0),())))) fun PB=>br PB.1 (some ((0,0,0,0),false,())) (some ((fH.2.2.1,fH.2.2.2.1,fH.2.2.2.2.1,fH.2.2.2.2.2.1),true,())))) (1,0,fl.2.1,fl.2.2.1,fl.2.2.2.1,fl.2.2.2.2.1,()))) (0,0,0,0,0,())
def tr.ae (n:Nat):au:=⟨[.val .str],[.val dO,.val .bool],fun x=>tr.f n x.1⟩
theorem tr.ok (n:Nat):aP 192 (tr.ae n):=aU n [(5,⟨[(5,.bn 1000 0),(17,.int .i64)],[(1000,.cells [] [.int .i64,.int .i64,.int .i64,.int .i64])],[0,2,4,15,16],[]⟩),(10,⟨[(30,.bool)],[],[0,2,4,5,6,15,16,17],[]⟩),(17,⟨[(5,.bn 1000 0),(8,.int .i64),(38,.int .i64)],[(1000,.cells [] [.int .i64,.int .i64,.int .i64,.int .i64])],[0,2,4,36,37],[]⟩),(23,⟨[(49,.bool)],[],[0,2,4,5,8,9,11,36,37,38],[]⟩),(24,⟨[(8,.int .i64),(11,.int .i64)],[],[0,2,4,5,9,36,37,38],[]⟩),(37,⟨[(80,.bool)],[],[2,5],[]⟩)] [] (ai (nd.ok n) (ai (w9.ok n) (ai (u5.ok n) (ai (rS.ok n) (ai (tl.ok n) aK))))) (eM ⟨bN.sound n,bN.aD⟩ aL) func192
end Go.AmT
namespace Go.AmT
variable {op:Int} {x:Instr} {s:BB} {n:Nat} {L:List (BB)}
abbrev GP:Instr:=(0,0,0,0)
theorem WB (h:1≤op∧op≤11) {c:UInt8} (hc:c.toNat<97):c∉e_ op:=by
 have:∀ d∈e_ op,97≤d.toNat:=by rcases GG h with rfl | rfl | rfl | rfl | rfl | rfl | rfl | rfl | rfl | rfl | rfl<;>decide
 intro hm;have:=this c hm;omega
noncomputable def jt (x:Instr):List (BB):=
 e_ x.1::(if kQ x.1 then [aj x.2.1,aj x.2.2.1] else if jT x.1 then [aj x.2.1,aj x.2.2.1,aj x.2.2.2] else if np x.1 then [aj x.2.2.1] else [])
theorem WC (O:JX x):bt 32 (de x)=jt x:=by
 have h0:(32:UInt8)∉e_ x.1:=WB O.op (by decide);have ha:(32:UInt8)∉aj x.2.1:=pW O.a (by decide) (by decide);have hb:(32:UInt8)∉aj x.2.2.1:=pW O.b (by decide) (by decide);have hc:(32:UInt8)∉aj x.2.2.2:=pW O.c (by decide) (by decide);unfold de jt lK;split
 ·have:e_ x.1++([32]++aj x.2.1++([32]++aj x.2.2.1))=e_ x.1++32::(aj x.2.1++32::aj x.2.2.1):=by simp
  rw [this,mo _ h0,mo _ ha,zq hb]
 split
 ·have:e_ x.1++([32]++aj x.2.1++([32]++aj x.2.2.1++([32]++aj x.2.2.2)))=e_ x.1++32::(aj x.2.1++32::(aj x.2.2.1++32::aj x.2.2.2)):=by simp
  rw [this,mo _ h0,mo _ ha,mo _ hb,zq hc]
 split
 ·have:e_ x.1++([32]++aj x.2.2.1)=e_ x.1++32::aj x.2.2.1:=by simp
  rw [this,mo _ h0,zq hb]
 rw [List.append_nil,zq h0]
structure BC (s:BB) (r:Instr×Bool×Unit):Prop where
 all:∀ x,fy 3 3 24 x=true→de x=s→r=(x,true,())
 tu:(∃ x,fy 3 3 24 x=true∧de x=s)∨r=(GP,false,())
theorem BC.one {s:BB} {r r':Instr×(Bool×Unit)} (h:BC s r) (h':BC s r'):r=r':=by
 rcases h.tu with ⟨x,o,e⟩ | e
 ·rw [h.all x o e,h'.all x o e]
 rcases h'.tu with ⟨x,o,e'⟩ | e'
 ·rw [h.all x o e',h'.all x o e']
 rw [e,e']
theorem PC {s:BB} {m:Option (Instr×Bool×Unit)} (h1:W m (fun r=>r=(GP,false,())∨(fy 3 3 24 r.1=true∧de r.1=s))) (h2:∀ x,fy 3 3 24 x=true→de x=s→m=some (x,true,())):W m (BC s):=by
 obtain ⟨r,e,h⟩:=h1;refine ⟨r,e,⟨fun x o et=>?_,?_⟩⟩
 ·rw [h2 x o et] at e;exact (Option.some.inj e).symm
 rcases h with h | ⟨o,et⟩
 ·exact .inr h
 exact .inl ⟨_,o,et⟩
theorem J3 {γ ρ:Type} {F:(γ→Option ρ)→γ→Option ρ} {x0:γ} (x1 x2 x3:γ) {R:Option ρ} (h0:∀ ih,F ih x0=ih x1) (h1:∀ ih,F ih x1=ih x2) (h2:∀ ih,F ih x2=ih x3) (h3:∀ ih,F ih x3=R) {n:Nat} (hn:3<n):iter n F x0=R:=by
 obtain ⟨m,rfl⟩:∃ m,n=m+4:=⟨n-4,by omega⟩
 exact (h0 _).trans ((h1 _).trans ((h2 _).trans (h3 _)))
theorem DK {ρ:Type} {L:List (BB)} {k:Int} {v:Int} (h0:0≤k) (hk:k<(L.length:Int)) (hL:(L.length:Int)≤2000000) (hg:L.getD k.toNat []=aj v) (hv:By v) (hn:1048576<n) (G:Int×(Int×Unit)→Option ρ) :
  (cut (α:=Bool×Unit) (br true (some (.inr (decide (k<(L.length:Int)),()))) (some (.inr (false,())))) fun GO=>cut (α:=(Int×Int×Unit)) (br GO.1 (ab (0≤k∧k<(L.length:Int)) ((bN.f n (L.getD k.toNat [])).bind fun rC=>some (.inr (ah (k+1),rC.1,())))) (some (.inr (k,0,())))) G)=G (k+1,v,()):=by
 rw [aB];simp only [aY];rw [decide_eq_true hk,aB,af ⟨h0,hk⟩,hg,zt hn hv.1 hv.2,ao,bP (by omega) (by omega)];simp only [aY]
theorem DL {ρ:Type} {L:List (BB)} {k:Int} (G:Int×(Int×Unit)→Option ρ) :
  (cut (α:=Bool×Unit) (br false (some (.inr (decide (k<(L.length:Int)),()))) (some (.inr (false,())))) fun GO=>cut (α:=(Int×Int×Unit)) (br GO.1 (ab (0≤k∧k<(L.length:Int)) ((bN.f n (L.getD k.toNat [])).bind fun rC=>some (.inr (ah (k+1),rC.1,())))) (some (.inr (k,0,())))) G)=G (k,0,()):=by
 rw [ar];simp only [aY,ar]
theorem J4 (h:1≤op∧op≤11) (i:Nat) (hi:i<12):jr.getD i []=e_ op↔(i:Int)=op:=by
 constructor
 ·intro e;have:∀ i:Fin 12,∀ j:Fin 12,jr.getD i.val []=jr.getD j.val []→i=j:=by decide
  have h2:=this ⟨i,hi⟩ ⟨op.toNat,by omega⟩ e;have:=congrArg Fin.val h2;simp only at this;omega
 intro e;rw [← e];unfold e_;rw [ay]
theorem aeD (h:1≤op∧op≤11) (hn:1048576<n):rU.f n jr (e_ op)=some (op,()):=by
 have mm:jr.length=12:=rfl;unfold rU.f;refine dZ.1 (fT (fun (i:Nat) (_:Unit)=>((i:Int),())) 12 (fun i _=>(i:Int)≤op) (s0:=()) rfl (by omega) (by omega) (fun ih _ hI=>?_) (fun ih i _ hi hI hS=>?_))
 ·have hI:((12:Nat):Int)≤op:=hI;omega
 have hI:(i:Int)≤op:=hI;simp only [aG (show (i:Int)<(jr.length:Int) by rw [mm]; omega),ay];rw [af (by rw [mm]; omega),cM];refine ⟨fun e=>?_,fun e=>?_⟩
 ·rw [ak,(J4 h i hi).1 e.symm]
 rw [a_ (by omega)];refine hS () ?_;have:¬ (i:Int)=op:=fun c=>e ((J4 h i hi).2 c).symm;show ((i+1:Nat):Int)≤op;omega
theorem aeE {w:BB} (hn:1048576<n):W (rU.f n jr w) (fun _=>True):=by
 have mm:jr.length=12:=rfl;unfold rU.f;refine fT (fun (i:Nat) (_:Unit)=>((i:Int),())) 12 (fun i _=>True) (s0:=()) rfl trivial (by omega) (fun ih _ hI=>?_) (fun ih i _ hi hI hS=>?_)
 ·simp only [av (show ¬ ((12:Nat):Int)<(jr.length:Int) by rw [mm]; omega)];exact ak.2 trivial
 simp only [aG (show (i:Int)<(jr.length:Int) by rw [mm]; omega),ay];rw [af (by rw [mm]; omega),cM];exact ⟨fun e=>ak.2 trivial,fun e=>by rw [a_ (by omega)]; exact hS () trivial⟩
theorem WD (h:kQ op=true):jT op=false:=by simp only [kQ,jT,decide_eq_true_eq,decide_eq_false_iff_not] at h ⊢;omega
theorem WE (h:1≤op∧op≤11) (ha:kQ op=false) (hb:jT op=false) (hc:np op=false):op=11:=by simp only [kQ,jT,np,decide_eq_false_iff_not] at ha hb hc;omega
theorem BD {a b c:Int} (h1:a=x.2.1) (h2:b=x.2.2.1) (h3:c=x.2.2.2):(x.1,a,b,c)=x:=by subst h1; subst h2; subst h3; rfl
theorem PD (h:fy 3 3 24 x=true) (hn:1048577<n):iV.f n (de x)=some (x,true,()):=by
 have O:=zp h (by omega) (by omega) (by omega);have hl:=Po O;have hf:m_ x=de x:=if_pos h;have aH:=O.op;unfold iV.f;rw [qM (by omega),WC O,ao,JW,ao];have g0:(jt x).getD 0 []=e_ x.1:=rfl;dsimp only;rw [af (by simp [jt]),g0,aeD aH (by omega),ao];dsimp only;rw [av (by omega)];cases hA:kQ x.1
 ·cases hB:jT x.1
  ·cases hC:np x.1
   ·have hp:jt x=[e_ x.1]:=by simp [jt,hA,hB,hC]
    have J5:=WE aH hA hB hC;simp only [ar];rw [hp];have w0:ah (([e_ x.1].length:Int)-1)=0:=bP (n:=0) (by omega) (by omega);rw [w0,decide_eq_true rfl,BD (O.na hA hB).symm (O.nb J5).symm (O.nc hB).symm,DG,hf,ao,decide_eq_true rfl];rfl
   have hp:jt x=[e_ x.1,aj x.2.2.1]:=by simp [jt,hA,hB,hC]
   simp only [ar,aB];rw [hp];have w0:ah (([e_ x.1,aj x.2.2.1].length:Int)-1)=1:=bP (n:=1) (by omega) (by omega);have g1:[e_ x.1,aj x.2.2.1].getD 1 []=aj x.2.2.1:=rfl;rw [w0,decide_eq_true rfl];simp only [bf,ar];rw [af (by simp),g1,qN O.b.1 O.b.2,ao];simp only [bf,ar];rw [BD (O.na hA hB).symm rfl (O.nc hB).symm,DG,hf,ao,decide_eq_true rfl];rfl
  have hp:jt x=[e_ x.1,aj x.2.1,aj x.2.2.1,aj x.2.2.2]:=by simp [jt,hA,hB]
  simp only [ar,aB];rw [hp];have w0:ah (([e_ x.1,aj x.2.1,aj x.2.2.1,aj x.2.2.2].length:Int)-1)=3:=bP (n:=3) (by omega) (by omega);have g1:[e_ x.1,aj x.2.1,aj x.2.2.1,aj x.2.2.2].getD 1 []=aj x.2.1:=rfl;have g2:[e_ x.1,aj x.2.1,aj x.2.2.1,aj x.2.2.2].getD 2 []=aj x.2.2.1:=rfl;have g3:[e_ x.1,aj x.2.1,aj x.2.2.1,aj x.2.2.2].getD 3 []=aj x.2.2.2:=rfl;rw [w0,decide_eq_true rfl];simp only [bf,ar];rw [af (by simp),g1,qN O.a.1 O.a.2,ao];simp only [bf,ar];rw [af (by simp),g2,qN O.b.1 O.b.2,ao];simp only [bf,ar];rw [af (by simp),g3,qN O.c.1 O.c.2,ao];simp only [bf,ar];rw [BD rfl rfl rfl,DG,hf,ao,decide_eq_true rfl];rfl
 have hB:=WD hA;have hp:jt x=[e_ x.1,aj x.2.1,aj x.2.2.1]:=by simp [jt,hA]
 simp only [ar,aB];rw [hp];have w0:ah (([e_ x.1,aj x.2.1,aj x.2.2.1].length:Int)-1)=2:=bP (n:=2) (by omega) (by omega);have g1:[e_ x.1,aj x.2.1,aj x.2.2.1].getD 1 []=aj x.2.1:=rfl;have g2:[e_ x.1,aj x.2.1,aj x.2.2.1].getD 2 []=aj x.2.2.1:=rfl;rw [w0,decide_eq_true rfl];simp only [bf,ar];rw [af (by simp),g1,qN O.a.1 O.a.2,ao];simp only [bf,ar];rw [af (by simp),g2,qN O.b.1 O.b.2,ao];simp only [bf,ar];rw [BD rfl rfl (O.nc hB).symm,DG,hf,ao,decide_eq_true rfl];rfl
theorem WG {s:BB} (hs:s.length≤1048576) (hn:1048577<n):W (iV.f n s) (fun r=>r=(GP,false,())∨(fy 3 3 24 r.1=true∧de r.1=s)):=by
 by_cases h0:s=[]
 ·subst h0;have hx:rU.f n jr []=some (0,()):=by
   obtain ⟨m,rfl⟩:∃ m,n=m+1:=⟨n-1,by omega⟩
   rfl
  unfold iV.f;rw [qM (by simp),ao,JW,ao];dsimp only;have g0:(bt 32 []).getD 0 []=[]:=rfl;rw [af (by simp [bt]),g0,hx,ao,aG (by decide)];exact ak.2 (.inl rfl)
 have fin:∀ x:Instr,W ((g_.f n x).bind fun r8=>br (!decide (r8.1=s)) (some ((0,0,0,0),false,())) (some (x,true,()))) (fun r=>r=(GP,false,())∨(fy 3 3 24 r.1=true∧de r.1=s)):=fun x=>by
  rw [DG,ao];by_cases e:m_ x=s
  ·rw [decide_eq_true e];refine ak.2 (.inr ?_);unfold m_ at e;split at e
   ·rename_i h; exact ⟨h,e⟩
   exact absurd e.symm h0
  rw [decide_eq_false e];exact ak.2 (.inl rfl)
 unfold iV.f;rw [qM (by omega),ao,JW,ao];have hp:=mq 32 s;have aA:=mR 32 s;have hlen:=u6 32 s;dsimp only;generalize bt 32 s=L at hp aA hlen;have fw:=jA.2 aA;have piece:∀ j,j<L.length→(L.getD j []).length≤1048576:=fun j hj=>by have:=hp (L.getD j []) (by rw [aJ hj]; exact List.getElem_mem _);omega
 have hw:ah ((L.length:Int)-1)=(L.length:Int)-1:=bP (by omega) (by omega);rw [af (by omega),c8];refine bz (aeE (by omega)) (fun r3 _=>?_);rw [cM];refine ⟨fun _=>ak.2 (.inl rfl),fun _=>?_⟩;rw [hw,cw];refine ⟨fun _=>?_,fun _=>?_⟩
 ·rw [cw];refine ⟨fun _=>ak.2 (.inl rfl),fun c=>?_⟩;have c:(2:Int)=(L.length:Int)-1:=by simpa using c
  rw [af (by omega),c8];refine bz (zu (piece 1 (by omega))) (fun r6 _=>?_);rw [cw];refine ⟨fun _=>ak.2 (.inl rfl),fun _=>?_⟩;rw [af (by omega),c8];refine bz (zu (piece 2 (by omega))) (fun r7 _=>?_);rw [cw];exact ⟨fun _=>ak.2 (.inl rfl),fun _=>fin _⟩
 rw [cw];refine ⟨fun _=>?_,fun _=>?_⟩
 ·rw [cw];refine ⟨fun _=>ak.2 (.inl rfl),fun c=>?_⟩;have c:(3:Int)=(L.length:Int)-1:=by simpa using c
  rw [af (by omega),c8];refine bz (zu (piece 1 (by omega))) (fun r6 _=>?_);rw [cw];refine ⟨fun _=>ak.2 (.inl rfl),fun _=>?_⟩;rw [af (by omega),c8];refine bz (zu (piece 2 (by omega))) (fun r7 _=>?_);rw [cw];refine ⟨fun _=>ak.2 (.inl rfl),fun _=>?_⟩;rw [af (by omega),c8];refine bz (zu (piece 3 (by omega))) (fun r8 _=>?_);rw [cw];exact ⟨fun _=>ak.2 (.inl rfl),fun _=>fin _⟩
 rw [cw];refine ⟨fun _=>?_,fun _=>?_⟩
 ·rw [cw];refine ⟨fun _=>ak.2 (.inl rfl),fun c=>?_⟩;have c:(1:Int)=(L.length:Int)-1:=by simpa using c
  rw [af (by omega),c8];refine bz (zu (piece 1 (by omega))) (fun r6 _=>?_);rw [cw];exact ⟨fun _=>ak.2 (.inl rfl),fun _=>fin _⟩
 rw [cw];exact ⟨fun _=>ak.2 (.inl rfl),fun _=>fin _⟩
theorem aeF {L:List (BB)} {ρ:Type} {F:((Int×Int×Int×Int×Int×Unit)→Option ρ)→(Int×Int×Int×Int×Int×Unit)→Option ρ} (aH:1≤op∧op≤11) (hw:L.getD 0 []=e_ op) {X:Option ρ}
  (h1:∀ ih (i:Nat) (op:Int),i<12→F ih ((i:Int),op,0,0,0,())=if 0<i∧L.getD 0 []=jr.getD i [] then ih (((i+1:Nat):Int),(i:Int),0,0,0,()) else ih (((i+1:Nat):Int),op,0,0,0,()))
  (h2:∀ ih,F ih (((12:Nat):Int),op,0,0,0,())=X) (hn:12<n):iter n F (0,0,0,0,0,())=X:=by
 have:=mc (F:=F) (fun i=>((i:Int),if op.toNat<i then op else 0,0,0,0,())) 12 (R:=X) (fun ih i hi=>by
  show F ih ((i:Int),if op.toNat<i then op else 0,0,0,0,())=ih (((i+1:Nat):Int),if op.toNat<i+1 then op else 0,0,0,0,());rw [h1 ih i _ hi];by_cases e:(i:Int)=op
  ·rw [if_pos ⟨by omega,by rw [hw]; exact ((J4 aH i hi).2 e).symm⟩,if_pos (by omega),e]
  ·rw [if_neg (fun c=>e ((J4 aH i hi).1 (by rw [← c.2,hw])))];by_cases l:op.toNat<i
   ·rw [if_pos l,if_pos (by omega)]
   rw [if_neg l,if_neg (by omega)]) (fun ih=>by
  show F ih (((12:Nat):Int),if op.toNat<12 then op else 0,_)=_;rw [if_pos (by omega)]; exact h2 ih) (n:=n) hn
 exact this
theorem WH (n:Nat) (x:Instr):rS.f n x=some (fy 3 3 24 x,()):=by
 have hm:=iD
 unfold rS.f
 have hf:=NK n (3,3,List.replicate 24 ((0,0,0,0):Instr)) x ⟨by decide,by decide⟩ ⟨by decide,by decide⟩
 rw [af (by refine ⟨rfl,?_⟩; omega),hf,ao]
 have Pq:(((3,3,List.replicate 24 ((0,0,0,0):Instr)):Program).2.2.length:Int)=24:=by simp
 rw [Pq]
theorem WI {n : Nat} {x : Instr} (h : fy 3 3 24 x = true) (hn : 1048577 < n) : tr.f n (de x) = some (x, true, ()) := by
  have O := zp h (by omega) (by omega) (by omega)
  have hl := Po O
  have hf : m_ x = de x := if_pos h
  have aH := O.op
  unfold tr.f
  have DM : dH (32 : Int).toNat = 32 := rfl
  rw [qL (by omega) (by omega) (by omega) hn, ao, Pl, ao, DM, WC O]
  dsimp only
  have mm : (jr.length : Int) = 12 := rfl
  refine aeF (L := jt x) aH rfl (fun ih i op hi => ?_) (fun ih => ?_) (by omega)
  rotate_left
  · simp only [av (show ¬ ((12 : Nat) : Int) < (jr.length : Int) by rw [mm]; omega), Pn, ao]
    have fin : ∀ at0 : Int, cut (α := (Bool × Unit)) ((rS.f n x).bind fun wN => br (!wN.1) (some (Sum.inr (α := Instr × (Bool × Unit)) (true, ()))) ((tl.f n x).bind fun mU => some (.inr (!decide (mU.1 = de x), ())))) (fun PB => br PB.1 (some ((0, 0, 0, 0), false, ())) (some (x, true, ()))) = some (x, true, ()) := fun _ => by
      rw [WH, h, ao]
      simp only [bf, ar]
      rw [Pp (by omega), hf, ao, decide_eq_true rfl]
      rfl
    have DN : ((jt x).length : Int) ≤ 2000000 := by
      have : (jt x).length ≤ 4 := by
        unfold jt
        repeat' split
        all_goals simp
      omega
    cases hA : kQ x.1
    · cases hB : jT x.1
      · cases hC : np x.1
        · have J5 := WE aH hA hB hC
          have hu : kL x.1 = [false, false, false] := by rw [J5]; rfl
          rw [hu]
          refine J3 (1, 1, x.1, 0, 0, 0, ()) (1, 2, x.1, 0, 0, 0, ()) (1, 3, x.1, 0, 0, 0, ()) (fun ih => ?_) (fun ih => ?_) (fun ih => ?_) (fun ih => ?_) (by omega)
          · show br (decide ((0 : Int) < 3)) (ab ((0 : Int) ≤ 0 ∧ (0 : Int) < 3) (cut _ _)) _ = _
            rw [aG (by decide), af (by decide)]
            exact DL _
          · show br (decide ((1 : Int) < 3)) (ab ((0 : Int) ≤ 1 ∧ (1 : Int) < 3) (cut _ _)) _ = _
            rw [aG (by decide), af (by decide)]
            exact DL _
          · show br (decide ((2 : Int) < 3)) (ab ((0 : Int) ≤ 2 ∧ (2 : Int) < 3) (cut _ _)) _ = _
            rw [aG (by decide), af (by decide)]
            exact DL _
          · show br (decide ((3 : Int) < 3)) _ _ = _
            rw [av (by decide)]
            have ex : ((x.1, 0, 0, 0) : Instr) = x := BD (O.na hA hB).symm (O.nb J5).symm (O.nc hB).symm
            simp only [ex]
            exact fin 0
        · have e8 : x.1 = 8 := by simpa [np] using hC
          have hu : kL x.1 = [false, true, false] := by rw [e8]; rfl
          have hp : jt x = [e_ x.1, aj x.2.2.1] := by simp [jt, hA, hB, hC]
          rw [hu]
          refine J3 (1, 1, x.1, 0, 0, 0, ()) (2, 2, x.1, 0, x.2.2.1, 0, ()) (2, 3, x.1, 0, x.2.2.1, 0, ()) (fun ih => ?_) (fun ih => ?_) (fun ih => ?_) (fun ih => ?_) (by omega)
          · show br (decide ((0 : Int) < 3)) (ab ((0 : Int) ≤ 0 ∧ (0 : Int) < 3) (cut _ _)) _ = _
            rw [aG (by decide), af (by decide)]
            exact DL _
          · show br (decide ((1 : Int) < 3)) (ab ((0 : Int) ≤ 1 ∧ (1 : Int) < 3) (cut _ _)) _ = _
            rw [aG (by decide), af (by decide)]
            exact DK (k := 1) (by omega) (by rw [hp]; simp only [aQ, bh]; omega) DN (by rw [hp]; rfl) O.b (by omega) _
          · show br (decide ((2 : Int) < 3)) (ab ((0 : Int) ≤ 2 ∧ (2 : Int) < 3) (cut _ _)) _ = _
            rw [aG (by decide), af (by decide)]
            exact DL _
          · show br (decide ((3 : Int) < 3)) _ _ = _
            rw [av (by decide)]
            have ex : ((x.1, 0, x.2.2.1, 0) : Instr) = x := BD (O.na hA hB).symm rfl (O.nc hB).symm
            simp only [ex]
            exact fin 0
      · have hu : kL x.1 = [true, true, true] := by unfold kL; rw [hB]; rfl
        have hp : jt x = [e_ x.1, aj x.2.1, aj x.2.2.1, aj x.2.2.2] := by simp [jt, hA, hB]
        rw [hu]
        refine J3 (2, 1, x.1, x.2.1, 0, 0, ()) (3, 2, x.1, x.2.1, x.2.2.1, 0, ()) (4, 3, x.1, x.2.1, x.2.2.1, x.2.2.2, ()) (fun ih => ?_) (fun ih => ?_) (fun ih => ?_) (fun ih => ?_) (by omega)
        · show br (decide ((0 : Int) < 3)) (ab ((0 : Int) ≤ 0 ∧ (0 : Int) < 3) (cut _ _)) _ = _
          rw [aG (by decide), af (by decide)]
          exact DK (k := 1) (by omega) (by rw [hp]; simp only [aQ, bh]; omega) DN (by rw [hp]; rfl) O.a (by omega) _
        · show br (decide ((1 : Int) < 3)) (ab ((0 : Int) ≤ 1 ∧ (1 : Int) < 3) (cut _ _)) _ = _
          rw [aG (by decide), af (by decide)]
          exact DK (k := 2) (by omega) (by rw [hp]; simp only [aQ, bh]; omega) DN (by rw [hp]; rfl) O.b (by omega) _
        · show br (decide ((2 : Int) < 3)) (ab ((0 : Int) ≤ 2 ∧ (2 : Int) < 3) (cut _ _)) _ = _
          rw [aG (by decide), af (by decide)]
          exact DK (k := 3) (by omega) (by rw [hp]; simp only [aQ, bh]; omega) DN (by rw [hp]; rfl) O.c (by omega) _
        · show br (decide ((3 : Int) < 3)) _ _ = _
          rw [av (by decide)]
          exact fin 0
    · have hB := WD hA
      have hu : kL x.1 = [true, true, false] := by
        unfold kL
        simp only [kQ, decide_eq_true_eq] at hA
        rw [hB, if_neg (by decide), if_neg (by omega), if_neg (by omega)]
      have hp : jt x = [e_ x.1, aj x.2.1, aj x.2.2.1] := by simp [jt, hA]
      rw [hu]
      refine J3 (2, 1, x.1, x.2.1, 0, 0, ()) (3, 2, x.1, x.2.1, x.2.2.1, 0, ()) (3, 3, x.1, x.2.1, x.2.2.1, 0, ()) (fun ih => ?_) (fun ih => ?_) (fun ih => ?_) (fun ih => ?_) (by omega)
      · show br (decide ((0 : Int) < 3)) (ab ((0 : Int) ≤ 0 ∧ (0 : Int) < 3) (cut _ _)) _ = _
        rw [aG (by decide), af (by decide)]
        exact DK (k := 1) (by omega) (by rw [hp]; simp only [aQ, bh]; omega) DN (by rw [hp]; rfl) O.a (by omega) _
      · show br (decide ((1 : Int) < 3)) (ab ((0 : Int) ≤ 1 ∧ (1 : Int) < 3) (cut _ _)) _ = _
        rw [aG (by decide), af (by decide)]
        exact DK (k := 2) (by omega) (by rw [hp]; simp only [aQ, bh]; omega) DN (by rw [hp]; rfl) O.b (by omega) _
      · show br (decide ((2 : Int) < 3)) (ab ((0 : Int) ≤ 2 ∧ (2 : Int) < 3) (cut _ _)) _ = _
        rw [aG (by decide), af (by decide)]
        exact DL _
      · show br (decide ((3 : Int) < 3)) _ _ = _
        rw [av (by decide)]
        have ex : ((x.1, x.2.1, x.2.2.1, 0) : Instr) = x := BD rfl rfl (O.nc hB).symm
        simp only [ex]
        exact fin 0
  · simp only [aG (show (i : Int) < (jr.length : Int) by rw [mm]; omega), ay]
    rw [af (by rw [mm]; omega), a_ (by omega)]
    have fw : (0 : Int) < ((jt x).length : Int) := by simp [jt]
    by_cases h0 : (0 : Int) < (i : Int)
    · rw [aG h0, af ⟨by omega, fw⟩]
      simp only [aY]
      by_cases e : (jt x).getD 0 [] = jr.getD i []
      · rw [decide_eq_true e, aB, if_pos ⟨by omega, e⟩]
      · rw [decide_eq_false e, ar, if_neg (fun c => e c.2)]
    · rw [av h0]
      simp only [aY, ar]
      rw [if_neg (fun c => h0 (by omega))]
theorem aeG {s:BB} (hs:s.length≤1048576) (hn:1048577<n):W (tr.f n s) (fun r=>r=(GP,false,())∨(fy 3 3 24 r.1=true∧de r.1=s)):=by
 unfold tr.f;rw [qL (by omega) (by omega) (by omega) hn,ao,Pl,ao];have hp:=mq (dH (32:Int).toNat) s;have aA:=mR (dH (32:Int).toNat) s;have hlen:=u6 (dH (32:Int).toNat) s;dsimp only;generalize bt (dH (32:Int).toNat) s=L at hp aA hlen;have fw:=jA.2 aA;have mm:(jr.length:Int)=12:=rfl;refine fT (fun (i:Nat) (o:Int)=>((i:Int),o,0,0,0,())) 12 (fun i o=>True) (s0:=0) rfl trivial (by omega) (fun ih op _=>?_) (fun ih i op hi _ hS=>?_)
 ·simp only [av (show ¬ ((12:Nat):Int)<(jr.length:Int) by rw [mm]; omega),Pn,ao];have Bz:(kL op).length=3:=by
   unfold kL
   repeat' split
   all_goals rfl
  refine fT (fun (i:Nat) (o:Int×Int×Int×Int)=>(o.1,(i:Int),op,o.2.1,o.2.2.1,o.2.2.2,())) 3 (fun i o=>0≤o.1∧o.1≤(i:Int)+1) (s0:=(1,0,0,0)) rfl ⟨by decide,by decide⟩ (by omega) (fun ih o _=>?_) (fun ih i o hi hI uV=>?_)
  ·simp only [av (show ¬ ((3:Nat):Int)<((kL op).length:Int) by rw [Bz]; omega)];refine fx.2 (bz (P:=fun z=>∃ y:Bool×Unit,z = .inr y∧(y.1=false→fy 3 3 24 (op,o.2.1,o.2.2.1,o.2.2.2)=true∧de (op,o.2.1,o.2.2.1,o.2.2.2)=s)) ?_ (fun z hz=>?_))
   ·rw [WH,ao];cases hk:fy 3 3 24 (op,o.2.1,o.2.2.1,o.2.2.2)
    ·exact ak.2 ⟨_,rfl,fun h=>by cases h⟩
    simp only [bf,ar];rw [Pp (by omega),ao,m_,if_pos hk];exact ak.2 ⟨_,rfl,fun h=>⟨trivial,by simpa using h⟩⟩
   obtain ⟨y,rfl,hy⟩:=hz;simp only;rw [cw];exact ⟨fun _=>ak.2 (.inl rfl),fun h=>ak.2 (.inr (hy h))⟩
  simp only [aG (show (i:Int)<((kL op).length:Int) by rw [Bz]; omega),ay];have hI:0≤o.1∧o.1≤(i:Int)+1:=hI;rw [af (by rw [Bz]; omega)];refine fx.2 (bz (P:=fun z=>∃ y:Bool×Unit,z = .inr y∧(y.1=true→o.1<(L.length:Int))) ?_ (fun z hz=>?_))
  ·rw [cw];exact ⟨fun _=>ak.2 ⟨_,rfl,fun h=>by simpa using h⟩,fun _=>ak.2 ⟨_,rfl,fun h=>by cases h⟩⟩
  obtain ⟨y,rfl,hy⟩:=hz;simp only;refine fx.2 (bz (P:=fun z=>∃ y:Int×(Int×Unit),z = .inr y∧0≤y.1∧y.1≤(i:Int)+2) ?_ (fun z hz=>?_))
  ·rw [cw];refine ⟨fun h=>?_,fun _=>ak.2 ⟨_,rfl,by show 0≤o.1; omega,by show o.1≤_; omega⟩⟩;have hk:=hy h;have:=hp (L.getD o.1.toNat []) (by rw [aJ (by omega)]; exact List.getElem_mem _);rw [af ⟨hI.1,hk⟩,c8];refine bz (GM (by omega) (by omega)) (fun r _=>ak.2 ⟨_,rfl,?_,?_⟩)
   ·show 0≤ah (o.1+1);rw [bP (by omega) (by omega)]; omega
   show ah (o.1+1)≤_;rw [bP (by omega) (by omega)]; omega
  obtain ⟨y2,rfl,ye,Cv⟩:=hz;simp only;rw [a_ (by omega),cM];refine ⟨fun _=>uV (y2.1,y2.2.1,o.2.2.1,o.2.2.2) ⟨ye,by show y2.1≤((i+1:Nat):Int)+1; omega⟩,fun _=>?_⟩;rw [cM];exact ⟨fun _=>uV (y2.1,o.2.1,y2.2.1,o.2.2.2) ⟨ye,by show y2.1≤((i+1:Nat):Int)+1; omega⟩,fun _=>uV (y2.1,o.2.1,o.2.2.1,y2.2.1) ⟨ye,by show y2.1≤((i+1:Nat):Int)+1; omega⟩⟩
 simp only [aG (show (i:Int)<(jr.length:Int) by rw [mm]; omega),ay];rw [af (by rw [mm]; omega)];refine fx.2 (bz (P:=fun z=>∃ y:Bool×Unit,z = .inr y) ?_ (fun z hz=>?_))
 ·rw [cM];refine ⟨fun _=>?_,fun _=>ak.2 ⟨_,rfl⟩⟩;rw [af (by omega)];exact ak.2 ⟨_,rfl⟩
 obtain ⟨y,rfl⟩:=hz;simp only;rw [a_ (by omega),cw];exact ⟨fun _=>hS _ trivial,fun _=>hS _ trivial⟩
theorem aeH {s:BB} (hs:s.length≤1048576) (hn:1048577<n):∃ r,iV.f n s=some r∧BC s r:=PC (WG hs hn) (fun x o et=>by subst et; exact PD o hn)
theorem aeI {s:BB} (hs:s.length≤1048576) (hn:1048577<n):∃ r,tr.f n s=some r∧iV.f n s=some r∧BC s r:=by obtain ⟨r,e,h⟩:=PC (aeG hs hn) (fun x o et=>by subst et; exact WI o hn);obtain ⟨r',e',h'⟩:=PC (WG hs hn) (fun x o et=>by subst et; exact PD o hn);have:=h.one h';subst this;exact ⟨r,e,e',h⟩
end Go.AmT
namespace Go.AmT
open Go.Proofs Go.Proofs.Tryz
def tv.f (n:Nat) (a0:Program):Option ((BB)×Unit):=(jg.f n a0).bind fun r1=>br (!r1.1) (some ([],())) ((bX.f n a0.1).bind fun r2=>ab (r2.1.length+([59]:BB).length<bU) ((bX.f n a0.2.1).bind fun r3=>ab ((r2.1++([59]:BB)).length+r3.1.length<bU) (iter n (fun nH bO=>br (decide (bO.2.1<(a0.2.2.length:Int))) (ab (0≤bO.2.1∧bO.2.1<(a0.2.2.length:Int)) (let v12:=(a0.2.2.getD bO.2.1.toNat kX); ab (bO.1.length+([59]:BB).length<bU) ((tl.f n v12).bind fun fU=>ab ((bO.1++([59]:BB)).length+fU.1.length<bU) (nH ((bO.1++([59]:BB))++fU.1,ah (bO.2.1+1),()))))) (some (bO.1,()))) ((r2.1++([59]:BB))++r3.1,0,()))))
def tv.ae (n:Nat):au:=⟨[.val b_],[.val .str],fun x=>tv.f n x.1⟩
theorem tv.ok (n:Nat):aP 193 (tv.ae n):=aU n [(7,⟨[(3,.str),(20,.int .i64)],[],[18,19],[]⟩)] [] (ai ⟨jg.sound n,jg.aD⟩ (ai (tl.ok n) aK)) (eM ⟨bX.sound n,bX.aD⟩ aL) func193
def zv.f (n:Nat) (a0:Program):Option ((BB)×Unit):=(jh.f n a0).bind fun r1=>br (!r1.1) (some ([],())) ((dR.f n a0.1).bind fun r2=>(dR.f n a0.2.1).bind fun r3=>iter n (fun nH bO=>br (decide (bO.1<(a0.2.2.length:Int))) (ab (0≤bO.1∧bO.1<(a0.2.2.length:Int)) (let v12:=(a0.2.2.getD bO.1.toNat kX); (g_.f n v12).bind fun fU=>ab ((bO.2.1.length+([fU.1]:List (BB)).length)*16≤bo) (nH (ah (bO.1+1),bO.2.1++[fU.1],())))) ((nO.f n bO.2.1 ([59]:BB)).bind fun iA=>some (iA.1,()))) (0,[r2.1,r3.1],()))
def zv.ae (n:Nat):au:=⟨[.val b_],[.val .str],fun x=>zv.f n x.1⟩
theorem zv.ok (n:Nat):aP 212 (zv.ae n):=aU n [(7,⟨[(3,.own 1000 .str),(19,.int .i64)],[(1000,.row true .str)],[17,18],[]⟩)] [] (ai ⟨jh.sound n,jh.aD⟩ (ai ⟨dR.sound n,dR.aD⟩ (ai ⟨g_.sound n,g_.aD⟩ (ai ⟨nO.sound n,nO.aD⟩ aK)))) aL func212
end Go.AmT
namespace Go.AmT
variable {p:Program}
theorem tw (hp:cJ p=true):(0≤p.1∧p.1≤3)∧(0≤p.2.1∧p.2.1≤3)∧(1≤p.2.2.length∧p.2.2.length≤24)∧∀ x∈p.2.2,fy p.1 p.2.1 (p.2.2.length:Int) x=true:=by unfold cJ at hp;simp only [aw,decide_eq_true_eq,List.all_eq_true] at hp;exact ⟨hp.1.1.1,hp.1.1.2,hp.1.2,hp.2⟩
theorem aeJ {ins outs size:Int} {x:Instr} (h:fy ins outs size x=true) (hi:ins≤3) (ho:outs≤3) (hs:size≤24):fy 3 3 24 x=true:=by
 have O:=zp h hi ho hs;obtain ⟨op,a,b,c⟩:=x;have key:=O.op;unfold fy at h ⊢;rcases GG key with e | e | e | e | e | e | e | e | e | e | e<;>
 ·simp only at e;subst e;simp (config:={ decide:=true }) only [if_true,if_false,aw,decide_eq_true_eq,or_true,true_or,or_false,false_or] at h ⊢
  first | exact h | omega | (simp only [gz,tok,aw,decide_eq_true_eq] at h ⊢; omega)
def tx (x:Instr):BB:=[59]++m_ x
def ju (p:Program):BB:=aj p.1++[59]++aj p.2.1++(p.2.2.map tx).flatten
def u7 (p:Program):BB:=if cJ p then ju p else []
theorem WJ (x:Instr):(tx x).length≤41:=by have:=Wd x;simp only [tx,cg,aQ,bh];omega
theorem GQ (h:cJ p=true):(ju p).length≤1100:=by obtain ⟨h1,h2,h3,h4⟩:=tw h;have l1:=fk (x:=p.1) (by omega) (by omega);have l2:=fk (x:=p.2.1) (by omega) (by omega);have l3:=j8 tx 41 p.2.2 (fun x _=>WJ x);simp only [ju,cg,aQ,bh];omega
theorem PE (p:Program):(u7 p).length≤1100:=by
 unfold u7;split
 ·rename_i h; exact GQ h
 simp
theorem PF {n:Nat} (hp:pJ p) (hn:1048576<n):tv.f n p=some (u7 p,()):=by
 unfold tv.f u7;rw [FV hp hn,ao];cases hk:cJ p
 ·simp only [Bool.not_false,aB]; rfl
 obtain ⟨h1,h2,h3,h4⟩:=tw hk;have l1:=fk (x:=p.1) (by omega) (by omega);have l2:=fk (x:=p.2.1) (by omega) (by omega);simp only [bf,ar,if_true];rw [rQ hn (by omega) (by omega),ao,jq (by simp only [aQ,bh]; omega),rQ hn (by omega) (by omega),ao,jq (by simp only [cg,aQ,bh]; omega)];have hm:∀ i,((p.2.2.take i).map tx).flatten.length≤1000:=fun i=>by have:=j8 tx 41 (p.2.2.take i) (fun y hy=>WJ y);rw [List.length_take] at this;have:=Nat.min_le_right i p.2.2.length;omega
 refine Ph tx p.2.2 (aj p.1++[59]++aj p.2.1) (fun t i=>(t,i,())) (fun ih i hi=>?_) (fun ih=>?_) (by omega)
 ·have ax:(i:Int)<(p.2.2.length:Int):=by omega
  have Wb:=hm i;have hf:=Wd (p.2.2.getD i kX);simp only [aG ax,ay];rw [af (by omega),jq (by simp only [cg,aQ,bh]; omega),Pp hn,ao,jq (by simp only [cg,aQ,bh]; omega),a_ (by omega)];rw [Pf tx p.2.2 i hi,aJ hi];simp only [tx,List.append_assoc]
 simp only [av (Int.lt_irrefl _)];rfl
theorem WK (p:Program):Lib.join (aj p.1::aj p.2.1::p.2.2.map m_) [59]=ju p:=by rw [Lib.join_cons,Lib.joinTail,List.map_cons,List.map_map,List.flatten_cons];unfold ju;simp only [List.append_assoc];rfl
theorem aeK {n:Nat} (hp:pJ p) (hn:1048576<n):zv.f n p=some (u7 p,()):=by
 have hB:=iD;unfold zv.f u7;rw [FW hp hn,ao];cases hk:cJ p
 ·simp only [Bool.not_false,aB]; rfl
 obtain ⟨h1,h2,h3,h4⟩:=tw hk;have hL:=GQ hk;simp only [bf,ar,if_true];rw [tj (by omega) (by omega),ao,tj (by omega) (by omega),ao];refine aer p.2.2 m_ [aj p.1,aj p.2.1] (fun i l=>(i,l,())) (fun ih i hi l hl=>?_) (fun ih=>?_) (by omega)
 ·have ax:(i:Int)<(p.2.2.length:Int):=by omega
  simp only [aQ,bh] at hl;simp only [aG ax,ay];rw [af (by omega),DG,ao,af (by simp only [aQ,bh]; omega),a_ (by omega),aJ hi]
 simp only [av (Int.lt_irrefl _)];have e:[aj p.1,aj p.2.1]++p.2.2.map m_=aj p.1::aj p.2.1::p.2.2.map m_:=rfl;rw [e,Pj (by simp; omega) (by rw [WK]; omega),ao,WK]
end Go.AmT
namespace Go.AmT
open Go.Proofs Go.Proofs.Tryz
def rV.f (n:Nat) (a0:BB):Option (Program×Bool×Unit):=(gB.f n a0 ([59]:BB)).bind fun r1=>br (decide ((r1.1.length:Int)<3)) (some ((0,0,[]),false,())) (ab ((0:Int)≤0∧0<(r1.1.length:Int)) ((e9.f n (r1.1.getD 0 [])).bind fun r2=>ab ((0:Int)≤1∧(1:Int)<(r1.1.length:Int)) ((e9.f n (r1.1.getD 1 [])).bind fun r3=>ab ((0:Int)≤2∧(2:Int)≤(r1.1.length:Int)∧(r1.1.length:Int)≤(r1.1.length:Int)) (iter n (fun BE dI=>br (decide (dI.1<(((r1.1.take (r1.1.length:Int).toNat).drop 2).length:Int))) (ab (0≤dI.1∧dI.1<(((r1.1.take (r1.1.length:Int).toNat).drop 2).length:Int)) (let v31:=(((r1.1.take (r1.1.length:Int).toNat).drop 2).getD dI.1.toNat []); (iV.f n v31).bind fun iW=>br (!iW.2.1) (some ((0,0,[]),false,())) (ab ((dI.2.2.2.1.length+([iW.1]:List Instr).length)*32≤bo) (BE (ah (dI.1+1),dI.2.1,dI.2.2.1,dI.2.2.2.1++[iW.1],()))))) (cut (br (!r2.2.1) (some (.inr (true,()))) (br (!r3.2.1) (some (.inr (true,()))) ((jh.f n (dI.2.1,dI.2.2.1,dI.2.2.2.1)).bind fun mr=>some (.inr (!mr.1,()))))) fun GR=>br GR.1 (some ((0,0,[]),false,())) (some ((dI.2.1,dI.2.2.1,dI.2.2.2.1),true,())))) (0,r2.1,r3.1,[],())))))
def rV.ae (n:Nat):au:=⟨[.val .str],[.val b_,.val .bool],fun x=>rV.f n x.1⟩
theorem rV.ok (n:Nat):aP 155 (rV.ae n):=aU n [(10,⟨[(9,.bn 1000 0),(40,.int .i64)],[(1000,.cells [] [.int .i64,.int .i64,.own 1001 dO]),(1001,.row true dO)],[2,6,8,38,39],[]⟩),(21,⟨[(69,.bool)],[],[2,9],[]⟩)] [] (ai ⟨gB.sound n,gB.aD⟩ (ai (e9.ok n) (ai ⟨iV.sound n,iV.aD⟩ (ai ⟨jh.sound n,jh.aD⟩ aK)))) aL func155
def tz.f (n:Nat) (a0:BB):Option (Program×Bool×Unit):=(nd.f n a0 59).bind fun r1=>(bY.f n (r1.1.length:Int) 3 26).bind fun r2=>br (!r2.1) (some ((0,0,[]),false,())) (ab ((0:Int)≤0∧0<(r1.1.length:Int)) ((bN.f n (r1.1.getD 0 [])).bind fun r3=>ab ((0:Int)≤1∧(1:Int)<(r1.1.length:Int)) ((bN.f n (r1.1.getD 1 [])).bind fun r4=>ab ((0:Int)≤2∧(2:Int)≤(r1.1.length:Int)∧(r1.1.length:Int)≤(r1.1.length:Int)) (iter n (fun aeL mw=>br (decide (mw.1<((((r1.1.length:Int).toNat-2):Nat):Int))) (ab (0≤mw.1∧mw.1<((((r1.1.length:Int).toNat-2):Nat):Int)) ((tr.f n (r1.1.getD (2+mw.1.toNat) [])).bind fun kE=>br (!kE.2.1) (some ((0,0,[]),false,())) (ab ((mw.2.2.2.1.length+([kE.1]:List Instr).length)*32≤bo) (aeL (ah (mw.1+1),mw.2.1,mw.2.2.1,mw.2.2.2.1++[kE.1],()))))) (cut ((jg.f n (mw.2.1,mw.2.2.1,mw.2.2.2.1)).bind fun PG=>br (!PG.1) (some (.inr (true,()))) ((tv.f n (mw.2.1,mw.2.2.1,mw.2.2.2.1)).bind fun nP=>some (.inr (!decide (nP.1=a0),())))) fun y36=>br y36.1 (some ((0,0,[]),false,())) (some ((mw.2.1,mw.2.2.1,mw.2.2.2.1),true,())))) (0,r3.1,r4.1,[],())))))
def tz.ae (n:Nat):au:=⟨[.val .str],[.val b_,.val .bool],fun x=>tz.f n x.1⟩
theorem tz.ok (n:Nat):aP 130 (tz.ae n):=aU n [(10,⟨[(5,.bn 1000 0),(37,.int .i64)],[(1000,.cells [] [.int .i64,.int .i64,.own 1001 dO]),(1001,.row true dO)],[0,2,35,36],[]⟩),(21,⟨[(64,.bool)],[],[2,5],[]⟩)] [] (ai (nd.ok n) (ai ⟨bY.sound n,bY.aD⟩ (ai (tr.ok n) (ai ⟨jg.sound n,jg.aD⟩ (ai (tv.ok n) aK))))) (eM ⟨bN.sound n,bN.aD⟩ aL) func130
end Go.AmT
