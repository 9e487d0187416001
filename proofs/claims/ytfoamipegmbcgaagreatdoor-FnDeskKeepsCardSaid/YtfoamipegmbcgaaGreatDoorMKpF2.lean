/- Functions that the law FnDeskKeeps reaches, each as a plain Lean function, and that each does what that says. No condition. -/
import Derived.Test.YtfoamipegmbcgaaGreatDoorMKpF1
import Derived.Test.YtfoamipegmbcgaaGreatDoorAmE
namespace Go.AmT
noncomputable section
open Go Go.Am Go.Proofs
set_option linter.unusedVariables false
set_option maxRecDepth 100000
abbrev a_:Type:=Int×List Int
def ba:a_:=(0,[])
abbrev State:Type:=List a_×(List (List Int)×(List (List Int)×Int))
def uK.f (n:Nat) (a0:Program) (a1:a_):Option (Bool×Unit):=(cg.f n a1.1 0 (a0.2.2.length:Int)).bind fun r1=>br r1.1 (br (decide ((a1.2.length:Int)=4)) ((fP.f n a1.2).bind fun r2=>some (r2.1,())) (some (false,()))) (some (false,()))
def uK.ae (n:Nat):ar:=⟨[.val bn,.val bu],[.val .bool],fun x=>uK.f n x.1 x.2.1⟩
theorem uK.ok (n:Nat):aN 139 (uK.ae n):=aQ n [] [] (ak ⟨cg.sound n,cg.az⟩ (ak ⟨fP.sound n,fP.az⟩ aC)) aD Tryz.func139
def pD.f (n:Nat) (a0:List Int) (a1:List Int):Option (Bool×Unit):=br (decide ((a1.length:Int)<(a0.length:Int))) (some (false,())) (iter (α:=(Int×Unit)) n (fun gP x5=>br (decide (x5.1<(a0.length:Int))) (ab (0≤x5.1∧x5.1<(a0.length:Int)) (ab (0≤x5.1∧x5.1<(a1.length:Int)) (br (!decide ((a1.getD x5.1.toNat 0)=(a0.getD x5.1.toNat 0))) (some (false,())) (gP ((ag (x5.1+1)),()))))) (some (true,()))) (0,()))
def pD.ae (n:Nat):ar:=⟨[.val IS,.val IS],[.val .bool],fun x=>pD.f n x.1 x.2.1⟩
theorem pD.ok (n:Nat):aN 94 (pD.ae n):=aQ n [(6,⟨[(14,.int .i64)],[],[1,12,13],[]⟩)] [] aC aD Tryz.func94
def sL.f (n:Nat) (a0:List Int) (a1:List Int):Option (Bool×Unit):=br (decide ((a0.length:Int)≤(a1.length:Int))) (ab (0≤(ag ((a1.length:Int)-(a0.length:Int)))∧(ag ((a1.length:Int)-(a0.length:Int)))≤(a1.length:Int)∧(a1.length:Int)≤(a1.length:Int)) ((pD.f n a0 ((a1.take (a1.length:Int).toNat).drop (ag ((a1.length:Int)-(a0.length:Int))).toNat)).bind fun r1=>some (r1.1,()))) (some (false,()))
def sL.ae (n:Nat):ar:=⟨[.val IS,.val IS],[.val .bool],fun x=>sL.f n x.1 x.2.1⟩
theorem sL.ok (n:Nat):aN 140 (sL.ae n):=aQ n [] [] (ak (pD.ok n) aC) aD Tryz.func140
def qK.f (n:Nat) (a0:ai) (a1:State):Option (Bool×Unit):=cut (α:=(Bool×Unit)) ((fo.f n a0).bind fun r4=>br (!r4.1) (some (.inr (true,()))) (br (!decide ((a1.1.length:Int)=(a0.1.length:Int))) (some (.inr (true,()))) (br (!decide ((a1.2.1.length:Int)=(a0.2.length:Int))) (some (.inr (true,()))) (br (!decide ((a1.2.2.1.length:Int)=(a0.2.length:Int))) (some (.inr (true,()))) ((cg.f n a1.2.2.2 0 20000).bind fun r5=>some (.inr ((!r5.1),()))))))) fun y3=>br y3.1 (some (false,())) (iter (α:=(Int×Unit)) n (fun uL cj=>br (decide (cj.1<(a1.1.length:Int))) (ab (0≤cj.1∧cj.1<(a1.1.length:Int)) (let HH:=(a1.1.getD cj.1.toNat ba); ab (0≤cj.1∧cj.1<(a0.1.length:Int)) (let Vm:=(a0.1.getD cj.1.toNat bp); (uK.f n Vm HH).bind fun cN=>br (!cN.1) (some (false,())) (uL ((ag (cj.1+1)),()))))) (iter (α:=(Int×Unit)) n (fun D4 mq=>br (decide (mq.1<(a0.2.length:Int))) (ab (0≤mq.1∧mq.1<(a0.2.length:Int)) (let BL:=(a0.2.getD mq.1.toNat aM); ab (0≤mq.1∧mq.1<(a1.2.1.length:Int)) (let D5:=(a1.2.1.getD mq.1.toNat []); ab (0≤mq.1∧mq.1<(a1.2.2.1.length:Int)) (let v49:=(a1.2.2.1.getD mq.1.toNat []); cut (α:=(Bool×Unit)) ((fP.f n D5).bind fun kJ=>br (!kJ.1) (some (.inr (true,()))) ((fP.f n v49).bind fun jR=>br (!jR.1) (some (.inr (true,()))) ((pD.f n BL.2.2.2.2 v49).bind fun nn=>br (!nn.1) (some (.inr (true,()))) ((sL.f n D5 v49).bind fun D6=>some (.inr ((!D6.1),())))))) fun HI=>br HI.1 (some (false,())) (br (decide (BL.1=(-1))) (br (!decide ((v49.length:Int)=(BL.2.2.2.2.length:Int))) (some (false,())) (br (decide (BL.2.2.1=(-1))) (br (!decide ((v49.length:Int)=(D5.length:Int))) (some (false,())) (D4 ((ag (mq.1+1)),()))) (D4 ((ag (mq.1+1)),())))) (br (decide (BL.2.2.1=(-1))) (br (!decide ((v49.length:Int)=(D5.length:Int))) (some (false,())) (D4 ((ag (mq.1+1)),()))) (D4 ((ag (mq.1+1)),())))))))) (some (true,()))) (0,()))) (0,()))
def qK.ae (n:Nat):ar:=⟨[.val cD,.val e9],[.val .bool],fun x=>qK.f n x.1 x.2.1⟩
theorem qK.ok (n:Nat):aN 82 (qK.ae n):=aQ n [(1,⟨[(46,.bool)],[],[2,3],[]⟩),(6,⟨[(50,.int .i64)],[],[2,3,48,49],[]⟩),(17,⟨[(67,.int .i64)],[],[3,65,66],[]⟩),(24,⟨[(102,.bool)],[],[3,8,9,10,65,66,67],[]⟩)] [] (ak ⟨fo.sound n,fo.az⟩ (ak ⟨cg.sound n,cg.az⟩ (ak (uK.ok n) (ak ⟨fP.sound n,fP.az⟩ (ak (pD.ok n) (ak (sL.ok n) aC)))))) aD Tryz.func82
def uM.f (n:Nat) (a0:ai) (a1:State) (a2:List Int):Option (Bool×Unit):=(uI.f n a0 a2).bind fun r1=>br r1.1 ((qK.f n a0 a1).bind fun r2=>some (r2.1,())) (some (false,()))
def uM.ae (n:Nat):ar:=⟨[.val cD,.val e9,.val IS],[.val .bool],fun x=>uM.f n x.1 x.2.1 x.2.2.1⟩
theorem uM.ok (n:Nat):aN 54 (uM.ae n):=aQ n [] [] (ak (uI.ok n) (ak (qK.ok n) aC)) aD Tryz.func54
def uN.f (n:Nat) (a0:Program) (a1:a_):Option (Bool×Unit):=br (decide (0≤a1.1)) (br (decide (a1.1≤(a0.2.2.length:Int))) (br (decide ((a1.2.length:Int)=4)) ((dG.f n a1.2).bind fun r1=>some (r1.1,())) (some (false,()))) (some (false,()))) (some (false,()))
def uN.ae (n:Nat):ar:=⟨[.val bn,.val bu],[.val .bool],fun x=>uN.f n x.1 x.2.1⟩
theorem uN.ok (n:Nat):aN 84 (uN.ae n):=aQ n [] [] (ak ⟨dG.sound n,dG.az⟩ aC) aD Tryz.func84
def np.f (n:Nat) (a0:List Int) (a1:List Int):Option (Bool×Unit):=br (!decide ((a0.length:Int)=(a1.length:Int))) (some (false,())) (iter (α:=(Int×Unit)) n (fun gP x5=>br (decide (x5.1<(a0.length:Int))) (ab (0≤x5.1∧x5.1<(a0.length:Int)) (ab (0≤x5.1∧x5.1<(a1.length:Int)) (br (!decide ((a0.getD x5.1.toNat 0)=(a1.getD x5.1.toNat 0))) (some (false,())) (gP ((ag (x5.1+1)),()))))) (some (true,()))) (0,()))
def np.ae (n:Nat):ar:=⟨[.val IS,.val IS],[.val .bool],fun x=>np.f n x.1 x.2.1⟩
theorem np.ok (n:Nat):aN 86 (np.ae n):=aQ n [(6,⟨[(13,.int .i64)],[],[0,1,12],[]⟩)] [] aC aD Tryz.func86
def sM.f (n:Nat) (a0:List Int) (a1:List Int):Option (Bool×Unit):=(dG.f n a0).bind fun r1=>br r1.1 ((dG.f n a1).bind fun r2=>br r2.1 (br (decide ((a0.length:Int)≤(a1.length:Int))) (ab ((0:Int)≤0∧(0:Int)≤(a0.length:Int)∧(a0.length:Int)≤(a1.length:Int)) ((np.f n a0 ((a1.take (a0.length:Int).toNat).drop 0)).bind fun r3=>some (r3.1,()))) (some (false,()))) (some (false,()))) (some (false,()))
def sM.ae (n:Nat):ar:=⟨[.val IS,.val IS],[.val .bool],fun x=>sM.f n x.1 x.2.1⟩
theorem sM.ok (n:Nat):aN 85 (sM.ae n):=aQ n [] [] (ak ⟨dG.sound n,dG.az⟩ (ak (np.ok n) aC)) aD Tryz.func85
def jS.f (n:Nat) (a0:ai) (a1:State):Option (Bool×Unit):=cut (α:=(Bool×Unit)) ((dq.f n a0).bind fun r3=>br (!r3.1) (some (.inr (true,()))) (br (!decide ((a1.1.length:Int)=(a0.1.length:Int))) (some (.inr (true,()))) (br (!decide ((a1.2.1.length:Int)=(a0.2.length:Int))) (some (.inr (true,()))) (br (!decide ((a1.2.2.1.length:Int)=(a0.2.length:Int))) (some (.inr (true,()))) (br (decide (a1.2.2.2<0)) (some (.inr (true,()))) (some (.inr ((decide (20000<a1.2.2.2)),())))))))) fun y2=>br y2.1 (some (false,())) (iter (α:=(Int×Unit)) n (fun HJ iA=>br (decide (iA.1<(a0.1.length:Int))) (ab (0≤iA.1∧iA.1<(a0.1.length:Int)) (let Vn:=(a0.1.getD iA.1.toNat bp); ab (0≤iA.1∧iA.1<(a1.1.length:Int)) (let v24:=(a1.1.getD iA.1.toNat ba); (uN.f n Vn v24).bind fun eS=>br (!eS.1) (some (false,())) (HJ ((ag (iA.1+1)),()))))) (iter (α:=(Int×Unit)) n (fun zg gR=>br (decide (gR.1<(a0.2.length:Int))) (ab (0≤gR.1∧gR.1<(a0.2.length:Int)) (let BM:=(a0.2.getD gR.1.toNat aM); ab (0≤gR.1∧gR.1<(a1.2.1.length:Int)) (let uO:=(a1.2.1.getD gR.1.toNat []); ab (0≤gR.1∧gR.1<(a1.2.2.1.length:Int)) (let nr:=(a1.2.2.1.getD gR.1.toNat []); cut (α:=(Bool×Unit)) ((dG.f n uO).bind fun HK=>br (!HK.1) (some (.inr (true,()))) ((sM.f n BM.2.2.2.2 nr).bind fun BN=>br (!BN.1) (some (.inr (true,()))) (br (decide ((nr.length:Int)<(uO.length:Int))) (some (.inr (true,()))) (ab (0≤(ag ((nr.length:Int)-(uO.length:Int)))∧(ag ((nr.length:Int)-(uO.length:Int)))≤(nr.length:Int)∧(nr.length:Int)≤(nr.length:Int)) ((np.f n uO ((nr.take (nr.length:Int).toNat).drop (ag ((nr.length:Int)-(uO.length:Int))).toNat)).bind fun zh=>some (.inr ((!zh.1),()))))))) fun HL=>br HL.1 (some (false,())) (br (decide (BM.1=(-1))) (br (!decide ((nr.length:Int)=(BM.2.2.2.2.length:Int))) (some (false,())) (br (decide (BM.2.2.1=(-1))) (br (!decide ((uO.length:Int)=(nr.length:Int))) (some (false,())) (zg ((ag (gR.1+1)),()))) (zg ((ag (gR.1+1)),())))) (br (decide (BM.2.2.1=(-1))) (br (!decide ((uO.length:Int)=(nr.length:Int))) (some (false,())) (zg ((ag (gR.1+1)),()))) (zg ((ag (gR.1+1)),())))))))) (some (true,()))) (0,()))) (0,()))
def jS.ae (n:Nat):ar:=⟨[.val cD,.val e9],[.val .bool],fun x=>jS.f n x.1 x.2.1⟩
theorem jS.ok (n:Nat):aN 38 (jS.ae n):=aQ n [(1,⟨[(50,.bool)],[],[2,3],[]⟩),(6,⟨[(54,.int .i64)],[],[2,3,52,53],[]⟩),(17,⟨[(71,.int .i64)],[],[3,69,70],[]⟩),(23,⟨[(114,.bool)],[],[3,8,9,10,69,70,71],[]⟩)] [] (ak ⟨dq.sound n,dq.az⟩ (ak (uN.ok n) (ak ⟨dG.sound n,dG.az⟩ (ak (sM.ok n) (ak (np.ok n) aC))))) aD Tryz.func38
end
end Go.AmT
namespace Go.AmT
noncomputable section
open Go Go.Am
set_option linter.unusedVariables false
set_option linter.unusedSimpArgs false
structure jt (s:State):Prop where
 Vo:s.1.length≤1048576
 lE:∀ a∈s.1,a.2.length≤1048576
 Vp:s.2.1.length≤1048576
 queue:∀ q∈s.2.1,q.length≤1048576
 Vq:s.2.2.1.length≤1048576
 eh:∀ q∈s.2.2.1,q.length≤1048576
theorem Left.mono {left MM:Int} {o:Option (Int×Unit)} {P:Prop} (h:Left left o P) (hl:left≤MM):Left MM o P:=by
 obtain ⟨r,e,r1,r2⟩:=h
 exact ⟨r,e,by omega,r2⟩
theorem MN {a b:List Int} (hl:a.length=b.length) (h:∀ i,i<a.length→a.getD i 0=b.getD i 0):a=b:=by
 refine List.ext_getElem hl (fun i h1 h2=>?_)
 have:=h i h1
 rwa [aH h1,aH h2] at this
theorem HM {n:Nat} {a b:List Int} (hl:a.length≤1048576) (hn:1048576<n):np.f n a b=some (decide (a=b),()):=by
 unfold np.f
 by_cases h:a.length=b.length
 ·have h':(a.length:Int)=(b.length:Int):=by omega
  rw [show (!decide ((a.length:Int)=(b.length:Int)))=false by simp [h'],aF]
  refine uz (mi (bad:=some (false,())) a.length (fun i=>decide (a.getD i 0=b.getD i 0)) (fun ih i hi=>?_) (fun ih=>aK (Int.lt_irrefl _)) (by omega) (fun bb=>?_) (fun i hi hb=>?_))
  ·have h1:(i:Int)<(a.length:Int):=by omega
   simp only [h1,decide_true,aL,Int.toNat_natCast]
   rw [ah (by simp),ah (by simp; omega),bm (by omega),wY]
  ·simp only [aj,true_iff]
   exact MN h (fun i hi=>by simpa using bb i hi)
  ·simp only [aj,Bool.false_eq_true,false_iff]
   intro e; subst e; simp at hb
 ·have h':¬ (a.length:Int)=(b.length:Int):=by omega
  have av:a≠b:=fun e=>h (by rw [e])
  simp [h',av,br]
theorem D7 {a b:List Int} : a <+: b↔a.length≤b.length∧∀ i,i<a.length→b.getD i 0=a.getD i 0:=by
 constructor
 ·rintro ⟨c,rfl⟩
  refine ⟨by simp,fun i hi=>?_⟩
  rw [aH hi,aH (by simp; omega),List.getElem_append_left hi]
 ·rintro ⟨hl,h⟩
  rw [List.prefix_iff_eq_take]
  refine MN (by simp; omega) (fun i hi=>?_)
  rw [← h i hi,aH (by omega),aH (by simp; omega),List.getElem_take]
theorem MO {n:Nat} {a b:List Int} (hl:a.length≤1048576) (hn:1048576<n):pD.f n a b=some (decide (a <+: b),()):=by
 unfold pD.f
 by_cases h:b.length<a.length
 ·have av:¬ a <+: b:=fun e=>by have:=(D7.1 e).1; omega
  simp [av,br,show (b.length:Int)<(a.length:Int) by omega]
 ·rw [aK (by omega)]
  refine uz (mi (bad:=some (false,())) a.length (fun i=>decide (b.getD i 0=a.getD i 0)) (fun ih i hi=>?_) (fun ih=>aK (Int.lt_irrefl _)) (by omega) (fun bb=>?_) (fun i hi hb=>?_))
  ·have h1:(i:Int)<(a.length:Int):=by omega
   simp only [h1,decide_true,aL,Int.toNat_natCast]
   rw [ah (by simp),ah (by simp; omega),bm (by omega),wY]
  ·simp only [aj,true_iff]
   exact D7.2 ⟨by omega,fun i hi=>by simpa using bb i hi⟩
  ·simp only [aj,Bool.false_eq_true,false_iff]
   intro e
   have:=(D7.1 e).2 i hi
   rw [this] at hb; simp at hb
theorem MP {a b:List Int} (h:a.length≤b.length):a <:+ b↔a=b.drop (b.length-a.length):=List.suffix_iff_eq_drop
theorem Vr {n:Nat} {a b:List Int} (hl:a.length≤1048576) (hb:b.length≤1048576) (hn:1048576<n):sL.f n a b=some (decide (a <:+ b),()):=by
 unfold sL.f
 by_cases h:a.length≤b.length
 ·have h':(a.length:Int)≤(b.length:Int):=by omega
  rw [aZ h',bo (by omega) (by omega),ah (by omega)]
  simp only [Int.toNat_natCast,List.take_length]
  rw [show ((b.length:Int)-(a.length:Int)).toNat=b.length-a.length by omega,MO hl hn]
  simp only [Option.bind_some]
  congr 2
  refine decide_eq_decide.2 ?_
  rw [MP h]
  constructor
  ·intro hp
   obtain ⟨c,hc⟩:=hp
   have:c=[]:=by
    have:=congrArg List.length hc
    simp at this
    exact List.eq_nil_of_length_eq_zero (by omega)
   rw [← hc,this,List.append_nil]
  ·intro e
   rw [← e]; exact List.prefix_refl _
 ·have av:¬ a <:+ b:=fun e=>h e.length_le
  simp [av,br,show ¬ (a.length:Int)≤(b.length:Int) by omega]
theorem Vs {n:Nat} {a b:List Int} (hl:a.length≤1048576) (hb:b.length≤1048576) (hn:1048576<n):sM.f n a b=some (bG a&&(bG b&&decide (a <+: b)),()):=by
 unfold sM.f
 rw [uH hl hn,uH hb hn]
 simp only [Option.bind_some]
 cases bG a with
 | false=>rfl
 | true=>cases bG b with
  | false=>rfl
  | true=>
   simp only [aL,Bool.true_and]
   by_cases h:a.length≤b.length
   ·rw [aZ (by omega),ah (by omega)]
    simp only [Int.toNat_natCast,List.drop_zero]
    rw [HM hl hn]
    simp only [Option.bind_some]
    congr 2
    exact decide_eq_decide.2 List.prefix_iff_eq_take.symm
   ·have av:¬ a <+: b:=fun e=>h e.length_le
    rw [aK (by omega)]
    simp [av]
def eH (p:Program) (a:a_):Bool:=decide (0≤a.1)&&(decide (a.1≤(p.2.2.length:Int))&&(decide (a.2.length=4)&&bG a.2))
theorem Vt {n:Nat} {p:Program} {a:a_} (hl:a.2.length≤1048576) (hn:1048576<n):uN.f n p a=some (eH p a,()):=by
 unfold uN.f eH
 rw [uH hl hn]
 simp only [Option.bind_some]
 by_cases h1:0≤a.1<;>by_cases h2:a.1≤(p.2.2.length:Int)<;>by_cases h3:a.2.length=4<;>simp [h1,h2,h3,br,show ((a.2.length:Int)=4)↔a.2.length=4 by omega]
theorem Vu {n:Nat} {p:Program} {a:a_} (hl:a.2.length≤1048576) (hn:1048576<n):uK.f n p a=some (eH p a,()):=by
 unfold uK.f eH
 rw [BG hl hn,sF]
 simp only [Option.bind_some]
 by_cases h1:0≤a.1<;>by_cases h2:a.1≤(p.2.2.length:Int)<;>by_cases h3:a.2.length=4<;>simp [h1,h2,h3,br,show ((a.2.length:Int)=4)↔a.2.length=4 by omega]
structure qL (l:aG) (q h:List Int):Prop where
 qs:bG q=true
 hs:bG h=true
 pre:l.2.2.2.2 <+: h
 zi:q <:+ h
 MQ:l.1 = -1→h.length=l.2.2.2.2.length
 out:l.2.2.1 = -1→h.length=q.length
instance (l:aG) (q h:List Int):Decidable (qL l q h):=Classical.propDecidable _
structure bq (nt:ai) (s:State):Prop where
 ck:cM nt
 na:s.1.length=nt.1.length
 nq:s.2.1.length=nt.2.length
 ns:s.2.2.1.length=nt.2.length
 steps:0≤s.2.2.2∧s.2.2.2≤20000
 act:∀ i,i<nt.1.length→eH (nt.1.getD i bp) (s.1.getD i ba)=true
 bW:∀ i,i<nt.2.length→qL (nt.2.getD i aM) (s.2.1.getD i []) (s.2.2.1.getD i [])
instance (nt:ai) (s:State):Decidable (bq nt s):=Classical.propDecidable _
def fC (nt:ai) (s:State):Bool:=decide (bq nt s)
theorem Vv {l:aG} {q g:List Int} : qL l q g↔(bG q=true∧bG g=true∧l.2.2.2.2 <+: g∧q <:+ g∧(l.1 = -1→g.length=l.2.2.2.2.length)∧(l.2.2.1 = -1→g.length=q.length)):=
 ⟨fun o=>⟨o.qs,o.hs,o.pre,o.zi,o.MQ,o.out⟩,fun ⟨a,b,c,d,e,f⟩=>⟨a,b,c,d,e,f⟩⟩
theorem MR (l:aG) (q g:List Int):decide (qL l q g)=(bG q&&(bG g&&(decide (l.2.2.2.2 <+: g)&&(decide (q <:+ g)&&((!decide (l.1 = -1)||decide (g.length=l.2.2.2.2.length))&&(!decide (l.2.2.1 = -1)||decide (g.length=q.length))))))):=by
 apply Bool.eq_iff_iff.2
 rw [decide_eq_true_iff,Vv]
 by_cases c5:l.1 = -1<;>by_cases c7:l.2.2.1 = -1<;>simp [c5,c7]
theorem Vw {n:Nat} {l:aG} {q g:List Int} {Y:Option (Bool×Unit)} (e1:l.2.2.2.2.length≤1048576) (e2:q.length≤1048576) (e3:g.length≤1048576) (hn:1048576<n) :
  (cut (α:=(Bool×Unit)) ((fP.f n q).bind fun kJ=>br (!kJ.1) (some (.inr (true,()))) ((fP.f n g).bind fun jR=>br (!jR.1) (some (.inr (true,()))) ((pD.f n l.2.2.2.2 g).bind fun nn=>br (!nn.1) (some (.inr (true,()))) ((sL.f n q g).bind fun D6=>some (.inr ((!D6.1),())))))) fun HI=>br HI.1 (some (false,())) (br (decide (l.1=(-1))) (br (!decide ((g.length:Int)=(l.2.2.2.2.length:Int))) (some (false,())) (br (decide (l.2.2.1=(-1))) (br (!decide ((g.length:Int)=(q.length:Int))) (some (false,())) Y) Y)) (br (decide (l.2.2.1=(-1))) (br (!decide ((g.length:Int)=(q.length:Int))) (some (false,())) Y) Y))) =
  if decide (qL l q g)=true then Y else some (false,()):=by
 rw [BG e2 hn,BG e3 hn,MO e1 hn,Vr e2 e3 hn]
 rw [MR]
 simp only [Option.bind_some,show ((g.length:Int)=(l.2.2.2.2.length:Int))↔g.length=l.2.2.2.2.length by omega,show ((g.length:Int)=(q.length:Int))↔g.length=q.length by omega]
 generalize bG q=b1
 generalize bG g=b2
 generalize decide (l.2.2.2.2 <+: g)=b3
 generalize decide (q <:+ g)=b4
 generalize decide (l.1 = -1)=b5
 generalize decide (l.2.2.1 = -1)=b6
 generalize decide (g.length=l.2.2.2.2.length)=b7
 generalize decide (g.length=q.length)=b8
 cases b1<;>cases b2<;>cases b3<;>cases b4<;>cases b5<;>cases b6<;>cases b7<;>cases b8<;>rfl
theorem Vx {n:Nat} {l:aG} {q g:List Int} {Y:Option (Bool×Unit)} (e1:l.2.2.2.2.length≤1048576) (e2:q.length≤1048576) (e3:g.length≤1048576) (e4:bG l.2.2.2.2=true) (hn:1048576<n) :
  (cut (α:=(Bool×Unit)) ((dG.f n q).bind fun HK=>br (!HK.1) (some (.inr (true,()))) ((sM.f n l.2.2.2.2 g).bind fun BN=>br (!BN.1) (some (.inr (true,()))) (br (decide ((g.length:Int)<(q.length:Int))) (some (.inr (true,()))) (ab (0≤(ag ((g.length:Int)-(q.length:Int)))∧(ag ((g.length:Int)-(q.length:Int)))≤(g.length:Int)∧(g.length:Int)≤(g.length:Int)) ((np.f n q ((g.take (g.length:Int).toNat).drop (ag ((g.length:Int)-(q.length:Int))).toNat)).bind fun zh=>some (.inr ((!zh.1),()))))))) fun HL=>br HL.1 (some (false,())) (br (decide (l.1=(-1))) (br (!decide ((g.length:Int)=(l.2.2.2.2.length:Int))) (some (false,())) (br (decide (l.2.2.1=(-1))) (br (!decide ((q.length:Int)=(g.length:Int))) (some (false,())) Y) Y)) (br (decide (l.2.2.1=(-1))) (br (!decide ((q.length:Int)=(g.length:Int))) (some (false,())) Y) Y))) =
  if decide (qL l q g)=true then Y else some (false,()):=by
 rw [uH e2 hn,Vs e1 e3 hn,e4]
 rw [MR]
 simp only [Option.bind_some,Bool.true_and,show ((g.length:Int)=(l.2.2.2.2.length:Int))↔g.length=l.2.2.2.2.length by omega,show ((q.length:Int)=(g.length:Int))↔g.length=q.length by omega]
 by_cases c0:g.length<q.length
 ·have c4:¬ q <:+ g:=fun e=>by have:=e.length_le; omega
  cases bG q<;>cases bG g<;>by_cases c3:l.2.2.2.2 <+: g<;>simp [c0,c3,c4,br,cut,show (g.length:Int)<(q.length:Int) by omega]
 ·rw [bo (by omega) (by omega),ah (by omega),show ((g.length:Int)).toNat=g.length by omega,List.take_length,show ((g.length:Int)-(q.length:Int)).toNat=g.length-q.length by omega,HM e2 hn]
  have Vy:decide (q=g.drop (g.length-q.length))=decide (q <:+ g):=decide_eq_decide.2 (MP (by omega)).symm
  rw [Vy]
  simp only [Option.bind_some]
  have c9:decide ((g.length:Int)<(q.length:Int))=false:=decide_eq_false (by omega)
  have MS:decide (q.length=g.length)=decide (g.length=q.length):=decide_eq_decide.2 ⟨Eq.symm,Eq.symm⟩
  simp only [c9,MS]
  generalize bG q=b1
  generalize bG g=b2
  generalize decide (l.2.2.2.2 <+: g)=b3
  generalize decide (q <:+ g)=b4
  generalize decide (l.1 = -1)=b5
  generalize decide (l.2.2.1 = -1)=b6
  generalize decide (g.length=l.2.2.2.2.length)=b7
  generalize decide (g.length=q.length)=b8
  cases b1<;>cases b2<;>cases b3<;>cases b4<;>cases b5<;>cases b6<;>cases b7<;>cases b8<;>rfl
theorem MU {n:Nat} {nt:ai} {s:State} (h:cL nt) (hs:jt s) (hn:1048576<n):qK.f n nt s=some (fC nt s,()):=by
 have hp:=h.ew
 have hl:=h.dt
 unfold qK.f fC
 refine uz ?_
 refine ni (!(cy nt)||(!(decide (s.1.length=nt.1.length))||(!(decide (s.2.1.length=nt.2.length))||(!(decide (s.2.2.1.length=nt.2.length))||!(decide (0≤s.2.2.2)&&decide (s.2.2.2≤20000))))),()) ?_ ?_
 ·rw [zf h hn,sF]
  simp only [Option.bind_some,show ((s.1.length:Int)=(nt.1.length:Int))↔s.1.length=nt.1.length by omega,show ((s.2.1.length:Int)=(nt.2.length:Int))↔s.2.1.length=nt.2.length by omega,show ((s.2.2.1.length:Int)=(nt.2.length:Int))↔s.2.2.1.length=nt.2.length by omega]
  cases cy nt<;>cases decide (s.1.length=nt.1.length)<;>cases decide (s.2.1.length=nt.2.length)<;>cases decide (s.2.2.1.length=nt.2.length)<;>rfl
 rw [bH]
 refine ⟨fun a=>?_,fun a=>?_⟩
 ·simp only [aj,Bool.false_eq_true,false_iff]
  intro o
  have:=o.steps
  simp [cy,o.ck,o.na,o.nq,o.ns,o.steps] at a
 simp only [Bool.or_eq_false_iff,Bool.not_eq_false',Bool.and_eq_true,decide_eq_true_eq,cy] at a
 obtain ⟨a1,a2,a3,a4,a5⟩:=a
 refine mi (bad:=some (false,())) s.1.length (fun i=>eH (nt.1.getD i bp) (s.1.getD i ba)) (fun ih i hi=>?_) (fun ih=>aK (Int.lt_irrefl _)) (by omega) (fun bb=>?_) (fun i hi hb=>?_)
 ·have h1:(i:Int)<(s.1.length:Int):=by omega
  simp only [h1,decide_true,aL,Int.toNat_natCast]
  rw [ah (by simp),ah (by simp; omega),Vu (by rw [aH hi]; exact hs.lE _ (List.getElem_mem hi)) hn,bm (by omega),Option.bind_some,wY]
 rotate_left
 ·simp only [aj,Bool.false_eq_true,false_iff]
  intro o; have:=o.act i (by omega); rw [hb] at this; simp at this
 refine mi (bad:=some (false,())) nt.2.length (fun i=>decide (qL (nt.2.getD i aM) (s.2.1.getD i []) (s.2.2.1.getD i []))) (fun ih i hi=>?_) (fun ih=>aK (Int.lt_irrefl _)) (by omega) (fun gM=>?_) (fun i hi hb=>?_)
 ·have h1:(i:Int)<(nt.2.length:Int):=by omega
  have e1:((nt.2.getD i aM).2.2.2.2).length≤1048576:=by rw [aH hi]; exact (h.link _ (List.getElem_mem hi)).tokens
  have e2:(s.2.1.getD i []).length≤1048576:=by rw [aH (by omega)]; exact hs.queue _ (List.getElem_mem (by omega))
  have e3:(s.2.2.1.getD i []).length≤1048576:=by rw [aH (by omega)]; exact hs.eh _ (List.getElem_mem (by omega))
  simp only [h1,decide_true,aL,Int.toNat_natCast]
  rw [ah (by simp),ah (by simp; omega),ah (by simp; omega),bm (by omega)]
  exact Vw e1 e2 e3 hn
 ·simp only [aj,true_iff]
  exact ⟨a1,a2,a3,a4,a5,fun i hi=>bb i (by omega),fun i hi=>by simpa using gM i hi⟩
 ·simp only [aj,Bool.false_eq_true,false_iff]
  intro o; have:=o.bW i hi; exact of_decide_eq_false hb this
theorem zj {n:Nat} {nt:ai} {s:State} (h:cL nt) (hs:jt s) (hn:1048576<n):jS.f n nt s=some (fC nt s,()):=by
 have hp:=h.ew
 have hl:=h.dt
 unfold jS.f fC
 refine uz ?_
 refine ni (!(cy nt)||(!(decide (s.1.length=nt.1.length))||(!(decide (s.2.1.length=nt.2.length))||(!(decide (s.2.2.1.length=nt.2.length))||(decide (s.2.2.2<0)||decide (20000<s.2.2.2))))),()) ?_ ?_
 ·rw [qH h hn]
  simp only [Option.bind_some,show ((s.1.length:Int)=(nt.1.length:Int))↔s.1.length=nt.1.length by omega,show ((s.2.1.length:Int)=(nt.2.length:Int))↔s.2.1.length=nt.2.length by omega,show ((s.2.2.1.length:Int)=(nt.2.length:Int))↔s.2.2.1.length=nt.2.length by omega]
  cases cy nt<;>cases decide (s.1.length=nt.1.length)<;>cases decide (s.2.1.length=nt.2.length)<;>cases decide (s.2.2.1.length=nt.2.length)<;>cases decide (s.2.2.2<0)<;>rfl
 rw [bH]
 refine ⟨fun a=>?_,fun a=>?_⟩
 ·simp only [aj,Bool.false_eq_true,false_iff]
  intro o
  have:=o.steps
  simp [cy,o.ck,o.na,o.nq,o.ns] at a
  omega
 simp only [Bool.or_eq_false_iff,Bool.not_eq_false',Bool.and_eq_true,decide_eq_true_eq,decide_eq_false_iff_not,cy] at a
 obtain ⟨a1,a2,a3,a4,a5⟩:=a
 refine mi (bad:=some (false,())) nt.1.length (fun i=>eH (nt.1.getD i bp) (s.1.getD i ba)) (fun ih i hi=>?_) (fun ih=>aK (Int.lt_irrefl _)) (by omega) (fun bb=>?_) (fun i hi hb=>?_)
 ·have h1:(i:Int)<(nt.1.length:Int):=by omega
  simp only [h1,decide_true,aL,Int.toNat_natCast]
  rw [ah (by simp),ah (by simp; omega),Vt (by rw [aH (by omega)]; exact hs.lE _ (List.getElem_mem (by omega))) hn,bm (by omega),Option.bind_some,wY]
 rotate_left
 ·simp only [aj,Bool.false_eq_true,false_iff]
  intro o; have:=o.act i (by omega); rw [hb] at this; simp at this
 refine mi (bad:=some (false,())) nt.2.length (fun i=>decide (qL (nt.2.getD i aM) (s.2.1.getD i []) (s.2.2.1.getD i []))) (fun ih i hi=>?_) (fun ih=>aK (Int.lt_irrefl _)) (by omega) (fun gM=>?_) (fun i hi hb=>?_)
 ·have h1:(i:Int)<(nt.2.length:Int):=by omega
  have e1:((nt.2.getD i aM).2.2.2.2).length≤1048576:=by rw [aH hi]; exact (h.link _ (List.getElem_mem hi)).tokens
  have e2:(s.2.1.getD i []).length≤1048576:=by rw [aH (by omega)]; exact hs.queue _ (List.getElem_mem (by omega))
  have e3:(s.2.2.1.getD i []).length≤1048576:=by rw [aH (by omega)]; exact hs.eh _ (List.getElem_mem (by omega))
  have e4:bG (nt.2.getD i aM).2.2.2.2=true:=by rw [aH hi]; exact a1.gQ i hi
  simp only [h1,decide_true,aL,Int.toNat_natCast]
  rw [ah (by simp),ah (by simp; omega),ah (by simp; omega),bm (by omega)]
  exact Vx e1 e2 e3 e4 hn
 ·simp only [aj,true_iff]
  exact ⟨a1,a2,a3,a4,by omega,fun i hi=>bb i (by omega),fun i hi=>by simpa using gM i hi⟩
 ·simp only [aj,Bool.false_eq_true,false_iff]
  intro o; have:=o.bW i hi; exact of_decide_eq_false hb this
theorem Vz {n:Nat} {nt:ai} {s:State} {caps:List Int} (h:cL nt) (hs:jt s) (hc:caps.length≤1048576) (hn:1048576<n):uM.f n nt s caps=some (fC nt s&&dY nt.2 caps,()):=by
 unfold uM.f
 rw [Vl h hc hn,MU h hs hn]
 simp only [Option.bind_some]
 by_cases o:bq nt s
 ·have:cy nt=true:=by simp [cy,o.ck]
  rw [this]
  cases dY nt.2 caps<;>simp [br]
 ·have:fC nt s=false:=by simp [fC,o]
  rw [this]
  cases cy nt<;>cases dY nt.2 caps<;>rfl
end
end Go.AmT
namespace Go.AmT
open Go Go.Am Go.Proofs
set_option linter.unusedVariables false
set_option maxRecDepth 100000
end Go.AmT
namespace Go.AmT
open Go Go.Am
set_option linter.unusedVariables false
set_option linter.unusedSimpArgs false
theorem qM {γ ρ:Type} {F:(γ→Option ρ)→γ→Option ρ} (st:Nat→γ) (len:Nat) {R:Option ρ} (h1:∀ ih i,i<len→F ih (st i)=ih (st (i+1))) (h2:∀ ih,F ih (st len)=R) {n:Nat} (hn:len<n):iter n F (st 0)=R:=by
 have:∀ k i,i+k=len→∀ n,k<n→iter n F (st i)=R:=by
  intro k
  induction k with
  | zero=>intro i e n hn; obtain ⟨m,rfl⟩:∃ m,n=m+1:=⟨n-1,by omega⟩; rw [show i=len by omega]; exact h2 _
  | succ k ih=>intro i e n hn; obtain ⟨m,rfl⟩:∃ m,n=m+1:=⟨n-1,by omega⟩; exact (h1 _ i (by omega)).trans (ih (i+1) (by omega) m (by omega))
 exact this len 0 (by omega) n hn
theorem zk {α β γ ρ:Type} (l:List α) (g:α→β) (st:Int→List β→γ) {F:(γ→Option ρ)→γ→Option ρ} {R:List β→Option ρ}
  (h1:∀ ih i (hi:i<l.length) (s:List β),s.length=i→F ih (st i s)=ih (st ((i+1:Nat):Int) (s++[g l[i]])))
  (h2:∀ ih s,F ih (st l.length s)=R s) {n:Nat} (hn:l.length<n):iter n F (st 0 [])=R (l.map g):=by
 have:=qM (F:=F) (fun i=>st (i:Int) ((l.take i).map g)) l.length (R:=R (l.map g)) (fun ih i hi=>by
  show F ih (st (i:Int) ((l.take i).map g))=_
  rw [h1 ih i hi _ (by simp; omega),List.take_succ_eq_append_getElem hi,List.map_append]; rfl) (fun ih=>by
  show F ih (st (l.length:Int) _)=_
  rw [h2]; simp) hn
 simpa using this
theorem aA {ρ β:Type} {x:β} {f:β→Option ρ} : (some x).bind f=f x:=rfl
theorem mr:(aW:Int)=140737488355328:=rfl
theorem bZ {m:Nat} {ρ:Type} {x:Option ρ} (h:m≤1000000000):ab (m≤aW) x=x:=ah (by simp only [aW]; omega)
theorem sN {ρ:Type} {i:Decidable True} {x:Option ρ} : @ab ρ True i x=x:=ah trivial
theorem lF {α:Type} {l:List α} {i:Nat} (h:i<l.length) (x z:α):(l.set i x).getD i z=x:=by simp [h]
theorem MV {α:Type} {Q:α→Prop} {F:(Int×Unit→Option α)→Int×Unit→Option α} (len:Nat) (p:Nat→Bool) {yes:Nat→Option α} {no:Option α}
  (h1:∀ ih (i:Nat),i<len→F ih ((i:Int),())=if p i=true then yes i else ih (((i+1:Nat):Int),())) (h2:∀ ih,F ih ((len:Int),())=no) {n:Nat} (hn:len<n)
  (hy:∀ i,i<len→p i=true→W (yes i) Q) (kf:(∀ i,i<len→p i=false)→W no Q):W (iter n F (0,())) Q:=by
 refine fA (fun i (_:Unit)=>((i:Int),())) len (fun i _=>∀ j,j<i→p j=false) (s0:=()) rfl (fun j hj=>by omega) hn (fun ih s hI=>?_) (fun ih i s hi hI hS=>?_)
 ·rw [h2]; exact kf hI
 ·rw [h1 ih i hi]
  cases hp:p i
  ·refine hS () (fun j hj=>?_)
   rcases Nat.lt_or_ge j i with h | h
   ·exact hI j h
   ·rwa [show j=i by omega]
  ·exact hy i hi hp
theorem MW {p:Nat→Bool} {len i:Nat} (hi:i<len) (h:p i=true):(List.range len).any p=true:=List.any_eq_true.2 ⟨i,List.mem_range.2 hi,h⟩
theorem MX {p:Nat→Bool} {len:Nat} (h:∀ i,i<len→p i=false):(List.range len).any p=false:=by
 rw [List.any_eq_false]; intro i hi; rw [h i (List.mem_range.1 hi)]; simp
theorem MY {α:Type} {b:Bool} {x y:Option α} : br b x y=if b=true then x else y:=by cases b<;>rfl
theorem D8 {α β γ ρ:Type} (l:List α) (g:α→β) (st:Int→List β→γ) {F:(γ→Option ρ)→γ→Option ρ} {R:Option ρ}
  (h1:∀ ih i (hi:i<l.length) (s:List β),s.length=i→F ih (st i s)=ih (st ((i+1:Nat):Int) (s++[g l[i]])))
  (h2:∀ ih,F ih (st l.length (l.map g))=R) {n:Nat} (hn:l.length<n):iter n F (st 0 [])=R:=by
 have:=qM (F:=F) (fun i=>st (i:Int) ((l.take i).map g)) l.length (R:=R) (fun ih i hi=>by
  show F ih (st (i:Int) ((l.take i).map g))=_
  rw [h1 ih i hi _ (by simp; omega),List.take_succ_eq_append_getElem hi,List.map_append]; rfl) (fun ih=>by
  show F ih (st (l.length:Int) _)=_
  rw [List.take_length]; exact h2 ih) hn
 simpa using this
variable {α:Type} {f:α→Int→α×Int}
end Go.AmT
namespace Go.AmT
open Go Go.Am
set_option linter.unusedVariables false
set_option linter.unusedSimpArgs false
end Go.AmT
