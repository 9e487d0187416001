/- Functions that the law FnDeskKeeps reaches, each as a plain Lean function, and that each does what that says. No condition. -/
import Derived.Test.YtfoamipegmbcgaaGreatDoorMKpF16
import Derived.Test.YtfoamipegmbcgaaGreatDoorAmE
import Derived.Test.YtfoamipegmbcgaaGreatDoorMKpF15
import Derived.WalkKit
import Derived.Test.YtfoamipegmbcgaaGreatDoorMKpF13
import Derived.Lib.Replace
import Derived.Test.YtfoamipegmbcgaaGreatDoorMKpF6
import Derived.Test.YtfoamipegmbcgaaGreatDoorMKpF7
namespace Go.AmT
noncomputable section
open Go Go.Am Go.Proofs Go.RowKit
set_option linter.unusedVariables false
set_option maxRecDepth 100000
def ru.f (n:Nat) (a0:List UInt8) (a1:List UInt8) (a2:List UInt8):Option (List UInt8×Unit):=BB a0 a1 a2
def ru.ae (n:Nat):ar:=⟨[.val .str,.val .str,.val .str],[.val .str],fun x=>ru.f n x.1 x.2.1 x.2.2.1⟩
theorem ru.az:cG Tryz.prog 68:=dz Tryz.func68 (by kernel_rfl) (by kernel_rfl)
theorem ru.sound (n:Nat):Sound Tryz.prog 68 (ru.ae n):=UM (b:=1) (by kernel_rfl) (fun s o r m w hs hm h1 h2=>Tryz.strings_ReplaceAll s o r m w hs hm h1 h2)
theorem Y4 {n:Int} (h0 : -9223372036854775808≤n) (h1:n<9223372036854775808):(Lit.int .i64 n).wf=true:=WalkArith.wf_i64 (by omega)
set_option maxHeartbeats 4000000 in
set_option maxRecDepth 1000000 in
theorem Y5 (n:Int) (h0 : -9223372036854775808≤n) (h1:n<9223372036854775808) (w:World):Calls Tryz.prog 129 #[.int .i64 n] w fun e w'=>e = .returned (.string ⟨(sC n).toArray⟩)∧Below w.heap.size w w':=by
 have hmm:=@run_makeMap Tryz.prog
 have Y6:(w.alloc (.map #[] 0)).ownsMap (H:=Unit) Tryz.prog 3 (plainElem Tryz.prog 9) w.heap.size 0 (.map []):=World.ownsMap_made _ _ _ _
 go_enter Tryz.func129,Tryz.ntmps129
 go_wp2_with (first
  | (refine Ht _ rfl _ _ _ 205 rfl 3 9 (Maps.int_keyed Tryz.underlying3) Tryz.underlying205 _ _ 0 _ rfl Y6 (by unfold maxLen; omega) _ _ _ rfl rfl (Maps.keyOf_int_mk Tryz.underlying3 (by decide)) _ [] (plainElem_string Tryz.underlying9 (by decide)) ?_; intro w1 fy Bq)
  | (refine Ht _ rfl _ _ _ 205 rfl 3 9 (Maps.int_keyed Tryz.underlying3) Tryz.underlying205 _ _ 1 _ rfl fy (by unfold maxLen; omega) _ _ _ rfl rfl (Maps.keyOf_int_mk Tryz.underlying3 (by decide)) _ [] (plainElem_string Tryz.underlying9 (by decide)) ?_; intro w2 pj Br)
  | (refine Ht _ rfl _ _ _ 205 rfl 3 9 (Maps.int_keyed Tryz.underlying3) Tryz.underlying205 _ _ 2 _ rfl pj (by unfold maxLen; omega) _ _ _ rfl rfl (Maps.keyOf_int_mk Tryz.underlying3 (by decide)) _ [] (plainElem_string Tryz.underlying9 (by decide)) ?_; intro w3 Y7 Y8)
  | (refine UL w3 rfl _ _ 205 rfl 3 9 (Maps.int_keyed Tryz.underlying3) Tryz.underlying205 Tryz.underlying9 (by kernel_rfl) _ 3 _ rfl Y7 _ _ rfl (Maps.keyOf_int_mk Tryz.underlying3 (Y4 h0 h1)) (sC n) (UP n) ?_))
 go_ret
 refine ⟨rfl,?_⟩
 have b0:Below w.heap.size w (w.alloc (.map #[] 0)):=LY w _
 exact Hu (Hu (Hu b0 Bq (Nat.le_refl _)) Br (Nat.le_refl _)) Y8 (Nat.le_refl _)
def mN.f (n:Nat) (a0:Int):Option (List UInt8×Unit):=BC a0
def mN.ae (n:Nat):ar:=⟨[.val (.int .i64)],[.val .str],fun x=>mN.f n x.1⟩
theorem mN.az:cG Tryz.prog 129:=dz Tryz.func129 (by kernel_rfl) (by kernel_rfl)
theorem mN.sound (n:Nat):Sound Tryz.prog 129 (mN.ae n):=UQ (fun m h0 h1 w=>Y5 m h0 h1 w)
def xD.f (n:Nat) (a0:List UInt8):Option ((List Int)×(Bool×Unit)):=br (decide (a0=([46]:List UInt8))) (some ([],(true,()))) ((fG.f n a0 ([44]:List UInt8)).bind fun r1=>iter (α:=(Int×(List Int)×Unit)) n (fun Ca eC=>br (decide (eC.1<(r1.1.length:Int))) (ab (0≤eC.1∧eC.1<(r1.1.length:Int)) (let w8:=(r1.1.getD eC.1.toNat []); (dP.f n w8).bind fun dp=>br (!dp.2.1) (some ([],(false,()))) (ab ((eC.2.1.length+([dp.1]:List Int).length)*8≤aW) (Ca ((ag (eC.1+1)),((eC.2.1++[dp.1]),())))))) ((dG.f n eC.2.1).bind fun ko=>br (!ko.1) (some ([],(false,()))) (some (eC.2.1,(true,()))))) (0,([],())))
def xD.ae (n:Nat):ar:=⟨[.val .str],[.sh IS,.val .bool],fun x=>xD.f n x.1⟩
theorem xD.ok (n:Nat):aN 71 (xD.ae n):=aQ n [(7,⟨[(4,.own 1000 I),(15,.int .i64)],[(1000,.row true I)],[13,14],[]⟩)] [] (ak ⟨fG.sound n,fG.az⟩ (ak (dP.ok n) (ak ⟨dG.sound n,dG.az⟩ aC))) aD Tryz.func71
def vP.f (n:Nat) (a0:dj) (a1:List UInt8):Option (dj×(List UInt8)×(Bool×Unit)):=br (decide (a1=([115,116,97,114,116]:List UInt8))) ((qW.f n a0.1).bind fun r1=>some ((a0.1,(r1.1,a0.2.2)),([111,107],(true,())))) (br (decide (a1=([119,97,105,116,115]:List UInt8))) ((vL.f n a0.1 a0.2.1).bind fun r2=>iter (α:=(Int×(List (List UInt8))×Unit)) n (fun BX eU=>br (decide (eU.1<(r2.1.length:Int))) (ab (0≤eU.1∧eU.1<(r2.1.length:Int)) ((cY.f n (r2.1.getD eU.1.toNat 0)).bind fun fa=>ab ((eU.2.1.length+([fa.1]:List (List UInt8)).length)*16≤aW) (BX ((ag (eU.1+1)),((eU.2.1++[fa.1]),()))))) (cut (α:=((List (List UInt8))×Unit)) (br (decide ((eU.2.1.length:Int)=0)) (some (.inr ([[110,111,110,101]],()))) (some (.inr (eU.2.1,())))) fun Y9=>(kO.f n Y9.1 ([32]:List UInt8)).bind fun eA=>some (a0,(eA.1,(true,()))))) (0,([],()))) (some (a0,([],(false,())))))
def vP.ae (n:Nat):ar:=⟨[.val jq,.val .str],[.sh jq,.val .str,.val .bool],fun x=>vP.f n x.1 x.2.1⟩
theorem vP.ok (n:Nat):aN 73 (vP.ae n):=aQ n [(12,⟨[(7,.own 1000 .str),(27,.int .i64)],[(1000,.row true .str)],[2,4,25,26],[]⟩),(20,⟨[(7,.own 1000 .str)],[(1000,.row true .str)],[2,4],[]⟩)] [] (ak (qW.ok n) (ak (vL.ok n) (ak ⟨cY.sound n,cY.az⟩ (ak ⟨kO.sound n,kO.az⟩ aC)))) aD Tryz.func73
theorem ig.Za:Hm Tryz.prog 168 9 9:=⟨Tryz.underlying168,Tryz.underlying9,Tryz.underlying9,fun w=>by kernel_rfl⟩
def ig.bY:List (Nat×LA):=[(2,⟨[(11,.bool)],[],[1,2,3,6,9,10],[]⟩),(10,⟨[(56,.bool)],[],[2,3,6,9],[]⟩),(41,⟨[(141,.bool)],[],[2,3,6,21],[]⟩),(46,⟨[(149,.bool)],[],[1,2,3,6,10,11],[]⟩)]
def ig.f (n:Nat) (a0:dj) (a1:List UInt8) (a2:Int):Option (dj×(List UInt8)×(Bool×Unit)):=cut (α:=(Bool×Unit)) (br (decide (0≤a2)) (some (.inr ((decide (a2<(a0.1.2.length:Int))),()))) (some (.inr (false,())))) fun y1=>br (decide (a1=([115,112,108,105,99,101]:List UInt8))) ((tz.f n a0.1 a2).bind fun r2=>(oP.f n r2.1 r2.2.1).bind fun r3=>some (r3.1,(r3.2.1,(r3.2.2.1,())))) (br (decide (a1=([99,97,112,115]:List UInt8))) (cut (α:=(Bool×Unit)) (br (decide (a2<0)) (some (.inr (true,()))) (some (.inr ((decide (400<a2)),())))) fun y4=>br y4.1 (some (a0,([],(false,())))) ((pJ.f n a0.1 a2).bind fun r5=>some ((a0.1,(a0.2.1,r5.1)),([111,107],(true,()))))) (br (decide (a1=([115,116,101,112]:List UInt8))) ((tA.f n a0.1 a0.2.1 a2).bind fun r6=>(cY.f n r6.1.2.2.2).bind fun r7=>some ((a0.1,(r6.1,a0.2.2)),(r7.1,(r6.2.1,())))) (br (decide (a1=([116,117,114,110,115]:List UInt8))) ((tc.f n a0.1 a0.2.1 a2).bind fun r8=>br r8.2.1 (some ((a0.1,(r8.1,a0.2.2)),([113,117,105,101,116],(true,())))) (some ((a0.1,(r8.1,a0.2.2)),([98,117,115,121],(true,()))))) (br (decide (a1=([98,111,117,110,100,101,100]:List UInt8))) ((mC.f n a0.1 a0.2.1 a0.2.2 a2).bind fun r9=>(mN.f n r9.2.1).bind fun cH=>some ((a0.1,(r9.1,a0.2.2)),(cH.1,(true,())))) (br (decide (a1=([112,97,114,107,115]:List UInt8))) ((tb.f n a0.1 a0.2.1 a0.2.2 a2).bind fun dA=>(mN.f n dA.2.2.1).bind fun fB=>some ((a0.1,(dA.1,dA.2.1)),(fB.1,(true,())))) (br (decide (a1=([108,101,97,115,116]:List UInt8))) ((tr.f n a0.1).bind fun dT=>cut (α:=(Bool×Unit)) (br (!dT.2.2.1) (some (.inr (true,()))) (some (.inr ((!y1.1),())))) fun Hw=>br Hw.1 (some (a0,([],(false,())))) (ab (0≤a2∧a2<(dT.1.length:Int)) ((jx.f n (dT.1.getD a2.toNat [])).bind fun ko=>some (a0,(ko.1,(true,())))))) (cut (α:=(Bool×Unit)) (br (decide (a1=([115,101,110,116]:List UInt8))) (some (.inr ((decide (a1=([115,101,110,116]:List UInt8))),()))) (br (decide (a1=([113,117,101,117,101]:List UInt8))) (some (.inr ((decide (a1=([113,117,101,117,101]:List UInt8))),()))) (some (.inr ((decide (a1=([114,111,111,109]:List UInt8))),()))))) fun mO=>br mO.1 (br (!y1.1) (some (a0,([],(false,())))) (br (decide (a1=([115,101,110,116]:List UInt8))) (ab (0≤a2∧a2<(a0.2.1.2.2.1.length:Int)) (let Zb:=(a0.2.1.2.2.1.getD a2.toNat []); (jx.f n Zb).bind fun ga=>ab (0≤a2∧a2<(a0.2.1.2.1.length:Int)) (let Zc:=(a0.2.1.2.1.getD a2.toNat []); (jx.f n Zc).bind fun iH=>ab (0≤a2∧a2<(a0.2.2.length:Int)) ((cY.f n (a0.2.2.getD a2.toNat 0)).bind fun fa=>ab (ga.1.length<aU) (ab (iH.1.length<aU) (ab (fa.1.length<aU) (some (a0,(ga.1,(true,())))))))))) (br (decide (a1=([113,117,101,117,101]:List UInt8))) (ab (0≤a2∧a2<(a0.2.1.2.2.1.length:Int)) (let IV:=(a0.2.1.2.2.1.getD a2.toNat []); (jx.f n IV).bind fun eA=>ab (0≤a2∧a2<(a0.2.1.2.1.length:Int)) (let v24:=(a0.2.1.2.1.getD a2.toNat []); (jx.f n v24).bind fun eS=>ab (0≤a2∧a2<(a0.2.2.length:Int)) ((cY.f n (a0.2.2.getD a2.toNat 0)).bind fun iC=>ab (eA.1.length<aU) (ab (eS.1.length<aU) (ab (iC.1.length<aU) (some (a0,(eS.1,(true,())))))))))) (br (decide (a1=([114,111,111,109]:List UInt8))) (ab (0≤a2∧a2<(a0.2.1.2.2.1.length:Int)) (let s8:=(a0.2.1.2.2.1.getD a2.toNat []); (jx.f n s8).bind fun di=>ab (0≤a2∧a2<(a0.2.1.2.1.length:Int)) (let IW:=(a0.2.1.2.1.getD a2.toNat []); (jx.f n IW).bind fun bM=>ab (0≤a2∧a2<(a0.2.2.length:Int)) ((cY.f n (a0.2.2.getD a2.toNat 0)).bind fun iZ=>ab (di.1.length<aU) (ab (bM.1.length<aU) (ab (iZ.1.length<aU) (some (a0,(iZ.1,(true,())))))))))) (none))))) (some (a0,([],(false,())))))))))))
def ig.ae (n:Nat):ar:=⟨[.val jq,.val .str,.val I],[.sh jq,.val .str,.val .bool],fun x=>ig.f n x.1 x.2.1 x.2.2.1⟩
def ig.cfg (n:Nat):aP:=⟨ly,[(127,tz.ae n),(66,oP.ae n),(16,pJ.ae n),(128,tA.ae n),(50,cY.ae n),(14,tc.ae n),(15,mC.ae n),(129,mN.ae n),(130,tb.ae n),(131,tr.ae n),(18,jx.ae n)],[],[2900168]⟩
theorem ig.eq:∀ (n:Nat) (a0:dj) (a1:List UInt8) (a2:Int),wi (ig.cfg n) n Tryz.f74 (d_ Tryz.f74 ig.bY) [.val jq,.val .str,.val I] [.sh jq,.val .str,.val .bool] (a0,(a1,(a2,())))=ig.f n a0 a1 a2:=by
 intros
 kernel_rfl
theorem ig.az:cG Tryz.prog 74:=dz Tryz.func74 (by kernel_rfl) (by kernel_rfl)
theorem ig.sound (n:Nat):Sound Tryz.prog 74 (ig.ae n):=Dv (fn:=Tryz.f74) (m:=ig.ae n) (c:=ig.cfg n) (UK mixed (su (.of (c:=ig.cfg n) ⟨tz.ok n,⟨oP.ok n,⟨pJ.ok n,⟨tA.ok n,⟨⟨cY.sound n,cY.az⟩,⟨tc.ok n,⟨mC.ok n,⟨⟨mN.sound n,mN.az⟩,⟨tb.ok n,⟨tr.ok n,⟨jx.ok n,trivial⟩⟩⟩⟩⟩⟩⟩⟩⟩⟩⟩) (.of (c:=ig.cfg n) trivial)) (dM km) rfl ig.Za) (dM km) Tryz.func74 (fun x=>(ig.eq n x.1 x.2.1 x.2.2.1).symm)
def vQ.f (n:Nat) (a0:dj) (a1:Int) (a2:Int):Option (dj×(List UInt8)×(Bool×Unit)):=cut (α:=(Bool×Unit)) (br (decide (a1<0)) (some (.inr (true,()))) (some (.inr ((decide ((a0.1.2.length:Int)≤a1)),())))) fun y1=>br y1.1 (some (a0,([],(false,())))) ((u_.f n a0.1 a0.2.1 a1 a2 20000).bind fun r2=>br r2.2.1 (some ((a0.1,(r2.1,a0.2.2)),([109,101,116],(true,())))) (some ((a0.1,(r2.1,a0.2.2)),([102,97,105,108,101,100],(true,())))))
def vQ.ae (n:Nat):ar:=⟨[.val jq,.val I,.val I],[.sh jq,.val .str,.val .bool],fun x=>vQ.f n x.1 x.2.1 x.2.2.1⟩
theorem vQ.ok (n:Nat):aN 75 (vQ.ae n):=aQ n [(1,⟨[(20,.bool)],[],[1,2,3,6],[]⟩)] [] (ak (u_.ok n) aC) aD Tryz.func75
def tC.f (n:Nat) (a0:dj) (a1:List UInt8):Option (dj×(List UInt8)×(Bool×Unit)):=(rq.f n a1 ([108,111,97,100,32]:List UInt8)).bind fun r1=>br r1.2.1 ((ru.f n r1.1 ([124]:List UInt8) ([10]:List UInt8)).bind fun r5=>(vq.f n r5.1).bind fun r6=>(oP.f n r6.1 r6.2.1).bind fun r7=>some (r7.1,(r7.2.1,(r7.2.2.1,())))) ((fG.f n a1 ([32]:List UInt8)).bind fun r8=>cut (α:=(Bool×Unit)) (ab ((0:Int)≤0∧(0:Int)<(r8.1.length:Int)) (br (decide ((r8.1.getD 0 [])=([102,101,101,100]:List UInt8))) (some (.inr ((decide ((r8.1.length:Int)=3)),()))) (some (.inr (false,()))))) fun y9=>br y9.1 (ab ((0:Int)≤1∧(1:Int)≤2∧2≤(r8.1.length:Int)) ((tB.f n ((r8.1.take 2).drop 1)).bind fun ko=>ab ((0:Int)≤2∧(2:Int)<(r8.1.length:Int)) ((xD.f n (r8.1.getD 2 [])).bind fun fN=>cut (α:=(Bool×Unit)) (br (!ko.2.1) (some (.inr (true,()))) (some (.inr ((!fN.2.1),())))) fun Hv=>br Hv.1 (some (a0,([],(false,())))) (ab ((0:Int)≤0∧(0:Int)<(ko.1.length:Int)) ((vH.f n a0.1 (ko.1.getD 0 0) fN.1).bind fun ga=>(oP.f n ga.1 ga.2.1).bind fun gN=>some (gN.1,(gN.2.1,(gN.2.2.1,())))))))) (ab ((0:Int)≤1∧(1:Int)≤(r8.1.length:Int)∧(r8.1.length:Int)≤(r8.1.length:Int)) ((tB.f n ((r8.1.take (r8.1.length:Int).toNat).drop 1)).bind fun iH=>br (!iH.2.1) (some (a0,([],(false,())))) (br (decide ((iH.1.length:Int)=0)) (ab ((0:Int)≤0∧(0:Int)<(r8.1.length:Int)) ((vP.f n a0 (r8.1.getD 0 [])).bind fun fa=>some (fa.1,(fa.2.1,(fa.2.2.1,()))))) (br (decide ((iH.1.length:Int)=1)) (ab ((0:Int)≤0∧(0:Int)<(r8.1.length:Int)) (ab ((0:Int)≤0∧(0:Int)<(iH.1.length:Int)) ((ig.f n a0 (r8.1.getD 0 []) (iH.1.getD 0 0)).bind fun fq=>some (fq.1,(fq.2.1,(fq.2.2.1,())))))) (cut (α:=(Bool×Unit)) (br (decide ((iH.1.length:Int)=2)) (ab ((0:Int)≤0∧(0:Int)<(r8.1.length:Int)) (some (.inr ((decide ((r8.1.getD 0 [])=([100,101,109,97,110,100]:List UInt8))),())))) (some (.inr (false,())))) fun xh=>br xh.1 (ab ((0:Int)≤0∧(0:Int)<(iH.1.length:Int)) (ab ((0:Int)≤1∧(1:Int)<(iH.1.length:Int)) ((vQ.f n a0 (iH.1.getD 0 0) (iH.1.getD 1 0)).bind fun pV=>some (pV.1,(pV.2.1,(pV.2.2.1,())))))) (some (a0,([],(false,()))))))))))
def tC.ae (n:Nat):ar:=⟨[.val jq,.val .str],[.sh jq,.val .str,.val .bool],fun x=>tC.f n x.1 x.2.1⟩
theorem tC.ok (n:Nat):aN 29 (tC.ae n):=aQ n [(6,⟨[(41,.bool)],[],[2,4,9],[]⟩),(10,⟨[(60,.bool)],[],[2,4,10,12],[]⟩),(25,⟨[(112,.bool)],[],[2,4,14],[]⟩)] [] (ak (rq.ok n) (ak ⟨ru.sound n,ru.az⟩ (ak (vq.ok n) (ak (oP.ok n) (ak ⟨fG.sound n,fG.az⟩ (ak (tB.ok n) (ak (xD.ok n) (ak (vH.ok n) (ak (vP.ok n) (ak ⟨ig.sound n,ig.az⟩ (ak (vQ.ok n) aC))))))))))) aD Tryz.func29
def pW.f (n:Nat) (a0:dj) (a1:List UInt8):Option (dj×(List UInt8)×Unit):=(vM.f n a0).bind fun r1=>br (!r1.1) ((rn.f n a0).bind fun r3=>some (r3.1,([110,111],()))) ((rn.f n a0).bind fun r4=>(tC.f n r4.1 a1).bind fun r5=>br (!r5.2.2.1) ((rn.f n a0).bind fun r6=>some (r6.1,([110,111],()))) (some (r5.1,(r5.2.1,()))))
def pW.ae (n:Nat):ar:=⟨[.val jq,.val .str],[.sh jq,.val .str],fun x=>pW.f n x.1 x.2.1⟩
theorem pW.ok (n:Nat):aN 6 (pW.ae n):=aQ n [] [] (ak (vM.ok n) (ak (rn.ok n) (ak (tC.ok n) aC))) aD Tryz.func6
end
end Go.AmT
namespace Go.AmT
open Go Go.Am
set_option linter.unusedVariables false
set_option linter.unusedSimpArgs false
def vR (a b:UInt8) (s:List UInt8):List UInt8:=s.map fun c=>if c=a then b else c
theorem IY (a b:UInt8):∀ s:List UInt8,Lib.replaceK [a] [b] (Lib.count s [a]) s=vR a b s
 | []=>by rw [Lib.count_miss (by simp [Lib.index])]; rfl
 | x::xs=>by
  by_cases h:x=a
  ·subst h
   have wZ:Lib.index (x::xs) [x]=((0:Nat):Int):=by rw [Lib.index]; simp [List.isPrefixOf]
   rw [Lib.count_cons_eq,Nat.add_comm,Lib.replaceK_hit _ _ _ _ 0 wZ]
   have ih:=IY x b xs
   simp only [List.take_zero,List.nil_append,List.length_singleton,Nat.zero_add,List.drop_one,List.tail_cons]
   rw [ih]
   unfold vR
   rw [List.map_cons,if_pos rfl]; rfl
  ·rw [Lib.count_cons_ne x a xs h]
   have ih:=IY a b xs
   have e:vR a b (x::xs)=x::vR a b xs:=by unfold vR; rw [List.map_cons,if_neg h]
   have hp:([a]:List UInt8).isPrefixOf (x::xs)=false:=by simp [List.isPrefixOf,Ne.symm h]
   have wZ:Lib.index (x::xs) [a]=if Lib.index xs [a]==-1 then -1 else Lib.index xs [a]+1:=by rw [Lib.index,hp]; simp
   rw [e]
   by_cases hm:Lib.index xs [a] = -1
   ·rw [Lib.count_miss hm] at ih ⊢
    rw [← ih]; rfl
   ·have yv:=Lib.index_ge xs [a]
    obtain ⟨j,hj⟩:∃ j:Nat,Lib.index xs [a]=j:=⟨(Lib.index xs [a]).toNat,by omega⟩
    have Ha:Lib.index (x::xs) [a]=((j+1:Nat):Int):=by rw [wZ,if_neg (fun e=>hm (beq_iff_eq.1 e)),hj]; omega
    rw [Lib.count_hit (by simp) hj,Nat.add_comm] at ih ⊢
    rw [Lib.replaceK_hit _ _ _ _ (j+1) Ha,← ih,Lib.replaceK_hit _ _ _ _ j hj]
    simp
theorem Zd {a b:UInt8} (h:a≠b) (s:List UInt8):Lib.replaceAll s [a] [b]=vR a b s:=by
 unfold Lib.replaceAll Lib.replace Lib.replaceNum
 rw [if_neg (by simp [h]),if_pos (.inl (by decide))]
 exact IY a b s
theorem Ze (a b:UInt8) (s:List UInt8):(vR a b s).length=s.length:=by simp [vR]
theorem count_le (a:UInt8):∀ s:List UInt8,Lib.count s [a]≤s.length
 | []=>by rw [Lib.count_miss (by simp [Lib.index])]; simp
 | x::xs=>by
  have ih:=count_le a xs
  by_cases h:x=a
  ·subst h
   rw [Lib.count_cons_eq,List.length_cons]; omega
  ·rw [Lib.count_cons_ne x a xs h,List.length_cons]; omega
end Go.AmT
namespace Go.AmT
open Go Go.Am
set_option linter.unusedVariables false
set_option linter.unusedSimpArgs false
structure j3 (d:dj):Prop where
 st:bq d.1 d.2.1
 caps:dY d.1.2 d.2.2=true
 small:cL d.1
theorem j3.xE {d:dj} (h:j3 d):jt d.2.1:=nB h.st
theorem j3.zR {d:dj} (h:j3 d):d.2.2.length≤1048576:=by
 have h1:=s4 h.caps
 have h2:=h.st.ck.dt
 omega
theorem Zf {n:Nat} {d:dj} (h:j3 d) (hn:1048576<n):vM.f n d=some (true,()):=by
 unfold vM.f
 rw [zj h.small h.xE hn,aA]
 simp only [sZ h.st,aL]
 rw [ML h.small h.zR hn,aA]
 simp only [Ni h.st.ck,h.caps]; rfl
theorem Zg {n:Nat} {d:dj} (h:j3 d) (hn:1048576<n):rn.f n d=some (d,()):=by
 unfold rn.f
 rw [EJ h.small hn,aA]
 dsimp only
 rw [Na h.xE hn,aA]
 dsimp only
 rw [Po h.zR,aA]
theorem IZ {n:Nat} (s p:List UInt8):rp.f n s p=some (decide (s.take p.length=p),()):=by
 unfold rp.f
 by_cases h:p.length≤s.length
 ·rw [aZ (by omega),ah (by omega),List.drop_zero,Int.toNat_natCast]
 ·rw [aK (by omega),decide_eq_false]
  intro e
  have:=congrArg List.length e
  rw [List.length_take] at this
  omega
theorem Zh {n:Nat} (p t:List UInt8):rq.f n (p++t) p=some (t,(true,())):=by
 unfold rq.f vN.f
 rw [IZ,aA]
 dsimp only
 rw [List.take_left,decide_eq_true rfl]
 simp only [Bool.not_true,aF]
 rw [ah (by rw [List.length_append]; omega)]
 simp only [Option.bind_some,Int.toNat_natCast,List.take_length,List.drop_left]
theorem Zi {n:Nat} {s p:List UInt8} (h:s.take p.length≠p):rq.f n s p=some (s,(false,())):=by
 unfold rq.f vN.f
 rw [IZ,aA]
 dsimp only
 rw [decide_eq_false h]; rfl
theorem Zj {n:Nat} (s p:List UInt8):W (vO.f n s p) (fun r=>r.1.length≤s.length):=by
 unfold vO.f xC.f
 rw [IZ,aA]
 dsimp only
 cases h:decide (s.take p.length=p)
 ·exact aj.2 (Nat.le_refl _)
 ·have h:=of_decide_eq_true h
  have hl:p.length≤s.length:=by
   have:=congrArg List.length h
   rw [List.length_take] at this
   omega
  rw [aL,ah (by omega)]
  refine aj.2 ?_
  simp only [Int.toNat_natCast,List.take_length,List.length_drop]; omega
theorem Zk {n:Nat} {d:dj} {line:List UInt8} (h:j3 d) (hn:1048576<n):pW.f n d line=(tC.f n d line).bind fun r5=>br (!r5.2.2.1) (some (d,([110,111],()))) (some (r5.1,(r5.2.1,()))):=by
 unfold pW.f
 rw [Zf h hn,aA]
 simp only [Bool.not_true,aF]
 rw [Zg h hn,aA,aA]
theorem I_ {nt:ai} (o:cM nt) {c:Int} (h0:0≤c) (h1:c≤400):dY nt.2 (xj nt c)=true:=by
 unfold xj
 rw [Ni o,decide_eq_true (show 0≤c∧c≤400 from ⟨h0,h1⟩)]
 simp only [Bool.and_self,if_true]
 unfold dY
 rw [Bool.and_eq_true,decide_eq_true_eq,List.all_eq_true]
 refine ⟨by simp,fun j hj=>?_⟩
 have hj:=List.mem_range.1 hj
 rw [List.length_map] at hj
 have ht:=(oH (o.gQ j hj)).1
 have e1:(nt.2.map fun l=>max c (l.2.2.2.2.length:Int)).getD j 0=max c ((nt.2.getD j aM).2.2.2.2.length:Int):=by rw [aH (by simpa using hj),aH hj]; simp
 rw [e1,aH hj,Bool.and_eq_true,decide_eq_true_eq,decide_eq_true_eq]
 omega
theorem Zl {nt:ai} (o:cM nt) (hS:cL nt) {c:Int} (h0:0≤c) (h1:c≤400):j3 (nt,(start nt,xj nt c)):=⟨HU o,I_ o h0 h1,hS⟩
end Go.AmT
namespace Go.AmT
open Go Go.Am
set_option linter.unusedVariables false
set_option linter.unusedSimpArgs false
theorem Zm {n:Nat} {s:List UInt8} (hs:s.length≤1048576):W (dP.f n s) (fun r=>r.2.1=true→-9223372036854775808≤r.1∧r.1≤9223372036854775807):=by
 have ha:W (kP.f n s) (fun r=>r.2.1=true→-9223372036854775808≤r.1∧r.1≤9223372036854775807):=by
  unfold kP.f uC
  rw [if_pos (by omega)]
  cases h:Lib.atoiAll s with
  | ok v=>exact aj.2 (fun _=>Lib.atoiAll_bounds h)
  | «syntax»=>exact aj.2 (fun h=>by cases h)
  | range=>exact aj.2 (fun h=>by cases h)
 unfold dP.f
 rw [aB]
 refine au ha (fun r hr=>?_)
 rw [bH]
 refine ⟨fun h=>?_,fun _=>aj.2 (fun h=>by cases h)⟩
 unfold cY.f uA
 rw [if_pos (hr h)]
 exact aj.2 (fun _=>hr h)
theorem Pt {n:Nat} {L:List (List UInt8)} (hL:L.length≤1048576) (hp:∀ p∈L,p.length≤1048576) (hn:1048576<n):W (tB.f n L) (fun r=>r.2.1=true→r.1.length=L.length∧∀ x∈r.1,-9223372036854775808≤x∧x≤9223372036854775807):=by
 unfold tB.f
 refine fA (fun (i:Nat) (o:List Int)=>((i:Int),(o,()))) L.length (fun i o=>o.length=i∧∀ x∈o,-9223372036854775808≤x∧x≤9223372036854775807) (s0:=[]) rfl ⟨rfl,by simp⟩ (by omega) (fun ih o hI=>?_) (fun ih i o hi hI hS=>?_)
 ·simp only [aK (Int.lt_irrefl _)]
  exact aj.2 (fun _=>hI)
 ·simp only [aZ (show (i:Int)<(L.length:Int) by omega),Int.toNat_natCast]
  have hq:=hp (L.getD i []) (by rw [aH hi]; exact List.getElem_mem _)
  have hl:=hI.1
  rw [ah (by omega),aB]
  refine au (Zm hq) (fun r hr=>?_)
  rw [e_]
  refine au (P:=fun s=>∃ b:Bool,s=Sum.inr (b,())∧(b=false→r.2.1=true)) ?_ (fun s ⟨b,e,hb⟩=>?_)
  ·rw [pt]
   refine ⟨fun _=>aj.2 ⟨true,rfl,fun h=>by cases h⟩,fun h=>?_⟩
   rw [aB]
   exact au (Zj _ _) (fun r2 _=>aj.2 ⟨_,rfl,fun _=>h⟩)
  ·subst e
   dsimp only
   rw [bH]
   refine ⟨fun _=>aj.2 (fun h=>by cases h),fun cw=>?_⟩
   rw [bZ (by simp only [List.length_singleton]; omega),bm (by omega)]
   exact hS _ ⟨by simp [hl],vc hI.2 (hr (hb cw))⟩
theorem Zn {n:Nat} {s:List UInt8} (hs:s.length≤1048575) (hn:1048577<n):W (xD.f n s) (fun r=>bG r.1=true):=OG hs hn
theorem Zo {x:Int} (h : -1000000≤x∧x≤1000000):Lib.itoa x≠[110,111]:=fun e=>by
 have:=OF h.1 h.2 110 (by rw [e]; simp)
 rcases this with h | h
 ·exact absurd h (by decide)
 ·exact absurd h (by decide)
theorem Zp (s:List Int):rf s≠[]:=by
 cases s with
 | nil=>simp [rf]
 | cons x r=>intro h; exact Ez x (List.append_eq_nil_iff.1 h).1
theorem I0 {s:List Int} (h:bG s=true):fmtS s≠[]:=by rw [X8 h]; exact Zp s
abbrev ask (w:List UInt8):Prop:=w.take 2∈([[108,101],[115,101],[113,117],[114,111],[119,97]]:List (List UInt8))
def Gd (d:dj) (w:List UInt8) (r:dj×(List UInt8×(Bool×Unit))):Prop:=r.2.2.1=true→j3 r.1∧r.2.1≠[]∧(r.1=d∨(¬ ask w∧r.2.1≠[110,111]))
theorem Gd.no {d d':dj} {w t:List UInt8} : Gd d w (d',(t,(false,()))):=fun h=>by cases h
theorem Gd.same {d:dj} {w t:List UInt8} (o:j3 d) (ht:t≠[]):Gd d w (d,(t,(true,()))):=fun _=>⟨o,ht,.inl rfl⟩
theorem Gd.new {d d':dj} {w t:List UInt8} {b:Bool} (o:b=true→j3 d') (ht:t≠[]) (hw:¬ ask w) (h2:t≠[110,111]):Gd d w (d',(t,(b,()))):=fun h=>⟨o h,ht,.inr ⟨hw,h2⟩⟩
theorem Gd.line {d:dj} {w l:List UInt8} {r:dj×(List UInt8×(Bool×Unit))} (h:Gd d w r) (hl:ask l→ask w):Gd d l r:=fun hr=>by
 obtain ⟨a,b,c⟩:=h hr
 exact ⟨a,b,c.imp id (fun c=>⟨fun x=>c.1 (hl x),c.2⟩)⟩
theorem I1 {n:Nat} {d:dj} {w:List UInt8} {nt:ai} {b:Bool} (o:b=true→cM nt) (hw:¬ ask w) (hn:1048576<n) {f:dj×(List UInt8×(Bool×Unit))→Option (dj×(List UInt8×(Bool×Unit)))} (hf:∀ r,f r=some (r.1,(r.2.1,(r.2.2.1,())))):W ((oP.f n nt b).bind f) (Gd d w):=by
 unfold oP.f
 rw [aB,pt]
 refine ⟨fun _=>aj.2 ?_,fun h=>?_⟩
 ·rw [hf]; exact aj.2 Gd.no
 ·have o:=o h
  have hS:=X9 o
  rw [Nz hS o hn,aA]
  dsimp only
  rw [NN hS hn,aA,aj,hf]
  exact aj.2 (Gd.new (t:=[111,107]) (fun _=>Zl o hS (by omega) (by omega)) (by simp) hw (by decide))
theorem Zq {n:Nat} {nt:ai} {s:State} (h:cL nt) (o:bq nt s) (hn:1048576<n):W (vL.f n nt s) (fun r=>r.1.length≤12∧∀ x∈r.1,-1≤x∧x≤1000):=by
 have hs:=nB o
 have hp:=o.ck.ew
 have hl:=o.ck.dt
 have hq:=o.nq
 unfold vL.f
 rw [zj h hs hn,aA,sZ o]
 simp only [Bool.not_true,aF]
 rw [aB]
 refine au (zl (caps:=none) o.ck hs hn) (fun r ⟨to,fr,e,T,F⟩=>?_)
 subst e
 have R:iU nt s (nt,(s,(to,(fr,none)))):=⟨rfl,rfl,T,F⟩
 refine fA (fun (i:Nat) (x:List Int)=>((i:Int),(x,()))) nt.1.length (fun i x=>x.length=i∧∀ y∈x,-1≤y∧y≤1000) (s0:=[]) rfl ⟨rfl,by simp⟩ (by omega) (fun ih x hI=>?_) (fun ih i x hi hI hS=>?_)
 ·simp only [aK (Int.lt_irrefl _)]
  exact aj.2 ⟨by show x.length≤12; have:=hI.1; omega,hI.2⟩
 ·have hx:=hI.1
  simp only [aZ (show (i:Int)<(nt.1.length:Int) by omega)]
  have hw:fY.f n ((nt.1,nt.2),((s.1,(s.2.1,(s.2.2.1,s.2.2.2))),(to,(fr,(none:Option (List Int)))))) (i:Int)=some ((bf nt s i).1,(bQ nt s i,())):=zm R o hi
  rw [hw,aA]
  dsimp only
  rw [e_]
  refine au (P:=fun s'=>∃ b:Bool,s'=Sum.inr (b,())∧(b=false→0≤bQ nt s i∧bQ nt s i≤1000)) ?_ (fun s' ⟨b,e,hb⟩=>?_)
  ·rw [bH]
   refine ⟨fun _=>aj.2 ⟨true,rfl,fun h=>by cases h⟩,fun h2=>?_⟩
   have h2:(bf nt s i).1=2:=by simpa using h2
   obtain ⟨j,hj,e,-⟩:=oc o hi h2
   rw [e,ah (by omega)]
   exact aj.2 ⟨_,rfl,fun _=>⟨by omega,by omega⟩⟩
  ·subst e
   dsimp only
   rw [e_]
   refine au (P:=fun s'=>∃ y:Int,s'=Sum.inr (y,())∧-1≤y∧y≤1000) ?_ (fun s' ⟨y,e,hy⟩=>?_)
   ·rw [bH]
    refine ⟨fun _=>aj.2 ⟨_,rfl,by omega,by omega⟩,fun cw=>aj.2 ⟨_,rfl,?_⟩⟩
    have:=hb cw
    omega
   ·subst e
    dsimp only
    rw [bZ (by simp only [List.length_singleton]; omega),bm (by omega)]
    exact hS _ ⟨by simp [hx],vc hI.2 hy⟩
theorem Pu {B:Nat} : ∀ {L:List (List UInt8)},(∀ x∈L,x.length≤B)→Lib.lens L≤B*L.length
 | [],_=>by simp [Lib.lens]
 | x::L,h=>by
  have h1:=h x (by simp)
  have h2:=Pu (L:=L) (fun y hy=>h y (by simp [hy]))
  simp only [Lib.lens,List.map_cons,List.sum_cons,List.length_cons] at h2 ⊢
  rw [Nat.mul_succ]; omega
theorem Zr {n:Nat} {d:dj} {w:List UInt8} (h:j3 d) (hn:1048576<n):W (vP.f n d w) (Gd d w):=by
 have Ck:=h.st.ck
 unfold vP.f
 rw [bI]
 refine ⟨fun e=>?_,fun _=>?_⟩
 ·subst e
  rw [Nz h.small Ck hn,aA]
  exact aj.2 (Gd.new (fun _=>⟨HU Ck,h.caps,h.small⟩) (by simp) (by decide) (by decide))
 ·rw [bI]
  refine ⟨fun e=>?_,fun _=>aj.2 Gd.no⟩
  rw [aB]
  refine au (Zq h.small h.st hn) (fun r ⟨hl,hr⟩=>?_)
  refine fA (fun (i:Nat) (o:List (List UInt8))=>((i:Int),(o,()))) r.1.length (fun i o=>o.length=i∧∀ x∈o,x≠[]∧x.length≤8) (s0:=[]) rfl ⟨rfl,by simp⟩ (by omega) (fun ih o hI=>?_) (fun ih i o hi hI hS=>?_)
  ·simp only [aK (Int.lt_irrefl _)]
   rw [e_]
   have pa:=hI.1
   refine au (P:=fun s'=>∃ L:List (List UInt8),s'=Sum.inr (L,())∧L≠[]∧L.length≤12∧∀ x∈L,x≠[]∧x.length≤8) ?_ (fun s' ⟨L,e,h1,h2,h3⟩=>?_)
   ·rw [bI]
    refine ⟨fun _=>aj.2 ⟨_,rfl,by simp,by simp,by simp⟩,fun h0=>aj.2 ⟨_,rfl,fun e=>h0 ?_,by omega,hI.2⟩⟩
    have e:o=[]:=e
    simp [e]
   ·subst e
    dsimp only
    cases L with
    | nil=>exact absurd rfl h1
    | cons x L=>
     have hx:=h3 x (by simp)
     have hlen:(Lib.join (x::L) [32]).length≤1000000:=by
      rw [Lib.join_length]
      have:=Pu (B:=8) (L:=x::L) (fun y hy=>(h3 y hy).2)
      simp only [List.length_cons,List.length_nil] at this h2 ⊢
      omega
     rw [Iw (by omega) hlen,aA]
     refine aj.2 (Gd.same h ?_)
     rw [Lib.join_cons]
     intro e0
     exact hx.1 (List.append_eq_nil_iff.1 e0).1
  ·have pa:=hI.1
   simp only [aZ (show (i:Int)<(r.1.length:Int) by omega),Int.toNat_natCast]
   have hm:=hr (r.1.getD i 0) (by rw [aH hi]; exact List.getElem_mem _)
   rw [ah (by omega),oJ (by omega) (by omega),aA]
   dsimp only
   rw [bZ (by simp only [List.length_singleton]; omega),bm (by omega)]
   exact hS _ ⟨by simp [pa],vc hI.2 ⟨Ez _,dB (by omega) (by omega)⟩⟩
theorem Zs {nt:ai} {k:Int} (h:(Cj nt k).2.1=true):cM (Cj nt k).1:=by
 unfold Cj at h ⊢
 split at h
 ·rename_i h1
  rw [if_pos h1]
  split at h
  ·rename_i h2
   rw [if_pos h2]; exact xy h2
  ·cases h
 ·cases h
theorem EL {w:Int} (h:w=1∨w=2∨w=3):sC w≠[]∧sC w≠[110,111]:=by
 rcases h with rfl | rfl | rfl<;>decide
theorem Zt (nt:ai) (s:State) (caps:List Int):qX nt s caps=1∨qX nt s caps=2∨qX nt s caps=3:=by
 unfold qX
 split
 ·split
  ·exact .inr (.inr rfl)
  ·exact .inr (.inl rfl)
 ·exact .inl rfl
theorem Pv {n:Nat} {w:Int} (h:w=1∨w=2∨w=3):mN.f n w=some (sC w,()):=by
 unfold mN.f BC
 rw [if_pos (by omega)]; rfl
theorem Zu {n:Nat} {d:dj} {w:List UInt8} {k:Int} (h:j3 d) (hk : -9223372036854775808≤k∧k≤9223372036854775807) (hn:1048576<n):W (ig.f n d w k) (Gd d w):=by
 have Ck:=h.st.ck
 have pz:=h.st
 have cI:=h.st.steps
 have hb:=Zt d.1
 unfold ig.f
 rw [e_]
 refine au (P:=fun s=>∃ b:Bool,s=Sum.inr (b,())∧(b=true→0≤k∧k<(d.1.2.length:Int))) ?_ (fun s ⟨b,e,hl⟩=>?_)
 ·rw [bI]
  exact ⟨fun h0=>aj.2 ⟨_,rfl,fun h=>⟨h0,of_decide_eq_true h⟩⟩,fun _=>aj.2 ⟨_,rfl,fun h=>by cases h⟩⟩
 subst e
 dsimp only
 rw [bI]; refine ⟨fun e=>?_,fun _=>?_⟩
 ·subst e
  rw [Y1 h.small hn,Option.bind_some]
  exact I1 Zs (by decide) hn (fun r=>rfl)
 rw [bI]; refine ⟨fun e=>?_,fun _=>?_⟩
 ·subst e
  rw [e_]
  refine au (P:=fun s=>∃ b:Bool,s=Sum.inr (b,())∧(b=false→0≤k∧k≤400)) ?_ (fun s ⟨b,e,hk⟩=>?_)
  ·rw [bI]
   exact ⟨fun _=>aj.2 ⟨_,rfl,fun h=>by cases h⟩,fun h0=>aj.2 ⟨_,rfl,fun h=>⟨by omega,by have:=of_decide_eq_false h; omega⟩⟩⟩
  subst e
  dsimp only
  rw [bH]
  refine ⟨fun _=>aj.2 Gd.no,fun hb=>?_⟩
  rw [NN h.small hn,aA]
  exact aj.2 (Gd.new (fun _=>⟨pz,I_ Ck (hk hb).1 (hk hb).2,h.small⟩) (by simp) (by decide) (by decide))
 rw [bI]; refine ⟨fun e=>?_,fun _=>?_⟩
 ·subst e
  rw [Y3 h.small pz hn,Option.bind_some]
  cases hc:xB d.1 d.2.1 k
  ·simp only [Bool.false_eq_true,if_false]
   rw [oJ (by omega) (by omega),aA]
   exact aj.2 Gd.no
  ·simp only [if_true]
   unfold xB at hc
   have hc:=of_decide_eq_true hc
   have o:=zu pz (k:=k.toNat) (by omega) hc.2.2
   have hs:=o.steps
   rw [oJ (by omega) (by omega),aA]
   exact aj.2 (Gd.new (fun _=>⟨o,h.caps,h.small⟩) (Ez _) (by decide) (Zo (by omega)))
 rw [bI]; refine ⟨fun e=>?_,fun _=>?_⟩
 ·subst e
  rw [Wy h.small h.xE hn,Option.bind_some]
  have o:bq d.1 (BZ d.1 d.2.1 k).1:=by
   unfold BZ
   rw [if_pos (sZ pz)]
   exact Eh pz
  rw [bH]
  exact ⟨fun _=>aj.2 (Gd.new (fun _=>⟨o,h.caps,h.small⟩) (by simp) (by decide) (by decide)),fun _=>aj.2 (Gd.new (fun _=>⟨o,h.caps,h.small⟩) (by simp) (by decide) (by decide))⟩
 rw [bI]; refine ⟨fun e=>?_,fun _=>?_⟩
 ·subst e
  rw [NH h.small h.xE h.zR hn,Option.bind_some]
  have e1:xg d.1 d.2.1 d.2.2 k=uX d.1 d.2.1 d.2.2 k:=by
   unfold xg
   rw [if_pos (by rw [sZ pz,h.caps]; rfl)]
  rw [e1]
  have hb:=hb (runT d.1 (some d.2.2) k d.2.1) d.2.2
  show W ((mN.f n (qX d.1 (runT d.1 (some d.2.2) k d.2.1) d.2.2)).bind _) _
  rw [Pv hb,aA]
  exact aj.2 (Gd.new (fun _=>⟨BW pz,h.caps,h.small⟩) (EL hb).1 (by decide) (EL hb).2)
 rw [bI]; refine ⟨fun e=>?_,fun _=>?_⟩
 ·subst e
  rw [Wx h.small h.xE h.zR hn hk.1 hk.2,Option.bind_some]
  have P:=Wt (most:=k) pz h.caps 12001
  unfold BY
  rw [if_pos (by rw [sZ pz,h.caps]; rfl)]
  dsimp only
  generalize jv (jX d.1 d.2.1.2.2.2 (clip k)) (gT d.1 d.2.1.2.2.2 (clip k)) 12001 (d.2.1,d.2.2)=x at P
  unfold fZ
  have hb:=hb (runT d.1 (some x.2) (clip k-(x.1.2.2.2-d.2.1.2.2.2)) x.1) x.2
  show W ((mN.f n (qX d.1 (runT d.1 (some x.2) (clip k-(x.1.2.2.2-d.2.1.2.2.2)) x.1) x.2)).bind _) _
  rw [Pv hb,aA]
  exact aj.2 (Gd.new (fun _=>⟨BW P.ok,P.cap,h.small⟩) (EL hb).1 (by decide) (EL hb).2)
 rw [bI]; refine ⟨fun e=>?_,fun _=>?_⟩
 ·rw [YQ h.small Ck hn,Option.bind_some]
  unfold EI
  cases e:xA d.1 300 1 (vA d.1) with
  | none=>exact aj.2 Gd.no
  | some gr=>
   obtain ⟨g,r⟩:=gr
   have e':EG d.1=some (g,r):=e
   have lg:=Yu e'
   dsimp only
   simp only [Bool.not_true,aF,bF]
   rw [pt]
   refine ⟨fun _=>aj.2 Gd.no,fun hb=>?_⟩
   obtain ⟨k0,k1⟩:=hl hb
   obtain ⟨j,rfl⟩:∃ j:Nat,k=(j:Int):=⟨k.toNat,by omega⟩
   have ok:=Yv e' (j:=j) (by omega)
   rw [ah (by omega),Int.toNat_natCast]
   have Zv:(g.getD j []).length≤1048576:=by have:=(nA ok).1; unfold bg at this; omega
   rw [Eu Zv hn,aA]
   exact aj.2 (Gd.same h (I0 ok))
 rw [e_]
 refine au (P:=fun s=>∃ b:Bool,s=Sum.inr (b,())∧(b=true→w=[115,101,110,116]∨w=[113,117,101,117,101]∨w=[114,111,111,109])) ?_ (fun s ⟨c,e,hw⟩=>?_)
 ·rw [bI]
  refine ⟨fun e=>aj.2 ⟨_,rfl,fun _=>.inl e⟩,fun _=>?_⟩
  rw [bI]
  exact ⟨fun e=>aj.2 ⟨_,rfl,fun _=>.inr (.inl e)⟩,fun _=>aj.2 ⟨_,rfl,fun h=>.inr (.inr (of_decide_eq_true h))⟩⟩
 subst e
 dsimp only
 rw [bH]
 refine ⟨fun hc=>?_,fun _=>aj.2 Gd.no⟩
 have hw:=hw hc
 rw [pt]
 refine ⟨fun _=>aj.2 Gd.no,fun hb=>?_⟩
 obtain ⟨k0,k1⟩:=hl hb
 obtain ⟨j,rfl⟩:∃ j:Nat,k=(j:Int):=⟨k.toNat,by omega⟩
 have hj:j<d.1.2.length:=by omega
 have hq:=h.st.nq
 have hs:=h.st.ns
 have eg:=s4 h.caps
 have L:=h.st.bW j hj
 have l1:=nA L.qs
 have l2:=nA L.hs
 have eK:=BV h.caps hj
 unfold ez at eK
 have hm:∀ s,(fmtS s).length<aU:=fun s=>by have:=oI s; unfold aU; omega
 have hi:=dB (x:=d.2.2.getD j 0) (by omega) (by omega)
 have E:∀ (f:List UInt8×Unit→List UInt8×Unit→List UInt8×Unit→Option (dj×(List UInt8×(Bool×Unit)))),
   (ab (0≤(j:Int)∧(j:Int)<(d.2.1.2.2.1.length:Int)) ((jx.f n (d.2.1.2.2.1.getD (j:Int).toNat [])).bind fun ga=>ab (0≤(j:Int)∧(j:Int)<(d.2.1.2.1.length:Int)) ((jx.f n (d.2.1.2.1.getD (j:Int).toNat [])).bind fun iH=>ab (0≤(j:Int)∧(j:Int)<(d.2.2.length:Int)) ((cY.f n (d.2.2.getD (j:Int).toNat 0)).bind fun fa=>ab (ga.1.length<aU) (ab (iH.1.length<aU) (ab (fa.1.length<aU) (f ga iH fa)))))))=f (fmtS (d.2.1.2.2.1.getD j []),()) (fmtS (d.2.1.2.1.getD j []),()) (Lib.itoa (d.2.2.getD j 0),()):=by
  intro f
  simp only [Int.toNat_natCast]
  rw [ah (by omega),Eu (by omega) hn,aA]
  dsimp only
  rw [ah (by omega),Eu (by omega) hn,aA]
  dsimp only
  rw [ah (by omega),oJ (by omega) (by omega),aA]
  dsimp only
  rw [ah (hm _),ah (hm _),ah (by unfold aU; omega)]
 rw [bI]
 refine ⟨fun _=>?_,fun n1=>?_⟩
 ·exact (congrArg (W · (Gd d w)) (E fun a b c=>some (d,(a.1,(true,()))))).mpr (aj.2 (Gd.same h (I0 L.hs)))
 rw [bI]
 refine ⟨fun _=>?_,fun n2=>?_⟩
 ·exact (congrArg (W · (Gd d w)) (E fun a b c=>some (d,(b.1,(true,()))))).mpr (aj.2 (Gd.same h (I0 L.qs)))
 rw [bI]
 refine ⟨fun _=>?_,fun n3=>?_⟩
 ·exact (congrArg (W · (Gd d w)) (E fun a b c=>some (d,(c.1,(true,()))))).mpr (aj.2 (Gd.same h (Ez _)))
 ·rcases hw with e | e | e
  ·exact absurd e n1
  ·exact absurd e n2
  ·exact absurd e n3
theorem Zw {n:Nat} {d:dj} {w:List UInt8} {k c:Int} (h:j3 d) (hw:¬ ask w) (hn:1048576<n):W (vQ.f n d k c) (Gd d w):=by
 unfold vQ.f
 rw [e_]
 refine au (P:=fun s=>∃ b:Bool,s=Sum.inr (b,())∧(b=false→0≤k∧k<(d.1.2.length:Int))) ?_ (fun s ⟨b,e,hl⟩=>?_)
 ·rw [bI]
  exact ⟨fun _=>aj.2 ⟨_,rfl,fun h=>by cases h⟩,fun h0=>aj.2 ⟨_,rfl,fun h=>⟨by omega,by have:=of_decide_eq_false h; omega⟩⟩⟩
 subst e
 dsimp only
 rw [bH]
 refine ⟨fun _=>aj.2 Gd.no,fun hb=>?_⟩
 have hl:=hl hb
 rw [WJ h.small h.xE hn (by omega) (by omega),Option.bind_some]
 have o:bq d.1 (B1 n d.1 d.2.1 k c 20000).1:=by
  unfold B1
  rw [if_pos ⟨sZ h.st,hl⟩]
  exact (Ij h.st (by omega)).ok
 rw [bH]
 exact ⟨fun _=>aj.2 (Gd.new (fun _=>⟨o,h.caps,h.small⟩) (by simp) hw (by decide)),fun _=>aj.2 (Gd.new (fun _=>⟨o,h.caps,h.small⟩) (by simp) hw (by decide))⟩
theorem Zx {n:Nat} {nt:ai} {k:Int} {ts:List Int} (h:cL nt) (ht:ts.length≤1000) (hn:1048576<n):W (vH.f n nt k ts) (fun r=>r.2.1=true→cM r.1):=by
 unfold vH.f
 rw [qH h hn,aA,e_]
 refine au (P:=fun s=>∃ b:Bool,s=Sum.inr (b,())∧(b=false→cM nt∧0≤k∧k<(nt.2.length:Int))) ?_ (fun s ⟨b,e,hl⟩=>?_)
 ·rw [pt]
  refine ⟨fun _=>aj.2 ⟨_,rfl,fun h=>by cases h⟩,fun h0=>?_⟩
  rw [bI]
  exact ⟨fun _=>aj.2 ⟨_,rfl,fun h=>by cases h⟩,fun h1=>aj.2 ⟨_,rfl,fun h=>⟨xy h0,by omega,by have:=of_decide_eq_false h; omega⟩⟩⟩
 subst e
 dsimp only
 rw [bH]
 refine ⟨fun _=>aj.2 (fun h=>by cases h),fun hb=>?_⟩
 obtain ⟨o,k0,k1⟩:=hl hb
 obtain ⟨j,rfl⟩:∃ j:Nat,k=(j:Int):=⟨k.toNat,by omega⟩
 have hj:j<nt.2.length:=by omega
 have hg:=(oH (o.gQ j hj)).1
 rw [← aH hj aM] at hg
 rw [EJ h hn,aA]
 dsimp only
 simp only [Int.toNat_natCast]
 rw [ah (by omega),YX (by omega) (by omega) hn,aA]
 dsimp only
 rw [ah (by omega)]
 have e:(nt.1,nt.2.set j ((nt.2.getD j aM).1,(nt.2.getD j aM).2.1,(nt.2.getD j aM).2.2.1,(nt.2.getD j aM).2.2.2.1,(nt.2.getD j aM).2.2.2.2++ts))=EK nt j ts:=rfl
 rw [e,Pp (YY h hj (by omega)) hn,Option.bind_some]
 cases hc:cy (EK nt j ts)
 ·exact aj.2 (fun h=>by cases h)
 ·exact aj.2 (fun _=>xy hc)
theorem Zy {x y:UInt8} {t:List UInt8} (hx:x≠32) (hy:y≠32):((cC 32 (x::y::t)).getD 0 []).take 2=[x,y]:=by
 have av:∀ u,cC 32 u≠[]:=fun u e=>by
  cases u with
  | nil=>cases e
  | cons a u=>
   unfold cC at e
   split at e
   ·cases e
   ·cases h:cC 32 u<;>rw [h] at e<;>cases e
 unfold cC
 rw [if_neg hx]
 unfold cC
 rw [if_neg hy]
 cases h:cC 32 t with
 | nil=>exact absurd h (av t)
 | cons a r=>rfl
theorem Zz {l:List UInt8} (h:ask l):ask ((cC 32 l).getD 0 []):=by
 have h':=h
 cases l with
 | nil=>exact absurd h (by decide)
 | cons x l=>
  cases l with
  | nil=>simp [ask] at h
  | cons y l=>
   have h2:(x::y::l).take 2=[x,y]:=rfl
   unfold ask at h ⊢
   rw [h2] at h
   have hx:x≠32∧y≠32:=by
    simp only [List.mem_cons,List.cons.injEq,List.not_mem_nil,or_false,and_true] at h
    constructor
    ·rintro rfl
     rcases h with h | h | h | h | h<;>exact absurd h.1 (by decide)
    ·rintro rfl
     rcases h with h | h | h | h | h<;>exact absurd h.2 (by decide)
   rw [Zy hx.1 hx.2]
   exact h
theorem ZA (c:UInt8) (t:List UInt8):0<(cC c t).length:=by
 cases t with
 | nil=>simp [cC]
 | cons x t=>
  unfold cC
  split
  ·simp
  ·cases cC c t<;>simp [y0]
theorem ZB {n:Nat} {d:dj} {l:List UInt8} (h:j3 d) (hl:l.length≤1000000) (hn:1048577<n):W (tC.f n d l) (Gd d l):=by
 have kF:1048576<n:=by omega
 have hp:=vh 32 l
 have hlen:=Cb 32 l
 have fM:=ZA 32 l
 have Cl:=Zz (l:=l)
 unfold tC.f
 by_cases h5:l.take 5=[108,111,97,100,32]
 ·have wW:¬ ask l:=fun ha=>by
   have:l.take 2=[108,111]:=by rw [show l.take 2=(l.take 5).take 2 by rw [List.take_take]; rfl,h5]; rfl
   unfold ask at ha
   rw [this] at ha
   exact absurd ha (by decide)
  have el:l=[108,111,97,100,32]++l.drop 5:=by rw [← h5,List.take_append_drop]
  have hd:(l.drop 5).length≤1000000:=by rw [List.length_drop]; omega
  generalize l.drop 5=t at el hd
  rw [el,Zh,aA]
  dsimp only
  rw [aL,← el]
  have hc:=count_le 124 t
  have er:W (ru.f n t ([124]:List UInt8) ([10]:List UInt8)) (fun r=>r.1.length≤1048576):=by
   unfold ru.f BB
   rw [if_pos ⟨by omega,by decide,by rw [List.length_singleton]; omega⟩]
   refine aj.2 ?_
   show (Lib.replaceAll t [124] [10]).length≤_
   rw [Zd (by decide),Ze]; omega
  rw [aB]
  refine au er (fun r hr=>?_)
  rw [aB]
  refine au (Yc hr hn) (fun r2 h2=>?_)
  refine I1 (fun hb=>?_) wW kF (fun r=>rfl)
  rcases h2 with e | ⟨o,-⟩
  ·rw [e] at hb; cases hb
  ·exact o
 ·rw [Zi (p:=[108,111,97,100,32]) h5,aA]
  simp only [aF]
  rw [th (by omega),aA]
  dsimp only
  generalize cC 32 l=P at hp hlen fM Cl
  have iy:∀ i,i<P.length→(P.getD i []).length≤1000001:=fun i hi=>by
   have:=hp (P.getD i []) (by rw [aH hi]; exact List.getElem_mem _)
   omega
  have eM:∀ p∈P,p.length≤1048576:=fun p jd=>by have:=hp p jd; omega
  rw [e_,ah (by omega)]
  refine au (P:=fun s=>∃ b:Bool,s=Sum.inr (b,())∧(b=true→P.getD 0 []=[102,101,101,100]∧P.length=3)) ?_ (fun s ⟨b,e,hb⟩=>?_)
  ·rw [bI]
   exact ⟨fun e=>aj.2 ⟨_,rfl,fun h=>⟨e,by have:=of_decide_eq_true h; omega⟩⟩,fun _=>aj.2 ⟨_,rfl,fun h=>by cases h⟩⟩
  subst e
  dsimp only
  rw [bH]
  refine ⟨fun cw=>?_,fun _=>?_⟩
  ·obtain ⟨hw,h3⟩:=hb cw
   have wW:¬ ask l:=fun ha=>by
    have:=Cl ha
    rw [hw] at this
    exact absurd this (by decide)
   rw [ah (by omega),aB]
   have h1:((P.take 2).drop 1).length=1:=by rw [List.length_drop,List.length_take]; omega
   refine au (Pt (L:=(P.take 2).drop 1) (by omega) (fun p jd=>eM p (List.mem_of_mem_take (List.mem_of_mem_drop jd))) kF) (fun r hr=>?_)
   rw [ah (by omega),aB]
   refine au (Zn (by have:=iy 2 (by omega); omega) hn) (fun r2 h2=>?_)
   rw [e_]
   refine au (P:=fun s=>∃ b:Bool,s=Sum.inr (b,())∧(b=false→r.2.1=true)) ?_ (fun s ⟨b,e,hb⟩=>?_)
   ·rw [pt]
    exact ⟨fun _=>aj.2 ⟨_,rfl,fun h=>by cases h⟩,fun h=>aj.2 ⟨_,rfl,fun _=>h⟩⟩
   subst e
   dsimp only
   rw [bH]
   refine ⟨fun _=>aj.2 Gd.no,fun cw=>?_⟩
   obtain ⟨e1,-⟩:=hr (hb cw)
   rw [ah (by omega),aB]
   refine au (Zx h.small (by have:=(nA h2).1; omega) kF) (fun r3 h3=>?_)
   exact I1 h3 wW kF (fun r=>rfl)
  ·rw [ah (by omega),aB]
   have e1:(P.take ((P.length:Int)).toNat).drop 1=P.drop 1:=by rw [Int.toNat_natCast,List.take_length]
   rw [e1]
   refine au (Pt (L:=P.drop 1) (by rw [List.length_drop]; omega) (fun p jd=>eM p (List.mem_of_mem_drop jd)) kF) (fun r hr=>?_)
   rw [pt]
   refine ⟨fun _=>aj.2 Gd.no,fun ZC=>?_⟩
   obtain ⟨e2,hi⟩:=hr ZC
   rw [bI]
   refine ⟨fun h0=>?_,fun _=>?_⟩
   ·rw [ah (by omega),aB]
    exact au (Zr h kF) (fun r' hg=>aj.2 (Gd.line hg Cl))
   rw [bI]
   refine ⟨fun h1=>?_,fun _=>?_⟩
   ·rw [ah (by omega),ah (by omega),aB]
    exact au (Zu h (hi _ (by rw [aH (show 0<r.1.length by omega)]; exact List.getElem_mem _)) kF) (fun r' hg=>aj.2 (Gd.line hg Cl))
   rw [e_]
   refine au (P:=fun s=>∃ b:Bool,s=Sum.inr (b,())∧(b=true→r.1.length=2∧P.getD 0 []=[100,101,109,97,110,100])) ?_ (fun s ⟨b,e,hb⟩=>?_)
   ·rw [bI]
    refine ⟨fun h2=>?_,fun _=>aj.2 ⟨_,rfl,fun h=>by cases h⟩⟩
    rw [ah (by omega)]
    exact aj.2 ⟨_,rfl,fun h=>⟨by omega,of_decide_eq_true h⟩⟩
   subst e
   dsimp only
   rw [bH]
   refine ⟨fun cw=>?_,fun _=>aj.2 Gd.no⟩
   obtain ⟨h2,hw⟩:=hb cw
   rw [ah (by omega),ah (by omega),aB]
   refine au (Zw (w:=l) h (fun ha=>?_) kF) (fun r' hg=>aj.2 hg)
   have:=Cl ha
   rw [hw] at this
   exact absurd this (by decide)
structure Kp (d:dj) (l:List UInt8) (r:dj×(List UInt8×Unit)):Prop where
 ok:j3 r.1
 out:r.2.1≠[]
 same:r.2.1=[110,111]∨ask l→r.1=d
theorem ZD {n:Nat} {d:dj} {l:List UInt8} (h:j3 d) (hl:l.length≤1000000) (hn:1048577<n):W (pW.f n d l) (Kp d l):=by
 rw [Zk h (by omega),aB]
 refine au (ZB h hl hn) (fun r hr=>?_)
 rw [pt]
 refine ⟨fun _=>aj.2 ⟨h,by simp,fun _=>rfl⟩,fun hb=>?_⟩
 obtain ⟨a,b,c⟩:=hr hb
 refine aj.2 ⟨a,b,fun hx=>?_⟩
 rcases c with c | c
 ·exact c
 ·rcases hx with hx | hx
  ·exact absurd hx c.2
  ·exact absurd hx c.1
end Go.AmT
