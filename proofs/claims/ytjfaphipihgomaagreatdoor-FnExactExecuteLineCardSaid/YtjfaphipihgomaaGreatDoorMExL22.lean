/- Steps, waits and what is fed, by both programs, in plain Lean. -/
import Derived.Test.YtjfaphipihgomaaGreatDoorMExL21
import Derived.WalkKit
import Derived.Lib.Replace
open Go Go.Am
noncomputable section
set_option linter.unusedVariables false
set_option linter.unusedSimpArgs false
set_option maxRecDepth 100000
open Bool renaming and_eq_true → aB, not_true → bo
open Go.Lib renaming count_miss → Q5, decDigits → fU, index → jN, itoa → aj, replaceK_hit → Q6
open Go.Maps renaming int_keyed → K8, keyOf_int_mk → K9
open Go.Proofs.Tryz renaming prog → aL, underlying241 → La, underlying3 → np, underlying9 → rz
open Int renaming lt_irrefl → bH, toNat_natCast → az
open List renaming length_singleton → nE, map_append → pG, map_cons → mM
open Option renaming bind_some → aA
namespace Go.AmT
variable {nt:ak} {s:State} {n:Nat} {k:Int} {ts:List Int}
def bl (nt:ak) (s:State) (i:Nat):Int:=if (bE nt s i).1=2∧(s.2.1.getD (bL nt s i).toNat []).length=0 then bL nt s i else -1
def wg (nt:ak) (s:State):List Int:=(List.range nt.1.length).map (bl nt s)
theorem YH (o:bU nt s):(wg nt s).length≤12∧∀ x∈wg nt s,-1≤x∧x≤1000:=by
 have hp:=o.cb.dZ;have hl:=o.cb.dp;refine ⟨by unfold wg; rw [List.length_map,List.length_range]; exact hp,fun x hx=>?_⟩;obtain ⟨i,hi,rfl⟩:=List.mem_map.1 hx;have hi:=List.mem_range.1 hi;unfold bl;split
 ·rename_i h;obtain ⟨j,hj,e,-⟩:=qw o hi h.1;omega
 omega
theorem ag_ (h:cL nt) (o:bU nt s) (hn:1048576<n):AS.f n nt s=some (wg nt s,()):=by
 have hs:=my o;have hp:=o.cb.dZ;have hl:=o.cb.dp;have hq:=o.nq;unfold AS.f;rw [B8 h hs hn,aq,ua o];simp only [bo,aw];refine eM.1 ?_;rw [dt];refine bA (Ed (caps:=none) o.cb hs hn) (fun r ⟨to,fr,e,T,F⟩=>?_);subst e;have R:kQ nt s (nt,s,to,fr,none):=⟨rfl,rfl,T,F⟩
 refine gu (fun (i:Nat) (x:List Int)=>((i:Int),x,())) nt.1.length (fun i x=>x=(List.range i).map (bl nt s)) (s0:=[]) rfl (by simp) (by omega) (fun ih x hI=>?_) (fun ih i x hi hI hS=>?_)
 ·simp only [au (bH _)];exact ao.2 (by rw [hI]; rfl)
 have hx:x.length=i:=by rw [hI]; simp
 simp only [aM (show (i:Int)<(nt.1.length:Int) by omega)];have hw:iY.f n ((nt.1,nt.2),(s.1,s.2.1,s.2.2.1,s.2.2.2),to,fr,(none:Option (List Int))) (i:Int)=some ((bE nt s i).1,bL nt s i,()):=Ee R o hi;rw [hw,aq];dsimp only;rw [fB];refine bA (P:=fun s'=>∃ b:Bool,s'=Sum.inr (b,())∧(b=false↔((bE nt s i).1=2∧(s.2.1.getD (bL nt s i).toNat []).length=0))) ?_ (fun s' ⟨b,e,hb⟩=>?_)
 ·rw [cC];refine ⟨fun h2=>ao.2 ⟨true,rfl,⟨fun h=>(by cases h),fun h=>(by grind)⟩⟩,fun h2=>?_⟩;have h2:(bE nt s i).1=2:=by simpa using h2
  obtain ⟨j,hj,e,-⟩:=qw o hi h2;rw [e,af (by omega)];refine ao.2 ⟨_,rfl,?_⟩
  grind
 subst e;dsimp only;rw [fB];refine bA (P:=fun s'=>s'=Sum.inr (bl nt s i,())) ?_ (fun s' e=>?_)
 ·rw [cC];refine ⟨fun dh=>ao.2 ?_,fun dh=>ao.2 ?_⟩
  ·rw [bl,if_neg (fun h=>by grind)]
  rw [bl,if_pos (hb.1 dh)]
 subst e;dsimp only;rw [dD (by grind),ba (by omega)];exact hS _ (by rw [hI,List.range_succ,pG]; rfl)
theorem ag0 (h:cL nt) (o:bU nt s) (hn:1048576<n):AT.f n nt s=some (wg nt s,()):=by
 have hs:=my o;have hp:=o.cb.dZ;have hq:=o.nq;have ha:=o.na;unfold AT.f;rw [D9 h hs hn,aq,ua o];simp only [bo,aw];refine eM.1 ?_;refine gu (fun (i:Nat) (x:List Int)=>((i:Int),x,())) nt.1.length (fun i x=>x=(List.range i).map (bl nt s)) (s0:=[]) rfl (by simp) (by omega) (fun ih x hI=>?_) (fun ih i x hi hI hS=>?_)
 ·simp only [au (bH _)];exact ao.2 (by rw [hI]; rfl)
 have hx:x.length=i:=by rw [hI]; simp
 simp only [aM (show (i:Int)<(nt.1.length:Int) by omega),az];rw [af (by omega),af (by omega)];have hA:gj (prog nt i) (mr s i)=true:=o.act i hi;have hw:ig.f n (nt.1.getD i bf) (s.1.getD i bz)=some ((bE nt s i).1,(bE nt s i).2,()):=Ca hA;rw [hw,aq,G_ o hi hn,aq];dsimp only;rw [fB];refine bA (P:=fun s'=>∃ b:Bool,s'=Sum.inr (b,())∧(b=false↔((bE nt s i).1=2∧(s.2.1.getD (bL nt s i).toNat []).length=0))) ?_ (fun s' ⟨b,e,hb⟩=>?_)
 ·rw [cC];refine ⟨fun h2=>ao.2 ⟨true,rfl,⟨fun h=>(by cases h),fun h=>(by grind)⟩⟩,fun h2=>?_⟩;have h2:(bE nt s i).1=2:=by simpa using h2
  obtain ⟨j,hj,e,-⟩:=qw o hi h2;rw [e,af (by omega)];refine ao.2 ⟨_,rfl,?_⟩
  grind
 subst e;dsimp only;rw [fB];refine bA (P:=fun s'=>s'=Sum.inr (bl nt s i,())) ?_ (fun s' e=>?_)
 ·rw [cC];refine ⟨fun dh=>ao.2 ?_,fun dh=>ao.2 ?_⟩
  ·rw [bl,if_neg (fun h=>by grind)]
  rw [bl,if_pos (hb.1 dh)]
 subst e;dsimp only;rw [dD (by grind),ba (by omega)];exact hS _ (by rw [hI,List.range_succ,pG]; rfl)
theorem ag1 (h:cL nt) (o:bU nt s) (hn:1048576<n):vT.f n nt s k=some (l_ nt s k,()):=by
 by_cases hk:0≤k∧k<(nt.1.length:Int)
 ·obtain ⟨j,rfl⟩:∃ j:Nat,k=(j:Int):=⟨k.toNat,by omega⟩
  rw [agY h o (by omega) hn,agW (by omega)]
 have hz:l_ nt s k=false:=by unfold l_;exact decide_eq_false (fun hh=>hk ⟨hh.1,hh.2.1⟩)
 rw [hz];unfold vT.f zX.f;rw [D9 h (my o) hn,ua o];by_cases h0:0≤k
 ·have h1:¬ k<(nt.1.length:Int):=fun h1=>hk ⟨h0,h1⟩;simp only [aA,ax,aM h0,decide_eq_false h1,aw]
 simp only [aA,ax,au h0,aw]
theorem ag2 (h:cL nt) (o:bU nt s) (hn:1048576<n) :
  AR.f n nt s k=some (if l_ nt s k=true then (eY nt s k.toNat,true,()) else (([],[],[],0),false,())):=by
 have hs:=my o;unfold AR.f;rw [ag1 h o hn,aq];cases hc:l_ nt s k
 ·rfl
 simp only [bo,aw];have tM:=hc;unfold l_ at tM;simp only [decide_eq_true_eq] at tM;obtain ⟨h0,h1,h2⟩:=tM;obtain ⟨j,rfl⟩:∃ j:Nat,k=(j:Int):=⟨k.toNat,by omega⟩
 rw [az] at h2 ⊢;rw [Cg hs hn,aq];dsimp only;rw [Kj o hs (by omega) h2 hn,aq];rfl
noncomputable def oH (nt:ak) (k:Int) (ts:List Int):ak×(Bool×Unit):=if 0≤k∧k<(nt.2.length:Int)∧cr (uL nt k.toNat ts)=true then (uL nt k.toNat ts,true,()) else (([],[]),false,())
theorem YI (h:(oH nt k ts).2.1=true):cQ (oH nt k ts).1:=by
 unfold oH at h ⊢;split at h
 ·rename_i h1;rw [if_pos h1]; exact EC h1.2.2
 grind
theorem YJ {j:Nat} (hj:j<nt.2.length):oH nt (j:Int) ts=if cr (uL nt j ts)=true then (uL nt j ts,true,()) else (([],[]),false,()):=by
 unfold oH
 grind
theorem ag3 (h:cL nt) (o:cQ nt) (ht:ts.length≤1000) (hn:1048576<n):Yz.f n nt k ts=some (oH nt k ts):=by
 refine eM.1 ?_;unfold Yz.f;rw [tW h hn,aq,fB];refine bA (P:=fun s=>∃ b:Bool,s=Sum.inr (b,())∧(b=false↔0≤k∧k<(nt.2.length:Int))) ?_ (fun s ⟨b,e,hl⟩=>?_)
 ·rw [Kk o];simp only [bo,aw];rw [cZ];exact ⟨fun _=>ao.2 ⟨_,rfl,fun h=>(by cases h),fun h=>(by omega)⟩,fun h1=>ao.2 ⟨_,rfl,fun h=>⟨by omega,by grind⟩,fun h=>decide_eq_false (by omega)⟩⟩
 subst e;dsimp only;rw [cC];refine ⟨fun hb=>ao.2 ?_,fun hb=>?_⟩
 ·unfold oH
  grind
 obtain ⟨k0,k1⟩:=hl.1 hb;obtain ⟨j,rfl⟩:∃ j:Nat,k=(j:Int):=⟨k.toNat,by omega⟩
 have hj:j<nt.2.length:=by omega
 have hg:=(pz (o.j7 j hj)).1;rw [← aU hj ay] at hg;rw [K6 h hn,aq];dsimp only;simp only [az];rw [af (by omega),agR (by omega) (by omega) hn,aq];dsimp only;rw [af (by omega)];have e:(nt.1,nt.2.set j ((nt.2.getD j ay).1,(nt.2.getD j ay).2.1,(nt.2.getD j ay).2.2.1,(nt.2.getD j ay).2.2.2.1,(nt.2.getD j ay).2.2.2.2++ts))=uL nt j ts:=rfl;rw [e,Yy (YC h hj (by omega)) hn,aA,YJ hj];cases hc:cr (uL nt j ts)<;>exact ao.2 rfl
theorem ag4 (h:cL nt) (o:cQ nt) (ht:ts.length≤1000) (hn:1048576<n):AN.f n nt k ts=some (oH nt k ts):=by
 have hl:=o.dp;refine eM.1 ?_;unfold AN.f;rw [sb h hn,aq,Kk o];simp only [bo,aw];rw [n_,aq,bM (by omega) (by omega),bg];dsimp only;rw [vm];refine ⟨fun hb=>ao.2 ?_,fun hb=>?_⟩
 ·unfold oH
  grind
 rw [aB,decide_eq_true_eq,decide_eq_true_eq] at hb;obtain ⟨j,rfl⟩:∃ j:Nat,k=(j:Int):=⟨k.toNat,by omega⟩
 have hj:j<nt.2.length:=by omega
 have hg:=(pz (o.j7 j hj)).1;rw [← aU hj ay] at hg;rw [K7 h hn,aq];dsimp only;simp only [az];rw [af (by omega),dD (by omega),af (by omega),iC];have e:(nt.1,nt.2.set j ((nt.2.getD j ay).1,(nt.2.getD j ay).2.1,(nt.2.getD j ay).2.2.1,(nt.2.getD j ay).2.2.2.1,(nt.2.getD j ay).2.2.2.2++ts))=uL nt j ts:=rfl;rw [e,sb (YC h hj (by omega)) hn,aq,YJ hj];cases hc:cr (uL nt j ts)<;>exact ao.2 rfl
end Go.AmT
namespace Go.AmT
open Go.Proofs Go.Proofs.Tryz
abbrev bR:Type:=ak×(State×List Int)
def vU.f (n:Nat) (a0:bR):Option (Bool×Unit):=(mq.f n a0.1 a0.2.1).bind fun r1=>br r1.1 ((vt.f n a0.1 a0.2.2).bind fun r2=>some (r2.1,())) (some (false,()))
def vU.ae (n:Nat):ar:=⟨[.val gh],[.val .bool],fun x=>vU.f n x.1⟩
theorem vU.ok (n:Nat):aH 36 (vU.ae n):=aJ n [] [] (ai (mq.ok n) (ai (vt.ok n) aC)) aD func36
def vV.f (n:Nat) (a0 a1:BB):Option (Bool×Unit):=br (decide ((a1.length:Int)≤(a0.length:Int))) (ab ((0:Int)≤0∧(0:Int)≤(a1.length:Int)∧(a1.length:Int)≤(a0.length:Int)) (some (decide (((a0.take (a1.length:Int).toNat).drop 0)=a1),()))) (some (false,()))
def vV.ae (n:Nat):ar:=⟨[.val .str,.val .str],[.val .bool],fun x=>vV.f n x.1 x.2.1⟩
theorem vV.ok (n:Nat):aH 206 (vV.ae n):=aJ n [] [] aC aD func206
def AU.f (n:Nat) (a0 a1:BB):Option ((BB)×Bool×Unit):=(vV.f n a0 a1).bind fun r1=>br (!r1.1) (some (a0,false,())) (ab (0≤(a1.length:Int)∧(a1.length:Int)≤(a0.length:Int)∧(a0.length:Int)≤(a0.length:Int)) (some ((a0.take (a0.length:Int).toNat).drop (a1.length:Int).toNat,true,())))
def AU.ae (n:Nat):ar:=⟨[.val .str,.val .str],[.val .str,.val .bool],fun x=>AU.f n x.1 x.2.1⟩
theorem AU.ok (n:Nat):aH 150 (AU.ae n):=aJ n [] [] (ai (vV.ok n) aC) aD func150
def vW.f (n:Nat) (a0 a1:BB):Option ((BB)×Bool×Unit):=(AU.f n a0 a1).bind fun r1=>some (r1.1,r1.2.1,())
def vW.ae (n:Nat):ar:=⟨[.val .str,.val .str],[.val .str,.val .bool],fun x=>vW.f n x.1 x.2.1⟩
theorem vW.ok (n:Nat):aH 88 (vW.ae n):=aJ n [] [] (ai (AU.ok n) aC) aD func88
def CB.f (n:Nat) (a0 a1:BB):Option ((BB)×Unit):=(vV.f n a0 a1).bind fun r1=>br r1.1 (ab (0≤(a1.length:Int)∧(a1.length:Int)≤(a0.length:Int)∧(a0.length:Int)≤(a0.length:Int)) (some ((a0.take (a0.length:Int).toNat).drop (a1.length:Int).toNat,()))) (some (a0,()))
def CB.ae (n:Nat):ar:=⟨[.val .str,.val .str],[.val .str],fun x=>CB.f n x.1 x.2.1⟩
theorem CB.ok (n:Nat):aH 218 (CB.ae n):=aJ n [] [] (ai (vV.ok n) aC) aD func218
def yl.f (n:Nat) (a0 a1:BB):Option ((BB)×Unit):=(CB.f n a0 a1).bind fun r1=>some (r1.1,())
def yl.ae (n:Nat):ar:=⟨[.val .str,.val .str],[.val .str],fun x=>yl.f n x.1 x.2.1⟩
theorem yl.ok (n:Nat):aH 160 (yl.ae n):=aJ n [] [] (ai (CB.ok n) aC) aD func160
def qH.f (n:Nat) (a0:List (BB)):Option (List Int×Bool×Unit):=iter n (fun oc x9=>br (decide (x9.1<(a0.length:Int))) (ab (0≤x9.1∧x9.1<(a0.length:Int)) ((fi.f n (a0.getD x9.1.toNat [])).bind fun cW=>cut (br (!cW.2.1) (some (.inr (true,()))) ((yl.f n (a0.getD x9.1.toNat []) ([45]:BB)).bind fun ie=>some (.inr (decide (9<(ie.1.length:Int)),())))) fun vC=>br vC.1 (some ([],false,())) (ab ((x9.2.1.length+([cW.1]:List Int).length)*8≤bn) (oc (ag (x9.1+1),x9.2.1++[cW.1],()))))) (some (x9.2.1,true,()))) (0,[],())
def qH.ae (n:Nat):ar:=⟨[.val (.sl .str)],[.val IS,.val .bool],fun x=>qH.f n x.1⟩
theorem qH.ok (n:Nat):aH 92 (qH.ae n):=aJ n [(4,⟨[(4,.own 1000 I),(12,.int .i64)],[(1000,.row true I)],[10,11],[]⟩),(10,⟨[(28,.bool)],[],[4,7,10,11,12],[]⟩)] [] (ai (fi.ok n) (ai (yl.ok n) aC)) aD func92
end Go.AmT
namespace Go.AmT
open Go.Proofs Go.Proofs.Tryz Go.RowKit
def vX.f (n:Nat) (a0 a1 a2:BB):Option (BB×Unit):=GB a0 a1 a2
def vX.ae (n:Nat):ar:=⟨[.val .str,.val .str,.val .str],[.val .str],fun x=>vX.f n x.1 x.2.1 x.2.2.1⟩
theorem vX.av:ck aL 91:=cD func91 (by kernel_rfl) (by kernel_rfl)
theorem vX.sound (n:Nat):Sound aL 91 (vX.ae n):=adw (b:=0) (by kernel_rfl) (fun s o r m w hs hm h1 h2=>Tryz.strings_ReplaceAll s o r m w hs hm h1 h2)
theorem ag5 {n:Int} (h0 : -9223372036854775808≤n) (h1:n<9223372036854775808):(Lit.int .i64 n).wf=true:=WalkArith.wf_i64 (by omega)
set_option maxHeartbeats 4000000 in
set_option maxRecDepth 1000000 in
theorem ag6 (n:Int) (h0 : -9223372036854775808≤n) (h1:n<9223372036854775808) (w:World):Calls aL 170 #[.int .i64 n] w fun e w'=>e = .returned (.string ⟨(rf n).toArray⟩)∧Below w.heap.size w w':=by
 have hmm:=@run_makeMap aL;have ho0:(w.alloc (.map #[] 0)).ownsMap (H:=Unit) aL 3 (plainElem aL 9) w.heap.size 0 (.map []):=World.ownsMap_made _ _ _ _
 go_enter func170,Tryz.ntmps170
 go_wp2_with (first
  | (refine Oq _ rfl _ _ _ 241 rfl 3 9 (K8 np) La _ _ 0 _ rfl ho0 (by unfold maxLen; omega) _ _ _ rfl rfl (K9 np (by decide)) _ [] (plainElem_string rz (by decide)) ?_; intro w1 iO Gt)
  | (refine Oq _ rfl _ _ _ 241 rfl 3 9 (K8 np) La _ _ 1 _ rfl iO (by unfold maxLen; omega) _ _ _ rfl rfl (K9 np (by decide)) _ [] (plainElem_string rz (by decide)) ?_; intro w2 tN Gu)
  | (refine Oq _ rfl _ _ _ 241 rfl 3 9 (K8 np) La _ _ 2 _ rfl tN (by unfold maxLen; omega) _ _ _ rfl rfl (K9 np (by decide)) _ [] (plainElem_string rz (by decide)) ?_; intro w3 ho3 hg3)
  | (refine adv w3 rfl _ _ 241 rfl 3 9 (K8 np) La rz (by kernel_rfl) _ 3 _ rfl ho3 _ _ rfl (K9 np (ag5 h0 h1)) (rf n) (adx n) ?_))
 go_ret
 refine ⟨rfl,?_⟩;have b0:Below w.heap.size w (w.alloc (.map #[] 0)):=UN w _;exact Ot (Ot (Ot b0 Gt (Nat.le_refl _)) Gu (Nat.le_refl _)) hg3 (Nat.le_refl _)
def sP.f (n:Nat) (a0:Int):Option (BB×Unit):=GC a0
def sP.ae (n:Nat):ar:=⟨[.val (.int .i64)],[.val .str],fun x=>sP.f n x.1⟩
theorem sP.av:ck aL 170:=cD func170 (by kernel_rfl) (by kernel_rfl)
theorem sP.sound (n:Nat):Sound aL 170 (sP.ae n):=ady (fun m h0 h1 w=>ag6 m h0 h1 w)
def CC.f (n:Nat) (a0:BB):Option (List Int×Bool×Unit):=br (decide (a0=([46]:BB))) (some ([],true,())) ((iE.f n a0 ([44]:BB)).bind fun r1=>iter n (fun G6 j9=>br (decide (j9.1<(r1.1.length:Int))) (ab (0≤j9.1∧j9.1<(r1.1.length:Int)) (let jr:=(r1.1.getD j9.1.toNat []); (fi.f n jr).bind fun ie=>br (!ie.2.1) (some ([],false,())) (ab ((j9.2.1.length+([ie.1]:List Int).length)*8≤bn) (G6 (ag (j9.1+1),j9.2.1++[ie.1],()))))) ((fb.f n j9.2.1).bind fun dz=>br (!dz.1) (some ([],false,())) (some (j9.2.1,true,())))) (0,[],()))
def CC.ae (n:Nat):ar:=⟨[.val .str],[.sh IS,.val .bool],fun x=>CC.f n x.1⟩
theorem CC.ok (n:Nat):aH 93 (CC.ae n):=aJ n [(7,⟨[(4,.own 1000 I),(15,.int .i64)],[(1000,.row true I)],[13,14],[]⟩)] [] (ai ⟨iE.sound n,iE.av⟩ (ai (fi.ok n) (ai ⟨fb.sound n,fb.av⟩ aC))) aD func93
end Go.AmT
namespace Go.AmT
variable {d:bR} {n:Nat} {s:BB} {x:Int}
def kC (a b:UInt8) (s:BB):BB:=s.map fun c=>if c=a then b else c
theorem Q7 (a b:UInt8):∀ s:BB,Lib.replaceK [a] [b] (Lib.count s [a]) s=kC a b s
 | []=>by rw [Q5 (by simp [jN])]; rfl
 | x::xs=>by
  by_cases h:x=a
  ·subst h;have B1:jN (x::xs) [x]=((0:Nat):Int):=by rw [jN]; simp [List.isPrefixOf]
   rw [Lib.count_cons_eq,Nat.add_comm,Q6 _ _ _ _ 0 B1];have ih:=Q7 x b xs;simp only [List.take_zero,List.nil_append,nE,Nat.zero_add,List.drop_one,List.tail_cons];rw [ih];unfold kC
   grind
  rw [Lib.count_cons_ne x a xs h];have ih:=Q7 a b xs;have e:kC a b (x::xs)=x::kC a b xs:=by unfold kC; rw [mM,if_neg h]
  have hp:([a]:BB).isPrefixOf (x::xs)=false:=by simp [List.isPrefixOf,Ne.symm h]
  have B1:jN (x::xs) [a]=if jN xs [a]==-1 then -1 else jN xs [a]+1:=by rw [jN,hp]; simp
  rw [e];by_cases hm:jN xs [a] = -1
  ·rw [Q5 hm] at ih ⊢;rw [← ih]; rfl
  have Dz:=Lib.index_ge xs [a];obtain ⟨j,hj⟩:∃ j:Nat,jN xs [a]=j:=⟨(jN xs [a]).toNat,by omega⟩
  have N7:jN (x::xs) [a]=((j+1:Nat):Int):=by rw [B1,if_neg (fun e=>hm (beq_iff_eq.1 e)),hj]; omega
  rw [Lib.count_hit (by simp) hj,Nat.add_comm] at ih ⊢;rw [Q6 _ _ _ _ (j+1) N7,← ih,Q6 _ _ _ _ j hj];simp
theorem ag7 {a b:UInt8} (h:a≠b) (s:BB):Lib.replaceAll s [a] [b]=kC a b s:=by unfold Lib.replaceAll Lib.replace Lib.replaceNum;rw [if_neg (by simp [h]),if_pos (.inl (by decide))];exact Q7 a b s
theorem Q8 (a b:UInt8) (s:BB):(kC a b s).length=s.length:=by simp [kC]
theorem count_le (a:UInt8):∀ s:BB,Lib.count s [a]≤s.length
 | []=>by rw [Q5 (by simp [jN])]; simp
 | x::xs=>by
  have ih:=count_le a xs;by_cases h:x=a
  ·subst h;rw [Lib.count_cons_eq,List.length_cons]; omega
  rw [Lib.count_cons_ne x a xs h,List.length_cons]; omega
structure fP (d:bR):Prop where
 st:bU d.1 d.2.1
 caps:eQ d.1.2 d.2.2=true
 small:cL d.1
theorem fP.rJ (h:fP d):gP d.2.1:=my h.st
theorem fP.ym (h:fP d):d.2.2.length≤1048576:=by have h1:=rv h.caps;have h2:=h.st.cb.dp;omega
theorem ag8 (h:fP d) (hn:1048576<n):vU.f n d=some (true,()):=by unfold vU.f;rw [B8 h.small h.rJ hn,aq];simp only [ua h.st,ax];rw [OG h.small h.ym hn,aq];simp only [Kk h.st.cb,h.caps]; rfl
theorem Q9 (s p:BB):vV.f n s p=some (decide (s.take p.length=p),()):=by
 unfold vV.f;by_cases h:p.length≤s.length
 ·rw [aM (by omega),af (by omega),List.drop_zero,az]
 rw [au (by omega),decide_eq_false]
 grind
theorem ag9 (p t:BB):vW.f n (p++t) p=some (t,true,()):=by unfold vW.f AU.f;rw [Q9,aq];dsimp only;rw [List.take_left,decide_eq_true rfl];simp only [bo,aw];rw [af (by grind)];simp only [aA,az,List.take_length,List.drop_left]
theorem aha {s p:BB} (h:s.take p.length≠p):vW.f n s p=some (s,false,()):=by unfold vW.f AU.f;rw [Q9,aq];dsimp only;rw [decide_eq_false h]; rfl
abbrev Ra:BB:=[99,97,112,115]
abbrev Rb:BB:=[116,117,114,110,115]
abbrev Rc:BB:=[98,111,117,110,100,101,100]
abbrev Lb:BB:=[108,101,97,115,116]
abbrev Ld:BB:=[115,101,110,116]
theorem YK {nt:ak} (o:cQ nt) {c:Int} (h0:0≤c) (h1:c≤400):eQ nt.2 (vJ nt c)=true:=by
 unfold vJ;rw [Kk o,decide_eq_true (show 0≤c∧c≤400 from ⟨h0,h1⟩)];simp only [Bool.and_self,if_true];unfold eQ;rw [aB,decide_eq_true_eq,List.all_eq_true];refine ⟨by simp,fun j hj=>?_⟩;have hj:=List.mem_range.1 hj;rw [List.length_map] at hj;have ht:=(pz (o.j7 j hj)).1
 grind
theorem ahb {nt:ak} (o:cQ nt) (hS:cL nt) {c:Int} (h0:0≤c) (h1:c≤400):fP (nt,start nt,vJ nt c):=⟨VX o,YK o h0 h1,hS⟩
noncomputable def eC (s:BB):Option Int:=if aj (Hx s)=s∧-999999999≤Hx s∧Hx s≤999999999 then some (Hx s) else none
theorem YL (h0 : -999999999≤x) (h1:x≤999999999):eC (aj x)=some x:=by unfold eC;rw [Qp,if_pos ⟨rfl,h0,h1⟩]
theorem YM {s:BB} (h:eC s=some x):aj x=s∧-999999999≤x∧x≤999999999:=by
 unfold eC at h
 grind
theorem Re {s:BB} (h:∀ x,-999999999≤x→x≤999999999→s≠aj x):eC s=none:=by
 unfold eC
 grind
theorem YN (u:Nat):(fU u).length≤9↔u≤999999999:=by
 constructor
 ·intro h;have h1:=KO (fU u) (Qo u);have h2:10 ^ (fU u).length≤10 ^ 9:=Nat.pow_le_pow_right (by omega) h;rw [Qn] at h1;omega
 intro h;exact xW 8 u (by omega)
theorem ahc (x:Int):W (yl.f n (aj x) [45]) (fun r=>r.1=fU x.natAbs):=by
 have e:∀ s:BB,W (yl.f n s [45]) (fun r=>r.1=if s.take 1=[45] then s.drop 1 else s):=fun s=>by
  unfold yl.f CB.f;rw [Q9,aq];dsimp only;by_cases h:s.take 1=[45]
  ·have hl:1≤s.length:=by have:=congrArg List.length h;rw [List.length_take] at this;simp at this; omega
   rw [decide_eq_true (show s.take ([45]:BB).length=[45] from h),ax,af (by grind),if_pos h];exact ao.2 (by simp_all)
  rw [decide_eq_false (show ¬ s.take ([45]:BB).length=[45] from h),if_neg h];exact ao.2 rfl
 refine bA (e _) (fun r hr=>?_);rw [hr];unfold aj;by_cases hx:x<0
 ·grind
 rw [if_neg hx,show x.natAbs=x.toNat by omega,if_neg (fun h=>?_)];have hd:=Qo x.toNat;cases hD:fU x.toNat with
 | nil=>grind
 | cons c l=>
  simp_all
theorem HL {L:List (BB)} (hL:L.length≤1048576) (hp:∀ p∈L,p.length≤1048576) (hn:1048576<n):W (qH.f n L) (fun r=>(r.2.1=true→L.map eC=r.1.map some)∧(r.2.1=false→∃ p∈L,eC p=none)):=by
 unfold qH.f;refine gu (fun (i:Nat) (o:List Int)=>((i:Int),o,())) L.length (fun i o=>o.length=i∧(L.take i).map eC=o.map some) (s0:=[]) rfl ⟨rfl,by simp⟩ (by omega) (fun ih o hI=>?_) (fun ih i o hi hI hS=>?_)
 ·have h2:=hI.2;rw [List.take_length] at h2;simp only [au (bH _)];exact ao.2 ⟨fun _=>h2,fun h=>(by cases h)⟩
 simp only [aM (show (i:Int)<(L.length:Int) by omega),az];have hm:L.getD i []∈L:=by rw [aU hi]; exact List.getElem_mem _
 have hq:=hp _ hm;have hl:=hI.1;rw [af (by omega),dt];refine bA (Xu hq) (fun r hr=>?_);rw [fB];refine bA (P:=fun s=>∃ b:Bool,s=Sum.inr (b,())∧(b=false→eC (L.getD i [])=some r.1)∧(b=true→eC (L.getD i [])=none)) ?_ (fun s ⟨b,e,hb,dh⟩=>?_)
 ·rw [vm];refine ⟨fun h=>ao.2 ⟨true,rfl,fun h=>(by cases h),fun _=>Re (fun x h0 h1=>hr.no h h0 h1)⟩,fun h=>?_⟩;have e:=hr.yes h;rw [dt,← e];refine bA (ahc _) (fun r2 h2=>ao.2 ⟨_,rfl,fun h3=>?_,fun h3=>?_⟩)
  ·have h3:=of_decide_eq_false h3;rw [h2] at h3;have:=(YN r.1.natAbs).1 (by omega);exact YL (by omega) (by omega)
  have h3:=of_decide_eq_true h3;rw [h2] at h3;refine Re (fun x h0 h1 e=>?_);rw [Hy e] at h3;have:=(YN x.natAbs).2 (by omega);omega
 subst e;dsimp only;rw [cC];refine ⟨fun h=>ao.2 ⟨fun h=>(by cases h),fun _=>⟨_,hm,dh h⟩⟩,fun h=>?_⟩;rw [dD (by grind),ba (by omega)];refine hS _ ⟨by grind,?_⟩;rw [List.take_succ_eq_append_getElem hi,pG,hI.2,pG]
 grind
theorem YO {b:BB} (hb:b.length≤1048576) (hn:1048576<n) (h:eC b=some x):qH.f n [b]=some ([x],true,()):=by
 refine eM.1 (bA (HL (by simp) (by grind) hn) (fun r ⟨h1,h2⟩=>?_));obtain ⟨l,c,⟨⟩⟩:=r;cases c
 ·grind
 have:=h1 rfl;simp only [mM,List.map_nil,h] at this
 match l,this with
 | [y],e=>grind
 | [],e=>grind
 | _::_::_,e=>grind
theorem ahd {b c:BB} {y:Int} (hb:b.length≤1048576) (hc:c.length≤1048576) (hn:1048576<n) (h:eC b=some x) (h':eC c=some y):qH.f n [b,c]=some ([x,y],true,()):=by
 refine eM.1 (bA (HL (by simp) (by grind) hn) (fun r ⟨h1,h2⟩=>?_));obtain ⟨l,d,⟨⟩⟩:=r;cases d
 ·grind
 have:=h1 rfl;simp only [mM,List.map_nil,h,h'] at this
 match l,this with
 | [u,v],e=>grind
 | [],e=>grind
 | [_],e=>grind
 | _::_::_::_,e=>grind
theorem YP {L:List (BB)} (hL:L.length≤1048576) (hp:∀ p∈L,p.length≤1048576) (hn:1048576<n) (h:∃ p∈L,eC p=none):∃ l,qH.f n L=some (l,false,()):=by
 obtain ⟨⟨l,c,⟨⟩⟩,e,h1,h2⟩:=HL hL hp hn;cases c
 ·grind
 obtain ⟨p,hm,e⟩:=h;have h1:=h1 rfl;have:none∈L.map eC:=List.mem_map.2 ⟨p,hm,e⟩
 grind
end Go.AmT
