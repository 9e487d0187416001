/- What draws networks, in plain Lean: all that is drawn is small. -/
import Derived.Test.YtfoamipegmbcgaaGreatDoorLGen
namespace Go.AmT
open Go Go.Am
set_option linter.unusedVariables false
set_option linter.unusedSimpArgs false
def ct (b:List Int) (c:List Int×(Int×(Int×Unit))):Prop:=c.1=b∧0≤c.2.1∧c.2.1≤(b.length:Int)
theorem N4 (x:Int):0≤nK .and .i64 x 255∧nK .and .i64 x 255≤255:=by
 have h:(BitVec.ofInt IntKind.i64.bits x&&& BitVec.ofInt IntKind.i64.bits 255).toNat≤255:=by
  rw [BitVec.toNat_and]
  exact Nat.le_trans Nat.and_le_right (by decide)
 have e:nK .and .i64 x 255=ag (((BitVec.ofInt IntKind.i64.bits x&&& BitVec.ofInt IntKind.i64.bits 255).toNat:Nat):Int):=by
  exact Ji _
 rw [e,bo (by omega) (by omega)]
 omega
theorem N5 {n:Nat} {b:List Int} (hb:b.length≤1048576) (hn:1048576<n):W (mE.f n b) (fun r=>ct b r):=by
 unfold mE.f
 refine qD (fun x=>0≤x.2.1∧x.2.1≤4000) (fun x=>(4000-x.2.1).toNat) (fun ih x hx hS=>?_) (by exact ⟨Int.le_refl _,by show (0:Int)≤4000; omega⟩) (by show (4000-(0:Int)).toNat<n; omega)
 obtain ⟨h,i,⟨⟩⟩:=x
 simp only at hx
 by_cases h1:i<(b.length:Int)
 ·by_cases h2:i<4000
  ·simp only [aZ h1,bF,decide_eq_true h2,aL]
   rw [ah (by omega),bo (n:=i+1) (by omega) (by omega)]
   exact hS _ (by simp only; omega) (by simp only; omega)
  ·simp only [aZ h1,bF,decide_eq_false h2,aF]
   rw [aj]
   exact ⟨rfl,Int.le_refl _,by simp only; omega⟩
 ·simp only [aK h1,bF,aF]
  rw [aj]
  exact ⟨rfl,Int.le_refl _,by simp only; omega⟩
theorem B4 {n:Nat} {b:List Int} (hb:b.length≤1048576) {c:List Int×(Int×(Int×Unit))} (hc:ct b c):W (kN.f n c.1 c.2.1 c.2.2.1) (fun r=>(0≤r.1∧r.1≤255)∧ct b r.2):=by
 obtain ⟨c,i,h,⟨⟩⟩:=c
 obtain ⟨e,h0,h1⟩:=hc
 simp only at e h0 h1
 subst e
 unfold kN.f
 simp only
 rw [if_neg (by omega),if_neg (by omega)]
 by_cases h2:i<(c.length:Int)
 ·rw [aZ h2,ah (by omega),aj,bo (n:=i+1) (by omega) (by omega)]
  exact ⟨N4 _,rfl,by show (0:Int)≤i+1; omega,by show i+1≤(c.length:Int); omega⟩
 ·rw [aK h2,aj]
  exact ⟨N4 _,rfl,h0,h1⟩
theorem eI {n:Nat} {b:List Int} (hb:b.length≤1048576) {k:Int} {c:List Int×(Int×(Int×Unit))} (hc:ct b c):W (bX.f n k c.1 c.2.1 c.2.2.1) (fun r=>(0≤r.1∧(0<k→r.1<k)∧(k≤0→r.1=0))∧ct b r.2):=by
 unfold bX.f
 by_cases h0:k≤0
 ·rw [aZ h0,aj]
  exact ⟨⟨Int.le_refl _,fun h=>absurd h (by omega),fun _=>rfl⟩,hc⟩
 ·rw [aK h0]
  by_cases h1:k≤256
  ·rw [aZ h1,aB]
   refine au (B4 hb hc) (fun r ⟨h2,h3⟩=>?_)
   rw [if_neg (by omega),aj]
   refine ⟨⟨Int.tmod_nonneg _ h2.1,fun _=>Int.tmod_lt_of_pos _ (by omega),fun h=>absurd h (by omega)⟩,h3⟩
  ·rw [aK h1,aB]
   refine au (B4 hb hc) (fun r3 ⟨a3,h3⟩=>?_)
   rw [aB]
   refine au (B4 hb h3) (fun r4 ⟨a4,h4⟩=>?_)
   rw [aB]
   refine au (B4 hb h4) (fun r5 ⟨a5,h5⟩=>?_)
   rw [aB]
   refine au (B4 hb h5) (fun r6 ⟨a6,h6⟩=>?_)
   rw [if_neg (by omega),aj]
   rw [bo (n:=r3.1*16777216) (by omega) (by omega),bo (n:=r4.1*65536) (by omega) (by omega),bo (n:=r5.1*256) (by omega) (by omega),bo (n:=r3.1*16777216+r4.1*65536) (by omega) (by omega),bo (n:=r3.1*16777216+r4.1*65536+r5.1*256) (by omega) (by omega),bo (n:=r3.1*16777216+r4.1*65536+r5.1*256+r6.1) (by omega) (by omega)]
   exact ⟨⟨Int.tmod_nonneg _ (by omega),fun _=>Int.tmod_lt_of_pos _ (by omega),fun h=>absurd h (by omega)⟩,h6⟩
theorem nF {n:Nat} {b:List Int} (hb:b.length≤1048576) {k:Int} {c:List Int×(Int×(Int×Unit))} (hc:ct b c):W (eW.f n k c.1 c.2.1 c.2.2.1) (fun r=>ct b r.2):=by
 unfold eW.f
 rw [aB]
 refine au (eI hb hc) (fun r ⟨_,h⟩=>?_)
 rw [aj]; exact h
theorem N6 {n:Nat} {b:List Int} (hb:b.length≤1048576) {l:List (List UInt8)} (hl:0<l.length) {c:List Int×(Int×(Int×Unit))} (hc:ct b c):W (iY.f n c.1 c.2.1 c.2.2.1 l) (fun r=>r.1∈l∧ct b r.2):=by
 unfold iY.f
 rw [aB]
 refine au (eI hb hc) (fun r ⟨⟨h0,h1,_⟩,h⟩=>?_)
 have h1:=h1 (by omega)
 rw [ah ⟨h0,h1⟩,aj]
 refine ⟨?_,h⟩
 rw [aH (by omega)]
 exact List.getElem_mem _
theorem tf {n:Nat} {b:List Int} (hb:b.length≤1048576) {l:List Int} (hl:0<l.length) {c:List Int×(Int×(Int×Unit))} (hc:ct b c):W (f_.f n c.1 c.2.1 c.2.2.1 l) (fun r=>r.1∈l∧ct b r.2):=by
 unfold f_.f
 rw [aB]
 refine au (eI hb hc) (fun r ⟨⟨h0,h1,_⟩,h⟩=>?_)
 have h1:=h1 (by omega)
 rw [ah ⟨h0,h1⟩,aj]
 refine ⟨?_,h⟩
 rw [aH (by omega)]
 exact List.getElem_mem _
theorem N7 {n:Nat} {b:List Int} (hb:b.length≤1048576) {c:List Int×(Int×(Int×Unit))} (hc:ct b c):W (mF.f n c.1 c.2.1 c.2.2.1) (fun r=>tok r.1=true∧ct b r.2):=by
 unfold mF.f
 rw [aB]
 refine au (nF hb hc) (fun r1 h1=>?_)
 rw [bH]
 refine ⟨fun _=>?_,fun _=>?_⟩
 ·rw [aB]
  refine au (tf hb (by simp) h1) (fun r2 ⟨hm,h2⟩=>?_)
  rw [aj]
  refine ⟨?_,h2⟩
  simp only [List.mem_cons,List.not_mem_nil,or_false] at hm
  unfold tok
  rcases hm with h | h | h | h | h<;>rw [h]<;>rfl
 ·rw [aB]
  refine au (eI hb h1) (fun r2 ⟨⟨a0,a1,_⟩,h2⟩=>?_)
  have a1:=a1 (by omega)
  rw [aj]
  refine ⟨?_,h2⟩
  simp only
  rw [bo (by omega) (by omega)]
  unfold tok
  simp only [Bool.and_eq_true,decide_eq_true_eq]
  omega
def zD (m:Nat) (l:List Int):Prop:=l.length≤m∧∀ x∈l,tok x=true
theorem N8 {n:Nat} {b:List Int} (hb:b.length≤1048576) {m:Nat} (hm:m≤1000) (hn:1048576<n) {c:List Int×(Int×(Int×Unit))} (hc:ct b c):W (nD.f n (m:Int) c.1 c.2.1 c.2.2.1) (fun r=>zD m r.1∧ct b r.2):=by
 unfold nD.f
 rw [bo (n:=(m:Int)+1) (by omega) (by omega),aB]
 refine au (eI hb hc) (fun r1 ⟨⟨a0,a1,_⟩,h1⟩=>?_)
 have a1:=a1 (by omega)
 refine qD (fun x=>0≤x.1∧x.1+(x.2.2.2.2.1.length:Int)≤(m:Int)∧(∀ y∈x.2.2.2.2.1,tok y=true)∧ct b (x.2.1,(x.2.2.1,(x.2.2.2.1,())))) (fun x=>x.1.toNat) (fun ih x hx hS=>?_) ⟨a0,by simp only [List.length_nil]; omega,by simp,h1⟩ (by show r1.1.toNat<n; omega)
 obtain ⟨k,cb,ci,ch,l,⟨⟩⟩:=x
 obtain ⟨k0,k1,k2,k3⟩:=hx
 simp only at k0 k1 k2 k3
 by_cases hk:0<k
 ·simp only [aZ hk]
  rw [aB]
  refine au (N7 (c:=(cb,(ci,(ch,())))) hb k3) (fun r2 ⟨t2,h2⟩=>?_)
  rw [bZ (by simp only [List.length_singleton]; omega),bo (n:=k-1) (by omega) (by omega)]
  refine hS _ ⟨by simp only; omega,by simp only [List.length_append,List.length_singleton]; omega,fun y hy=>?_,h2⟩ (by simp only; omega)
  rcases List.mem_append.1 hy with hy | hy
  ·exact k2 y hy
  ·rw [List.mem_singleton.1 hy]; exact t2
 ·simp only [aK hk]
  rw [aj]
  exact ⟨⟨by simp only; omega,k2⟩,k3⟩
theorem WR {n:Nat} {ins outs:Int} {l:List (List Int)} (hl:l.length≤1000) (hx:∀ x∈l,1≤x.length∧x.length≤1000) (hn:1048576<n):W (iD.f n ins outs l) (fun r=>r.1.1=ins∧r.1.2.1=outs∧r.1.2.2.length=l.length+1):=by
 unfold iD.f
 refine fA (fun i (c:List Instr)=>((i:Int),(ins,(outs,(c,()))))) l.length (fun i c=>c.length=i) (s0:=[]) rfl rfl (by omega) (fun ih c hI=>?_) (fun ih i c hi hI hS=>?_)
 ·have hI:c.length=l.length:=hI
  simp only [aK (Int.lt_irrefl _)]
  rw [bZ (by simp only [List.length_singleton]; omega),aj]
  exact ⟨rfl,rfl,by simp [hI]⟩
 ·have hI:c.length=i:=hI
  have e1:l.getD i []=l[i]:=aH hi _
  have zb:=hx _ (List.getElem_mem hi)
  simp only [aZ (show (i:Int)<(l.length:Int) by omega),Int.toNat_natCast,e1]
  rw [ah (by omega),Ed (by omega),Option.bind_some,bZ (by simp only [List.length_cons,List.length_nil]; omega)]
  have e2:(((l[i],()):List Int×Unit).1++[0,0,0]).length=l[i].length+3:=by simp
  have e3:∀ a:Instr,[a].length=1:=fun _=>rfl
  rw [e2,ah (by omega),ah (by omega),ah (by omega),ah (by omega),e3,bZ (by omega),bm (by omega)]
  exact hS _ (by simp [hI])
structure u9 (p:Program):Prop where
 ins:0≤p.1∧p.1≤3
 outs:0≤p.2.1∧p.2.1≤3
 io:p.1+p.2.1≤4
 code:p.2.2.length≤100
theorem N9 {n:Nat} {ins outs:Int} {l:List (List Int)} (h1:0≤ins∧ins≤3) (h2:0≤outs∧outs≤3) (h3:ins+outs≤4) (hl:l.length≤99) (hx:∀ x∈l,1≤x.length∧x.length≤1000) (hn:1048576<n) {Q:Program×Unit→Prop} (hQ:∀ p,u9 p→Q (p,())):W (iD.f n ins outs l) Q:=by
 refine au (WR (by omega) hx hn) (fun r ⟨e1,e2,e3⟩=>?_)
 obtain ⟨p,⟨⟩⟩:=r
 simp only at e1 e2 e3
 exact hQ p ⟨by rw [e1]; exact h1,by rw [e2]; exact h2,by rw [e1,e2]; exact h3,by omega⟩
theorem Oa {n:Nat} {s:List UInt8} (hn:1048576<n):W (q_.f n s) (fun r=>u9 r.1):=by
 unfold q_.f
 have hl:∀ (ins outs:Int) (l:List (List Int)),(0≤ins∧ins≤3)→(0≤outs∧outs≤3)→ins+outs≤4→l.length≤99→(∀ x∈l,1≤x.length∧x.length≤1000)→W ((iD.f n ins outs l).bind fun r1=>some (r1.1,())) (fun r=>u9 r.1):=by
  intro ins outs l a b i c d
  rw [aB]
  refine N9 a b i c d hn (fun p hp=>?_)
  rw [aj]; exact hp
 repeat' (first
  | (rw [bH]; refine ⟨fun _=>hl _ _ _ (by omega) (by omega) (by omega) (by simp) (by simp),fun _=>?_⟩))
 rw [aj]
 exact ⟨by simp,by simp,by simp,by simp⟩
def lI (m:Int) (l:List (List Int)):Prop:=(l.length:Int)≤m∧∀ x∈l,1≤x.length∧x.length≤1000
theorem lI.add {m:Int} {l:List (List Int)} {x:List Int} (h:lI m l) (hx:1≤x.length∧x.length≤1000):lI (m+1) (l++[x]):=by
 refine ⟨by rw [List.length_append,List.length_singleton]; have:=h.1; omega,fun y hy=>?_⟩
 rcases List.mem_append.1 hy with hy | hy
 ·exact h.2 y hy
 ·rw [List.mem_singleton.1 hy]; exact hx
theorem lI.le {m m':Int} {l:List (List Int)} (h:lI m l) (hm:m≤m'):lI m' l:=⟨Int.le_trans h.1 hm,h.2⟩
theorem WS {n:Nat} {b:List Int} (hb:b.length≤1048576) {ins outs:Int} (hi:0≤ins∧ins≤3) (ho:0≤outs∧outs≤3) (WT:ins+outs≤4) (hn:1048576<n) {c:List Int×(Int×(Int×Unit))} (hc:ct b c) :
  W (oA.f n ins outs c.1 c.2.1 c.2.2.1) (fun r=>u9 (r.1,(r.2.1,r.2.2.1))∧ct b r.2.2.2):=by
 unfold oA.f
 refine fA (fun i (x:(List Int×(Int×(Int×Unit)))×List (List Int))=>((i:Int),(x.1.1,(x.1.2.1,(x.1.2.2.1,(x.2,())))))) ins.toNat (fun i x=>ct b x.1∧lI i x.2) (s0:=(c,[])) rfl ⟨hc,by simp,by simp⟩ (by omega) (fun ih x hI=>?_) (fun ih i x Ob hI hS=>?_)
 rotate_left
 ·obtain ⟨h1,h2⟩:=hI
  simp only [aZ (show (i:Int)<ins by omega)]
  rw [aB]
  refine au (eI hb h1) (fun r ⟨_,h3⟩=>?_)
  have:=h2.1
  rw [bZ (by simp only [List.length_singleton]; omega),bm (by omega)]
  exact hS (r.2,_) ⟨h3,(h2.add (by simp)).le (by omega)⟩
 obtain ⟨h1,h2⟩:=hI
 simp only [aK (show ¬ ((ins.toNat:Nat):Int)<ins by omega)]
 rw [aB]
 refine au (eI hb h1) (fun dh ⟨⟨a0,a1,_⟩,h3⟩=>?_)
 have a1:=a1 (by omega)
 have h2:lI 3 x.2:=h2.le (by omega)
 refine qD (fun y=>0≤y.1∧y.1≤2∧ct b (y.2.1,(y.2.2.1,(y.2.2.2.1,())))∧lI (5-y.1) y.2.2.2.2.1) (fun y=>y.1.toNat) (fun ih y hy hS=>?_) ⟨a0,by simp only; omega,h3,h2.le (by simp only; omega)⟩ (by show dh.1.toNat<n; omega)
 obtain ⟨k,cb,ci,ch,l,⟨⟩⟩:=y
 obtain ⟨k0,k1,k2,k3⟩:=hy
 simp only at k0 k1 k2 k3
 by_cases hk:0<k
 ·simp only [aZ hk]
  rw [aB]
  refine au (tf (c:=(cb,(ci,(ch,())))) hb (by simp) k2) (fun eX ⟨_,WU⟩=>?_)
  rw [aB]
  refine au (eI hb WU) (fun kq ⟨_,WV⟩=>?_)
  rw [aB]
  refine au (eI hb WV) (fun zB ⟨_,WW⟩=>?_)
  rw [aB]
  refine au (eI hb WW) (fun u5 ⟨_,WX⟩=>?_)
  have:=k3.1
  rw [bZ (by simp only [List.length_singleton]; omega),bo (n:=k-1) (by omega) (by omega)]
  exact hS _ ⟨by simp only; omega,by simp only; omega,WX,(k3.add (by simp)).le (by simp only; omega)⟩ (by simp only; omega)
 ·have k3:lI 5 l:=k3.le (by omega)
  have kl:=k3.1
  simp only [aK hk]
  rw [aB]
  refine au (nF (c:=(cb,(ci,(ch,())))) hb k2) (fun ks Oc=>?_)
  rw [e_]
  have step1:W (br ks.1 ((bX.f n 4 ks.2.1 ks.2.2.1 ks.2.2.2.1).bind fun oB=>(bX.f n 7 oB.2.1 oB.2.2.1 oB.2.2.2.1).bind fun oC=>ab ((l.length+([[3,oB.1,(ag (oC.1-2))]]:List (List Int)).length)*24≤aW) (some (Sum.inr (α:=Int×(Int×(List Instr)×(List Int)×(Int×(Int×Unit)))) (oC.2.1,(oC.2.2.1,(oC.2.2.2.1,((l++[[3,oB.1,(ag (oC.1-2))]]),()))))))) (some (.inr (ks.2.1,(ks.2.2.1,(ks.2.2.2.1,(l,())))))))
    (fun s=>∃ y:List Int×(Int×(Int×(List (List Int)×Unit))),s = .inr y∧ct b (y.1,(y.2.1,(y.2.2.1,())))∧lI 6 y.2.2.2.1):=by
   rw [bH]
   refine ⟨fun _=>?_,fun _=>?_⟩
   ·rw [aB]
    refine au (eI hb Oc) (fun oB ⟨_,WY⟩=>?_)
    rw [aB]
    refine au (eI hb WY) (fun oC ⟨_,JV⟩=>?_)
    rw [bZ (by simp only [List.length_singleton]; omega),aj]
    exact ⟨_,rfl,JV,(k3.add (by simp)).le (by omega)⟩
   ·rw [aj]
    exact ⟨_,rfl,Oc,k3.le (by omega)⟩
  refine au step1 (fun s hs=>?_)
  obtain ⟨q7,rfl,Od,Er⟩:=hs
  obtain ⟨cb,ci,ch,l,⟨⟩⟩:=q7
  simp only at Od Er ⊢
  have kl:=Er.1
  rw [aB]
  refine au (nF (c:=(cb,(ci,(ch,())))) hb Od) (fun lH Oe=>?_)
  rw [e_]
  have step2:W (br lH.1 ((f_.f n lH.2.1 lH.2.2.1 lH.2.2.2.1 ([9,10]:List Int)).bind fun oD=>(bX.f n 4 oD.2.1 oD.2.2.1 oD.2.2.2.1).bind fun kJ=>(bX.f n 2 kJ.2.1 kJ.2.2.1 kJ.2.2.2.1).bind fun jR=>ab ((l.length+([[oD.1,kJ.1,(ag ((ag ((l.length:Int)+1))+jR.1))]]:List (List Int)).length)*24≤aW) (some (Sum.inr (α:=Int×(Int×(List Instr)×(List Int)×(Int×(Int×Unit)))) (jR.2.1,(jR.2.2.1,(jR.2.2.2.1,((l++[[oD.1,kJ.1,(ag ((ag ((l.length:Int)+1))+jR.1))]]),()))))))) (some (.inr (lH.2.1,(lH.2.2.1,(lH.2.2.2.1,(l,())))))))
    (fun s=>∃ y:List Int×(Int×(Int×(List (List Int)×Unit))),s = .inr y∧ct b (y.1,(y.2.1,(y.2.2.1,())))∧lI 7 y.2.2.2.1):=by
   rw [bH]
   refine ⟨fun _=>?_,fun _=>?_⟩
   ·rw [aB]
    refine au (tf hb (by simp) Oe) (fun oD ⟨_,WZ⟩=>?_)
    rw [aB]
    refine au (eI hb WZ) (fun kJ ⟨_,W_⟩=>?_)
    rw [aB]
    refine au (eI hb W_) (fun jR ⟨_,W1⟩=>?_)
    rw [bZ (by simp only [List.length_singleton]; omega),aj]
    exact ⟨_,rfl,W1,(Er.add (by simp)).le (by omega)⟩
   ·rw [aj]
    exact ⟨_,rfl,Oe,Er.le (by omega)⟩
  refine au step2 (fun s hs=>?_)
  obtain ⟨zC,rfl,Of,Im⟩:=hs
  obtain ⟨cb,ci,ch,l,⟨⟩⟩:=zC
  simp only at Of Im ⊢
  have kl:=Im.1
  refine fA (fun i (x:(List Int×(Int×(Int×Unit)))×List (List Int))=>((i:Int),(x.1.1,(x.1.2.1,(x.1.2.2.1,(x.2,())))))) outs.toNat (fun i x=>ct b x.1∧lI (7+2*i) x.2) (s0:=((cb,(ci,(ch,()))),l)) rfl ⟨Of,Im.le (by omega)⟩ (by omega) (fun ih x hI=>?_) (fun ih i x Ob hI hS=>?_)
  rotate_left
  ·obtain ⟨h1,h2⟩:=hI
   have hl:=h2.1
   simp only [aZ (show (i:Int)<outs by omega)]
   rw [aB]
   refine au (eI hb h1) (fun u6 ⟨_,W2⟩=>?_)
   rw [bZ (by simp only [List.length_singleton]; omega),aB]
   refine au (nF hb W2) (fun oj Og=>?_)
   rw [bH]
   refine ⟨fun _=>?_,fun _=>?_⟩
   ·rw [aB]
    refine au (eI hb Og) (fun pE ⟨_,W3⟩=>?_)
    rw [bZ (by simp only [List.length_append,List.length_singleton]; omega),bm (by omega)]
    exact hS (pE.2,_) ⟨W3,((h2.add (by simp)).add (by simp)).le (by omega)⟩
   ·rw [bm (by omega)]
    exact hS (oj.2,_) ⟨Og,(h2.add (by simp)).le (by omega)⟩
  obtain ⟨h1,h2⟩:=hI
  have h2:lI 13 x.2:=h2.le (by omega)
  have hl:=h2.1
  simp only [aK (show ¬ ((outs.toNat:Nat):Int)<outs by omega)]
  rw [aB]
  refine au (nF hb h1) (fun uW W4=>?_)
  rw [e_]
  have W5:W (br uW.1 (ab ((x.2.length+([[11]]:List (List Int)).length)*24≤aW) (some (Sum.inr (α:=Int×(Int×(List Instr)×(List Int)×(Int×(Int×Unit)))) ((x.2++[[11]]),())))) (some (.inr (x.2,())))) (fun s=>∃ y:List (List Int)×Unit,s = .inr y∧lI 14 y.1):=by
   rw [bH]
   refine ⟨fun _=>?_,fun _=>?_⟩
   ·rw [bZ (by simp only [List.length_singleton]; omega),aj]
    exact ⟨_,rfl,(h2.add (by simp)).le (by omega)⟩
   ·rw [aj]
    exact ⟨_,rfl,h2.le (by omega)⟩
  refine au W5 (fun s hs=>?_)
  obtain ⟨N_,rfl,Oh⟩:=hs
  simp only
  have hl:=Oh.1
  rw [aB]
  refine N9 hi ho WT (by omega) Oh.2 hn (fun p hp=>?_)
  rw [aj]
  exact ⟨hp,W4⟩
end Go.AmT
namespace Go.AmT
open Go Go.Am
set_option linter.unusedVariables false
set_option linter.unusedSimpArgs false
def oG (m:Int) (l:List (List Int)):Prop:=(l.length:Int)≤m∧∀ x∈l,x.length=2
theorem oG.le {m m':Int} {l:List (List Int)} (h:oG m l) (hm:m≤m'):oG m' l:=⟨Int.le_trans h.1 hm,h.2⟩
theorem oG.add {m:Int} {l:List (List Int)} {a b:Int} (h:oG m l):oG (m+1) (l++[[a,b]]):=by
 refine ⟨by rw [List.length_append,List.length_singleton]; have:=h.1; omega,fun y hy=>?_⟩
 rcases List.mem_append.1 hy with hy | hy
 ·exact h.2 y hy
 ·rw [List.mem_singleton.1 hy]; rfl
def pM (m:Int) (l:List aG):Prop:=(l.length:Int)≤m∧∀ x∈l,zD 8 x.2.2.2.2
theorem pM.le {m m':Int} {l:List aG} (h:pM m l) (hm:m≤m'):pM m' l:=⟨Int.le_trans h.1 hm,h.2⟩
theorem pM.add {m:Int} {l:List aG} {x:aG} (h:pM m l) (hx:zD 8 x.2.2.2.2):pM (m+1) (l++[x]):=by
 refine ⟨by rw [List.length_append,List.length_singleton]; have:=h.1; omega,fun y hy=>?_⟩
 rcases List.mem_append.1 hy with hy | hy
 ·exact h.2 y hy
 ·rw [List.mem_singleton.1 hy]; exact hx
theorem W6 {n:Nat} {b:List Int} (hb:b.length≤1048576) {ps:List Program} (hl:ps.length≤100) (hp:∀ p∈ps,u9 p) {loops:Int} (hn:1048576<n) {c:List Int×(Int×(Int×Unit))} (hc:ct b c) :
  W (oE.f n loops c.1 c.2.1 c.2.2.1 ps) (fun r=>r.1=ps∧pM 600 r.2.1∧ct b r.2.2):=by
 unfold oE.f
 refine fA (fun i (f:List (List Int))=>((i:Int),(f,()))) ps.length (fun i f=>oG (3*i) f) (s0:=[]) rfl ⟨by simp,by simp⟩ (by omega) (fun ih f hI=>?_) (fun ih i f hi hI hS=>?_)
 rotate_left
 ·have e1:ps.getD i bp=ps[i]:=aH hi _
  have Io:=hp _ (List.getElem_mem hi)
  have h0:=Io.ins
  simp only [aZ (show (i:Int)<(ps.length:Int) by omega),Int.toNat_natCast,e1]
  rw [ah (by omega)]
  refine fA (fun k (f:List (List Int))=>((k:Int),(f,()))) ps[i].1.toNat (fun k f=>oG (3*i+k) f) (s0:=f) rfl (hI.le (by omega)) (by omega) (fun nP g hJ=>?_) (fun nP k g hk hJ jW=>?_)
  ·simp only [aK (show ¬ ((ps[i].1.toNat:Nat):Int)<ps[i].1 by omega)]
   rw [bm (by omega)]
   exact hS g (hJ.le (by omega))
  ·have:=hJ.1
   simp only [aZ (show (k:Int)<ps[i].1 by omega)]
   rw [bZ (by simp only [List.length_singleton]; omega),bm (by omega)]
   exact jW _ (hJ.add.le (by omega))
 simp only [aK (Int.lt_irrefl _)]
 have hF:oG 300 f:=hI.le (by omega)
 refine fA (fun i (x:(List Int×(Int×(Int×Unit)))×List aG×List (List Int))=>((i:Int),(x.1.1,(x.1.2.1,(x.1.2.2.1,(ps,(x.2.1,(x.2.2,())))))))) ps.length (fun i x=>ct b x.1∧pM (3*i) x.2.1∧oG 300 x.2.2) (s0:=(c,[],f)) rfl ⟨hc,⟨by simp,by simp⟩,hF⟩ (by omega) (fun ih x hI=>?_) (fun ih i x hi hI hS=>?_)
 ·obtain ⟨c1,l1,f1⟩:=hI
  simp only [aK (Int.lt_irrefl _)]
  have l1:pM 300 x.2.1:=l1.le (by omega)
  refine fA (fun i (y:(List Int×(Int×(Int×Unit)))×List aG)=>((i:Int),(y.1.1,(y.1.2.1,(y.1.2.2.1,(ps,(y.2,()))))))) x.2.2.length (fun i y=>ct b y.1∧pM (300+i) y.2) (s0:=(x.1,x.2.1)) rfl ⟨c1,l1.le (by omega)⟩ (by have:=f1.1; omega) (fun ih y hI=>?_) (fun ih i y hi hI hS=>?_)
  ·simp only [aK (Int.lt_irrefl _)]
   rw [aj]
   exact ⟨rfl,hI.2.le (by have:=f1.1; omega),hI.1⟩
  ·have e1:x.2.2.getD i []=x.2.2[i]:=aH hi _
   have e2:=f1.2 _ (List.getElem_mem hi)
   have hlen:=hI.2.1
   have W7:=f1.1
   simp only [aZ (show (i:Int)<(x.2.2.length:Int) by omega),Int.toNat_natCast,e1,e2]
   rw [ah (by omega),ah (by omega),ah (by omega),aB]
   refine au (N8 (m:=8) hb (by omega) hn hI.1) (fun r ⟨ht,Ip⟩=>?_)
   rw [bZ (by simp only [List.length_singleton]; omega),bm (by omega)]
   exact hS (r.2,_) ⟨Ip,(hI.2.add (x:=((-1),(0,(_,(_,r.1))))) ht).le (by omega)⟩
 ·obtain ⟨c1,l1,f1⟩:=hI
  have e1:ps.getD i bp=ps[i]:=aH hi _
  have Io:=hp _ (List.getElem_mem hi)
  have h0:=Io.outs
  simp only [aZ (show (i:Int)<(ps.length:Int) by omega),Int.toNat_natCast,e1]
  rw [ah (by omega)]
  refine fA (fun k (x:(List Int×(Int×(Int×Unit)))×List aG×List (List Int))=>((k:Int),(x.1.1,(x.1.2.1,(x.1.2.2.1,(ps,(x.2.1,(x.2.2,())))))))) ps[i].2.1.toNat (fun k x=>ct b x.1∧pM (3*i+k) x.2.1∧oG 300 x.2.2) (s0:=x) rfl ⟨c1,l1.le (by omega),f1⟩ (by omega) (fun nP y hJ=>?_) (fun nP k y hk hJ jW=>?_)
  ·simp only [aK (show ¬ ((ps[i].2.1.toNat:Nat):Int)<ps[i].2.1 by omega)]
   rw [bm (by omega)]
   exact hS y ⟨hJ.1,hJ.2.1.le (by omega),hJ.2.2⟩
  ·obtain ⟨c2,l2,f2⟩:=hJ
   have W7:=f2.1
   have Dr:=l2.1
   simp only [aZ (show (k:Int)<ps[i].2.1 by omega)]
   rw [bo (n:=(y.2.2.length:Int)+1) (by omega) (by omega),aB]
   refine au (eI hb c2) (fun cV ⟨⟨a0,a1,_⟩,c3⟩=>?_)
   have a1:=a1 (by omega)
   refine e_.2 (au (P:=fun s=>∃ z:Bool×(List Int×(Int×(Int×Unit))),s=Sum.inr z∧ct b z.2∧(z.1=true→cV.1<(y.2.2.length:Int))) ?_ (fun s hs=>?_))
   ·rw [bI]
    refine ⟨fun ao=>?_,fun _=>?_⟩
    ·have e3:y.2.2.getD cV.1.toNat []=y.2.2[cV.1.toNat]'(by omega):=aH (by omega) _
     have e2:=f2.2 _ (List.getElem_mem (show cV.1.toNat<y.2.2.length by omega))
     simp only [e3,e2]
     rw [ah (by omega),ah (by omega),bI]
     refine ⟨fun _=>?_,fun _=>?_⟩
     ·rw [aj]; exact ⟨_,rfl,c3,fun _=>ao⟩
     ·rw [aB]
      refine au (nF hb c3) (fun B2 c4=>?_)
      rw [aj]; exact ⟨_,rfl,c4,fun _=>ao⟩
    ·rw [aj]; exact ⟨_,rfl,c3,fun h=>by cases h⟩
   ·obtain ⟨z,rfl,c4,hz⟩:=hs
    simp only
    refine e_.2 (au (P:=fun s=>∃ z:List Int×(Int×(Int×(List (List Int)×(Int×(Int×(Int×(Int×(List Int×Unit)))))))),s=Sum.inr z∧ct b (z.1,(z.2.1,(z.2.2.1,())))∧oG 300 z.2.2.2.1∧zD 8 z.2.2.2.2.2.2.2.2.1) ?_ (fun s hs=>?_))
    ·rw [bH]
     refine ⟨fun W8=>?_,fun _=>?_⟩
     ·have ao:=hz W8
      have e3:y.2.2.getD cV.1.toNat []=y.2.2[cV.1.toNat]'(by omega):=aH (by omega) _
      have e2:=f2.2 _ (List.getElem_mem (show cV.1.toNat<y.2.2.length by omega))
      simp only [e3,e2]
      rw [ah (by omega),ah (by omega),ah (by omega),ah (by omega),ah (by omega),ah (by omega)]
      refine e_.2 (au (P:=fun s=>∃ z:List Int×(Int×(Int×(Int×(Int×(Int×(Int×(List Int×Unit))))))),s=Sum.inr z∧ct b (z.1,(z.2.1,(z.2.2.1,())))∧zD 8 z.2.2.2.2.2.2.2.1) ?_ (fun s hs=>?_))
      ·rw [bI]
       refine ⟨fun _=>?_,fun _=>?_⟩
       ·rw [aB]
        refine au (N8 (m:=3) hb (by omega) hn c4) (fun r ⟨ht,Ip⟩=>?_)
        rw [aj]; exact ⟨_,rfl,Ip,Nat.le_trans ht.1 (by omega),ht.2⟩
       ·rw [aj]; exact ⟨_,rfl,c4,by simp,by simp⟩
      ·obtain ⟨w,rfl,c5,t5⟩:=hs
       simp only
       rw [bo (n:=cV.1+1) (by omega) (by omega),ah (by omega),bZ (by simp; omega),ah (by omega),bZ (by simp; omega),aj]
       refine ⟨_,rfl,c5,⟨?_,fun u hu=>?_⟩,t5⟩
       ·simp; omega
       ·rcases List.mem_append.1 hu with hu | hu
        ·exact f2.2 u (List.mem_of_mem_drop (List.mem_of_mem_take hu))
        ·exact f2.2 u (List.mem_of_mem_drop (List.mem_of_mem_take hu))
     ·rw [aj]; exact ⟨_,rfl,c4,f2,by simp,by simp⟩
    ·obtain ⟨w,rfl,c5,f5,t5⟩:=hs
     simp only
     rw [bZ (by simp only [List.length_singleton]; omega),bm (by omega)]
     exact jW ((w.1,(w.2.1,(w.2.2.1,()))),(_,w.2.2.2.1)) ⟨c5,(l2.add (x:=(w.2.2.2.2.1,(w.2.2.2.2.2.1,(w.2.2.2.2.2.2.1,(w.2.2.2.2.2.2.2.1,w.2.2.2.2.2.2.2.2.1))))) t5).le (by omega),f5⟩
structure Es (m:Nat) (nt:ai):Prop where
 ok:cM nt
 ew:nt.1.length≤m
 gQ:∀ l∈nt.2,zD 8 l.2.2.2.2
 drawn:∀ p∈nt.1,u9 p
theorem W9:cM (([],[]):ai):=⟨by simp,by simp,fun i hi=>absurd hi (by simp),fun i hi=>absurd hi (by simp),fun i hi=>absurd hi (by simp),fun i hi=>absurd hi (by simp),fun i hi=>absurd hi (by simp)⟩
theorem Oi {n:Nat} {b:List Int} (hb:b.length≤1048576) {m:Nat} (hm:m≤12) {loops:Int} (hn:1048576<n) {c:List Int×(Int×(Int×Unit))} (hc:ct b c) :
  W (mH.f n (m:Int) loops c.1 c.2.1 c.2.2.1) (fun r=>Es m (r.1,r.2.1)∧ct b r.2.2):=by
 unfold mH.f
 rw [bo (n:=(m:Int)+1) (by omega) (by omega),aB]
 refine au (eI hb hc) (fun r1 ⟨⟨a0,a1,_⟩,c1⟩=>?_)
 have a1:=a1 (by omega)
 refine qD (fun x=>0≤x.1∧x.1+(x.2.2.2.2.1.length:Int)≤(m:Int)∧(∀ p∈x.2.2.2.2.1,u9 p)∧ct b (x.2.1,(x.2.2.1,(x.2.2.2.1,())))) (fun x=>x.1.toNat) (fun ih x hx hS=>?_) ⟨a0,by simp only [List.length_nil]; omega,by simp,c1⟩ (by show r1.1.toNat<n; omega)
 obtain ⟨k,cb,ci,ch,ps,⟨⟩⟩:=x
 obtain ⟨k0,k1,k2,k3⟩:=hx
 simp only at k0 k1 k2 k3
 by_cases hk:0<k
 ·simp only [aZ hk]
  rw [aB]
  refine au (N6 (c:=(cb,(ci,(ch,())))) hb (by simp) k3) (fun fF ⟨_,Xa⟩=>?_)
  rw [aB]
  refine au (Oa hn) (fun jQ Xb=>?_)
  rw [aB]
  refine au (nF hb Xa) (fun h_ Oj=>?_)
  refine e_.2 (au (P:=fun s=>∃ z:List Int×(Int×(Int×(Int×(Int×(List Instr×Unit))))),s=Sum.inr z∧ct b (z.1,(z.2.1,(z.2.2.1,())))∧u9 (z.2.2.2.1,(z.2.2.2.2.1,z.2.2.2.2.2.1))) ?_ (fun s hs=>?_))
  ·rw [bH]
   refine ⟨fun _=>?_,fun _=>?_⟩
   ·rw [aB]
    refine au (eI hb Oj) (fun oF ⟨⟨b0,b1,_⟩,Xc⟩=>?_)
    rw [aB]
    refine au (eI hb Xc) (fun nE ⟨⟨d0,d1,_⟩,c37⟩=>?_)
    have b1:=b1 (by omega)
    have d1:=d1 (by omega)
    rw [bo (n:=1+oF.1) (by omega) (by omega),aB]
    refine au (WS hb (by omega) (by omega) (by omega) hn c37) (fun jY ⟨Xd,Xe⟩=>?_)
    rw [aj]; exact ⟨_,rfl,Xe,Xd⟩
   ·rw [aj]; exact ⟨_,rfl,Oj,Xb⟩
  ·obtain ⟨z,rfl,c5,p5⟩:=hs
   simp only
   rw [bZ (by simp only [List.length_singleton]; omega),bo (n:=k-1) (by omega) (by omega)]
   refine hS _ ⟨by simp only; omega,by simp only [List.length_append,List.length_singleton]; omega,fun p hp=>?_,c5⟩ (by simp only; omega)
   rcases List.mem_append.1 hp with hp | hp
   ·exact k2 p hp
   ·rw [List.mem_singleton.1 hp]; exact p5
 ·simp only [aK hk]
  rw [aB]
  refine au (W6 (c:=(cb,(ci,(ch,())))) hb (by omega) k2 hn k3) (fun eX ⟨Et,Iq,Ol⟩=>?_)
  have hS:cL (eX.1,eX.2.1):=by
   refine ⟨by rw [Et]; show ps.length≤1048576; omega,fun p hp=>?_,by have:=Iq.1; show eX.2.1.length≤1048576; omega,fun l hl=>?_⟩
   ·rw [Et] at hp
    have:=(k2 p hp).code
    exact ⟨by omega⟩
   ·have:=(Iq.2 l hl).1
    exact ⟨by omega⟩
  rw [aB,zf hS hn,aj,pt]
  refine ⟨fun _=>?_,fun ho=>?_⟩
  ·rw [aj]; exact ⟨⟨W9,by simp,by simp,by simp⟩,Ol⟩
  ·rw [aj]
   exact ⟨⟨of_decide_eq_true ho,by show eX.1.length≤m; rw [Et]; omega,Iq.2,fun p hp=>k2 p (by have hp:p∈eX.1:=hp; rw [Et] at hp; exact hp)⟩,Ol⟩
theorem Es.small {m:Nat} {nt:ai} (h:Es m nt):cL nt:=by
 have o:=h.ok
 have h1:=o.ew
 have h2:=o.dt
 refine ⟨by omega,fun p hp=>?_,by omega,fun l hl=>?_⟩
 ·obtain ⟨i,hi,rfl⟩:=List.mem_iff_getElem.1 hp
  have:=o.prog i hi
  unfold cr at this
  simp only [Bool.and_eq_true,decide_eq_true_eq] at this
  exact ⟨by omega⟩
 ·have:=(h.gQ l hl).1
  exact ⟨by omega⟩
end Go.AmT
