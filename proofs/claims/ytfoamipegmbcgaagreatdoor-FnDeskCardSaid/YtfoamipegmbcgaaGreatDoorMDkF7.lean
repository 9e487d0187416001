/- What draws networks, in plain Lean: all that is drawn is small. -/
import Derived.Test.YtfoamipegmbcgaaGreatDoorLGen
import Derived.Test.YtfoamipegmbcgaaGreatDoorMDkF5
namespace Go.AmT
open Go Go.Am
set_option linter.unusedVariables false
set_option linter.unusedSimpArgs false
def CurR (b:List Int) (c:List Int×(Int×(Int×Unit))):Prop:=c.1=b∧0≤c.2.1∧c.2.1≤(b.length:Int)
theorem and255 (x:Int):0≤bitsF .and .i64 x 255∧bitsF .and .i64 x 255≤255:=by
 have h:(BitVec.ofInt IntKind.i64.bits x&&& BitVec.ofInt IntKind.i64.bits 255).toNat≤255:=by
  rw [BitVec.toNat_and]
  exact Nat.le_trans Nat.and_le_right (by decide)
 have e:bitsF .and .i64 x 255=w64 (((BitVec.ofInt IntKind.i64.bits x&&& BitVec.ofInt IntKind.i64.bits 255).toNat:Nat):Int):=by
  exact w64_wrap _
 rw [e,w64_id (by omega) (by omega)]
 omega
theorem curNew_W {n:Nat} {b:List Int} (hb:b.length≤1048576) (hn:1048576<n):W (curNew.f n b) (fun r=>CurR b r):=by
 unfold curNew.f
 refine W_iter (fun x=>0≤x.2.1∧x.2.1≤4000) (fun x=>(4000-x.2.1).toNat) (fun ih x hx hS=>?_) (by exact ⟨Int.le_refl _,by show (0:Int)≤4000; omega⟩) (by show (4000-(0:Int)).toNat<n; omega)
 obtain ⟨h,i,⟨⟩⟩:=x
 simp only at hx
 by_cases h1:i<(b.length:Int)
 ·by_cases h2:i<4000
  ·simp only [br_yes h1,cut_inr,decide_eq_true h2,br_true]
   rw [chk_true (by omega),w64_id (n:=i+1) (by omega) (by omega)]
   exact hS _ (by simp only; omega) (by simp only; omega)
  ·simp only [br_yes h1,cut_inr,decide_eq_false h2,br_false]
   rw [W_some]
   exact ⟨rfl,Int.le_refl _,by simp only; omega⟩
 ·simp only [br_no h1,cut_inr,br_false]
  rw [W_some]
  exact ⟨rfl,Int.le_refl _,by simp only; omega⟩
theorem byte_W {n:Nat} {b:List Int} (hb:b.length≤1048576) {c:List Int×(Int×(Int×Unit))} (hc:CurR b c):W (l01Byte.f n c.1 c.2.1 c.2.2.1) (fun r=>(0≤r.1∧r.1≤255)∧CurR b r.2):=by
 obtain ⟨c,i,h,⟨⟩⟩:=c
 obtain ⟨e,h0,h1⟩:=hc
 simp only at e h0 h1
 subst e
 unfold l01Byte.f
 simp only
 rw [if_neg (by omega),if_neg (by omega)]
 by_cases h2:i<(c.length:Int)
 ·rw [br_yes h2,chk_true (by omega),W_some,w64_id (n:=i+1) (by omega) (by omega)]
  exact ⟨and255 _,rfl,by show (0:Int)≤i+1; omega,by show i+1≤(c.length:Int); omega⟩
 ·rw [br_no h2,W_some]
  exact ⟨and255 _,rfl,h0,h1⟩
theorem below_W {n:Nat} {b:List Int} (hb:b.length≤1048576) {k:Int} {c:List Int×(Int×(Int×Unit))} (hc:CurR b c):W (l01Below.f n k c.1 c.2.1 c.2.2.1) (fun r=>(0≤r.1∧(0<k→r.1<k)∧(k≤0→r.1=0))∧CurR b r.2):=by
 unfold l01Below.f
 by_cases h0:k≤0
 ·rw [br_yes h0,W_some]
  exact ⟨⟨Int.le_refl _,fun h=>absurd h (by omega),fun _=>rfl⟩,hc⟩
 ·rw [br_no h0]
  by_cases h1:k≤256
  ·rw [br_yes h1,W_bind]
   refine W_and (byte_W hb hc) (fun r ⟨h2,h3⟩=>?_)
   rw [if_neg (by omega),W_some]
   refine ⟨⟨Int.tmod_nonneg _ h2.1,fun _=>Int.tmod_lt_of_pos _ (by omega),fun h=>absurd h (by omega)⟩,h3⟩
  ·rw [br_no h1,W_bind]
   refine W_and (byte_W hb hc) (fun r3 ⟨a3,h3⟩=>?_)
   rw [W_bind]
   refine W_and (byte_W hb h3) (fun r4 ⟨a4,h4⟩=>?_)
   rw [W_bind]
   refine W_and (byte_W hb h4) (fun r5 ⟨a5,h5⟩=>?_)
   rw [W_bind]
   refine W_and (byte_W hb h5) (fun r6 ⟨a6,h6⟩=>?_)
   rw [if_neg (by omega),W_some]
   rw [w64_id (n:=r3.1*16777216) (by omega) (by omega),w64_id (n:=r4.1*65536) (by omega) (by omega),w64_id (n:=r5.1*256) (by omega) (by omega),w64_id (n:=r3.1*16777216+r4.1*65536) (by omega) (by omega),w64_id (n:=r3.1*16777216+r4.1*65536+r5.1*256) (by omega) (by omega),w64_id (n:=r3.1*16777216+r4.1*65536+r5.1*256+r6.1) (by omega) (by omega)]
   exact ⟨⟨Int.tmod_nonneg _ (by omega),fun _=>Int.tmod_lt_of_pos _ (by omega),fun h=>absurd h (by omega)⟩,h6⟩
theorem once_W {n:Nat} {b:List Int} (hb:b.length≤1048576) {k:Int} {c:List Int×(Int×(Int×Unit))} (hc:CurR b c):W (l01Once.f n k c.1 c.2.1 c.2.2.1) (fun r=>CurR b r.2):=by
 unfold l01Once.f
 rw [W_bind]
 refine W_and (below_W hb hc) (fun r ⟨_,h⟩=>?_)
 rw [W_some]; exact h
theorem pick_W {n:Nat} {b:List Int} (hb:b.length≤1048576) {l:List (List UInt8)} (hl:0<l.length) {c:List Int×(Int×(Int×Unit))} (hc:CurR b c):W (l01Pick.f n c.1 c.2.1 c.2.2.1 l) (fun r=>r.1∈l∧CurR b r.2):=by
 unfold l01Pick.f
 rw [W_bind]
 refine W_and (below_W hb hc) (fun r ⟨⟨h0,h1,_⟩,h⟩=>?_)
 have h1:=h1 (by omega)
 rw [chk_true ⟨h0,h1⟩,W_some]
 refine ⟨?_,h⟩
 rw [getD_lt (by omega)]
 exact List.getElem_mem _
theorem int_W {n:Nat} {b:List Int} (hb:b.length≤1048576) {l:List Int} (hl:0<l.length) {c:List Int×(Int×(Int×Unit))} (hc:CurR b c):W (l01Int.f n c.1 c.2.1 c.2.2.1 l) (fun r=>r.1∈l∧CurR b r.2):=by
 unfold l01Int.f
 rw [W_bind]
 refine W_and (below_W hb hc) (fun r ⟨⟨h0,h1,_⟩,h⟩=>?_)
 have h1:=h1 (by omega)
 rw [chk_true ⟨h0,h1⟩,W_some]
 refine ⟨?_,h⟩
 rw [getD_lt (by omega)]
 exact List.getElem_mem _
theorem some_W {n:Nat} {b:List Int} (hb:b.length≤1048576) {c:List Int×(Int×(Int×Unit))} (hc:CurR b c):W (l1Some.f n c.1 c.2.1 c.2.2.1) (fun r=>tok r.1=true∧CurR b r.2):=by
 unfold l1Some.f
 rw [W_bind]
 refine W_and (once_W hb hc) (fun r1 h1=>?_)
 rw [W_br]
 refine ⟨fun _=>?_,fun _=>?_⟩
 ·rw [W_bind]
  refine W_and (int_W hb (by simp) h1) (fun r2 ⟨hm,h2⟩=>?_)
  rw [W_some]
  refine ⟨?_,h2⟩
  simp only [List.mem_cons,List.not_mem_nil,or_false] at hm
  unfold tok
  rcases hm with h | h | h | h | h<;>rw [h]<;>rfl
 ·rw [W_bind]
  refine W_and (below_W hb h1) (fun r2 ⟨⟨a0,a1,_⟩,h2⟩=>?_)
  have a1:=a1 (by omega)
  rw [W_some]
  refine ⟨?_,h2⟩
  simp only
  rw [w64_id (by omega) (by omega)]
  unfold tok
  simp only [Bool.and_eq_true,decide_eq_true_eq]
  omega
def Toks (m:Nat) (l:List Int):Prop:=l.length≤m∧∀ x∈l,tok x=true
theorem tokens_W {n:Nat} {b:List Int} (hb:b.length≤1048576) {m:Nat} (hm:m≤1000) (hn:1048576<n) {c:List Int×(Int×(Int×Unit))} (hc:CurR b c):W (l3Tokens.f n (m:Int) c.1 c.2.1 c.2.2.1) (fun r=>Toks m r.1∧CurR b r.2):=by
 unfold l3Tokens.f
 rw [w64_id (n:=(m:Int)+1) (by omega) (by omega),W_bind]
 refine W_and (below_W hb hc) (fun r1 ⟨⟨a0,a1,_⟩,h1⟩=>?_)
 have a1:=a1 (by omega)
 refine W_iter (fun x=>0≤x.1∧x.1+(x.2.2.2.2.1.length:Int)≤(m:Int)∧(∀ y∈x.2.2.2.2.1,tok y=true)∧CurR b (x.2.1,(x.2.2.1,(x.2.2.2.1,())))) (fun x=>x.1.toNat) (fun ih x hx hS=>?_) ⟨a0,by simp only [List.length_nil]; omega,by simp,h1⟩ (by show r1.1.toNat<n; omega)
 obtain ⟨k,cb,ci,ch,l,⟨⟩⟩:=x
 obtain ⟨k0,k1,k2,k3⟩:=hx
 simp only at k0 k1 k2 k3
 by_cases hk:0<k
 ·simp only [br_yes hk]
  rw [W_bind]
  refine W_and (some_W (c:=(cb,(ci,(ch,())))) hb k3) (fun r2 ⟨t2,h2⟩=>?_)
  rw [small_chk (by simp only [List.length_singleton]; omega),w64_id (n:=k-1) (by omega) (by omega)]
  refine hS _ ⟨by simp only; omega,by simp only [List.length_append,List.length_singleton]; omega,fun y hy=>?_,h2⟩ (by simp only; omega)
  rcases List.mem_append.1 hy with hy | hy
  ·exact k2 y hy
  ·rw [List.mem_singleton.1 hy]; exact t2
 ·simp only [br_no hk]
  rw [W_some]
  exact ⟨⟨by simp only; omega,k2⟩,k3⟩
theorem make_W {n:Nat} {ins outs:Int} {l:List (List Int)} (hl:l.length≤1000) (hx:∀ x∈l,1≤x.length∧x.length≤1000) (hn:1048576<n):W (sL2Make.f n ins outs l) (fun r=>r.1.1=ins∧r.1.2.1=outs∧r.1.2.2.length=l.length+1):=by
 unfold sL2Make.f
 refine W_up (fun i (c:List Instr)=>((i:Int),(ins,(outs,(c,()))))) l.length (fun i c=>c.length=i) (s0:=[]) rfl rfl (by omega) (fun ih c hI=>?_) (fun ih i c hi hI hS=>?_)
 ·have hI:c.length=l.length:=hI
  simp only [br_no (Int.lt_irrefl _)]
  rw [small_chk (by simp only [List.length_singleton]; omega),W_some]
  exact ⟨rfl,rfl,by simp [hI]⟩
 ·have hI:c.length=i:=hI
  have e1:l.getD i []=l[i]:=getD_lt hi _
  have hxi:=hx _ (List.getElem_mem hi)
  simp only [br_yes (show (i:Int)<(l.length:Int) by omega),Int.toNat_natCast,e1]
  rw [chk_true (by omega),sL1Copy_run (by omega),Option.bind_some,small_chk (by simp only [List.length_cons,List.length_nil]; omega)]
  have e2:(((l[i],()):List Int×Unit).1++[0,0,0]).length=l[i].length+3:=by simp
  have e3:∀ a:Instr,[a].length=1:=fun _=>rfl
  rw [e2,chk_true (by omega),chk_true (by omega),chk_true (by omega),chk_true (by omega),e3,small_chk (by omega),w64_succ (by omega)]
  exact hS _ (by simp [hI])
structure PrSm (p:Program):Prop where
 ins:0≤p.1∧p.1≤3
 outs:0≤p.2.1∧p.2.1≤3
 io:p.1+p.2.1≤4
 code:p.2.2.length≤100
theorem make_sm {n:Nat} {ins outs:Int} {l:List (List Int)} (h1:0≤ins∧ins≤3) (h2:0≤outs∧outs≤3) (h3:ins+outs≤4) (hl:l.length≤99) (hx:∀ x∈l,1≤x.length∧x.length≤1000) (hn:1048576<n) {Q:Program×Unit→Prop} (hQ:∀ p,PrSm p→Q (p,())):W (sL2Make.f n ins outs l) Q:=by
 refine W_and (make_W (by omega) hx hn) (fun r ⟨e1,e2,e3⟩=>?_)
 obtain ⟨p,⟨⟩⟩:=r
 simp only at e1 e2 e3
 exact hQ p ⟨by rw [e1]; exact h1,by rw [e2]; exact h2,by rw [e1,e2]; exact h3,by omega⟩
theorem sample_W {n:Nat} {s:List UInt8} (hn:1048576<n):W (sSampleProgram.f n s) (fun r=>PrSm r.1):=by
 unfold sSampleProgram.f
 have hl:∀ (ins outs:Int) (l:List (List Int)),(0≤ins∧ins≤3)→(0≤outs∧outs≤3)→ins+outs≤4→l.length≤99→(∀ x∈l,1≤x.length∧x.length≤1000)→W ((sL2Make.f n ins outs l).bind fun r1=>some (r1.1,())) (fun r=>PrSm r.1):=by
  intro ins outs l a b i c d
  rw [W_bind]
  refine make_sm a b i c d hn (fun p hp=>?_)
  rw [W_some]; exact hp
 repeat' (first
  | (rw [W_br]; refine ⟨fun _=>hl _ _ _ (by omega) (by omega) (by omega) (by simp) (by simp),fun _=>?_⟩))
 rw [W_some]
 exact ⟨by simp,by simp,by simp,by simp⟩
def Lines (m:Int) (l:List (List Int)):Prop:=(l.length:Int)≤m∧∀ x∈l,1≤x.length∧x.length≤1000
theorem Lines.add {m:Int} {l:List (List Int)} {x:List Int} (h:Lines m l) (hx:1≤x.length∧x.length≤1000):Lines (m+1) (l++[x]):=by
 refine ⟨by rw [List.length_append,List.length_singleton]; have:=h.1; omega,fun y hy=>?_⟩
 rcases List.mem_append.1 hy with hy | hy
 ·exact h.2 y hy
 ·rw [List.mem_singleton.1 hy]; exact hx
theorem Lines.le {m m':Int} {l:List (List Int)} (h:Lines m l) (hm:m≤m'):Lines m' l:=⟨Int.le_trans h.1 hm,h.2⟩
theorem program_W {n:Nat} {b:List Int} (hb:b.length≤1048576) {ins outs:Int} (hi:0≤ins∧ins≤3) (ho:0≤outs∧outs≤3) (hio:ins+outs≤4) (hn:1048576<n) {c:List Int×(Int×(Int×Unit))} (hc:CurR b c) :
  W (l2Program.f n ins outs c.1 c.2.1 c.2.2.1) (fun r=>PrSm (r.1,(r.2.1,r.2.2.1))∧CurR b r.2.2.2):=by
 unfold l2Program.f
 refine W_up (fun i (x:(List Int×(Int×(Int×Unit)))×List (List Int))=>((i:Int),(x.1.1,(x.1.2.1,(x.1.2.2.1,(x.2,())))))) ins.toNat (fun i x=>CurR b x.1∧Lines i x.2) (s0:=(c,[])) rfl ⟨hc,by simp,by simp⟩ (by omega) (fun ih x hI=>?_) (fun ih i x hi2 hI hS=>?_)
 rotate_left
 ·obtain ⟨h1,h2⟩:=hI
  simp only [br_yes (show (i:Int)<ins by omega)]
  rw [W_bind]
  refine W_and (below_W hb h1) (fun r ⟨_,h3⟩=>?_)
  have:=h2.1
  rw [small_chk (by simp only [List.length_singleton]; omega),w64_succ (by omega)]
  exact hS (r.2,_) ⟨h3,(h2.add (by simp)).le (by omega)⟩
 obtain ⟨h1,h2⟩:=hI
 simp only [br_no (show ¬ ((ins.toNat:Nat):Int)<ins by omega)]
 rw [W_bind]
 refine W_and (below_W hb h1) (fun r17 ⟨⟨a0,a1,_⟩,h3⟩=>?_)
 have a1:=a1 (by omega)
 have h2:Lines 3 x.2:=h2.le (by omega)
 refine W_iter (fun y=>0≤y.1∧y.1≤2∧CurR b (y.2.1,(y.2.2.1,(y.2.2.2.1,())))∧Lines (5-y.1) y.2.2.2.2.1) (fun y=>y.1.toNat) (fun ih y hy hS=>?_) ⟨a0,by simp only; omega,h3,h2.le (by simp only; omega)⟩ (by show r17.1.toNat<n; omega)
 obtain ⟨k,cb,ci,ch,l,⟨⟩⟩:=y
 obtain ⟨k0,k1,k2,k3⟩:=hy
 simp only at k0 k1 k2 k3
 by_cases hk:0<k
 ·simp only [br_yes hk]
  rw [W_bind]
  refine W_and (int_W (c:=(cb,(ci,(ch,())))) hb (by simp) k2) (fun r39 ⟨_,h39⟩=>?_)
  rw [W_bind]
  refine W_and (below_W hb h39) (fun r40 ⟨_,h40⟩=>?_)
  rw [W_bind]
  refine W_and (below_W hb h40) (fun r41 ⟨_,h41⟩=>?_)
  rw [W_bind]
  refine W_and (below_W hb h41) (fun r42 ⟨_,h42⟩=>?_)
  have:=k3.1
  rw [small_chk (by simp only [List.length_singleton]; omega),w64_id (n:=k-1) (by omega) (by omega)]
  exact hS _ ⟨by simp only; omega,by simp only; omega,h42,(k3.add (by simp)).le (by simp only; omega)⟩ (by simp only; omega)
 ·have k3:Lines 5 l:=k3.le (by omega)
  have kl:=k3.1
  simp only [br_no hk]
  rw [W_bind]
  refine W_and (once_W (c:=(cb,(ci,(ch,())))) hb k2) (fun r43 h43=>?_)
  rw [W_cut]
  have step1:W (br r43.1 ((l01Below.f n 4 r43.2.1 r43.2.2.1 r43.2.2.2.1).bind fun r47=>(l01Below.f n 7 r47.2.1 r47.2.2.1 r47.2.2.2.1).bind fun r48=>chk ((l.length+([[3,r47.1,(w64 (r48.1-2))]]:List (List Int)).length)*24≤maxB) (some (Sum.inr (α:=Int×(Int×(List Instr)×(List Int)×(Int×(Int×Unit)))) (r48.2.1,(r48.2.2.1,(r48.2.2.2.1,((l++[[3,r47.1,(w64 (r48.1-2))]]),()))))))) (some (.inr (r43.2.1,(r43.2.2.1,(r43.2.2.2.1,(l,())))))))
    (fun s=>∃ y:List Int×(Int×(Int×(List (List Int)×Unit))),s = .inr y∧CurR b (y.1,(y.2.1,(y.2.2.1,())))∧Lines 6 y.2.2.2.1):=by
   rw [W_br]
   refine ⟨fun _=>?_,fun _=>?_⟩
   ·rw [W_bind]
    refine W_and (below_W hb h43) (fun r47 ⟨_,h47⟩=>?_)
    rw [W_bind]
    refine W_and (below_W hb h47) (fun r48 ⟨_,h48⟩=>?_)
    rw [small_chk (by simp only [List.length_singleton]; omega),W_some]
    exact ⟨_,rfl,h48,(k3.add (by simp)).le (by omega)⟩
   ·rw [W_some]
    exact ⟨_,rfl,h43,k3.le (by omega)⟩
  refine W_and step1 (fun s hs=>?_)
  obtain ⟨y46,rfl,h46,l46⟩:=hs
  obtain ⟨cb,ci,ch,l,⟨⟩⟩:=y46
  simp only at h46 l46 ⊢
  have kl:=l46.1
  rw [W_bind]
  refine W_and (once_W (c:=(cb,(ci,(ch,())))) hb h46) (fun r49 h49=>?_)
  rw [W_cut]
  have step2:W (br r49.1 ((l01Int.f n r49.2.1 r49.2.2.1 r49.2.2.2.1 ([9,10]:List Int)).bind fun r54=>(l01Below.f n 4 r54.2.1 r54.2.2.1 r54.2.2.2.1).bind fun r55=>(l01Below.f n 2 r55.2.1 r55.2.2.1 r55.2.2.2.1).bind fun r56=>chk ((l.length+([[r54.1,r55.1,(w64 ((w64 ((l.length:Int)+1))+r56.1))]]:List (List Int)).length)*24≤maxB) (some (Sum.inr (α:=Int×(Int×(List Instr)×(List Int)×(Int×(Int×Unit)))) (r56.2.1,(r56.2.2.1,(r56.2.2.2.1,((l++[[r54.1,r55.1,(w64 ((w64 ((l.length:Int)+1))+r56.1))]]),()))))))) (some (.inr (r49.2.1,(r49.2.2.1,(r49.2.2.2.1,(l,())))))))
    (fun s=>∃ y:List Int×(Int×(Int×(List (List Int)×Unit))),s = .inr y∧CurR b (y.1,(y.2.1,(y.2.2.1,())))∧Lines 7 y.2.2.2.1):=by
   rw [W_br]
   refine ⟨fun _=>?_,fun _=>?_⟩
   ·rw [W_bind]
    refine W_and (int_W hb (by simp) h49) (fun r54 ⟨_,h54⟩=>?_)
    rw [W_bind]
    refine W_and (below_W hb h54) (fun r55 ⟨_,h55⟩=>?_)
    rw [W_bind]
    refine W_and (below_W hb h55) (fun r56 ⟨_,h56⟩=>?_)
    rw [small_chk (by simp only [List.length_singleton]; omega),W_some]
    exact ⟨_,rfl,h56,(l46.add (by simp)).le (by omega)⟩
   ·rw [W_some]
    exact ⟨_,rfl,h49,l46.le (by omega)⟩
  refine W_and step2 (fun s hs=>?_)
  obtain ⟨y53,rfl,h53,l53⟩:=hs
  obtain ⟨cb,ci,ch,l,⟨⟩⟩:=y53
  simp only at h53 l53 ⊢
  have kl:=l53.1
  refine W_up (fun i (x:(List Int×(Int×(Int×Unit)))×List (List Int))=>((i:Int),(x.1.1,(x.1.2.1,(x.1.2.2.1,(x.2,())))))) outs.toNat (fun i x=>CurR b x.1∧Lines (7+2*i) x.2) (s0:=((cb,(ci,(ch,()))),l)) rfl ⟨h53,l53.le (by omega)⟩ (by omega) (fun ih x hI=>?_) (fun ih i x hi2 hI hS=>?_)
  rotate_left
  ·obtain ⟨h1,h2⟩:=hI
   have hl:=h2.1
   simp only [br_yes (show (i:Int)<outs by omega)]
   rw [W_bind]
   refine W_and (below_W hb h1) (fun r76 ⟨_,h76⟩=>?_)
   rw [small_chk (by simp only [List.length_singleton]; omega),W_bind]
   refine W_and (once_W hb h76) (fun r77 h77=>?_)
   rw [W_br]
   refine ⟨fun _=>?_,fun _=>?_⟩
   ·rw [W_bind]
    refine W_and (below_W hb h77) (fun r78 ⟨_,h78⟩=>?_)
    rw [small_chk (by simp only [List.length_append,List.length_singleton]; omega),w64_succ (by omega)]
    exact hS (r78.2,_) ⟨h78,((h2.add (by simp)).add (by simp)).le (by omega)⟩
   ·rw [w64_succ (by omega)]
    exact hS (r77.2,_) ⟨h77,(h2.add (by simp)).le (by omega)⟩
  obtain ⟨h1,h2⟩:=hI
  have h2:Lines 13 x.2:=h2.le (by omega)
  have hl:=h2.1
  simp only [br_no (show ¬ ((outs.toNat:Nat):Int)<outs by omega)]
  rw [W_bind]
  refine W_and (once_W hb h1) (fun r79 h79=>?_)
  rw [W_cut]
  have step3:W (br r79.1 (chk ((x.2.length+([[11]]:List (List Int)).length)*24≤maxB) (some (Sum.inr (α:=Int×(Int×(List Instr)×(List Int)×(Int×(Int×Unit)))) ((x.2++[[11]]),())))) (some (.inr (x.2,())))) (fun s=>∃ y:List (List Int)×Unit,s = .inr y∧Lines 14 y.1):=by
   rw [W_br]
   refine ⟨fun _=>?_,fun _=>?_⟩
   ·rw [small_chk (by simp only [List.length_singleton]; omega),W_some]
    exact ⟨_,rfl,(h2.add (by simp)).le (by omega)⟩
   ·rw [W_some]
    exact ⟨_,rfl,h2.le (by omega)⟩
  refine W_and step3 (fun s hs=>?_)
  obtain ⟨y80,rfl,l80⟩:=hs
  simp only
  have hl:=l80.1
  rw [W_bind]
  refine make_sm hi ho hio (by omega) l80.2 hn (fun p hp=>?_)
  rw [W_some]
  exact ⟨hp,h79⟩
end Go.AmT
namespace Go.AmT
open Go Go.Am
set_option linter.unusedVariables false
set_option linter.unusedSimpArgs false
def Free (m:Int) (l:List (List Int)):Prop:=(l.length:Int)≤m∧∀ x∈l,x.length=2
theorem Free.le {m m':Int} {l:List (List Int)} (h:Free m l) (hm:m≤m'):Free m' l:=⟨Int.le_trans h.1 hm,h.2⟩
theorem Free.add {m:Int} {l:List (List Int)} {a b:Int} (h:Free m l):Free (m+1) (l++[[a,b]]):=by
 refine ⟨by rw [List.length_append,List.length_singleton]; have:=h.1; omega,fun y hy=>?_⟩
 rcases List.mem_append.1 hy with hy | hy
 ·exact h.2 y hy
 ·rw [List.mem_singleton.1 hy]; rfl
def LkSm (m:Int) (l:List Link):Prop:=(l.length:Int)≤m∧∀ x∈l,Toks 8 x.2.2.2.2
theorem LkSm.le {m m':Int} {l:List Link} (h:LkSm m l) (hm:m≤m'):LkSm m' l:=⟨Int.le_trans h.1 hm,h.2⟩
theorem LkSm.add {m:Int} {l:List Link} {x:Link} (h:LkSm m l) (hx:Toks 8 x.2.2.2.2):LkSm (m+1) (l++[x]):=by
 refine ⟨by rw [List.length_append,List.length_singleton]; have:=h.1; omega,fun y hy=>?_⟩
 rcases List.mem_append.1 hy with hy | hy
 ·exact h.2 y hy
 ·rw [List.mem_singleton.1 hy]; exact hx
theorem wire_W {n:Nat} {b:List Int} (hb:b.length≤1048576) {ps:List Program} (hl:ps.length≤100) (hp:∀ p∈ps,PrSm p) {loops:Int} (hn:1048576<n) {c:List Int×(Int×(Int×Unit))} (hc:CurR b c) :
  W (l3Wire.f n loops c.1 c.2.1 c.2.2.1 ps) (fun r=>r.1=ps∧LkSm 600 r.2.1∧CurR b r.2.2):=by
 unfold l3Wire.f
 refine W_up (fun i (f:List (List Int))=>((i:Int),(f,()))) ps.length (fun i f=>Free (3*i) f) (s0:=[]) rfl ⟨by simp,by simp⟩ (by omega) (fun ih f hI=>?_) (fun ih i f hi hI hS=>?_)
 rotate_left
 ·have e1:ps.getD i zProgram=ps[i]:=getD_lt hi _
  have hpi:=hp _ (List.getElem_mem hi)
  have h0:=hpi.ins
  simp only [br_yes (show (i:Int)<(ps.length:Int) by omega),Int.toNat_natCast,e1]
  rw [chk_true (by omega)]
  refine W_up (fun k (f:List (List Int))=>((k:Int),(f,()))) ps[i].1.toNat (fun k f=>Free (3*i+k) f) (s0:=f) rfl (hI.le (by omega)) (by omega) (fun ih2 g hJ=>?_) (fun ih2 k g hk hJ hS2=>?_)
  ·simp only [br_no (show ¬ ((ps[i].1.toNat:Nat):Int)<ps[i].1 by omega)]
   rw [w64_succ (by omega)]
   exact hS g (hJ.le (by omega))
  ·have:=hJ.1
   simp only [br_yes (show (k:Int)<ps[i].1 by omega)]
   rw [small_chk (by simp only [List.length_singleton]; omega),w64_succ (by omega)]
   exact hS2 _ (hJ.add.le (by omega))
 simp only [br_no (Int.lt_irrefl _)]
 have hF:Free 300 f:=hI.le (by omega)
 refine W_up (fun i (x:(List Int×(Int×(Int×Unit)))×List Link×List (List Int))=>((i:Int),(x.1.1,(x.1.2.1,(x.1.2.2.1,(ps,(x.2.1,(x.2.2,())))))))) ps.length (fun i x=>CurR b x.1∧LkSm (3*i) x.2.1∧Free 300 x.2.2) (s0:=(c,[],f)) rfl ⟨hc,⟨by simp,by simp⟩,hF⟩ (by omega) (fun ih x hI=>?_) (fun ih i x hi hI hS=>?_)
 ·obtain ⟨c1,l1,f1⟩:=hI
  simp only [br_no (Int.lt_irrefl _)]
  have l1:LkSm 300 x.2.1:=l1.le (by omega)
  refine W_up (fun i (y:(List Int×(Int×(Int×Unit)))×List Link)=>((i:Int),(y.1.1,(y.1.2.1,(y.1.2.2.1,(ps,(y.2,()))))))) x.2.2.length (fun i y=>CurR b y.1∧LkSm (300+i) y.2) (s0:=(x.1,x.2.1)) rfl ⟨c1,l1.le (by omega)⟩ (by have:=f1.1; omega) (fun ih y hI=>?_) (fun ih i y hi hI hS=>?_)
  ·simp only [br_no (Int.lt_irrefl _)]
   rw [W_some]
   exact ⟨rfl,hI.2.le (by have:=f1.1; omega),hI.1⟩
  ·have e1:x.2.2.getD i []=x.2.2[i]:=getD_lt hi _
   have e2:=f1.2 _ (List.getElem_mem hi)
   have hlen:=hI.2.1
   have hfl:=f1.1
   simp only [br_yes (show (i:Int)<(x.2.2.length:Int) by omega),Int.toNat_natCast,e1,e2]
   rw [chk_true (by omega),chk_true (by omega),chk_true (by omega),W_bind]
   refine W_and (tokens_W (m:=8) hb (by omega) hn hI.1) (fun r ⟨ht,hcr⟩=>?_)
   rw [small_chk (by simp only [List.length_singleton]; omega),w64_succ (by omega)]
   exact hS (r.2,_) ⟨hcr,(hI.2.add (x:=((-1),(0,(_,(_,r.1))))) ht).le (by omega)⟩
 ·obtain ⟨c1,l1,f1⟩:=hI
  have e1:ps.getD i zProgram=ps[i]:=getD_lt hi _
  have hpi:=hp _ (List.getElem_mem hi)
  have h0:=hpi.outs
  simp only [br_yes (show (i:Int)<(ps.length:Int) by omega),Int.toNat_natCast,e1]
  rw [chk_true (by omega)]
  refine W_up (fun k (x:(List Int×(Int×(Int×Unit)))×List Link×List (List Int))=>((k:Int),(x.1.1,(x.1.2.1,(x.1.2.2.1,(ps,(x.2.1,(x.2.2,())))))))) ps[i].2.1.toNat (fun k x=>CurR b x.1∧LkSm (3*i+k) x.2.1∧Free 300 x.2.2) (s0:=x) rfl ⟨c1,l1.le (by omega),f1⟩ (by omega) (fun ih2 y hJ=>?_) (fun ih2 k y hk hJ hS2=>?_)
  ·simp only [br_no (show ¬ ((ps[i].2.1.toNat:Nat):Int)<ps[i].2.1 by omega)]
   rw [w64_succ (by omega)]
   exact hS y ⟨hJ.1,hJ.2.1.le (by omega),hJ.2.2⟩
  ·obtain ⟨c2,l2,f2⟩:=hJ
   have hfl:=f2.1
   have hll:=l2.1
   simp only [br_yes (show (k:Int)<ps[i].2.1 by omega)]
   rw [w64_id (n:=(y.2.2.length:Int)+1) (by omega) (by omega),W_bind]
   refine W_and (below_W hb c2) (fun r255 ⟨⟨a0,a1,_⟩,c3⟩=>?_)
   have a1:=a1 (by omega)
   refine W_cut.2 (W_and (P:=fun s=>∃ z:Bool×(List Int×(Int×(Int×Unit))),s=Sum.inr z∧CurR b z.2∧(z.1=true→r255.1<(y.2.2.length:Int))) ?_ (fun s hs=>?_))
   ·rw [W_brd]
    refine ⟨fun hlt=>?_,fun _=>?_⟩
    ·have e3:y.2.2.getD r255.1.toNat []=y.2.2[r255.1.toNat]'(by omega):=getD_lt (by omega) _
     have e2:=f2.2 _ (List.getElem_mem (show r255.1.toNat<y.2.2.length by omega))
     simp only [e3,e2]
     rw [chk_true (by omega),chk_true (by omega),W_brd]
     refine ⟨fun _=>?_,fun _=>?_⟩
     ·rw [W_some]; exact ⟨_,rfl,c3,fun _=>hlt⟩
     ·rw [W_bind]
      refine W_and (once_W hb c3) (fun r258 c4=>?_)
      rw [W_some]; exact ⟨_,rfl,c4,fun _=>hlt⟩
    ·rw [W_some]; exact ⟨_,rfl,c3,fun h=>by cases h⟩
   ·obtain ⟨z,rfl,c4,hz⟩:=hs
    simp only
    refine W_cut.2 (W_and (P:=fun s=>∃ z:List Int×(Int×(Int×(List (List Int)×(Int×(Int×(Int×(Int×(List Int×Unit)))))))),s=Sum.inr z∧CurR b (z.1,(z.2.1,(z.2.2.1,())))∧Free 300 z.2.2.2.1∧Toks 8 z.2.2.2.2.2.2.2.2.1) ?_ (fun s hs=>?_))
    ·rw [W_br]
     refine ⟨fun hzt=>?_,fun _=>?_⟩
     ·have hlt:=hz hzt
      have e3:y.2.2.getD r255.1.toNat []=y.2.2[r255.1.toNat]'(by omega):=getD_lt (by omega) _
      have e2:=f2.2 _ (List.getElem_mem (show r255.1.toNat<y.2.2.length by omega))
      simp only [e3,e2]
      rw [chk_true (by omega),chk_true (by omega),chk_true (by omega),chk_true (by omega),chk_true (by omega),chk_true (by omega)]
      refine W_cut.2 (W_and (P:=fun s=>∃ z:List Int×(Int×(Int×(Int×(Int×(Int×(Int×(List Int×Unit))))))),s=Sum.inr z∧CurR b (z.1,(z.2.1,(z.2.2.1,())))∧Toks 8 z.2.2.2.2.2.2.2.1) ?_ (fun s hs=>?_))
      ·rw [W_brd]
       refine ⟨fun _=>?_,fun _=>?_⟩
       ·rw [W_bind]
        refine W_and (tokens_W (m:=3) hb (by omega) hn c4) (fun r ⟨ht,hcr⟩=>?_)
        rw [W_some]; exact ⟨_,rfl,hcr,Nat.le_trans ht.1 (by omega),ht.2⟩
       ·rw [W_some]; exact ⟨_,rfl,c4,by simp,by simp⟩
      ·obtain ⟨w,rfl,c5,t5⟩:=hs
       simp only
       rw [w64_id (n:=r255.1+1) (by omega) (by omega),chk_true (by omega),small_chk (by simp; omega),chk_true (by omega),small_chk (by simp; omega),W_some]
       refine ⟨_,rfl,c5,⟨?_,fun u hu=>?_⟩,t5⟩
       ·simp; omega
       ·rcases List.mem_append.1 hu with hu | hu
        ·exact f2.2 u (List.mem_of_mem_drop (List.mem_of_mem_take hu))
        ·exact f2.2 u (List.mem_of_mem_drop (List.mem_of_mem_take hu))
     ·rw [W_some]; exact ⟨_,rfl,c4,f2,by simp,by simp⟩
    ·obtain ⟨w,rfl,c5,f5,t5⟩:=hs
     simp only
     rw [small_chk (by simp only [List.length_singleton]; omega),w64_succ (by omega)]
     exact hS2 ((w.1,(w.2.1,(w.2.2.1,()))),(_,w.2.2.2.1)) ⟨c5,(l2.add (x:=(w.2.2.2.2.1,(w.2.2.2.2.2.1,(w.2.2.2.2.2.2.1,(w.2.2.2.2.2.2.2.1,w.2.2.2.2.2.2.2.2.1))))) t5).le (by omega),f5⟩
structure NetSm (m:Nat) (nt:Network):Prop where
 ok:OkN nt
 progs:nt.1.length≤m
 toks:∀ l∈nt.2,Toks 8 l.2.2.2.2
 drawn:∀ p∈nt.1,PrSm p
theorem okN_nil:OkN (([],[]):Network):=⟨by simp,by simp,fun i hi=>absurd hi (by simp),fun i hi=>absurd hi (by simp),fun i hi=>absurd hi (by simp),fun i hi=>absurd hi (by simp),fun i hi=>absurd hi (by simp)⟩
theorem network_W {n:Nat} {b:List Int} (hb:b.length≤1048576) {m:Nat} (hm:m≤12) {loops:Int} (hn:1048576<n) {c:List Int×(Int×(Int×Unit))} (hc:CurR b c) :
  W (l3Network.f n (m:Int) loops c.1 c.2.1 c.2.2.1) (fun r=>NetSm m (r.1,r.2.1)):=by
 unfold l3Network.f
 rw [w64_id (n:=(m:Int)+1) (by omega) (by omega),W_bind]
 refine W_and (below_W hb hc) (fun r1 ⟨⟨a0,a1,_⟩,c1⟩=>?_)
 have a1:=a1 (by omega)
 refine W_iter (fun x=>0≤x.1∧x.1+(x.2.2.2.2.1.length:Int)≤(m:Int)∧(∀ p∈x.2.2.2.2.1,PrSm p)∧CurR b (x.2.1,(x.2.2.1,(x.2.2.2.1,())))) (fun x=>x.1.toNat) (fun ih x hx hS=>?_) ⟨a0,by simp only [List.length_nil]; omega,by simp,c1⟩ (by show r1.1.toNat<n; omega)
 obtain ⟨k,cb,ci,ch,ps,⟨⟩⟩:=x
 obtain ⟨k0,k1,k2,k3⟩:=hx
 simp only at k0 k1 k2 k3
 by_cases hk:0<k
 ·simp only [br_yes hk]
  rw [W_bind]
  refine W_and (pick_W (c:=(cb,(ci,(ch,())))) hb (by simp) k3) (fun r32 ⟨_,c32⟩=>?_)
  rw [W_bind]
  refine W_and (sample_W hn) (fun r33 p33=>?_)
  rw [W_bind]
  refine W_and (once_W hb c32) (fun r34 c34=>?_)
  refine W_cut.2 (W_and (P:=fun s=>∃ z:List Int×(Int×(Int×(Int×(Int×(List Instr×Unit))))),s=Sum.inr z∧CurR b (z.1,(z.2.1,(z.2.2.1,())))∧PrSm (z.2.2.2.1,(z.2.2.2.2.1,z.2.2.2.2.2.1))) ?_ (fun s hs=>?_))
  ·rw [W_br]
   refine ⟨fun _=>?_,fun _=>?_⟩
   ·rw [W_bind]
    refine W_and (below_W hb c34) (fun r36 ⟨⟨b0,b1,_⟩,c36⟩=>?_)
    rw [W_bind]
    refine W_and (below_W hb c36) (fun r37 ⟨⟨d0,d1,_⟩,c37⟩=>?_)
    have b1:=b1 (by omega)
    have d1:=d1 (by omega)
    rw [w64_id (n:=1+r36.1) (by omega) (by omega),W_bind]
    refine W_and (program_W hb (by omega) (by omega) (by omega) hn c37) (fun r38 ⟨p38,c38⟩=>?_)
    rw [W_some]; exact ⟨_,rfl,c38,p38⟩
   ·rw [W_some]; exact ⟨_,rfl,c34,p33⟩
  ·obtain ⟨z,rfl,c5,p5⟩:=hs
   simp only
   rw [small_chk (by simp only [List.length_singleton]; omega),w64_id (n:=k-1) (by omega) (by omega)]
   refine hS _ ⟨by simp only; omega,by simp only [List.length_append,List.length_singleton]; omega,fun p hp=>?_,c5⟩ (by simp only; omega)
   rcases List.mem_append.1 hp with hp | hp
   ·exact k2 p hp
   ·rw [List.mem_singleton.1 hp]; exact p5
 ·simp only [br_no hk]
  rw [W_bind]
  refine W_and (wire_W (c:=(cb,(ci,(ch,())))) hb (by omega) k2 hn k3) (fun r39 ⟨e39,l39,c39⟩=>?_)
  have hS:SmallN (r39.1,r39.2.1):=by
   refine ⟨by rw [e39]; show ps.length≤1048576; omega,fun p hp=>?_,by have:=l39.1; show r39.2.1.length≤1048576; omega,fun l hl=>?_⟩
   ·rw [e39] at hp
    have:=(k2 p hp).code
    exact ⟨by omega⟩
   ·have:=(l39.2 l hl).1
    exact ⟨by omega⟩
  rw [W_bind,sIsNetwork_spec hS hn,W_some,W_brn]
  refine ⟨fun _=>?_,fun ho=>?_⟩
  ·rw [W_some]; exact ⟨okN_nil,by simp,by simp,by simp⟩
  ·rw [W_some]
   exact ⟨of_decide_eq_true ho,by show r39.1.length≤m; rw [e39]; omega,l39.2,fun p hp=>k2 p (by have hp:p∈r39.1:=hp; rw [e39] at hp; exact hp)⟩
theorem makeNetwork_W {n:Nat} {code:List Int} (hb:code.length≤1048576) {m:Nat} (hm:m≤8) (hn:1048576<n):W (makeNetwork.f n code (m:Int)) (fun r=>NetSm m r.1):=by
 unfold makeNetwork.f
 rw [W_bind]
 refine W_and (curNew_W hb hn) (fun r1 c1=>?_)
 rw [W_bind]
 refine W_and (int_W hb (by simp) c1) (fun r2 ⟨_,c2⟩=>?_)
 rw [show max (0:Int) (min (m:Int) 8)=(m:Int) by omega,W_bind]
 refine W_and (network_W hb (by omega) hn c2) (fun r3 h3=>?_)
 rw [W_some]; exact h3
theorem NetSm.small {m:Nat} {nt:Network} (h:NetSm m nt):SmallN nt:=by
 have o:=h.ok
 have h1:=o.progs
 have h2:=o.links
 refine ⟨by omega,fun p hp=>?_,by omega,fun l hl=>?_⟩
 ·obtain ⟨i,hi,rfl⟩:=List.mem_iff_getElem.1 hp
  have:=o.prog i hi
  unfold okP at this
  simp only [Bool.and_eq_true,decide_eq_true_eq] at this
  exact ⟨by omega⟩
 ·have:=(h.toks l hl).1
  exact ⟨by omega⟩
end Go.AmT
namespace Go.AmT
open Go Go.Am Go.Proofs
set_option linter.unusedVariables false
set_option maxRecDepth 100000
def tys16:List (Nat×TInfo):=[(3,⟨false,1,8,[.int .i64 0],.int .i64,0,some I,[],false⟩),
 (5,⟨false,1,1,[.int .u8 0],.int .u8,0,some U8,[],false⟩),
 (22,⟨false,1,24,[.nil],.slice,5,some (.sl U8),[],false⟩)]
theorem tys16_ok:(tys16.all fun p=>tokB Tryz.prog p.1 p.2)=true:=by kernel_rfl
def lawAt.las:List (Nat×LA):=[]
noncomputable def lawAt.f (n:Nat) (a0:List Int) (a1:Int):Option (Int×Unit):=br (decide (a1<(a0.length:Int))) (chk (0≤a1∧a1<(a0.length:Int)) (some ((w64 ((a0.getD a1.toNat 0))),()))) (some (((w64 ((w64 (a1*37))+(w64 ((a0.length:Int)*11)))).tmod 256),()))
noncomputable def lawAt.mng (n:Nat):Mng:=⟨[.val (.sl U8),.val I],[.val I],fun x=>lawAt.f n x.1 x.2.1⟩
noncomputable def lawAt.cfg (n:Nat):Cfg:=⟨tys16,[],[],[]⟩
theorem lawAt.gof:GoF Tryz.prog 12:=⟨_,Tryz.func12,by kernel_rfl,by kernel_rfl⟩
theorem lawAt.sound (n:Nat):Sound Tryz.prog 12 (lawAt.mng n):=sndF (c:=lawAt.cfg n) (n:=n) (an:=annOf Tryz.f12 lawAt.las) trivial trivial (tysOK tys16_ok) Tryz.func12 (fun x=>by kernel_rfl)
end Go.AmT
namespace Go.AmT
open Go Go.Am
set_option linter.unusedVariables false
set_option linter.unusedSimpArgs false
theorem inR_u8 {x:Int} (h:InR U8 x):0≤x∧x≤255:=by
 have h:(Lit.int .u8 x).wf=true:=h
 simp only [Lit.wf,Bool.and_eq_true,decide_eq_true_eq] at h
 have e1:IntKind.u8.min=0:=by decide
 have e2:IntKind.u8.max=255:=by decide
 omega
theorem lawAt_W {n:Nat} {code:List Int} {i:Int} (hb:code.length≤1048576) (hc:InR (.sl U8) code) (hi:0≤i∧i≤1000):W (lawAt.f n code i) (fun r=>0≤r.1∧r.1≤255):=by
 have hc2:∀ x∈code,InR U8 x:=hc.2
 unfold lawAt.f
 rw [W_brd]
 refine ⟨fun h=>?_,fun h=>?_⟩
 ·rw [chk_true (by omega),W_some,getD_lt (by omega)]
  have:=inR_u8 (hc2 _ (List.getElem_mem (show i.toNat<code.length by omega)))
  show 0≤w64 _∧w64 _≤255
  rw [w64_id (by omega) (by omega)]
  exact this
 ·rw [W_some]
  show 0≤Int.tmod _ 256∧Int.tmod _ 256≤255
  rw [w64_id (n:=i*37) (by omega) (by omega),w64_id (n:=(code.length:Int)*11) (by omega) (by omega),w64_id (by omega) (by omega)]
  have h1:=Int.tmod_nonneg (a:=i*37+(code.length:Int)*11) 256 (by omega)
  have h2:=Int.tmod_lt_of_pos (i*37+(code.length:Int)*11) (b:=256) (by omega)
  omega
def Rch (nt:Network) (s:State):Prop:=∀ J:State→Prop,J (start nt)→(∀ s k,J s→k<nt.1.length→canP nt s k=true→J (stepP nt s k))→J s
theorem Rch.step {nt:Network} {s:State} {k:Nat} (R:Rch nt s) (hk:k<nt.1.length) (hc:canP nt s k=true):Rch nt (stepP nt s k):=fun J h1 h2=>h2 s k (R J h1 h2) hk hc
theorem Rch.ok {nt:Network} {s:State} (o:OkN nt) (R:Rch nt s):OkSt nt s:=R (OkSt nt) (start_ok o) (fun s k h hk hc=>stepP_ok h hk hc)
def CapSm (nt:Network) (caps:List Int):Prop:=caps.length=nt.2.length∧∀ j,j<nt.2.length→((nt.2.getD j zLink).2.2.2.2.length:Int)≤caps.getD j 0∧caps.getD j 0≤((nt.2.getD j zLink).2.2.2.2.length:Int)+3
theorem CapSm.ok {m:Nat} {nt:Network} {caps:List Int} (hN:NetSm m nt) (h:CapSm nt caps):okC nt.2 caps=true:=by
 unfold okC
 simp only [Bool.and_eq_true,decide_eq_true_eq,List.all_eq_true,List.mem_range]
 refine ⟨h.1,fun j hj=>?_⟩
 rw [h.1] at hj
 have h2:=h.2 j hj
 have e1:nt.2.getD j zLink=nt.2[j]:=getD_lt hj _
 have:=(hN.toks _ (List.getElem_mem hj)).1
 rw [e1] at h2 ⊢
 omega
end Go.AmT
