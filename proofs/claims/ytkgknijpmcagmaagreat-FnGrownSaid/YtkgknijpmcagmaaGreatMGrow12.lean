/- Chains of sample programs, in plain Lean: they are valid, they never jam, and they end. -/
import Derived.Test.YtkgknijpmcagmaaGreatMGrow11
import Derived.Test.YtkgknijpmcagmaaGreatMGrow8
import Derived.Test.YtkgknijpmcagmaaGreatMGrow7
import Derived.Test.YtkgknijpmcagmaaGreatMGrow1
import Derived.Test.YtkgknijpmcagmaaGreatMGrow2
namespace Go.AmT
open Go Go.Am
set_option linter.unusedVariables false
set_option linter.unusedSimpArgs false
def lkC (N k:Nat):Link:=((k:Int),0,if k+1=N then -1 else ((k+1:Nat):Int),0,[])
def chainN (ps:List Program) (t:List Int):Network:=(ps,(-1,0,0,0,t)::(List.range ps.length).map (lkC ps.length))
theorem chain_small {ps:List Program} {t:List Int} (hp:∀ p∈ps,SmallP p) (hl:ps.length≤12) (ht:t.length≤1048576):SmallN (chainN ps t):=by
 refine ⟨by simp [chainN]; omega,hp,by simp [chainN]; omega,fun l hl=>?_⟩
 rcases List.mem_cons.1 hl with h | h
 ·subst h; exact ⟨ht⟩
 ·obtain ⟨k,_,rfl⟩:=List.mem_map.1 h
  exact ⟨by simp [lkC]⟩
theorem iChain_spec {n:Nat} {ps:List Program} {t:List Int} (hp:∀ p∈ps,SmallP p) (h1:∀ p∈ps,p.1=1∧p.2.1=1) (h0:0<ps.length) (hl:ps.length≤12) (ht:t.length≤1048576) (o:OkN (chainN ps t)) (hn:1048576<n) :
  iChain.f n ps t=some (chainN ps t,(true,())):=by
 unfold iChain.f
 rw [br_no (show ¬ (ps.length:Int)=0 by omega)]
 simp only [cut_inr]
 rw [br_no (show ¬ (12:Int)<(ps.length:Int) by omega)]
 refine W_eq.1 ?_
 refine W_up (fun i (s:List Link)=>((i:Int),(ps,(s,())))) ps.length (fun i s=>s=(-1,0,0,0,t)::(List.range i).map (lkC ps.length)) (s0:=[(-1,0,0,0,t)]) rfl rfl (by omega) (fun ih s hI=>?_) (fun ih i s hi hI hS=>?_)
 ·subst hI
  simp only [br_no (Int.lt_irrefl _)]
  rw [show (ps,((-1,0,0,0,t):Link)::(List.range ps.length).map (lkC ps.length))=chainN ps t from rfl,iChecked_spec (chain_small hp hl ht) hn,show okN (chainN ps t)=true by simp [okN,o]]
  exact W_some.2 rfl
 ·subst hI
  simp only [br_yes (show (i:Int)<(ps.length:Int) by omega),Int.toNat_natCast]
  have g:=h1 (ps.getD i zProgram) (by rw [getD_lt hi]; exact List.getElem_mem hi)
  rw [chk_true (by omega),w64_succ (by omega)]
  simp only [g.1,g.2,decide_true,Bool.not_true,br_false,cut_inr]
  have hcut:∀ {ρ:Type} {f:(Int×Unit)→Option ρ},cut (br (decide (((i+1:Nat):Int)=(ps.length:Int))) (some (.inr ((-1:Int),()))) (some (.inr (((i+1:Nat):Int),())))) f=f ((lkC ps.length i).2.2.1,()):=by
   intro ρ f
   unfold lkC
   simp only
   by_cases h:i+1=ps.length
   ·rw [br_yes (by omega),if_pos h]; rfl
   ·rw [br_no (by omega),if_neg h]; rfl
  rw [hcut,small_chk (by simp; omega)]
  refine hS _ ?_
  rw [List.range_succ,List.map_append]; rfl
def smpB (p:Program):Bool:=okP p&&(decide (p.1=1)&&(decide (p.2.1=1)&&(decide (2≤p.2.2.length)&&(decide (p.2.2.length≤6)&&(decide ((p.2.2.getD 0 zInstr).1=1)&&(decide (p.2.2.countP (fun x=>decide (x.1=2))≤2)&&
 (List.range p.2.2.length).all (fun i=>decide (i=0)||(if i+1=p.2.2.length then decide ((p.2.2.getD i zInstr).1=8)&&decide ((p.2.2.getD i zInstr).2.2.1=0) else decide (2≤(p.2.2.getD i zInstr).1)&&decide ((p.2.2.getD i zInstr).1≤7)))))))))
structure Smp (p:Program):Prop where
 ok:okP p=true
 ins:p.1=1
 outs:p.2.1=1
 two:2≤p.2.2.length
 six:p.2.2.length≤6
 read:(p.2.2.getD 0 zInstr).1=1
 writes:p.2.2.countP (fun x=>decide (x.1=2))≤2
 mid:∀ i,0<i→i+1<p.2.2.length→2≤(p.2.2.getD i zInstr).1∧(p.2.2.getD i zInstr).1≤7
 last:∀ i,0<i→i+1=p.2.2.length→(p.2.2.getD i zInstr).1=8∧(p.2.2.getD i zInstr).2.2.1=0
theorem smp_of {p:Program} (h:smpB p=true):Smp p:=by
 unfold smpB at h
 simp only [Bool.and_eq_true,decide_eq_true_eq,List.all_eq_true,List.mem_range] at h
 obtain ⟨h1,h2,h3,h4,h5,h6,h7,h8⟩:=h
 refine ⟨h1,h2,h3,h4,h5,h6,h7,fun i hi hl=>?_,fun i hi hl=>?_⟩
 ·have:=h8 i (by omega)
  rw [if_neg (by omega),Bool.or_eq_true,decide_eq_true_eq,Bool.and_eq_true,decide_eq_true_eq,decide_eq_true_eq] at this
  rcases this with h | h
  ·omega
  ·exact h
 ·have:=h8 i (by omega)
  rw [if_pos hl,Bool.or_eq_true,decide_eq_true_eq,Bool.and_eq_true,decide_eq_true_eq,decide_eq_true_eq] at this
  rcases this with h | h
  ·omega
  ·exact h
def pThrough:Program:=(1,1,[(1,0,0,0),(2,0,0,0),(8,0,0,0)])
def pSums:Program:=(1,1,[(1,1,0,0),(4,0,0,1),(2,0,0,0),(8,0,0,0)])
def pSteps:Program:=(1,1,[(1,1,0,0),(5,2,1,0),(2,2,0,0),(3,3,0,0),(4,0,1,3),(8,0,0,0)])
theorem smp_through:Smp pThrough:=smp_of (by decide)
theorem smp_sums:Smp pSums:=smp_of (by decide)
theorem smp_steps:Smp pSteps:=smp_of (by decide)
theorem s_through {n:Nat} (hn:1048576<n):sSampleProgram.f n ([116,104,114,111,117,103,104]:List UInt8)=some (pThrough,()):=by
 obtain ⟨m,rfl⟩:∃ m,n=m+10:=⟨n-10,by omega⟩
 rfl
theorem chain_ok {ps:List Program} {t:List Int} (hs:∀ p∈ps,Smp p) (h0:0<ps.length) (h4:ps.length≤4) (ht:okS t=true):OkN (chainN ps t):=by
 have hp:∀ (i:Nat) (hi:i<ps.length),Smp ps[i]:=fun i hi=>hs _ (List.getElem_mem hi)
 have ge:∀ (i:Nat),i<ps.length→(ps.getD i zProgram).1=1∧(ps.getD i zProgram).2.1=1:=fun i hi=>by rw [getD_lt hi]; exact ⟨(hp i hi).ins,(hp i hi).outs⟩
 have len:(chainN ps t).2.length=ps.length+1:=by simp [chainN]
 have get0:∀ h,(chainN ps t).2[0]'h=(-1,0,0,0,t):=fun h=>rfl
 have getS:∀ (i:Nat) h,(chainN ps t).2[i+1]'h=lkC ps.length i:=fun i h=>by simp [chainN]
 have hc:∀ (f:Link→Bool) (i:Nat) (hi:i<(chainN ps t).2.length),f ((chainN ps t).2[i]'hi)=true→(∀ (j:Nat) (hj:j<(chainN ps t).2.length),f ((chainN ps t).2[j]'hj)=true→j=i)→(chainN ps t).2.countP f=1:=by
  intro f i hi h1 h2
  rw [List.countP_eq_length_filter]
  have key:∀ (l:List Link) (i:Nat) (hi:i<l.length),f l[i]=true→(∀ (j:Nat) (hj:j<l.length),f l[j]=true→j=i)→(l.filter f).length=1:=by
   intro l
   induction l with
   | nil=>intro i hi; exact absurd hi (Nat.not_lt_zero _)
   | cons x r ih=>
    intro i hi h1 h2
    cases i with
    | zero=>
     have h1:f x=true:=h1
     rw [List.filter_cons,if_pos h1,List.length_cons]
     have:r.filter f=[]:=by
      rw [List.filter_eq_nil_iff]
      intro y hy hf
      obtain ⟨j,hj,rfl⟩:=List.getElem_of_mem hy
      have:=h2 (j+1) (by simpa using hj) (by simpa using hf)
      omega
     rw [this]; rfl
    | succ i=>
     have hx:f x=false:=by
      cases e:f x with
      | false=>rfl
      | true=>have:=h2 0 (by simp) (by simpa using e); omega
     rw [List.filter_cons,if_neg (by rw [hx]; simp)]
     exact ih i (by simpa using hi) (by simpa using h1) (fun j hj hf=>by have:=h2 (j+1) (by simpa using hj) (by simpa using hf); omega)
  exact key _ i hi h1 h2
 refine ⟨by show ps.length≤12; omega,by rw [len]; omega,fun i hi=>(hp i hi).ok,fun i hi=>?_,fun i hi=>?_,fun i hi k hk=>?_,fun i hi k hk=>?_⟩
 ·rw [len] at hi
  cases i with
  | zero=>
   rw [get0]
   refine ⟨Or.inl ⟨rfl,rfl⟩,Or.inr ⟨Int.le_refl _,by show (0:Int)<(ps.length:Int); omega,Int.le_refl _,?_⟩,by simp⟩
   show (0:Int)<(ps.getD 0 zProgram).1
   rw [(ge 0 h0).1]; omega
  | succ i=>
   rw [getS]
   refine ⟨Or.inr ⟨by simp only [lkC]; omega,by simp only [lkC]; show (i:Int)<(ps.length:Int); omega,Int.le_refl _,?_⟩,?_,by simp only [lkC]; omega⟩
   ·show (0:Int)<(ps.getD (i:Int).toNat zProgram).2.1
    rw [Int.toNat_natCast,(ge i (by omega)).2]; omega
   ·by_cases h:i+1=ps.length
    ·exact Or.inl ⟨by simp only [lkC]; rw [if_pos h],rfl⟩
    ·refine Or.inr ⟨by simp only [lkC]; rw [if_neg h]; omega,by simp only [lkC]; rw [if_neg h]; show ((i+1:Nat):Int)<(ps.length:Int); omega,Int.le_refl _,?_⟩
     simp only [lkC]
     rw [if_neg h]
     show (0:Int)<(ps.getD ((i+1:Nat):Int).toNat zProgram).1
     rw [Int.toNat_natCast,(ge (i+1) (by omega)).1]; omega
 ·rw [len] at hi
  cases i with
  | zero=>rw [get0]; exact ht
  | succ i=>rw [getS]; rfl
 ·have hi:i<ps.length:=hi
  have hk:(k:Int)<(ps[i]'hi).1:=hk
  rw [(hp i hi).ins] at hk
  obtain rfl:k=0:=by omega
  refine hc _ i (by rw [len]; omega) ?_ (fun j hj hf=>?_)
  ·cases i with
   | zero=>rw [get0]; rfl
   | succ i=>rw [getS]; unfold isTo lkC; simp only; rw [if_neg (by omega)]; simp
  ·rw [len] at hj
   cases j with
   | zero=>rw [get0] at hf; unfold isTo at hf; simp at hf; omega
   | succ j=>
    rw [getS] at hf; unfold isTo lkC at hf; simp only [Bool.and_eq_true,decide_eq_true_eq] at hf
    have:=hf.1
    split at this<;>omega
 ·have hi:i<ps.length:=hi
  have hk:(k:Int)<(ps[i]'hi).2.1:=hk
  rw [(hp i hi).outs] at hk
  obtain rfl:k=0:=by omega
  refine hc _ (i+1) (by rw [len]; omega) ?_ (fun j hj hf=>?_)
  ·rw [getS]; simp [isFrom,lkC]
  ·rw [len] at hj
   cases j with
   | zero=>rw [get0] at hf; unfold isFrom at hf; simp at hf
   | succ j=>
    rw [getS] at hf; unfold isFrom lkC at hf; simp only [Bool.and_eq_true,decide_eq_true_eq] at hf
    omega
end Go.AmT
namespace Go.AmT
open Go Go.Am
set_option linter.unusedVariables false
set_option linter.unusedSimpArgs false
def mapA {S:Type} (g:S→Int→Int) (h:S→Int→S):S→List Int→List Int
 | _,[]=>[]
 | s,x::r=>g s x::mapA g h (h s x) r
section
variable {p:Program} {I:Nat→List Int} {a:Actor} {o:Nat→List Int} {u:Nat→Nat}
theorem ls_read (hw:wantP p a=(2,0)) (h:u 0<(I 0).length):lstep p I (a,o,u)=some (stepA p a ((I 0).getD (u 0) 0),o,upd u 0 (u 0+1)):=by
 unfold lstep
 simp only [hw,Int.reduceEq,if_false,if_true,Int.toNat_zero]
 rw [if_pos h]
theorem ls_stop (hw:wantP p a=(2,0)) (h:¬ u 0<(I 0).length):lstep p I (a,o,u)=none:=by
 unfold lstep
 simp only [hw,Int.reduceEq,if_false,if_true,Int.toNat_zero]
 rw [if_neg h]
theorem ls_write (hw:wantP p a=(3,0)):lstep p I (a,o,u)=some (stepA p a 0,upd o 0 (o 0++[outP (instrP p a) a]),u):=by
 unfold lstep
 simp only [hw,Int.reduceEq,if_false,if_true,Int.toNat_zero]
theorem ls_in (hw:wantP p a=(1,0)):lstep p I (a,o,u)=some (stepA p a 0,o,u):=by
 unfold lstep
 simp only [hw,Int.reduceEq,if_false]
end
theorem loop_full {p:Program} {S:Type} {A:S→Actor} {g:S→Int→Int} {h:S→Int→S} {K:Nat}
  (hstop:∀ (I:Nat→List Int) (o:Nat→List Int) (u:Nat→Nat) (s:S),¬ u 0<(I 0).length→lstep p I (A s,o,u)=none)
  (hrun:∀ (I:Nat→List Int) (o:Nat→List Int) (u:Nat→Nat) (s:S),u 0<(I 0).length→lrun p I K (A s,o,u)=some (A (h s ((I 0).getD (u 0) 0)),upd o 0 (o 0++[g s ((I 0).getD (u 0) 0)]),upd u 0 (u 0+1))) (I:Nat→List Int) :
  ∀ (m:Nat) (o:Nat→List Int) (u:Nat→Nat) (s:S),(I 0).length-u 0=m→∃ M d,Full p I (A s,o,u) M d∧d.2.1 0=o 0++mapA g h s ((I 0).drop (u 0))
 | 0,o,u,s,hm=>⟨0,_,⟨rfl,hstop I o u s (by omega)⟩,by rw [List.drop_eq_nil_of_le (by omega)]; simp [mapA]⟩
 | m+1,o,u,s,hm=>by
  have hlt:u 0<(I 0).length:=by omega
  obtain ⟨M,d,F,e⟩:=loop_full hstop hrun I m (upd o 0 (o 0++[g s ((I 0).getD (u 0) 0)])) (upd u 0 (u 0+1)) (h s ((I 0).getD (u 0) 0)) (by rw [upd_same]; omega)
  refine ⟨K+M,d,⟨by rw [lrun_add,hrun I o u s hlt,Option.bind_some]; exact F.1,F.2⟩,?_⟩
  rw [e,upd_same,upd_same,List.drop_eq_getElem_cons hlt,getD_lt hlt]
  simp [mapA]
def Makes (p:Program) (f:List Int→List Int):Prop:=∀ (I:Nat→List Int) (o:Nat→List Int) (u:Nat→Nat),∃ M d,Full p I (newA,o,u) M d∧d.2.1 0=o 0++f ((I 0).drop (u 0))
def sumF:Int→List Int→List Int
 | _,[]=>[]
 | a,x::r=>wr (a+x)::sumF (wr (a+x)) r
def stepF:Int→List Int→List Int
 | _,[]=>[]
 | a,x::r=>wr (x-a)::stepF (wr (x+0)) r
theorem makes_through:Makes pThrough id:=by
 intro I o u
 obtain ⟨M,d,F,e⟩:=loop_full (p:=pThrough) (S:=Int) (A:=fun x=>(0,[x,0,0,0])) (g:=fun _ x=>x) (h:=fun _ x=>x) (K:=3) (fun I o u s h=>ls_stop rfl h) (fun I o u s h=>by
  show (((some (((0:Int),[s,0,0,0]),o,u)).bind (lstep pThrough I)).bind (lstep pThrough I)).bind (lstep pThrough I)=_
  rw [Option.bind_some,ls_read rfl h,Option.bind_some,ls_write rfl,Option.bind_some,ls_in rfl]
  rfl) I _ o u 0 rfl
 refine ⟨M,d,F,?_⟩
 rw [e]
 have key:∀ (l:List Int) (s:Int),mapA (fun _ x=>x) (fun _ x=>x) s l=l:=by
  intro l
  induction l with
  | nil=>intro s; rfl
  | cons x r ih=>intro s; show x::mapA _ _ x r=_; rw [ih]
 rw [key]; rfl
theorem su1 (a b x:Int):stepA pSums (0,[a,b,0,0]) x=(1,[a,x,0,0]):=rfl
theorem val_add (regs:List Int) (r i j:Int):valP (4,r,i,j) regs 0=wr (rg regs i+rg regs j):=by
 unfold valP
 rw [if_neg (show ¬ (4:Int)=1 by decide),if_neg (show ¬ (4:Int)=3 by decide),if_pos rfl]
theorem val_sub (regs:List Int) (r i j:Int):valP (5,r,i,j) regs 0=wr (rg regs i-rg regs j):=by
 unfold valP
 rw [if_neg (show ¬ (5:Int)=1 by decide),if_neg (show ¬ (5:Int)=3 by decide),if_neg (show ¬ (5:Int)=4 by decide),if_pos rfl]
theorem set_reg {p:Program} {a:Actor} {x:Instr} {v:Int} {pc:Int} (h:instrP p a=x) (hv:valP x a.2 0=v) (hp:pcP x a=pc):stepA p a 0=(pc,a.2.set x.2.1.toNat v):=by
 unfold stepA
 rw [h,hv,hp]
theorem su2 (a x:Int):stepA pSums (1,[a,x,0,0]) 0=(2,[wr (a+x),x,0,0]):=by
 rw [set_reg (x:=(4,0,0,1)) (pc:=2) rfl (val_add _ _ _ _) rfl]
 have e0:rg [a,x,0,0] 0=a:=rfl
 have e1:rg [a,x,0,0] 1=x:=rfl
 simp only [e0,e1]; generalize wr (a+x)=y; rfl
theorem su3 (y x:Int):stepA pSums (2,[y,x,0,0]) 0=(3,[y,x,0,0]):=rfl
theorem su4 (y x:Int):stepA pSums (3,[y,x,0,0]) 0=(0,[y,x,0,0]):=rfl
theorem suo (y x:Int):outP (instrP pSums (2,[y,x,0,0])) (2,[y,x,0,0])=y:=rfl
theorem makes_sums:Makes pSums (sumF 0):=by
 intro I o u
 obtain ⟨M,d,F,e⟩:=loop_full (p:=pSums) (S:=Int×Int) (A:=fun s=>(0,[s.1,s.2,0,0])) (g:=fun s x=>wr (s.1+x)) (h:=fun s x=>(wr (s.1+x),x)) (K:=4) (fun I o u s h=>ls_stop rfl h) (fun I o u s h=>by
  show ((((some (((0:Int),[s.1,s.2,0,0]),o,u)).bind (lstep pSums I)).bind (lstep pSums I)).bind (lstep pSums I)).bind (lstep pSums I)=_
  rw [Option.bind_some,ls_read rfl h,Option.bind_some,su1,ls_in rfl,Option.bind_some,su2,ls_write rfl,Option.bind_some,su3,suo,ls_in rfl,su4]) I _ o u (0,0) rfl
 refine ⟨M,d,F,?_⟩
 rw [e]
 have key:∀ (l:List Int) (s:Int×Int),mapA (fun s x=>wr (s.1+x)) (fun s x=>(wr (s.1+x),x)) s l=sumF s.1 l:=by
  intro l
  induction l with
  | nil=>intro s; rfl
  | cons x r ih=>intro s; show _::mapA _ _ _ r=_::sumF _ r; rw [ih]
 rw [key]
theorem st1 (a b c x:Int):stepA pSteps (0,[a,b,c,0]) x=(1,[a,x,c,0]):=rfl
theorem st2 (a c x:Int):stepA pSteps (1,[a,x,c,0]) 0=(2,[a,x,wr (x-a),0]):=by
 rw [set_reg (x:=(5,2,1,0)) (pc:=2) rfl (val_sub _ _ _ _) rfl]
 have e0:rg [a,x,c,0] 0=a:=rfl
 have e1:rg [a,x,c,0] 1=x:=rfl
 simp only [e0,e1]; generalize wr (x-a)=y; rfl
theorem st3 (a x d:Int):stepA pSteps (2,[a,x,d,0]) 0=(3,[a,x,d,0]):=rfl
theorem st4 (a x d:Int):stepA pSteps (3,[a,x,d,0]) 0=(4,[a,x,d,0]):=rfl
theorem st5 (a x d:Int):stepA pSteps (4,[a,x,d,0]) 0=(5,[wr (x+0),x,d,0]):=by
 rw [set_reg (x:=(4,0,1,3)) (pc:=5) rfl (val_add _ _ _ _) rfl]
 have e0:rg [a,x,d,0] 1=x:=rfl
 have e1:rg [a,x,d,0] 3=0:=rfl
 simp only [e0,e1]; generalize wr (x+0)=y; rfl
theorem st6 (a x d:Int):stepA pSteps (5,[a,x,d,0]) 0=(0,[a,x,d,0]):=rfl
theorem sto (a x d:Int):outP (instrP pSteps (2,[a,x,d,0])) (2,[a,x,d,0])=d:=rfl
theorem makes_steps:Makes pSteps (stepF 0):=by
 intro I o u
 obtain ⟨M,d,F,e⟩:=loop_full (p:=pSteps) (S:=Int×Int×Int) (A:=fun s=>(0,[s.1,s.2.1,s.2.2,0])) (g:=fun s x=>wr (x-s.1)) (h:=fun s x=>(wr (x+0),x,wr (x-s.1))) (K:=6) (fun I o u s h=>ls_stop rfl h) (fun I o u s h=>by
  show ((((((some (((0:Int),[s.1,s.2.1,s.2.2,0]),o,u)).bind (lstep pSteps I)).bind (lstep pSteps I)).bind (lstep pSteps I)).bind (lstep pSteps I)).bind (lstep pSteps I)).bind (lstep pSteps I)=_
  rw [Option.bind_some,ls_read rfl h,Option.bind_some,st1,ls_in rfl,Option.bind_some,st2,ls_write rfl,Option.bind_some,st3,sto,ls_in rfl,Option.bind_some,st4,ls_in rfl,Option.bind_some,st5,ls_in rfl,st6]) I _ o u (0,0,0) rfl
 refine ⟨M,d,F,?_⟩
 rw [e]
 have key:∀ (l:List Int) (s:Int×Int×Int),mapA (fun s x=>wr (x-s.1)) (fun s x=>(wr (x+0),x,wr (x-s.1))) s l=stepF s.1 l:=by
  intro l
  induction l with
  | nil=>intro s; rfl
  | cons x r ih=>intro s; show _::mapA _ _ _ r=_::stepF _ r; rw [ih]
 rw [key]
def okT (l:List Int):Prop:=∀ x∈l,tok x=true
theorem wr_near {x:Int} (h1 : -1999999<x) (h2:x<1999999):wr x=if 999999<x then x-1999999 else if x < -999999 then x+1999999 else x:=by
 have e:x.tmod 1999999=x:=by
  rcases Int.lt_or_le x 0 with h | h
  ·have:=Int.tmod_eq_of_lt (a:=-x) (b:=1999999) (by omega) (by omega)
   rw [Int.neg_tmod] at this; omega
  ·exact Int.tmod_eq_of_lt h h2
 unfold wr
 rw [e]
theorem tok_bd {x:Int} (h:tok x=true) : -999999≤x∧x≤999999:=by
 unfold tok at h
 simp only [Bool.and_eq_true,decide_eq_true_eq] at h
 exact h
theorem wr_same {x:Int} (h:tok x=true):wr x=x:=by
 have:=tok_bd h
 rw [wr_near (by omega) (by omega)]
 rw [if_neg (by omega),if_neg (by omega)]
theorem wr_sub {a x:Int} (ha:tok a=true) (hx:tok x=true):wr (wr (a+x)-a)=x:=by
 have b1:=tok_bd ha; have b2:=tok_bd hx
 rw [wr_near (x:=a+x) (by omega) (by omega)]
 split
 ·rw [wr_near (by omega) (by omega)]
  split
  ·omega
  ·split<;>omega
 ·split
  ·rw [wr_near (by omega) (by omega)]
   split
   ·omega
   ·split<;>omega
  ·rw [wr_near (by omega) (by omega)]
   split
   ·omega
   ·split<;>omega
theorem wr_add {a x:Int} (ha:tok a=true) (hx:tok x=true):wr (a+wr (x-a))=x:=by
 have b1:=tok_bd ha; have b2:=tok_bd hx
 rw [wr_near (x:=x-a) (by omega) (by omega)]
 split
 ·rw [wr_near (by omega) (by omega)]
  split
  ·omega
  ·split<;>omega
 ·split
  ·rw [wr_near (by omega) (by omega)]
   split
   ·omega
   ·split<;>omega
  ·rw [wr_near (by omega) (by omega)]
   split
   ·omega
   ·split<;>omega
theorem steps_sums:∀ (l:List Int) (a:Int),tok a=true→okT l→stepF a (sumF a l)=l
 | [],_,_,_=>rfl
 | x::r,a,ha,hl=>by
  show wr (wr (a+x)-a)::stepF (wr (wr (a+x)+0)) (sumF (wr (a+x)) r)=x::r
  rw [wr_sub ha (hl x (by simp)),Int.add_zero,wr_same (wr_tok _),steps_sums r _ (wr_tok _) (fun y hy=>hl y (by simp [hy]))]
theorem sums_steps:∀ (l:List Int) (a:Int),tok a=true→okT l→sumF a (stepF a l)=l
 | [],_,_,_=>rfl
 | x::r,a,ha,hl=>by
  show wr (a+wr (x-a))::sumF (wr (a+wr (x-a))) (stepF (wr (x+0)) r)=x::r
  have hx:=hl x (by simp)
  rw [wr_add ha hx,Int.add_zero,wr_same hx,sums_steps r _ hx (fun y hy=>hl y (by simp [hy]))]
theorem sumF_ok:∀ (l:List Int) (a:Int),(sumF a l).length=l.length∧okT (sumF a l)
 | [],_=>⟨rfl,fun x hx=>by simp [sumF] at hx⟩
 | x::r,a=>by
  have ih:=sumF_ok r (wr (a+x))
  refine ⟨by show (sumF _ r).length+1=r.length+1; rw [ih.1],fun y hy=>?_⟩
  rcases List.mem_cons.1 hy with h | h
  ·rw [h]; exact wr_tok _
  ·exact ih.2 y h
theorem stepF_ok:∀ (l:List Int) (a:Int),(stepF a l).length=l.length∧okT (stepF a l)
 | [],_=>⟨rfl,fun x hx=>by simp [stepF] at hx⟩
 | x::r,a=>by
  have ih:=stepF_ok r (wr (x+0))
  refine ⟨by show (stepF _ r).length+1=r.length+1; rw [ih.1],fun y hy=>?_⟩
  rcases List.mem_cons.1 hy with h | h
  ·rw [h]; exact wr_tok _
  ·exact ih.2 y h
theorem okT_of {l:List Int} (h:okS l=true):okT l∧l.length≤400:=by
 unfold okS at h
 simp only [Bool.and_eq_true,decide_eq_true_eq,List.all_eq_true] at h
 exact ⟨h.2,h.1⟩
def thr (fs:Nat→List Int→List Int):Nat→List Int→List Int
 | 0,x=>x
 | i+1,x=>fs i (thr fs i x)
structure Undo (ps:List Program) (fs:Nat→List Int→List Int):Prop where
 ins:∀ i,i<ps.length→(ps.getD i zProgram).1=1∧(ps.getD i zProgram).2.1=1
 mkf:∀ i,i<ps.length→Makes (ps.getD i zProgram) (fs i)
 len:∀ i x,i≤ps.length→(thr fs i x).length=x.length
 same:∀ x,okT x→thr fs ps.length x=x
def fnP (p:Program):List Int→List Int:=if p=pSums then sumF 0 else if p=pSteps then stepF 0 else id
theorem fnP_make {p:Program} (h:p=pThrough∨p=pSums∨p=pSteps):Makes p (fnP p)∧p.1=1∧p.2.1=1∧∀ x,(fnP p x).length=x.length:=by
 rcases h with h | h | h
 ·subst h
  have e:fnP pThrough=id:=by
   unfold fnP
   rw [if_neg (by decide),if_neg (by decide)]
  rw [e]; exact ⟨makes_through,rfl,rfl,fun _=>rfl⟩
 ·subst h
  have e:fnP pSums=sumF 0:=by unfold fnP; rw [if_pos rfl]
  rw [e]; exact ⟨makes_sums,rfl,rfl,fun x=>(sumF_ok x 0).1⟩
 ·subst h
  have e:fnP pSteps=stepF 0:=by
   unfold fnP
   rw [if_neg (by decide),if_pos rfl]
  rw [e]; exact ⟨makes_steps,rfl,rfl,fun x=>(stepF_ok x 0).1⟩
def fnL (ps:List Program) (i:Nat):List Int→List Int:=fnP (ps.getD i zProgram)
theorem undo_of {ps:List Program} (h:∀ i,i<ps.length→ps.getD i zProgram=pThrough∨ps.getD i zProgram=pSums∨ps.getD i zProgram=pSteps) (hs:∀ x,okT x→thr (fnL ps) ps.length x=x):Undo ps (fnL ps):=by
 refine ⟨fun i hi=>?_,fun i hi=>(fnP_make (h i hi)).1,fun i x hi=>?_,hs⟩
 ·have:=fnP_make (h i hi)
  exact ⟨this.2.1,this.2.2.1⟩
 ·induction i with
  | zero=>rfl
  | succ i ih=>show (fnP _ _).length=_; rw [(fnP_make (h i (by omega))).2.2.2,ih (by omega)]
theorem fn_th:fnP pThrough=id:=by unfold fnP; rw [if_neg (by decide),if_neg (by decide)]
theorem fn_su:fnP pSums=sumF 0:=by unfold fnP; rw [if_pos rfl]
theorem fn_st:fnP pSteps=stepF 0:=by unfold fnP; rw [if_neg (by decide),if_pos rfl]
theorem undo1:Undo [pThrough] (fnL [pThrough]):=undo_of (fun i hi=>by match i,hi with | 0,_=>exact .inl rfl) (fun x _=>by
 show fnP pThrough x=x
 rw [fn_th]; rfl)
theorem undo2:Undo [pThrough,pThrough] (fnL [pThrough,pThrough]):=undo_of (fun i hi=>by match i,hi with | 0,_=>exact .inl rfl | 1,_=>exact .inl rfl) (fun x _=>by
 show fnP pThrough (fnP pThrough x)=x
 rw [fn_th]; rfl)
theorem undo3:Undo [pSums,pSteps] (fnL [pSums,pSteps]):=undo_of (fun i hi=>by match i,hi with | 0,_=>exact .inr (.inl rfl) | 1,_=>exact .inr (.inr rfl)) (fun x hx=>by
 show fnP pSteps (fnP pSums x)=x
 rw [fn_su,fn_st]; exact steps_sums x 0 (by decide) hx)
theorem undo4:Undo [pSteps,pSums] (fnL [pSteps,pSums]):=undo_of (fun i hi=>by match i,hi with | 0,_=>exact .inr (.inr rfl) | 1,_=>exact .inr (.inl rfl)) (fun x hx=>by
 show fnP pSums (fnP pSteps x)=x
 rw [fn_su,fn_st]; exact sums_steps x 0 (by decide) hx)
theorem undo5:Undo [pSums,pThrough,pSteps] (fnL [pSums,pThrough,pSteps]):=undo_of (fun i hi=>by match i,hi with | 0,_=>exact .inr (.inl rfl) | 1,_=>exact .inl rfl | 2,_=>exact .inr (.inr rfl)) (fun x hx=>by
 show fnP pSteps (fnP pThrough (fnP pSums x))=x
 rw [fn_su,fn_st,fn_th]; exact steps_sums x 0 (by decide) hx)
end Go.AmT
namespace Go.AmT
open Go Go.Am Go.Proofs
set_option linter.unusedVariables false
set_option maxRecDepth 100000
def tys21:List (Nat×TInfo):=[(3,⟨false,1,8,[.int .i64 0],.int .i64,0,some I,[],false⟩),
 (27,⟨false,1,24,[.nil],.slice,75,some (.sl IS),[],false⟩),
 (37,⟨false,1,24,[.nil],.slice,53,some (.sl tProgram),[],false⟩),
 (38,⟨false,1,24,[.nil],.slice,81,some (.sl tLink),[],false⟩),
 (40,⟨true,2,48,[.nil,.nil],.struct,0,some tNetwork,[(0,37),(1,38)],false⟩),
 (53,⟨true,3,40,[.int .i64 0,.int .i64 0,.nil],.struct,0,some tProgram,[(0,3),(1,3),(2,51)],false⟩),
 (75,⟨false,1,24,[.nil],.slice,3,some IS,[],false⟩),
 (81,⟨true,5,56,[.int .i64 0,.int .i64 0,.int .i64 0,.int .i64 0,.nil],.struct,0,some tLink,[(0,3),(1,3),(2,3),(3,3),(4,75)],false⟩)]
theorem tys21_ok:(tys21.all fun p=>tokB Tryz.prog p.1 p.2)=true:=by kernel_rfl
def sL8Outside.las:List (Nat×LA):=[(4,⟨[(5,.own 1000 tLink),(12,.int .i64)],[(1000,.row false tLink)],[1,10,11],[]⟩),(9,⟨[(30,.bool)],[],[1,5,7,10,11,12],[]⟩)]
noncomputable def sL8Outside.f (n:Nat) (a0:Network) (a1:Bool):Option ((List Link)×Unit):=iter (α:=(Int×(List Link)×Unit)) n (fun ih15 x14=>br (decide (x14.1<(a0.2.length:Int))) (chk (0≤x14.1∧x14.1<(a0.2.length:Int)) (let v16:=(a0.2.getD x14.1.toNat zLink); cut (α:=(Bool×Unit)) (br a1 (br (decide (v16.1=(-1))) (some (.inr (true,()))) (br (!a1) (some (.inr ((decide (v16.2.2.1=(-1))),()))) (some (.inr (false,()))))) (br (!a1) (some (.inr ((decide (v16.2.2.1=(-1))),()))) (some (.inr (false,()))))) fun y17=>br y17.1 (chk ((x14.2.1.length+([v16]:List Link).length)*56≤maxB) (ih15 ((w64 (x14.1+1)),((x14.2.1++[v16]),())))) (ih15 ((w64 (x14.1+1)),(x14.2.1,()))))) (some (x14.2.1,()))) (0,([],()))
noncomputable def sL8Outside.mng (n:Nat):Mng:=⟨[.val tNetwork,.val .bool],[.sh (.sl tLink)],fun x=>sL8Outside.f n x.1 x.2.1⟩
noncomputable def sL8Outside.cfg (n:Nat):Cfg:=⟨tys21,[],[],[]⟩
theorem sL8Outside.eq:∀ (n:Nat) (a0:Network) (a1:Bool),runF (sL8Outside.cfg n) n Tryz.f80 (annOf Tryz.f80 sL8Outside.las) [.val tNetwork,.val .bool] [.sh (.sl tLink)] (a0,(a1,()))=sL8Outside.f n a0 a1:=by
 intros
 kernel_rfl
theorem sL8Outside.gof:GoF Tryz.prog 80:=⟨_,Tryz.func80,by kernel_rfl,by kernel_rfl⟩
theorem sL8Outside.sound (n:Nat):Sound Tryz.prog 80 (sL8Outside.mng n):=runF_sound (fn:=Tryz.f80) (m:=sL8Outside.mng n) (c:=sL8Outside.cfg n) (regOK mixed (opOK (.of (c:=sL8Outside.cfg n) trivial) (.of (c:=sL8Outside.cfg n) trivial)) (tysOK tys21_ok)) (tysOK tys21_ok) Tryz.func80 (fun x=>(sL8Outside.eq n x.1 x.2.1).symm)
def sIsTemplate.las:List (Nat×LA):=[(1,⟨[(24,.bool)],[],[1,3,5],[]⟩),(8,⟨[(35,.int .i64)],[],[1,3,7,8,33,34],[]⟩)]
noncomputable def sIsTemplate.f (n:Nat) (a0:Network) (a1:Int) (a2:Network):Option (Bool×Unit):=cut (α:=(Bool×Unit)) ((sIsNetwork.f n a0).bind fun r5=>br (!r5.1) (some (.inr (true,()))) ((sIsNetwork.f n a2).bind fun r6=>br (!r6.1) (some (.inr (true,()))) ((sL3Has.f n a0 a1).bind fun r7=>some (.inr ((!r7.1),()))))) fun y4=>br y4.1 (some (false,())) ((sL8Outside.f n a2 true).bind fun r8=>(sL8Outside.f n a2 false).bind fun r9=>chk (r8.1.length*56≤maxB) (chk ((r8.1.length+r9.1.length)*56≤maxB) (iter (α:=(Int×Unit)) n (fun ih21 x20=>br (decide (x20.1<((r8.1++r9.1).length:Int))) (chk (0≤x20.1∧x20.1<((r8.1++r9.1).length:Int)) (br (decide (0<(((r8.1++r9.1).getD x20.1.toNat zLink).2.2.2.2.length:Int))) (some (false,())) (ih21 ((w64 (x20.1+1)),())))) (chk (0≤a1∧a1<(a0.1.length:Int)) (let v22:=(a0.1.getD a1.toNat zProgram); br (decide ((r8.1.length:Int)=v22.1)) (chk (0≤a1∧a1<(a0.1.length:Int)) (let v23:=(a0.1.getD a1.toNat zProgram); some ((decide ((r9.1.length:Int)=v23.2.1)),()))) (some (false,()))))) (0,()))))
noncomputable def sIsTemplate.mng (n:Nat):Mng:=⟨[.val tNetwork,.val I,.val tNetwork],[.val .bool],fun x=>sIsTemplate.f n x.1 x.2.1 x.2.2.1⟩
noncomputable def sIsTemplate.cfg (n:Nat):Cfg:=⟨tys21,[(84,sIsNetwork.mng n),(92,sL3Has.mng n),(80,sL8Outside.mng n)],[],[1000031]⟩
theorem sIsTemplate.eq:∀ (n:Nat) (a0:Network) (a1:Int) (a2:Network),runF (sIsTemplate.cfg n) n Tryz.f79 (annOf Tryz.f79 sIsTemplate.las) [.val tNetwork,.val I,.val tNetwork] [.val .bool] (a0,(a1,(a2,())))=sIsTemplate.f n a0 a1 a2:=by
 intros
 kernel_rfl
theorem sIsTemplate.gof:GoF Tryz.prog 79:=⟨_,Tryz.func79,by kernel_rfl,by kernel_rfl⟩
theorem sIsTemplate.sound (n:Nat):Sound Tryz.prog 79 (sIsTemplate.mng n):=runF_sound (fn:=Tryz.f79) (m:=sIsTemplate.mng n) (c:=sIsTemplate.cfg n) (regOK mixed (opOK (.of (c:=sIsTemplate.cfg n) ⟨⟨sIsNetwork.sound n,sIsNetwork.gof⟩,⟨⟨sL3Has.sound n,sL3Has.gof⟩,⟨⟨sL8Outside.sound n,sL8Outside.gof⟩,trivial⟩⟩⟩) (.of (c:=sIsTemplate.cfg n) trivial)) (tysOK tys21_ok)) (tysOK tys21_ok) Tryz.func79 (fun x=>(sIsTemplate.eq n x.1 x.2.1 x.2.2.1).symm)
def insC.las:List (Nat×LA):=[]
noncomputable def insC.f (n:Nat) (a0:Link):Option (Bool×Unit):=some ((decide (a0.1=(-1))),())
noncomputable def insC.mng (n:Nat):Mng:=⟨[.val tLink],[.val .bool],fun x=>insC.f n x.1⟩
noncomputable def insC.cfg (n:Nat):Cfg:=⟨tys21,[],[],[]⟩
theorem insC.eq:∀ (n:Nat) (a0:Link),runF (insC.cfg n) n Tryz.f134 (annOf Tryz.f134 insC.las) [.val tLink] [.val .bool] (a0,())=insC.f n a0:=by
 intros
 kernel_rfl
theorem insC.gof:GoF Tryz.prog 134:=⟨_,Tryz.func134,by kernel_rfl,by kernel_rfl⟩
theorem insC.sound (n:Nat):Sound Tryz.prog 134 (insC.mng n):=runF_sound (fn:=Tryz.f134) (m:=insC.mng n) (c:=insC.cfg n) (regOK mixed (opOK (.of (c:=insC.cfg n) trivial) (.of (c:=insC.cfg n) trivial)) (tysOK tys21_ok)) (tysOK tys21_ok) Tryz.func134 (fun x=>(insC.eq n x.1).symm)
def outsC.las:List (Nat×LA):=[]
noncomputable def outsC.f (n:Nat) (a0:Link):Option (Bool×Unit):=some ((decide (a0.2.2.1=(-1))),())
noncomputable def outsC.mng (n:Nat):Mng:=⟨[.val tLink],[.val .bool],fun x=>outsC.f n x.1⟩
noncomputable def outsC.cfg (n:Nat):Cfg:=⟨tys21,[],[],[]⟩
theorem outsC.eq:∀ (n:Nat) (a0:Link),runF (outsC.cfg n) n Tryz.f135 (annOf Tryz.f135 outsC.las) [.val tLink] [.val .bool] (a0,())=outsC.f n a0:=by
 intros
 kernel_rfl
theorem outsC.gof:GoF Tryz.prog 135:=⟨_,Tryz.func135,by kernel_rfl,by kernel_rfl⟩
theorem outsC.sound (n:Nat):Sound Tryz.prog 135 (outsC.mng n):=runF_sound (fn:=Tryz.f135) (m:=outsC.mng n) (c:=outsC.cfg n) (regOK mixed (opOK (.of (c:=outsC.cfg n) trivial) (.of (c:=outsC.cfg n) trivial)) (tysOK tys21_ok)) (tysOK tys21_ok) Tryz.func135 (fun x=>(outsC.eq n x.1).symm)
def whereI.las:List (Nat×LA):=[(4,⟨[(5,.own 1000 I),(12,.int .i64)],[(1000,.row true I)],[1,10,11],[]⟩)]
noncomputable def whereI.f (n:Nat) (a0:Network) (a1:(Unit)):Option ((List Int)×Unit):=iter (α:=(Int×(List Int)×Unit)) n (fun ih7 x6=>br (decide (x6.1<(a0.2.length:Int))) (chk (0≤x6.1∧x6.1<(a0.2.length:Int)) (let v8:=(a0.2.getD x6.1.toNat zLink); (insC.f n v8).bind fun r9=>br r9.1 (chk ((x6.2.1.length+([x6.1]:List Int).length)*8≤maxB) (ih7 ((w64 (x6.1+1)),((x6.2.1++[x6.1]),())))) (ih7 ((w64 (x6.1+1)),(x6.2.1,()))))) (some (x6.2.1,()))) (0,([],()))
noncomputable def whereI.mng (n:Nat):Mng:=⟨[.val tNetwork,.fnc 134 []],[.val IS],fun x=>whereI.f n x.1 x.2.1⟩
noncomputable def whereI.cfg (n:Nat):Cfg:=⟨tys21,[(134,insC.mng n)],[],[]⟩
theorem whereI.eq:∀ (n:Nat) (a0:Network) (a1:(Unit)),runF (whereI.cfg n) n Tryz.f133 (annOf Tryz.f133 whereI.las) [.val tNetwork,.fnc 134 []] [.val IS] (a0,(a1,()))=whereI.f n a0 a1:=by
 intros
 kernel_rfl
theorem whereI.gof:GoF Tryz.prog 133:=⟨_,Tryz.func133,by kernel_rfl,by kernel_rfl⟩
theorem whereI.sound (n:Nat):Sound Tryz.prog 133 (whereI.mng n):=runF_sound (fn:=Tryz.f133) (m:=whereI.mng n) (c:=whereI.cfg n) (regOK mixed (opOK (.of (c:=whereI.cfg n) ⟨⟨insC.sound n,insC.gof⟩,trivial⟩) (.of (c:=whereI.cfg n) trivial)) (tysOK tys21_ok)) (tysOK tys21_ok) Tryz.func133 (fun x=>(whereI.eq n x.1 x.2.1).symm)
def whereO.las:List (Nat×LA):=[(4,⟨[(5,.own 1000 I),(12,.int .i64)],[(1000,.row true I)],[1,10,11],[]⟩)]
noncomputable def whereO.f (n:Nat) (a0:Network) (a1:(Unit)):Option ((List Int)×Unit):=iter (α:=(Int×(List Int)×Unit)) n (fun ih7 x6=>br (decide (x6.1<(a0.2.length:Int))) (chk (0≤x6.1∧x6.1<(a0.2.length:Int)) (let v8:=(a0.2.getD x6.1.toNat zLink); (outsC.f n v8).bind fun r9=>br r9.1 (chk ((x6.2.1.length+([x6.1]:List Int).length)*8≤maxB) (ih7 ((w64 (x6.1+1)),((x6.2.1++[x6.1]),())))) (ih7 ((w64 (x6.1+1)),(x6.2.1,()))))) (some (x6.2.1,()))) (0,([],()))
noncomputable def whereO.mng (n:Nat):Mng:=⟨[.val tNetwork,.fnc 135 []],[.val IS],fun x=>whereO.f n x.1 x.2.1⟩
noncomputable def whereO.cfg (n:Nat):Cfg:=⟨tys21,[(135,outsC.mng n)],[],[]⟩
theorem whereO.eq:∀ (n:Nat) (a0:Network) (a1:(Unit)),runF (whereO.cfg n) n Tryz.f133 (annOf Tryz.f133 whereO.las) [.val tNetwork,.fnc 135 []] [.val IS] (a0,(a1,()))=whereO.f n a0 a1:=by
 intros
 kernel_rfl
theorem whereO.gof:GoF Tryz.prog 133:=⟨_,Tryz.func133,by kernel_rfl,by kernel_rfl⟩
theorem whereO.sound (n:Nat):Sound Tryz.prog 133 (whereO.mng n):=runF_sound (fn:=Tryz.f133) (m:=whereO.mng n) (c:=whereO.cfg n) (regOK mixed (opOK (.of (c:=whereO.cfg n) ⟨⟨outsC.sound n,outsC.gof⟩,trivial⟩) (.of (c:=whereO.cfg n) trivial)) (tysOK tys21_ok)) (tysOK tys21_ok) Tryz.func133 (fun x=>(whereO.eq n x.1 x.2.1).symm)
def insOf.las:List (Nat×LA):=[]
noncomputable def insOf.f (n:Nat) (a0:Network):Option ((List Int)×Unit):=(iIsNetwork.f n a0).bind fun r1=>br (!r1.1) (some ([],())) ((whereI.f n a0 ()).bind fun r2=>some (r2.1,()))
noncomputable def insOf.mng (n:Nat):Mng:=⟨[.val tNetwork],[.sh IS],fun x=>insOf.f n x.1⟩
noncomputable def insOf.cfg (n:Nat):Cfg:=⟨tys21,[(71,iIsNetwork.mng n),(133,whereI.mng n)],[],[]⟩
theorem insOf.eq:∀ (n:Nat) (a0:Network),runF (insOf.cfg n) n Tryz.f72 (annOf Tryz.f72 insOf.las) [.val tNetwork] [.sh IS] (a0,())=insOf.f n a0:=by
 intros
 kernel_rfl
theorem insOf.gof:GoF Tryz.prog 72:=⟨_,Tryz.func72,by kernel_rfl,by kernel_rfl⟩
theorem insOf.sound (n:Nat):Sound Tryz.prog 72 (insOf.mng n):=runF_sound (fn:=Tryz.f72) (m:=insOf.mng n) (c:=insOf.cfg n) (regOK mixed (opOK (.of (c:=insOf.cfg n) ⟨⟨iIsNetwork.sound n,iIsNetwork.gof⟩,⟨⟨whereI.sound n,whereI.gof⟩,trivial⟩⟩) (.of (c:=insOf.cfg n) trivial)) (tysOK tys21_ok)) (tysOK tys21_ok) Tryz.func72 (fun x=>(insOf.eq n x.1).symm)
def outsOf.las:List (Nat×LA):=[]
noncomputable def outsOf.f (n:Nat) (a0:Network):Option ((List Int)×Unit):=(iIsNetwork.f n a0).bind fun r1=>br (!r1.1) (some ([],())) ((whereO.f n a0 ()).bind fun r2=>some (r2.1,()))
noncomputable def outsOf.mng (n:Nat):Mng:=⟨[.val tNetwork],[.sh IS],fun x=>outsOf.f n x.1⟩
noncomputable def outsOf.cfg (n:Nat):Cfg:=⟨tys21,[(71,iIsNetwork.mng n),(133,whereO.mng n)],[],[]⟩
theorem outsOf.eq:∀ (n:Nat) (a0:Network),runF (outsOf.cfg n) n Tryz.f73 (annOf Tryz.f73 outsOf.las) [.val tNetwork] [.sh IS] (a0,())=outsOf.f n a0:=by
 intros
 kernel_rfl
theorem outsOf.gof:GoF Tryz.prog 73:=⟨_,Tryz.func73,by kernel_rfl,by kernel_rfl⟩
theorem outsOf.sound (n:Nat):Sound Tryz.prog 73 (outsOf.mng n):=runF_sound (fn:=Tryz.f73) (m:=outsOf.mng n) (c:=outsOf.cfg n) (regOK mixed (opOK (.of (c:=outsOf.cfg n) ⟨⟨iIsNetwork.sound n,iIsNetwork.gof⟩,⟨⟨whereO.sound n,whereO.gof⟩,trivial⟩⟩) (.of (c:=outsOf.cfg n) trivial)) (tysOK tys21_ok)) (tysOK tys21_ok) Tryz.func73 (fun x=>(outsOf.eq n x.1).symm)
def concatIG.las:List (Nat×LA):=[]
def concatIG.la:LA:=⟨[(0,.con (.nil)),(1,.int .i64)],[],[],[]⟩
def concatIG.lb:LA:=⟨[(0,.own 1000 I)],[(1000,.row false I)],[],[]⟩
noncomputable def concatIG.f (n:Nat) (a0:Int):Option ((List Int)×Unit):=br (decide (a0<0)) (none) (br (decide (0<(w64 (a0-0)))) (chk ((0:Int)≤0∧(0:Int)≤0∧0≤0) (chk (0<(w64 (a0-0))∧(w64 (a0-0))*(8:Int)≤(maxB:Int)) (chk ((0:Int)≤0∧(0:Int)≤0∧0≤((List.replicate (w64 (a0-0)).toNat (0:Int)).length:Int)) (some ([],()))))) (some ([],())))
noncomputable def concatIG.mng (n:Nat):LMng:=⟨concatIG.la,concatIG.lb,fun x=>concatIG.f n x.1⟩
noncomputable def concatIG.cfg (n:Nat):Cfg:=⟨tys21,[],[],[41]⟩
theorem concatIG.eq:∀ (n:Nat) (a0:Int) (mp:Mp),LMng.run (concatIG.cfg n) n Tryz.f137 (annOf Tryz.f137 concatIG.las) concatIG.la concatIG.lb (a0,mp)=concatIG.f n a0:=by
 intros
 kernel_rfl
theorem concatIG.gof:GoF Tryz.prog 137:=⟨_,Tryz.func137,by kernel_rfl,by kernel_rfl⟩
theorem concatIG.sound (n:Nat):LSound Tryz.prog 137 (concatIG.mng n):=runL_sound (fn:=Tryz.f137) (M:=concatIG.mng n) (c:=concatIG.cfg n) (regOK mixed (opOK (.of (c:=concatIG.cfg n) trivial) (.of (c:=concatIG.cfg n) trivial)) (tysOK tys21_ok)) (tysOK tys21_ok) Tryz.func137 (fun x=>(concatIG.eq n x.1 x.2).symm)
def concatI.las:List (Nat×LA):=[(4,⟨[(3,.int .i64),(11,.int .i64)],[],[0,9,10],[0]⟩),(17,⟨[(6,.own 1000 I),(27,.int .i64)],[(1000,.row false I)],[25,26],[0]⟩)]
def concatI.la:LA:=⟨[(0,.own 0 IS)],[(0,.row false IS)],[],[]⟩
def concatI.lb:LA:=⟨[(0,.own 1000 I)],[(1000,.row false I)],[],[]⟩
noncomputable def concatI.f (n:Nat) (a0:List (List Int)):Option ((List Int)×Unit):=iter (α:=(Int×(Int×Unit))) n (fun ih8 x7=>br (decide (x7.2.1<(a0.length:Int))) (chk (0≤x7.2.1∧x7.2.1<(a0.length:Int)) (br (decide ((w64 (x7.1+((a0.getD x7.2.1.toNat []).length:Int)))<0)) (none) (ih8 ((w64 (x7.1+((a0.getD x7.2.1.toNat []).length:Int))),((w64 (x7.2.1+1)),()))))) ((concatIG.f n x7.1).bind fun r9=>iter (α:=(Int×(List Int)×Unit)) n (fun ih15 x14=>br (decide (x14.1<(a0.length:Int))) (chk (0≤x14.1∧x14.1<(a0.length:Int)) (chk ((x14.2.1.length+(a0.getD x14.1.toNat []).length)*8≤maxB) (ih15 ((w64 (x14.1+1)),((x14.2.1++(a0.getD x14.1.toNat [])),()))))) (some (x14.2.1,()))) (0,(r9.1,())))) (0,(0,()))
noncomputable def concatI.mng (n:Nat):LMng:=⟨concatI.la,concatI.lb,fun x=>concatI.f n x.1⟩
noncomputable def concatI.cfg (n:Nat):Cfg:=⟨tys21,[],[(137,concatIG.mng n)],[]⟩
theorem concatI.eq:∀ (n:Nat) (a0:List (List Int)) (mp:Mp),LMng.run (concatI.cfg n) n Tryz.f75 (annOf Tryz.f75 concatI.las) concatI.la concatI.lb (a0,mp)=concatI.f n a0:=by
 intros
 kernel_rfl
theorem concatI.gof:GoF Tryz.prog 75:=⟨_,Tryz.func75,by kernel_rfl,by kernel_rfl⟩
theorem concatI.sound (n:Nat):LSound Tryz.prog 75 (concatI.mng n):=runL_sound (fn:=Tryz.f75) (M:=concatI.mng n) (c:=concatI.cfg n) (regOK mixed (opOK (.of (c:=concatI.cfg n) trivial) (.of (c:=concatI.cfg n) ⟨⟨concatIG.sound n,concatIG.gof⟩,trivial⟩)) (tysOK tys21_ok)) (tysOK tys21_ok) Tryz.func75 (fun x=>(concatI.eq n x.1 x.2).symm)
def tmplC.las:List (Nat×LA):=[]
noncomputable def tmplC.f (n:Nat) (a0:Int) (a1:Network):Option (Bool×Unit):=chk (0≤a0∧a0<(a1.2.length:Int)) (let v1:=(a1.2.getD a0.toNat zLink); some ((decide (0<(v1.2.2.2.2.length:Int))),()))
noncomputable def tmplC.mng (n:Nat):Mng:=⟨[.val I,.psh tNetwork],[.val .bool],fun x=>tmplC.f n x.1 x.2.1⟩
noncomputable def tmplC.cfg (n:Nat):Cfg:=⟨tys21,[],[],[]⟩
theorem tmplC.eq:∀ (n:Nat) (a0:Int) (a1:Network),runF (tmplC.cfg n) n Tryz.f76 (annOf Tryz.f76 tmplC.las) [.val I,.psh tNetwork] [.val .bool] (a0,(a1,()))=tmplC.f n a0 a1:=by
 intros
 kernel_rfl
theorem tmplC.gof:GoF Tryz.prog 76:=⟨_,Tryz.func76,by kernel_rfl,by kernel_rfl⟩
theorem tmplC.sound (n:Nat):Sound Tryz.prog 76 (tmplC.mng n):=runF_sound (fn:=Tryz.f76) (m:=tmplC.mng n) (c:=tmplC.cfg n) (regOK mixed (opOK (.of (c:=tmplC.cfg n) trivial) (.of (c:=tmplC.cfg n) trivial)) (tysOK tys21_ok)) (tysOK tys21_ok) Tryz.func76 (fun x=>(tmplC.eq n x.1 x.2.1).symm)
def indexFuncT.las:List (Nat×LA):=[(3,⟨[(8,.int .i64)],[],[0,1,7],[]⟩)]
noncomputable def indexFuncT.f (n:Nat) (a0:List Int) (a1:(Network×Unit)):Option (Int×Unit):=iter (α:=(Int×Unit)) n (fun ih7 x6=>br (decide (x6.1<(a0.length:Int))) (chk (0≤x6.1∧x6.1<(a0.length:Int)) ((tmplC.f n (a0.getD x6.1.toNat 0) a1.1).bind fun r8=>br r8.1 (some (x6.1,())) (ih7 ((w64 (x6.1+1)),())))) (some ((-1),()))) (0,())
noncomputable def indexFuncT.mng (n:Nat):Mng:=⟨[.val IS,.fnc 76 [.psh tNetwork]],[.val I],fun x=>indexFuncT.f n x.1 x.2.1⟩
noncomputable def indexFuncT.cfg (n:Nat):Cfg:=⟨tys21,[(76,tmplC.mng n)],[],[]⟩
theorem indexFuncT.eq:∀ (n:Nat) (a0:List Int) (a1:(Network×Unit)),runF (indexFuncT.cfg n) n Tryz.f136 (annOf Tryz.f136 indexFuncT.las) [.val IS,.fnc 76 [.psh tNetwork]] [.val I] (a0,(a1,()))=indexFuncT.f n a0 a1:=by
 intros
 kernel_rfl
theorem indexFuncT.gof:GoF Tryz.prog 136:=⟨_,Tryz.func136,by kernel_rfl,by kernel_rfl⟩
theorem indexFuncT.sound (n:Nat):Sound Tryz.prog 136 (indexFuncT.mng n):=runF_sound (fn:=Tryz.f136) (m:=indexFuncT.mng n) (c:=indexFuncT.cfg n) (regOK mixed (opOK (.of (c:=indexFuncT.cfg n) ⟨⟨tmplC.sound n,tmplC.gof⟩,trivial⟩) (.of (c:=indexFuncT.cfg n) trivial)) (tysOK tys21_ok)) (tysOK tys21_ok) Tryz.func136 (fun x=>(indexFuncT.eq n x.1 x.2.1).symm)
def containsFuncT.las:List (Nat×LA):=[]
noncomputable def containsFuncT.f (n:Nat) (a0:List Int) (a1:(Network×Unit)):Option (Bool×Unit):=(indexFuncT.f n a0 (a1.1,())).bind fun r1=>some ((decide (0≤r1.1)),())
noncomputable def containsFuncT.mng (n:Nat):Mng:=⟨[.val IS,.fnc 76 [.psh tNetwork]],[.val .bool],fun x=>containsFuncT.f n x.1 x.2.1⟩
noncomputable def containsFuncT.cfg (n:Nat):Cfg:=⟨tys21,[(136,indexFuncT.mng n)],[],[]⟩
theorem containsFuncT.eq:∀ (n:Nat) (a0:List Int) (a1:(Network×Unit)),runF (containsFuncT.cfg n) n Tryz.f74 (annOf Tryz.f74 containsFuncT.las) [.val IS,.fnc 76 [.psh tNetwork]] [.val .bool] (a0,(a1,()))=containsFuncT.f n a0 a1:=by
 intros
 kernel_rfl
theorem containsFuncT.gof:GoF Tryz.prog 74:=⟨_,Tryz.func74,by kernel_rfl,by kernel_rfl⟩
theorem containsFuncT.sound (n:Nat):Sound Tryz.prog 74 (containsFuncT.mng n):=runF_sound (fn:=Tryz.f74) (m:=containsFuncT.mng n) (c:=containsFuncT.cfg n) (regOK mixed (opOK (.of (c:=containsFuncT.cfg n) ⟨⟨indexFuncT.sound n,indexFuncT.gof⟩,trivial⟩) (.of (c:=containsFuncT.cfg n) trivial)) (tysOK tys21_ok)) (tysOK tys21_ok) Tryz.func74 (fun x=>(containsFuncT.eq n x.1 x.2.1).symm)
def iIsTemplate.las:List (Nat×LA):=[(1,⟨[(27,.bool)],[],[1,3,5],[]⟩),(5,⟨[(51,.bool)],[],[5,7,8],[]⟩)]
noncomputable def iIsTemplate.f (n:Nat) (a0:Network) (a1:Int) (a2:Network):Option (Bool×Unit):=cut (α:=(Bool×Unit)) ((iIsNetwork.f n a0).bind fun r4=>br (!r4.1) (some (.inr (true,()))) (br (decide (a1<0)) (some (.inr (true,()))) (br (decide ((a0.1.length:Int)≤a1)) (some (.inr (true,()))) ((iIsNetwork.f n a2).bind fun r5=>some (.inr ((!r5.1),())))))) fun y3=>br y3.1 (some (false,())) ((insOf.f n a2).bind fun r6=>(outsOf.f n a2).bind fun r7=>cut (α:=(Bool×Unit)) (chk (0≤a1∧a1<(a0.1.length:Int)) (let v11:=(a0.1.getD a1.toNat zProgram); br (!decide ((r6.1.length:Int)=v11.1)) (some (.inr (true,()))) (chk (0≤a1∧a1<(a0.1.length:Int)) (let v12:=(a0.1.getD a1.toNat zProgram); some (.inr ((!decide ((r7.1.length:Int)=v12.2.1)),())))))) fun y10=>br y10.1 (some (false,())) ((concatI.f n ([r6.1,r7.1]:List (List Int))).bind fun r13=>(containsFuncT.f n r13.1 (a2,())).bind fun r14=>some ((!r14.1),())))
noncomputable def iIsTemplate.mng (n:Nat):Mng:=⟨[.val tNetwork,.val I,.val tNetwork],[.val .bool],fun x=>iIsTemplate.f n x.1 x.2.1 x.2.2.1⟩
noncomputable def iIsTemplate.cfg (n:Nat):Cfg:=⟨tys21,[(71,iIsNetwork.mng n),(72,insOf.mng n),(73,outsOf.mng n),(74,containsFuncT.mng n)],[(75,concatI.mng n)],[]⟩
theorem iIsTemplate.eq:∀ (n:Nat) (a0:Network) (a1:Int) (a2:Network),runF (iIsTemplate.cfg n) n Tryz.f22 (annOf Tryz.f22 iIsTemplate.las) [.val tNetwork,.val I,.val tNetwork] [.val .bool] (a0,(a1,(a2,())))=iIsTemplate.f n a0 a1 a2:=by
 intros
 kernel_rfl
theorem iIsTemplate.gof:GoF Tryz.prog 22:=⟨_,Tryz.func22,by kernel_rfl,by kernel_rfl⟩
theorem iIsTemplate.sound (n:Nat):Sound Tryz.prog 22 (iIsTemplate.mng n):=runF_sound (fn:=Tryz.f22) (m:=iIsTemplate.mng n) (c:=iIsTemplate.cfg n) (regOK mixed (opOK (.of (c:=iIsTemplate.cfg n) ⟨⟨iIsNetwork.sound n,iIsNetwork.gof⟩,⟨⟨insOf.sound n,insOf.gof⟩,⟨⟨outsOf.sound n,outsOf.gof⟩,⟨⟨containsFuncT.sound n,containsFuncT.gof⟩,trivial⟩⟩⟩⟩) (.of (c:=iIsTemplate.cfg n) ⟨⟨concatI.sound n,concatI.gof⟩,trivial⟩)) (tysOK tys21_ok)) (tysOK tys21_ok) Tryz.func22 (fun x=>(iIsTemplate.eq n x.1 x.2.1 x.2.2.1).symm)
end Go.AmT
