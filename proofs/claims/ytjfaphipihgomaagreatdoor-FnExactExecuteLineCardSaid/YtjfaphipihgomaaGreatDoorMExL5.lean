/- Values that are marked, in plain Lean: each number gets the next one, and is held to be it. -/
import Derived.Test.YtjfaphipihgomaaGreatDoorMExL4
open Go Go.Am
noncomputable section
set_option linter.unusedVariables false
set_option linter.unusedSimpArgs false
set_option maxRecDepth 100000
open Int renaming add_assoc → Ea, toNat_natCast → az
open List renaming getD_eq_getElem?_getD → lG, getElem?_append_right → Fx, getElem_mem → bV, length_set → yJ, replicate → ga, set_getElem_self → Lp, set_set → zM, take_succ_eq_append_getElem → jt
open Option renaming bind_some → aA
namespace Go.AmT
theorem mu {γ ρ:Type} {F:(γ→Option ρ)→γ→Option ρ} (st:Nat→γ) (len:Nat) {R:Option ρ} (h1:∀ ih i,i<len→F ih (st i)=ih (st (i+1))) (h2:∀ ih,F ih (st len)=R) {n:Nat} (hn:len<n):iter n F (st 0)=R:=by
 have:∀ k i,i+k=len→∀ n,k<n→iter n F (st i)=R:=by
  intro k;induction k with
  | zero=>intro i e n hn; obtain ⟨m,rfl⟩:∃ m,n=m+1:=⟨n-1,by omega⟩; rw [show i=len by omega]; exact h2 _
  | succ k ih=>intro i e n hn; obtain ⟨m,rfl⟩:∃ m,n=m+1:=⟨n-1,by omega⟩; exact (h1 _ i (by omega)).trans (ih (i+1) (by omega) m (by omega))
 grind
theorem zN {α β γ ρ:Type} (l:List α) (g:α→β) (st:Int→List β→γ) {F:(γ→Option ρ)→γ→Option ρ} {R:List β→Option ρ}
  (h1:∀ ih i (hi:i<l.length) (s:List β),s.length=i→F ih (st i s)=ih (st ((i+1:Nat):Int) (s++[g l[i]])))
  (h2:∀ ih s,F ih (st l.length s)=R s) {n:Nat} (hn:l.length<n):iter n F (st 0 [])=R (l.map g):=by
 have:=mu (F:=F) (fun i=>st (i:Int) ((l.take i).map g)) l.length (R:=R (l.map g)) (fun ih i hi=>by
  show F ih (st (i:Int) ((l.take i).map g))=_;rw [h1 ih i hi _ (by grind),jt hi,List.map_append]; rfl) (fun ih=>by
  grind) hn
 grind
theorem aq {ρ β:Type} {x:β} {f:β→Option ρ} : (some x).bind f=f x:=rfl
theorem iR:(bn:Int)=140737488355328:=rfl
theorem dD {m:Nat} {ρ:Type} {x:Option ρ} (h:m≤1000000000):ab (m≤bn) x=x:=af (by simp only [bn]; omega)
theorem iC {ρ:Type} {i:Decidable True} {x:Option ρ} : @ab ρ True i x=x:=af trivial
theorem jD {α:Type} {l:List α} {i:Nat} (h:i<l.length) (x z:α):(l.set i x).getD i z=x:=by simp [h]
theorem OM {α:Type} {Q:α→Prop} {F:(Int×Unit→Option α)→Int×Unit→Option α} (len:Nat) (p:Nat→Bool) {yes:Nat→Option α} {no:Option α}
  (h1:∀ ih (i:Nat),i<len→F ih ((i:Int),())=if p i=true then yes i else ih (((i+1:Nat):Int),())) (h2:∀ ih,F ih ((len:Int),())=no) {n:Nat} (hn:len<n)
  (hy:∀ i,i<len→p i=true→W (yes i) Q) (tc:(∀ i,i<len→p i=false)→W no Q):W (iter n F (0,())) Q:=by
 refine gu (fun i (_:Unit)=>((i:Int),())) len (fun i _=>∀ j,j<i→p j=false) (s0:=()) rfl (fun j hj=>by omega) hn (fun ih s hI=>?_) (fun ih i s hi hI hS=>?_)
 ·grind
 rw [h1 ih i hi];cases hp:p i
 ·refine hS () (fun j hj=>?_)
  grind
 grind
theorem Kc {p:Nat→Bool} {len i:Nat} (hi:i<len) (h:p i=true):(List.range len).any p=true:=List.any_eq_true.2 ⟨i,List.mem_range.2 hi,h⟩
theorem Kd {p:Nat→Bool} {len:Nat} (h:∀ i,i<len→p i=false):(List.range len).any p=false:=by grind
theorem ON {α:Type} {b:Bool} {x y:Option α} : br b x y=if b=true then x else y:=by cases b<;>rfl
theorem vz {α β γ ρ:Type} (l:List α) (g:α→β) (st:Int→List β→γ) {F:(γ→Option ρ)→γ→Option ρ} {R:Option ρ}
  (h1:∀ ih i (hi:i<l.length) (s:List β),s.length=i→F ih (st i s)=ih (st ((i+1:Nat):Int) (s++[g l[i]])))
  (h2:∀ ih,F ih (st l.length (l.map g))=R) {n:Nat} (hn:l.length<n):iter n F (st 0 [])=R:=by
 have:=mu (F:=F) (fun i=>st (i:Int) ((l.take i).map g)) l.length (R:=R) (fun ih i hi=>by
  show F ih (st (i:Int) ((l.take i).map g))=_;rw [h1 ih i hi _ (by grind),jt hi,List.map_append]; rfl) (fun ih=>by
  grind) hn
 grind
def aX {α:Type} (f:α→Int→α×Int):List α→Int→List α×Int
 | [],k=>([],k)
 | a::l,k=>((f a k).1::(aX f l (f a k).2).1,(aX f l (f a k).2).2)
def cd {α:Type} (f:α→Int→α×Int) (l:List α) (k:Int) (i:Nat):Int:=(aX f (l.take i) k).2
def lJ {α:Type} (f:α→Int→α×Int) (l:List α) (k:Int) (i:Nat):List α:=(aX f (l.take i) k).1++l.drop i
variable {α:Type} {f:α→Int→α×Int}
theorem OO (a b:List α) (k:Int):aX f (a++b) k=((aX f a k).1++(aX f b (aX f a k).2).1,(aX f b (aX f a k).2).2):=by
 induction a generalizing k with
 | nil=>rfl
 | cons x a ih=>simp [aX,ih]
theorem lR (l:List α) (k:Int):(aX f l k).1.length=l.length:=by
 induction l generalizing k with
 | nil=>rfl
 | cons x a ih=>simp [aX,ih]
theorem VM {l:List α} {k:Int} {i:Nat} (hi:i<l.length):cd f l k (i+1)=(f l[i] (cd f l k i)).2:=by unfold cd;rw [jt hi,OO]; rfl
theorem VN {l:List α} {k:Int} : cd f l k 0=k:=by simp [cd,aX]
theorem aek {l:List α} {k:Int} : lJ f l k 0=l:=by simp [lJ,aX]
theorem ael {l:List α} {k:Int} {i:Nat} : (lJ f l k i).length=l.length:=by simp [lJ,lR]; omega
theorem aem {l:List α} {k:Int} : lJ f l k l.length=(aX f l k).1:=by simp [lJ]
theorem rj {l:List α} {k:Int} : cd f l k l.length=(aX f l k).2:=by simp [cd]
theorem aen {l:List α} {k:Int} {i:Nat} (hi:i<l.length) (z:α):(lJ f l k i).getD i z=l[i]:=by unfold lJ;rw [lG,Fx (by simp [lR]; omega)];simp [lR,Nat.min_eq_left (Nat.le_of_lt hi),hi]
theorem aeo {l:List α} {k:Int} {i:Nat} (hi:i<l.length):lJ f l k (i+1)=(lJ f l k i).set i (f l[i] (cd f l k i)).1:=by
 unfold lJ cd;have hl:(aX f (l.take i) k).1.length=i:=by simp [lR]; omega
 rw [jt hi,OO,List.set_append_right _ _ (by omega),hl,Nat.sub_self];simp only [aX,List.append_assoc,List.singleton_append];rw [List.drop_eq_getElem_cons hi]; rfl
theorem aep {l:List α} {k:Int} {i:Nat} (hi:i<l.length) (z:α):(aX f l k).1.getD i z=(f l[i] (cd f l k i)).1:=by
 have e:l=l.take i++l[i]::l.drop (i+1):=by rw [List.getElem_cons_drop,List.take_append_drop]
 have:(aX f l k).1=(aX f (l.take i) k).1++(f l[i] (cd f l k i)).1::(aX f (l.drop (i+1)) (f l[i] (cd f l k i)).2).1:=by
  conv=>lhs; rw [e]
  rw [OO]; rfl
 rw [this,lG,Fx (by simp [lR]; omega)];simp [lR,Nat.min_eq_left (Nat.le_of_lt hi)]
theorem aeq {l:List α} {k B:Int} (hB:0≤B) (h:∀ x∈l,∀ k,k≤(f x k).2∧(f x k).2≤k+B):k≤(aX f l k).2∧(aX f l k).2≤k+B*l.length:=by
 induction l generalizing k with
 | nil=>simp [aX]
 | cons x a ih=>
  have h1:=h x (by simp) k;have h2:=ih (k:=(f x k).2) (fun y hy=>h y (by grind));simp only [aX,List.length_cons]
  grind
theorem Eb {l:List α} {k B:Int} (hB:0≤B) (h:∀ x∈l,∀ k,k≤(f x k).2∧(f x k).2≤k+B) (i:Nat):k≤cd f l k i∧cd f l k i≤k+B*l.length:=by have:=aeq (f:=f) (l:=l.take i) (k:=k) hB (fun x hx=>h x (List.mem_of_mem_take hx));have h2:B*((l.take i).length:Int)≤B*l.length:=Int.mul_le_mul_of_nonneg_left (by grind) hB;unfold cd; omega
theorem xC {γ ρ:Type} {F:(γ→Option ρ)→γ→Option ρ} (f:α→Int→α×Int) (st:Int→Nat→List α→γ) {l:List α} {k:Int} {R:Option ρ}
  (h1:∀ ih i (hi:i<l.length) (m:List α),m.length=l.length→(∀ z,m.getD i z=l[i])→F ih (st (cd f l k i) i m)=ih (st (f l[i] (cd f l k i)).2 (i+1) (m.set i (f l[i] (cd f l k i)).1)))
  (h2:∀ ih (m:List α),m.length=l.length→m=(aX f l k).1→F ih (st (aX f l k).2 l.length m)=R) {n:Nat} (hn:l.length<n):iter n F (st k 0 l)=R:=by
 have:=mu (F:=F) (fun i=>st (cd f l k i) i (lJ f l k i)) l.length (R:=R) (fun ih i hi=>by
  show F ih (st _ i _)=_;rw [h1 ih i hi _ ael (aen hi),← VM hi,← aeo hi]) (fun ih=>by
  show F ih (st _ _ _)=_;rw [rj,aem]; exact h2 ih _ (lR l k) rfl) hn
 simpa only [VN,aek] using this
theorem Ec {γ ρ:Type} {F:(γ→Option ρ)→γ→Option ρ} (f:α→Int→α×Int) (st:Int→Nat→γ) {l:List α} {k:Int} {R:Option ρ}
  (h1:∀ ih i (hi:i<l.length),(∀ z,(aX f l k).1.getD i z=(f l[i] (cd f l k i)).1)→F ih (st (cd f l k i) i)=ih (st (f l[i] (cd f l k i)).2 (i+1)))
  (h2:∀ ih,F ih (st (aX f l k).2 l.length)=R) {n:Nat} (hn:l.length<n):iter n F (st k 0)=R:=by
 have:=mu (F:=F) (fun i=>st (cd f l k i) i) l.length (R:=R) (fun ih i hi=>by
  show F ih (st _ i)=_
  rw [h1 ih i hi (fun z=>aep hi z),← VM hi]) (fun ih=>by
  show F ih (st _ _)=_
  rw [rj]; exact h2 ih) hn
 simpa only [VN] using this
end Go.AmT
namespace Go.AmT
variable {k:Int} {l:List Program} {n:Nat} {nt:ak}
theorem iL (h0:0≤k) (h1:k≤1152921504606847000):ag (k+1)=k+1:=bM (by omega) (by omega)
def fE (_:Int) (k:Int):Int×Int:=(k,k+1)
def ju (_:Instr) (k:Int):Instr×Int:=((k,k+1,k+2,k+3),k+4)
def fW (p:Program) (k:Int):Program×Int:=((k,k+1,(aX ju p.2.2 (k+2)).1),(aX ju p.2.2 (k+2)).2)
def gv (l:aK) (k:Int):aK×Int:=((k,k+1,k+2,k+3,(aX fE l.2.2.2.2 (k+4)).1),(aX fE l.2.2.2.2 (k+4)).2)
def iM (nt:ak) (k:Int):ak×Int:=(((aX fW nt.1 k).1,(aX gv nt.2 (aX fW nt.1 k).2).1),(aX gv nt.2 (aX fW nt.1 k).2).2)
theorem sf {l:List Int} (hl:l.length≤1048576) (i:Nat):k≤cd fE l k i∧cd fE l k i≤k+1048576:=by have:=Eb (f:=fE) (l:=l) (k:=k) (B:=1) (by omega) (fun x _ k=>by simp [fE]; omega) i;omega
theorem Ke {l:List Instr} (hl:l.length≤1048576) (i:Nat):k≤cd ju l k i∧cd ju l k i≤k+4194304:=by have:=Eb (f:=ju) (l:=l) (k:=k) (B:=4) (by omega) (fun x _ k=>by simp [ju]; omega) i;omega
theorem OP (hl:l.length≤1048576) (hp:∀ p∈l,jq p) (i:Nat):k≤cd fW l k i∧cd fW l k i≤k+4398048608256:=by have:=Eb (f:=fW) (l:=l) (k:=k) (B:=4194306) (by omega) (fun x hx k=>by have:=Ke (k:=k+2) (hp x hx).code x.2.2.length;rw [rj] at this;simp only [fW]; omega) i;omega
theorem OQ {l:List aK} (hl:l.length≤1048576) (hp:∀ p∈l,nj p) (i:Nat):k≤cd gv l k i∧cd gv l k i≤k+1099515822080:=by have:=Eb (f:=gv) (l:=l) (k:=k) (B:=1048580) (by omega) (fun x hx k=>by have:=sf (k:=k+4) (hp x hx).tokens x.2.2.2.2.length;rw [rj] at this;simp only [gv]; omega) i;omega
theorem aer {l:List Int} (hl:l.length≤1048576) (h0:0≤k) (h1:k≤1125899906842624) (hn:1048576<n):zK.f n l k=some ((aX fE l k).2,(aX fE l k).1,()):=by
 unfold zK.f;refine xC (l:=l) (k:=k) fE (fun k i m=>(k,(i:Int),m,())) (fun ih i hi m hm hg=>?_) (fun ih m hm e=>?_) (by omega)
 ·have hk:=sf (k:=k) hl i;have rk:i<m.length:=by omega
  have c0:0≤(i:Int):=by omega
  have c1:(i:Int)<(m.length:Int):=by omega
  simp only [c1,c0,and_self,iC,decide_true,ax,az];rw [ba (by omega),iL (k:=cd fE _ k i) (by omega) (by omega)];rfl
 simp only [au (show ¬ (l.length:Int)<(m.length:Int) by omega)]
 grind
theorem GX {l:List Int} (hl:l.length≤1048576) (h0:0≤k) (h1:k≤1125899906842624) (hn:1048576<n):qu.f n (aX fE l k).1 k=some ((aX fE l k).2,()):=by
 unfold qu.f;refine Ec (l:=l) (k:=k) fE (fun k i=>(k,(i:Int),())) (fun ih i hi hg=>?_) (fun ih=>?_) (by omega)
 ·have hk:=sf (k:=k) hl i;have c0:0≤(i:Int):=by omega
  have c1:(i:Int)<((aX fE l k).1.length:Int):=by rw [lR]; omega
  simp only [c1,c0,and_self,iC,decide_true,ax,az,hg];rw [ba (by omega),iL (k:=cd fE _ k i) (by omega) (by omega)];simp [fE,br]
 simp only [au (show ¬ (l.length:Int)<((aX fE l k).1.length:Int) by rw [lR]; omega)]
theorem aes {ls:List aK} {j:Nat} (hj:j<ls.length) (hl:nj ls[j]) (h0:0≤k) (h1:k≤1125899906842624) (hn:1048576<n) :
  se.f n j k ls=some ((aX fE ls[j].2.2.2.2 k).2,ls.set j (ls[j].1,ls[j].2.1,ls[j].2.2.1,ls[j].2.2.2.1,(aX fE ls[j].2.2.2.2 k).1),()):=by
 have jW:=hl.tokens;unfold se.f;refine Eq.trans (congrArg (iter n _) (show _=(fun (k:Int) (i:Nat) m=>(j,k,(i:Int),ls.set j (ls[j].1,ls[j].2.1,ls[j].2.2.1,ls[j].2.2.2.1,m),())) k 0 ls[j].2.2.2.2 from by show _=(j,k,0,ls.set j ls[j],()); rw [Lp hj])) ?_;refine xC fE (fun k i m=>(j,k,(i:Int),ls.set j (ls[j].1,ls[j].2.1,ls[j].2.2.1,ls[j].2.2.2.1,m),())) (fun ih i hi m hm hg=>?_) (fun ih m hm e=>?_) (by omega)
 ·have hk:=sf (k:=k) jW i;have c0:0≤(i:Int):=by omega
  have c1:(i:Int)<(m.length:Int):=by omega
  simp only [jD hj,c1,c0,and_self,iC,decide_true,ax,az,zM];rw [ba (by omega),iL (k:=cd fE _ k i) (by omega) (by omega)];rfl
 simp only [jD hj,au (show ¬ (ls[j].2.2.2.2.length:Int)<(m.length:Int) by omega)];rw [← e]
theorem aet {ls:List Program} {j:Nat} (hj:j<ls.length) (hl:jq ls[j]) (h0:0≤k) (h1:k≤1125899906842624) (hn:1048576<n) :
  sd.f n j k ls=some ((aX ju ls[j].2.2 k).2,ls.set j (ls[j].1,ls[j].2.1,(aX ju ls[j].2.2 k).1),()):=by
 have jW:=hl.code;unfold sd.f;refine Eq.trans (congrArg (iter n _) (show _=(fun (k:Int) (i:Nat) m=>(j,k,(i:Int),ls.set j (ls[j].1,ls[j].2.1,m),())) k 0 ls[j].2.2 from by show _=(j,k,0,ls.set j ls[j],()); rw [Lp hj])) ?_;refine xC ju (fun k i m=>(j,k,(i:Int),ls.set j (ls[j].1,ls[j].2.1,m),())) (fun ih i hi m hm hg=>?_) (fun ih m hm e=>?_) (by omega)
 ·have hk:=Ke (k:=k) jW i;have rk:i<m.length:=by omega
  have c0:0≤(i:Int):=by omega
  have c1:(i:Int)<(m.length:Int):=by omega
  simp only [jD hj,c1,c0,and_self,iC,decide_true,ax,az,zM,jD rk,yJ];rw [ba (by omega)];rw [iL (k:=cd ju ls[j].2.2 k i) (by omega) (by omega),iL (k:=cd ju ls[j].2.2 k i+1) (by omega) (by omega),iL (k:=cd ju ls[j].2.2 k i+1+1) (by omega) (by omega),iL (k:=cd ju ls[j].2.2 k i+1+1+1) (by omega) (by omega)];simp only [ju,Ea];rfl
 simp only [jD hj,au (show ¬ (ls[j].2.2.length:Int)<(m.length:Int) by omega)];rw [← e]
theorem aeu (hl:l.length≤1048576) (hp:∀ p∈l,jq p) (h0:0≤k) (h1:k≤562949953421312) (hn:1048576<n):zH.f n l k=some ((aX fW l k).2,(aX fW l k).1,()):=by
 unfold zH.f;refine xC fW (fun k i m=>(k,(i:Int),m,())) (fun ih i hi m hm hg=>?_) (fun ih m hm e=>?_) (by omega)
 ·have hk:=OP (k:=k) hl hp i;have rk:i<m.length:=by omega
  have c0:0≤(i:Int):=by omega
  have c1:(i:Int)<(m.length:Int):=by omega
  simp only [c1,c0,and_self,iC,decide_true,ax,az,zM,jD rk,yJ,hg];rw [ba (by omega)];rw [iL (k:=cd fW l k i) (by omega) (by omega),iL (k:=cd fW l k i+1) (by omega) (by omega)];rw [aet (by grind) (by simp; exact ⟨(hp _ (bV hi)).code⟩) (by omega) (by omega) hn];simp [fW,Ea]
 simp only [au (show ¬ (l.length:Int)<(m.length:Int) by omega)]
 grind
theorem aev {l:List aK} (hl:l.length≤1048576) (hp:∀ p∈l,nj p) (h0:0≤k) (h1:k≤562949953421312) (hn:1048576<n):zI.f n l k=some ((aX gv l k).2,(aX gv l k).1,()):=by
 unfold zI.f;refine xC gv (fun k i m=>(k,(i:Int),m,())) (fun ih i hi m hm hg=>?_) (fun ih m hm e=>?_) (by omega)
 ·have hk:=OQ (k:=k) hl hp i;have rk:i<m.length:=by omega
  have c0:0≤(i:Int):=by omega
  have c1:(i:Int)<(m.length:Int):=by omega
  simp only [c1,c0,and_self,iC,decide_true,ax,az,zM,jD rk,yJ,hg];rw [ba (by omega)];rw [iL (k:=cd gv l k i) (by omega) (by omega),iL (k:=cd gv l k i+1) (by omega) (by omega),iL (k:=cd gv l k i+1+1) (by omega) (by omega),iL (k:=cd gv l k i+1+1+1) (by omega) (by omega)];rw [aes (by grind) (by simp; exact ⟨(hp _ (bV hi)).tokens⟩) (by omega) (by omega) hn];simp [gv,Ea]
 simp only [au (show ¬ (l.length:Int)<(m.length:Int) by omega)]
 grind
theorem OR (h:cL nt):k≤(aX fW nt.1 k).2∧(aX fW nt.1 k).2≤k+4398048608256∧k≤(iM nt k).2∧(iM nt k).2≤k+5497564430336:=by have a:=OP (k:=k) h.dZ h.prog nt.1.length;have b:=OQ (k:=(aX fW nt.1 k).2) h.dp h.link nt.2.length;rw [rj] at a b;unfold iM;omega
theorem aew (h:cL nt) (h0:0≤k) (h1:k≤281474976710656) (hn:1048576<n):zJ.f n nt k=some ((iM nt k).2,(iM nt k).1.1,(iM nt k).1.2,()):=by have a:=OR (k:=k) h;unfold zJ.f;rw [aeu h.dZ h.prog h0 (by omega) hn,aA,aev h.dp h.link (by omega) (by omega) hn];rfl
theorem aex {l:List Instr} (hl:l.length≤1048576) (h0:0≤k) (h1:k≤1125899906842624) (hn:1048576<n):zL.f n (aX ju l k).1 k=some ((aX ju l k).2,()):=by
 unfold zL.f;refine Ec (l:=l) (k:=k) ju (fun k i=>(k,(i:Int),())) (fun ih i hi hg=>?_) (fun ih=>?_) (by omega)
 ·have hk:=Ke (k:=k) hl i;have c0:0≤(i:Int):=by omega
  have c1:(i:Int)<((aX ju l k).1.length:Int):=by rw [lR]; omega
  simp only [c1,c0,and_self,iC,decide_true,ax,az,hg];rw [ba (by omega)];rw [iL (k:=cd ju l k i) (by omega) (by omega),iL (k:=cd ju l k i+1) (by omega) (by omega),iL (k:=cd ju l k i+1+1) (by omega) (by omega),iL (k:=cd ju l k i+1+1+1) (by omega) (by omega)];simp [ju,br,Ea]
 simp only [au (show ¬ (l.length:Int)<((aX ju l k).1.length:Int) by rw [lR]; omega)]
theorem aey (hl:l.length≤1048576) (hp:∀ p∈l,jq p) (h0:0≤k) (h1:k≤562949953421312) (hn:1048576<n):xz.f n (aX fW l k).1 k=some ((aX fW l k).2,()):=by
 unfold xz.f;refine Ec (l:=l) (k:=k) fW (fun k i=>(k,(i:Int),())) (fun ih i hi hg=>?_) (fun ih=>?_) (by omega)
 ·have hk:=OP (k:=k) hl hp i;have lM:=Ke (k:=cd fW l k i+2) (hp _ (bV hi)).code l[i].2.2.length;rw [rj] at lM;have c0:0≤(i:Int):=by omega
  have c1:(i:Int)<((aX fW l k).1.length:Int):=by rw [lR]; omega
  simp only [c1,c0,and_self,iC,decide_true,ax,az,hg];rw [ba (by omega)];rw [iL (k:=cd fW l k i) (by omega) (by omega),iL (k:=cd fW l k i+1) (by omega) (by omega)];simp only [fW,Ea,show (1:Int)+1=2 from rfl,aex (hp _ (bV hi)).code (show 0≤cd fW l k i+2 by omega) (show cd fW l k i+2≤1125899906842624 by omega) hn,aA];have c3:¬ (aX ju l[i].2.2 (cd fW l k i+2)).2<0:=by omega
  simp [br,c3]
 simp only [au (show ¬ (l.length:Int)<((aX fW l k).1.length:Int) by rw [lR]; omega)]
theorem aez {l:List aK} (hl:l.length≤1048576) (hp:∀ p∈l,nj p) (h0:0≤k) (h1:k≤562949953421312) (hn:1048576<n):xA.f n (aX gv l k).1 k=some ((aX gv l k).2,()):=by
 unfold xA.f;refine Ec (l:=l) (k:=k) gv (fun k i=>(k,(i:Int),())) (fun ih i hi hg=>?_) (fun ih=>?_) (by omega)
 ·have hk:=OQ (k:=k) hl hp i;have lM:=sf (k:=cd gv l k i+4) (hp _ (bV hi)).tokens l[i].2.2.2.2.length;rw [rj] at lM;have c0:0≤(i:Int):=by omega
  have c1:(i:Int)<((aX gv l k).1.length:Int):=by rw [lR]; omega
  simp only [c1,c0,and_self,iC,decide_true,ax,az,hg];rw [ba (by omega)];rw [iL (k:=cd gv l k i) (by omega) (by omega),iL (k:=cd gv l k i+1) (by omega) (by omega),iL (k:=cd gv l k i+1+1) (by omega) (by omega),iL (k:=cd gv l k i+1+1+1) (by omega) (by omega)];simp only [gv,Ea,show (1:Int)+(1+(1+1))=4 from rfl,show (1:Int)+(1+1)=3 from rfl,show (1:Int)+1=2 from rfl,GX (hp _ (bV hi)).tokens (show 0≤cd gv l k i+4 by omega) (show cd gv l k i+4≤1125899906842624 by omega) hn,aA];have c3:¬ (aX fE l[i].2.2.2.2 (cd gv l k i+4)).2<0:=by omega
  have hh:=GX (n:=n) (k:=cd gv l k i+4) (hp _ (bV hi)).tokens (by omega) (by omega) hn;simp [br,hh,c3]
 simp only [au (show ¬ (l.length:Int)<((aX gv l k).1.length:Int) by rw [lR]; omega)]
theorem aeA (h:cL nt) (h0:0≤k) (h1:k≤281474976710656) (hn:1048576<n):xB.f n (iM nt k).1 k=some ((iM nt k).2,()):=by
 have a:=OR (k:=k) h;have b:=aey (k:=k) h.dZ h.prog h0 (by omega) hn;have c:=aez (k:=(aX fW nt.1 k).2) h.dp h.link (by omega) (by omega) hn;unfold xB.f;show ((xz.f n (aX fW nt.1 k).1 k).bind _)=_;rw [b,aA,au (by omega)];show ((xA.f n (aX gv nt.2 (aX fW nt.1 k).2).1 (aX fW nt.1 k).2).bind _)=_;have a':0≤(aX gv nt.2 (aX fW nt.1 k).2).2:=by have:=a.2.2.1; unfold iM at this; simp only at this; omega
 rw [c,aA,au (by omega)];rfl
end Go.AmT
namespace Go.AmT
open Go.Proofs Go.Proofs.Tryz
abbrev oe:Type:=ak×(State×List (List Int)×List (List Int)×Option (List Int))
def cX.f (n:Nat) (a0:List Int):Option (List Int×Unit):=ab ((([]:List Int).length+a0.length)*8≤bn) (some (([]:List Int)++a0,()))
def cX.ae (n:Nat):ar:=⟨[.val (.sl I)],[.val (.sl I)],fun x=>cX.f n x.1⟩
def cX.cfg (n:Nat):bd:=⟨m_,[],[],[]⟩
theorem cX.av:ck Tryz.prog 87:=cD func87 (by kernel_rfl) (by kernel_rfl)
theorem cX.OS:∀ (n:Nat),zi (cX.cfg n) n f87 (cT f87 []) [.val (.sl I)] [.val (.sl I)] .nil [] []=some (([]:List Int),()):=by intros;kernel_rfl
theorem cX.OT:∀ (n:Nat) (a0:List Int),zi (cX.cfg n) n f87 (cT f87 []) [.val (.sl I)] [.val (.sl I)] (.dn I (some a0)) [] []=cX.f n a0:=by intros;kernel_rfl
theorem cX.sound (n:Nat):Sound Tryz.prog 87 (cX.ae n):=
 TN (t:=I) (ps:=[]) (rs:=[.val (.sl I)]) (F:=fun x=>cX.f n x.1) (vl mixed (tP (.of (c:=cX.cfg n) trivial) (.of (c:=cX.cfg n) trivial)) (cB kL)) (cB kL) func87
  (fun x y hy hx=>by
   have hy:cX.f n x.1=some y:=hy;rw [hx] at hy;unfold cX.f ab at hy;split at hy
   ·exact (cX.OS n).trans hy
   simp at hy)
  (fun x y hy=>(cX.OT n x.1).trans hy)
def xD.f (n:Nat) (a0:List (List Int)):Option (List (List Int)×Unit):=iter n (fun fC x6=>br (decide (x6.1<(a0.length:Int))) (ab (0≤x6.1∧x6.1<(a0.length:Int)) ((cX.f n (a0.getD x6.1.toNat [])).bind fun r8=>ab ((x6.2.1.length+([r8.1]:List (List Int)).length)*24≤bn) (fC (ag (x6.1+1),x6.2.1++[r8.1],())))) (some (x6.2.1,()))) (0,[],())
def xD.ae (n:Nat):ar:=⟨[.val (.sl IS)],[.val (.sl IS)],fun x=>xD.f n x.1⟩
theorem xD.ok (n:Nat):aH 149 (xD.ae n):=aJ n [(4,⟨[(3,.own 1000 IS),(9,.int .i64)],[(1000,.row true IS)],[7,8],[]⟩)] [] (ai ⟨cX.sound n,cX.av⟩ aC) aD func149
def vA.f (n:Nat) (a0:State):Option (State×Unit):=(xD.f n a0.2.1).bind fun r1=>(xD.f n a0.2.2.1).bind fun r2=>iter n (fun aeB qv=>br (decide (qv.1<(a0.1.length:Int))) (ab (0≤qv.1∧qv.1<(a0.1.length:Int)) (let v24:=(a0.1.getD qv.1.toNat bz); (cX.f n v24.2).bind fun pk=>ab ((qv.2.2.1.length+([(v24.1,pk.1)]:List aY).length)*32≤bn) (aeB (ag (qv.1+1),qv.2.1,qv.2.2.1++[(v24.1,pk.1)],qv.2.2.2.1,qv.2.2.2.2.1,())))) (some ((qv.2.2.1,qv.2.2.2.1,qv.2.2.2.2.1,qv.2.1),()))) (0,a0.2.2.2,[],r1.1,r2.1,())
def vA.ae (n:Nat):ar:=⟨[.val dk],[.val dk],fun x=>vA.f n x.1⟩
theorem vA.ok (n:Nat):aH 86 (vA.ae n):=aJ n [(4,⟨[(3,.bt 1000 0),(18,.int .i64)],[(1000,.cells [] [.own 1001 a_,.own 1002 IS,.own 1003 IS,.int .i64]),(1001,.row true a_),(1002,.row true IS),(1003,.row true IS)],[2,16,17],[]⟩)] [] (ai (xD.ok n) (ai ⟨cX.sound n,cX.av⟩ aC)) aD func86
def ku.la:LA:=⟨[(0,.agg [.sh bp,.sh bJ]),(1,.agg [.sh a_,.sh IS,.sh IS,.int .i64]),(2,.dn I)],[],[],[]⟩
def ku.lb:LA:=⟨[(0,.bt 1000 0)],[(1000,.cells [] [.sh bp,.sh bJ,.own 1001 a_,.own 1002 IS,.own 1003 IS,.int .i64,.own 1004 IS,.own 1005 IS,.dn I]),(1001,.row true a_),(1002,.row true IS),(1003,.row true IS),(1004,.row true IS),(1005,.row true IS)],[],[]⟩
def ku.f (n:Nat) (a0:List Program) (a1:List aK) (a2:List aY) (a3 a4:List (List Int)) (a5:Int) (a6:Option (List Int)):Option (List Program×List aK×Int×Option (List Int)×List aY×List (List Int)×List (List Int)×List (List Int)×List (List Int)×Unit):=(vA.f n (a2,a3,a4,a5)).bind fun r1=>iter n (fun GY ee=>br (decide (ee.1<(a0.length:Int))) (ab (0≤ee.1∧ee.1<(a0.length:Int)) (let fg:=(a0.getD ee.1.toNat bf); ab (fg.1=fg.1∧0≤fg.1∧fg.1*(8:Int)≤(bn:Int)) (ab ((ee.2.2.2.2.2.2.2.2.1.length+([(ga fg.1.toNat (0:Int))]:List (List Int)).length)*24≤bn) (ab (fg.2.1=fg.2.1∧0≤fg.2.1∧fg.2.1*(8:Int)≤(bn:Int)) (ab ((ee.2.2.2.2.2.2.2.2.2.1.length+([(ga fg.2.1.toNat (0:Int))]:List (List Int)).length)*24≤bn) (GY (ag (ee.1+1),ee.2.1,ee.2.2.1,ee.2.2.2.1,ee.2.2.2.2.1,ee.2.2.2.2.2.1,ee.2.2.2.2.2.2.1,ee.2.2.2.2.2.2.2.1,ee.2.2.2.2.2.2.2.2.1++[(ga fg.1.toNat (0:Int))],ee.2.2.2.2.2.2.2.2.2.1++[(ga fg.2.1.toNat (0:Int))],()))))))) (iter n (fun VO fu=>br (decide (fu.1<(a1.length:Int))) (ab (0≤fu.1∧fu.1<(a1.length:Int)) (let mw:=(a1.getD fu.1.toNat ay); cut (br (decide (0≤mw.2.2.1)) (ab (0≤mw.2.2.1∧mw.2.2.1<(fu.2.2.2.2.2.2.2.2.1.length:Int)) (ab (0≤mw.2.2.2.1∧mw.2.2.2.1<((fu.2.2.2.2.2.2.2.2.1.getD mw.2.2.1.toNat []).length:Int)) (let v58:=(fu.2.2.2.2.2.2.2.2.1.set mw.2.2.1.toNat ((fu.2.2.2.2.2.2.2.2.1.getD mw.2.2.1.toNat []).set mw.2.2.2.1.toNat fu.1)); some (.inr (fu.2.1,fu.2.2.1,fu.2.2.2.1,fu.2.2.2.2.1,fu.2.2.2.2.2.1,fu.2.2.2.2.2.2.1,fu.2.2.2.2.2.2.2.1,v58,fu.2.2.2.2.2.2.2.2.2.1,()))))) (some (.inr (fu.2.1,fu.2.2.1,fu.2.2.2.1,fu.2.2.2.2.1,fu.2.2.2.2.2.1,fu.2.2.2.2.2.2.1,fu.2.2.2.2.2.2.2.1,fu.2.2.2.2.2.2.2.2.1,fu.2.2.2.2.2.2.2.2.2.1,())))) fun kP=>br (decide (0≤mw.1)) (ab (0≤mw.1∧mw.1<(kP.2.2.2.2.2.2.2.2.1.length:Int)) (ab (0≤mw.2.1∧mw.2.1<((kP.2.2.2.2.2.2.2.2.1.getD mw.1.toNat []).length:Int)) (let v59:=(kP.2.2.2.2.2.2.2.2.1.set mw.1.toNat ((kP.2.2.2.2.2.2.2.2.1.getD mw.1.toNat []).set mw.2.1.toNat fu.1)); VO (ag (fu.1+1),kP.1,kP.2.1,kP.2.2.1,kP.2.2.2.1,kP.2.2.2.2.1,kP.2.2.2.2.2.1,kP.2.2.2.2.2.2.1,kP.2.2.2.2.2.2.2.1,v59,())))) (VO (ag (fu.1+1),kP.1,kP.2.1,kP.2.2.1,kP.2.2.2.1,kP.2.2.2.2.1,kP.2.2.2.2.2.1,kP.2.2.2.2.2.2.1,kP.2.2.2.2.2.2.2.1,kP.2.2.2.2.2.2.2.2.1,())))) (some (fu.2.1,fu.2.2.1,fu.2.2.2.1,fu.2.2.2.2.1,fu.2.2.2.2.2.1,fu.2.2.2.2.2.2.1,fu.2.2.2.2.2.2.2.1,fu.2.2.2.2.2.2.2.2.1,fu.2.2.2.2.2.2.2.2.2.1,()))) (0,ee.2.1,ee.2.2.1,ee.2.2.2.1,ee.2.2.2.2.1,ee.2.2.2.2.2.1,ee.2.2.2.2.2.2.1,ee.2.2.2.2.2.2.2.1,ee.2.2.2.2.2.2.2.2.1,ee.2.2.2.2.2.2.2.2.2.1,()))) (0,a0,a1,r1.1.2.2.2,a6,r1.1.1,r1.1.2.1,r1.1.2.2.1,[],[],())
def ku.ae (n:Nat):cM:=⟨ku.la,ku.lb,fun x=>ku.f n x.1 x.2.1 x.2.2.1 x.2.2.2.1 x.2.2.2.2.1 x.2.2.2.2.2.1 x.2.2.2.2.2.2.1⟩
theorem ku.ok (n:Nat):ks 220 (ku.ae n):=lj n [(4,⟨[(7,.bt 1000 0),(21,.int .i64)],[(1000,.cells [] [.sh bp,.sh bJ,.own 1001 a_,.own 1002 IS,.own 1003 IS,.int .i64,.own 1004 IS,.own 1005 IS,.dn I]),(1001,.row true a_),(1002,.row true IS),(1003,.row true IS),(1004,.row true IS),(1005,.row true IS)],[3,19,20],[]⟩),(13,⟨[(7,.bt 1000 0),(53,.int .i64)],[(1000,.cells [] [.sh bp,.sh bJ,.own 1001 a_,.own 1002 IS,.own 1003 IS,.int .i64,.own 1004 IS,.own 1005 IS,.dn I]),(1001,.row true a_),(1002,.row true IS),(1003,.row true IS),(1004,.row true IS),(1005,.row true IS)],[51,52],[]⟩),(19,⟨[(7,.bt 1000 0)],[(1000,.cells [] [.sh bp,.sh bJ,.own 1001 a_,.own 1002 IS,.own 1003 IS,.int .i64,.own 1004 IS,.own 1005 IS,.dn I]),(1001,.row true a_),(1002,.row true IS),(1003,.row true IS),(1004,.row true IS),(1005,.row true IS)],[10,11,51,52,53],[]⟩)] [] (ai (vA.ok n) aC) aD func220
def B9.f (n:Nat) (a0:oe) (a1:Int):Option (Bool×Unit):=br (decide (0≤a1)) (some (decide (a1<(a0.1.1.length:Int)),())) (some (false,()))
def B9.ae (n:Nat):ar:=⟨[.fX zv,.val I],[.val .bool],fun x=>B9.f n x.1 x.2.1⟩
theorem B9.ok (n:Nat):aH 267 (B9.ae n):=aJ n [] [] aC aD func267
def want.f (n:Nat) (a0:Program) (a1:aY):Option (Int×Int×Unit):=br (decide (a1.1=(a0.2.2.length:Int))) (some (0,0,())) (ab (0≤a1.1∧a1.1<(a0.2.2.length:Int)) (let v1:=(a0.2.2.getD a1.1.toNat fK); br (decide (v1.1=11)) (some (0,0,())) (br (decide (v1.1=1)) (some (2,v1.2.2.1,())) (br (decide (v1.1=2)) (some (3,v1.2.2.1,())) (some (1,0,()))))))
def want.ae (n:Nat):ar:=⟨[.val bp,.val a_],[.val I,.val I],fun x=>want.f n x.1 x.2.1⟩
theorem want.ok (n:Nat):aH 262 (want.ae n):=aJ n [] [] aC aD func262
def iY.f (n:Nat) (a0:oe) (a1:Int):Option (Int×Int×Unit):=ab (0≤a1∧a1<(a0.1.1.length:Int)) (let v1:=(a0.1.1.getD a1.toNat bf); ab (0≤a1∧a1<(a0.2.1.1.length:Int)) (let v2:=(a0.2.1.1.getD a1.toNat bz); (want.f n v1 v2).bind fun r3=>br (decide (r3.1=2)) (ab (0≤a1∧a1<(a0.2.2.1.length:Int)) (let v4:=(a0.2.2.1.getD a1.toNat []); ab (0≤r3.2.1∧r3.2.1<(v4.length:Int)) (some (r3.1,v4.getD r3.2.1.toNat 0,())))) (br (decide (r3.1=3)) (ab (0≤a1∧a1<(a0.2.2.2.1.length:Int)) (let v5:=(a0.2.2.2.1.getD a1.toNat []); ab (0≤r3.2.1∧r3.2.1<(v5.length:Int)) (some (r3.1,v5.getD r3.2.1.toNat 0,())))) (some (r3.1,-1,())))))
def iY.ae (n:Nat):ar:=⟨[.fX zv,.val I],[.val I,.val I],fun x=>iY.f n x.1 x.2.1⟩
theorem iY.ok (n:Nat):aH 221 (iY.ae n):=aJ n [] [] (ai (want.ok n) aC) aD func221
def can.f (n:Nat) (a0:oe) (a1:Int):Option (Bool×Unit):=(iY.f n a0 a1).bind fun r1=>cut (br (decide (r1.1=0)) (some (.inr (true,()))) (some (.inr (decide (20000≤a0.2.1.2.2.2),())))) fun y2=>br y2.1 (some (false,())) (br (decide (r1.1=2)) (ab (0≤r1.2.1∧r1.2.1<(a0.2.1.2.1.length:Int)) (let v3:=(a0.2.1.2.1.getD r1.2.1.toNat []); some (decide (0<(v3.length:Int)),()))) (br (decide (r1.1=3)) (ab (0≤r1.2.1∧r1.2.1<(a0.2.1.2.2.1.length:Int)) (let v4:=(a0.2.1.2.2.1.getD r1.2.1.toNat []); some (decide ((v4.length:Int)<400),()))) (some (true,()))))
def can.ae (n:Nat):ar:=⟨[.fX zv,.val I],[.val .bool],fun x=>can.f n x.1 x.2.1⟩
theorem can.ok (n:Nat):aH 268 (can.ae n):=aJ n [(3,⟨[(13,.bool)],[],[0,5,6],[]⟩)] [] (ai (iY.ok n) aC) aD func268
def may.f (n:Nat) (a0:oe) (a1:Int):Option (Bool×Unit):=cut ((can.f n a0 a1).bind fun r3=>br (!r3.1) (some (.inr (true,()))) (some (.inr (a0.2.2.2.2.isNone,())))) fun y2=>br y2.1 ((can.f n a0 a1).bind fun r5=>some (r5.1,())) ((iY.f n a0 a1).bind fun r6=>br (!decide (r6.1=3)) (some (true,())) (ab (0≤r6.2.1∧r6.2.1<(a0.1.2.length:Int)) (let v7:=(a0.1.2.getD r6.2.1.toNat ay); br (decide (v7.2.2.1<0)) (some (true,())) (ab (0≤r6.2.1∧r6.2.1<(a0.2.1.2.1.length:Int)) (let v8:=(a0.2.1.2.1.getD r6.2.1.toNat []); ab (0≤r6.2.1∧r6.2.1<((a0.2.2.2.2.getD []).length:Int)) (let v9:=((a0.2.2.2.2.getD []).getD r6.2.1.toNat 0); some (decide ((v8.length:Int)<v9),())))))))
def may.ae (n:Nat):ar:=⟨[.fX zv,.val I],[.val .bool],fun x=>may.f n x.1 x.2.1⟩
theorem may.ok (n:Nat):aH 270 (may.ae n):=aJ n [(1,⟨[(17,.bool)],[],[0,1],[]⟩)] [] (ai (can.ok n) (ai (iY.ok n) aC)) aD func270
def quiet.f (n:Nat) (a0:oe):Option (Bool×Unit):=iter n (fun fa x5=>br (decide (x5.1<(a0.1.1.length:Int))) ((can.f n a0 x5.1).bind fun r7=>br r7.1 (some (false,())) (fa (ag (x5.1+1),()))) (some (true,()))) (0,())
def quiet.ae (n:Nat):ar:=⟨[.fX zv],[.val .bool],fun x=>quiet.f n x.1⟩
theorem quiet.ok (n:Nat):aH 228 (quiet.ae n):=aJ n [(3,⟨[(10,.int .i64)],[],[0,9],[]⟩)] [] (ai (can.ok n) aC) aD func228
def ig.f (n:Nat) (a0:Program) (a1:aY):Option (Int×Int×Unit):=br (decide (a1.1=(a0.2.2.length:Int))) (some (0,0,())) (ab (0≤a1.1∧a1.1<(a0.2.2.length:Int)) (let v1:=(a0.2.2.getD a1.1.toNat fK); br (decide (v1.1=11)) (some (0,0,())) (br (decide (v1.1=1)) (some (2,v1.2.2.1,())) (br (decide (v1.1=2)) (some (3,v1.2.2.1,())) (some (1,0,()))))))
def ig.ae (n:Nat):ar:=⟨[.val bp,.val a_],[.val I,.val I],fun x=>ig.f n x.1 x.2.1⟩
theorem ig.ok (n:Nat):aH 125 (ig.ae n):=aJ n [] [] aC aD func125
def ll.f (n:Nat) (a0:ak) (a1:State) (a2:Int):Option (Int×Unit):=ab (0≤a2∧a2<(a0.1.length:Int)) (let v1:=(a0.1.getD a2.toNat bf); ab (0≤a2∧a2<(a1.1.length:Int)) (let v2:=(a1.1.getD a2.toNat bz); (ig.f n v1 v2).bind fun r3=>br (decide (r3.1=2)) ((kM.f n a0 a2 r3.2.1).bind fun r4=>some (r4.1,())) (br (decide (r3.1=3)) ((mn.f n a0 a2 r3.2.1).bind fun r5=>some (r5.1,())) (some (-1,())))))
def ll.ae (n:Nat):ar:=⟨[.val bZ,.val dk,.val I],[.val I],fun x=>ll.f n x.1 x.2.1 x.2.2.1⟩
theorem ll.ok (n:Nat):aH 126 (ll.ae n):=aJ n [] [] (ai (ig.ok n) (ai ⟨kM.sound n,kM.av⟩ (ai ⟨mn.sound n,mn.av⟩ aC))) aD func126
def kx.f (n:Nat) (a0:ak) (a1:State) (a2:Int):Option (Bool×Unit):=ab (0≤a2∧a2<(a0.1.length:Int)) (let v1:=(a0.1.getD a2.toNat bf); ab (0≤a2∧a2<(a1.1.length:Int)) (let v2:=(a1.1.getD a2.toNat bz); (ig.f n v1 v2).bind fun r3=>cut (br (decide (r3.1=0)) (some (.inr (true,()))) (some (.inr (decide (a1.2.2.2=20000),())))) fun y4=>br y4.1 (some (false,())) ((ll.f n a0 a1 a2).bind fun r5=>br (decide (r3.1=2)) (ab (0≤r5.1∧r5.1<(a1.2.1.length:Int)) (let v7:=(a1.2.1.getD r5.1.toNat []); some (decide (0<(v7.length:Int)),()))) (br (decide (r3.1=1)) (some (true,())) (ab (0≤r5.1∧r5.1<(a1.2.2.1.length:Int)) (let v8:=(a1.2.2.1.getD r5.1.toNat []); some (decide ((v8.length:Int)<400),())))))))
def kx.ae (n:Nat):ar:=⟨[.val bZ,.val dk,.val I],[.val .bool],fun x=>kx.f n x.1 x.2.1 x.2.2.1⟩
theorem kx.ok (n:Nat):aH 137 (kx.ae n):=aJ n [(2,⟨[(30,.bool)],[],[2,3,4,7],[]⟩)] [] (ai (ig.ok n) (ai (ll.ok n) aC)) aD func137
end Go.AmT
