/- A network in which a process has grown into a chain, in plain Lean: its processes and links, and its least streams. -/
import Derived.Test.YtkgknijpmcagmaaGreatMGrow13
import Derived.Test.YtkgknijpmcagmaaGreatMGrow12
import Derived.Test.YtkgknijpmcagmaaGreatMGrow3
import Derived.Test.YtkgknijpmcagmaaGreatAmD
import Derived.Below
import Derived.Deep.Draws
namespace Go.AmT
open Go Go.Am
set_option linter.unusedVariables false
set_option linter.unusedSimpArgs false
theorem rem_len {α:Type} {k:Nat} {a:List α} (hk:k<a.length):(rem k a).length=a.length-1:=by simp [rem]; omega
def rho (k j:Nat):Nat:=if j<k then j else j-1
theorem rem_app {α:Type} {k j:Nat} {a b:List α} (hk:k<a.length) (hj:j<a.length) (hne:j≠k) (z:α):(rem k a++b).getD (rho k j) z=a.getD j z:=by
 have hl:=rem_len hk
 unfold rho
 by_cases h:j<k
 ·rw [if_pos h,List.getD_eq_getElem?_getD,List.getD_eq_getElem?_getD,List.getElem?_append_left (by omega)]
  unfold rem
  rw [List.getElem?_append_left (by simp; omega),List.getElem?_take_of_lt h]
 ·rw [if_neg h,List.getD_eq_getElem?_getD,List.getD_eq_getElem?_getD,List.getElem?_append_left (by omega)]
  unfold rem
  rw [List.getElem?_append_right (by simp; omega),List.getElem?_drop]
  have e:k+1+(j-1-(a.take k).length)=j:=by simp; omega
  rw [e]
theorem rem_appC {α:Type} {k i:Nat} {a b:List α} (hk:k<a.length) (z:α):(rem k a++b).getD (a.length-1+i) z=b.getD i z:=by
 have hl:=rem_len hk
 rw [List.getD_eq_getElem?_getD,List.getD_eq_getElem?_getD,List.getElem?_append_right (by omega)]
 congr 2
 omega
abbrev mC (ps:List Program):Network:=chainN ps []
structure Grw (nt:Network) (k:Nat) (ps:List Program):Prop where
 o:OkN nt
 hk:k<nt.1.length
 c:1≤ps.length
 og:OkN (expN nt k (mC ps))
 io:(prog nt k).1=1∧(prog nt k).2.1=1
 ina:lks (inOut true) (mC ps).2=[(-1,0,0,0,[])]
 outa:lks (inOut false) (mC ps).2=[(((ps.length-1:Nat):Int),0,-1,0,[])]
 inn:(mC ps).2.filter innerL=(List.range (ps.length-1)).map (fun (i:Nat)=>(((i:Int),0,((i+1:Nat):Int),0,[]):Link))
section
variable {nt:Network} {k:Nat} {ps:List Program}
abbrev gG (nt:Network) (k:Nat) (ps:List Program):Network:=expN nt k (mC ps)
theorem Grw.nP (W:Grw nt k ps):(gG nt k ps).1.length=nt.1.length-1+ps.length:=by
 show (rem k nt.1++ps).length=_
 rw [List.length_append,rem_len W.hk]
theorem Grw.nL (W:Grw nt k ps):(gG nt k ps).2.length=nt.2.length+(ps.length-1):=by
 show (_++_:List Link).length=_
 rw [List.length_append,List.length_map,List.length_map,W.inn,List.length_map,List.length_range]
theorem Grw.prog (W:Grw nt k ps) {j:Nat} (hj:j<nt.1.length) (hne:j≠k):AmT.prog (gG nt k ps) (rho k j)=AmT.prog nt j:=rem_app W.hk hj hne _
theorem Grw.progC (W:Grw nt k ps) {i:Nat} : AmT.prog (gG nt k ps) (nt.1.length-1+i)=ps.getD i zProgram:=rem_appC W.hk _
theorem Grw.lnk (W:Grw nt k ps) {j:Nat} (hj:j<nt.2.length):AmT.lnk (gG nt k ps) j=expL ((nt.1.length:Int)-1) k (mC ps) (AmT.lnk nt j):=by
 unfold AmT.lnk
 show (_++_:List Link).getD j zLink=_
 rw [List.getD_eq_getElem?_getD,List.getElem?_append_left (by rw [List.length_map]; exact hj),List.getElem?_map,List.getElem?_eq_getElem hj,getD_lt hj]; rfl
theorem Grw.lnkC (W:Grw nt k ps) {i:Nat} (hi:i+1<ps.length):AmT.lnk (gG nt k ps) (nt.2.length+i)=(((nt.1.length-1+i:Nat):Int),0,((nt.1.length-1+(i+1):Nat):Int),0,[]):=by
 have hk:=W.hk
 unfold AmT.lnk
 show (nt.2.map _++((mC ps).2.filter innerL).map _:List Link).getD _ zLink=_
 rw [W.inn,List.getD_eq_getElem?_getD,List.getElem?_append_right (by rw [List.length_map]; omega),List.length_map,Nat.add_sub_cancel_left,List.map_map,List.getElem?_map,List.getElem?_range (by omega)]
 show shiftL _ _=_
 unfold shiftL
 refine Prod.ext ?_ (Prod.ext rfl (Prod.ext ?_ rfl))
 ·show (nt.1.length:Int)-1+(i:Int)=((nt.1.length-1+i:Nat):Int); omega
 ·show (nt.1.length:Int)-1+((i+1:Nat):Int)=((nt.1.length-1+(i+1):Nat):Int); omega
theorem Grw.proc (W:Grw nt k ps) {q:Nat} (hq:q<(gG nt k ps).1.length):(∃ j,j<nt.1.length∧j≠k∧q=rho k j)∨∃ i,i<ps.length∧q=nt.1.length-1+i:=by
 have hk:=W.hk
 rw [W.nP] at hq
 by_cases h:q<nt.1.length-1
 ·refine .inl ?_
  by_cases h2:q<k
  ·exact ⟨q,by omega,by omega,by unfold rho; rw [if_pos h2]⟩
  ·exact ⟨q+1,by omega,by omega,by unfold rho; rw [if_neg (show ¬ q+1<k by omega)]; omega⟩
 ·exact .inr ⟨q-(nt.1.length-1),by omega,by omega⟩
theorem Grw.link (W:Grw nt k ps) {j:Nat} (hj:j<(gG nt k ps).2.length):j<nt.2.length∨∃ i,i+1<ps.length∧j=nt.2.length+i:=by
 rw [W.nL] at hj
 by_cases h:j<nt.2.length
 ·exact .inl h
 ·exact .inr ⟨j-nt.2.length,by omega,by omega⟩
theorem rho_lt (hk:k<nt.1.length) {j:Nat} (hj:j<nt.1.length) (hne:j≠k):rho k j<nt.1.length-1:=by
 unfold rho; split<;>omega
theorem less_rho {j:Nat} (hne:j≠k):lessI (k:Int) (j:Int)=((rho k j:Nat):Int):=by
 unfold lessI rho
 split
 ·rw [if_neg (by omega)]; omega
 ·rw [if_pos (by omega)]
theorem Grw.toks (W:Grw nt k ps) {j:Nat} (hj:j<nt.2.length):AmT.toks (gG nt k ps) j=AmT.toks nt j:=by
 unfold AmT.toks; rw [W.lnk hj]; rfl
theorem Grw.toksC (W:Grw nt k ps) {i:Nat} (hi:i+1<ps.length):AmT.toks (gG nt k ps) (nt.2.length+i)=[]:=by
 unfold AmT.toks; rw [W.lnkC hi]
theorem Grw.lto (W:Grw nt k ps) {j b:Nat} (hj:j<nt.1.length) (hne:j≠k) (hb:(b:Int)<(AmT.prog nt j).1):AmT.lto (gG nt k ps) (rho k j) b=AmT.lto nt j b:=by
 obtain ⟨h1,h2,h3⟩:=lto_spec W.o hj hb
 have hr:=rho_lt W.hk hj hne
 refine lto_uniq W.og (by rw [W.nL]; omega) (by rw [W.nP]; omega) (by rw [W.prog hj hne]; exact hb) ?_ ?_
 ·rw [W.lnk h1]
  show (if _=_ then _ else _)=_
  rw [if_neg (by omega),h2,less_rho hne]
 ·rw [W.lnk h1]
  show (if _=_ then _ else _)=_
  rw [if_neg (by omega),h3]
theorem Grw.lfr (W:Grw nt k ps) {j b:Nat} (hj:j<nt.1.length) (hne:j≠k) (hb:(b:Int)<(AmT.prog nt j).2.1):AmT.lfr (gG nt k ps) (rho k j) b=AmT.lfr nt j b:=by
 obtain ⟨h1,h2,h3⟩:=lfr_spec W.o hj hb
 have hr:=rho_lt W.hk hj hne
 refine lfr_uniq W.og (by rw [W.nL]; omega) (by rw [W.nP]; omega) (by rw [W.prog hj hne]; exact hb) ?_ ?_
 ·rw [W.lnk h1]
  show (if _=_ then _ else _)=_
  rw [if_neg (by omega),h2,less_rho hne]
 ·rw [W.lnk h1]
  show (if _=_ then _ else _)=_
  rw [if_neg (by omega),h3]
theorem Grw.ltoK (W:Grw nt k ps):AmT.lto nt k 0<nt.2.length∧(AmT.lnk nt (AmT.lto nt k 0)).2.2.1=(k:Int)∧(AmT.lnk nt (AmT.lto nt k 0)).2.2.2.1=0:=lto_spec W.o W.hk (by rw [W.io.1]; decide)
theorem Grw.lfrK (W:Grw nt k ps):AmT.lfr nt k 0<nt.2.length∧(AmT.lnk nt (AmT.lfr nt k 0)).1=(k:Int)∧(AmT.lnk nt (AmT.lfr nt k 0)).2.1=0:=lfr_spec W.o W.hk (by rw [W.io.2]; decide)
theorem Grw.lto0 (U:∀ i,i<ps.length→(ps.getD i zProgram).1=1∧(ps.getD i zProgram).2.1=1) (W:Grw nt k ps):AmT.lto (gG nt k ps) (nt.1.length-1+0) 0=AmT.lto nt k 0:=by
 obtain ⟨h1,h2,h3⟩:=W.ltoK
 have hc:=W.c
 have hk:=W.hk
 refine lto_uniq W.og (by rw [W.nL]; omega) (by rw [W.nP]; omega) (by rw [W.progC,(U 0 (by omega)).1]; decide) ?_ ?_
 ·rw [W.lnk h1]
  show (if _=_ then _ else _)=_
  rw [if_pos h2]
  unfold inAt
  rw [W.ina,h3]
  show (nt.1.length:Int)-1+0=_
  omega
 ·rw [W.lnk h1]
  show (if _=_ then _ else _)=_
  rw [if_pos h2]
  unfold inAt
  rw [W.ina,h3]; rfl
theorem Grw.ltoS (U:∀ i,i<ps.length→(ps.getD i zProgram).1=1∧(ps.getD i zProgram).2.1=1) (W:Grw nt k ps) {i:Nat} (hi:i+1<ps.length):AmT.lto (gG nt k ps) (nt.1.length-1+(i+1)) 0=nt.2.length+i:=by
 refine lto_uniq W.og (by rw [W.nL]; omega) (by rw [W.nP]; omega) (by rw [W.progC,(U _ hi).1]; decide) ?_ ?_
 ·rw [W.lnkC hi]
 ·rw [W.lnkC hi]; rfl
theorem Grw.lfrS (U:∀ i,i<ps.length→(ps.getD i zProgram).1=1∧(ps.getD i zProgram).2.1=1) (W:Grw nt k ps) {i:Nat} (hi:i+1<ps.length):AmT.lfr (gG nt k ps) (nt.1.length-1+i) 0=nt.2.length+i:=by
 refine lfr_uniq W.og (by rw [W.nL]; omega) (by rw [W.nP]; omega) (by rw [W.progC,(U i (by omega)).2]; decide) ?_ ?_
 ·rw [W.lnkC hi]
 ·rw [W.lnkC hi]; rfl
theorem Grw.lfrE (U:∀ i,i<ps.length→(ps.getD i zProgram).1=1∧(ps.getD i zProgram).2.1=1) (W:Grw nt k ps) {i:Nat} (hi:i+1=ps.length):AmT.lfr (gG nt k ps) (nt.1.length-1+i) 0=AmT.lfr nt k 0:=by
 obtain ⟨h1,h2,h3⟩:=W.lfrK
 have hk:=W.hk
 refine lfr_uniq W.og (by rw [W.nL]; omega) (by rw [W.nP]; omega) (by rw [W.progC,(U i (by omega)).2]; decide) ?_ ?_
 ·rw [W.lnk h1]
  show (if _=_ then _ else _)=_
  rw [if_pos h2]
  unfold outAt
  rw [W.outa,h3]
  show (nt.1.length:Int)-1+((ps.length-1:Nat):Int)=_
  omega
 ·rw [W.lnk h1]
  show (if _=_ then _ else _)=_
  rw [if_pos h2]
  unfold outAt
  rw [W.outa,h3]; rfl
structure Loc (nt:Network) (k:Nat) (ps:List Program) (B B':Nat→Lc) (o:Nat→List Int) (u:Nat→Nat):Prop where
 oth:∀ j,j<nt.1.length→j≠k→B' (rho k j)=B j
 self:B k=(newA,o,u)
 chn:∀ i,i<ps.length→∃ oi ui,B' (nt.1.length-1+i)=(newA,oi,ui)∧oi 0=(if i+1=ps.length then o 0 else [])∧ui 0=(if i=0 then u 0 else 0)
variable {fs:Nat→List Int→List Int} {B B':Nat→Lc} {o:Nat→List Int} {u:Nat→Nat}
theorem Grw.inFo (W:Grw nt k ps) {h h':Nat→List Int} (e:∀ j,j<nt.2.length→h' j=h j) {j:Nat} (hj:j<nt.1.length) (hne:j≠k):inF (gG nt k ps) h' (rho k j)=inF nt h j:=by
 funext b
 unfold inF
 rw [W.prog hj hne]
 split
 ·rename_i hb
  rw [W.lto hj hne hb,e _ (lto_spec W.o hj hb).1]
 ·rfl
theorem fix_up (W:Grw nt k ps) (U:Undo ps fs) (hp:AmT.prog nt k=pThrough) (Lo:Loc nt k ps B B' o u) {g:Nat→List Int} (F:Fix nt B g) (hg:okT (g (AmT.lto nt k 0))) :
  Fix (gG nt k ps) B' (fun j=>if j<nt.2.length then g j else thr fs (j-nt.2.length+1) ((g (AmT.lto nt k 0)).drop (u 0))):=by
 have hN:=W.hk
 generalize hX:(g (AmT.lto nt k 0)).drop (u 0)=X
 have okX:okT X:=fun x hx=>by rw [← hX] at hx; exact hg x (List.mem_of_mem_drop hx)
 refine ⟨fun j hj h1=>?_,fun q hq=>?_⟩
 ·rcases W.link hj with h | ⟨i,hi,rfl⟩
  ·rw [W.lnk h] at h1
   simp only [if_pos h]
   rw [W.toks h]
   refine F.inp j h ?_
   have h1:(if (AmT.lnk nt j).1=(k:Int) then (nt.1.length:Int)-1+(outAt (mC ps) (AmT.lnk nt j)).1 else lessI (k:Int) (AmT.lnk nt j).1) = -1:=h1
   rcases (W.o.ends j h).out with e | e
   ·unfold AmT.lnk; rw [getD_lt h]; exact e.1
   ·exfalso
    have e1:AmT.lnk nt j=nt.2[j]:=by unfold AmT.lnk; rw [getD_lt h]
    rw [← e1] at e
    obtain ⟨a1,a2,a3,a4⟩:=e
    by_cases hc:(AmT.lnk nt j).1=(k:Int)
    ·rw [if_pos hc] at h1
     rw [hc,Int.toNat_natCast] at a4
     have a4:(AmT.lnk nt j).2.1<(AmT.prog nt k).2.1:=a4
     rw [W.io.2] at a4
     unfold outAt at h1
     rw [W.outa,show (AmT.lnk nt j).2.1=0 by omega] at h1
     have h1:(nt.1.length:Int)-1+((ps.length-1:Nat):Int) = -1:=h1
     omega
    ·rw [if_neg hc] at h1
     unfold lessI at h1
     split at h1<;>omega
  ·rw [W.lnkC hi] at h1
   simp only at h1
   omega
 ·rcases W.proc hq with ⟨j,hj,hne,rfl⟩ | ⟨i,hi,rfl⟩
  ·obtain ⟨M,d,e1,e2⟩:=F.run j hj
   rw [W.prog hj hne,Lo.oth j hj hne,W.inFo (h:=g) (fun j hj=>if_pos hj) hj hne]
   refine ⟨M,d,e1,fun b hb=>?_⟩
   have hl:=(lfr_spec W.o hj hb).1
   rw [W.lfr hj hne hb,W.toks hl]
   simp only [if_pos hl]
   exact e2 b hb
  ·obtain ⟨oi,ui,eB,e1,e2⟩:=Lo.chn i hi
   rw [W.progC,eB]
   have hI:inF (gG nt k ps) (fun j=>if j<nt.2.length then g j else thr fs (j-nt.2.length+1) X) (nt.1.length-1+i) 0=if i=0 then g (AmT.lto nt k 0) else thr fs i X:=by
    unfold inF
    rw [W.progC,(U.ins i hi).1,if_pos (by decide)]
    cases i with
    | zero=>rw [W.lto0 U.ins,if_pos rfl]; dsimp only; rw [if_pos W.ltoK.1]
    | succ i=>rw [W.ltoS U.ins hi]; dsimp only; rw [if_neg (show ¬ nt.2.length+i<nt.2.length by omega),if_neg (show ¬ i+1=0 by omega),Nat.add_sub_cancel_left]
   obtain ⟨M,d,e3,e4⟩:=U.mkf i hi (inF (gG nt k ps) (fun j=>if j<nt.2.length then g j else thr fs (j-nt.2.length+1) X) (nt.1.length-1+i)) oi ui
   refine ⟨M,d,e3,fun b hb=>?_⟩
   rw [(U.ins i hi).2] at hb
   obtain rfl:b=0:=by omega
   have e5:d.2.1 0=oi 0++thr fs (i+1) X:=by
    rw [e4,hI,e2]
    by_cases h0:i=0
    ·subst h0; rw [if_pos rfl,if_pos rfl,hX]; rfl
    ·rw [if_neg h0,if_neg h0,List.drop_zero]; rfl
   rw [e5,e1]
   by_cases hE:i+1=ps.length
   ·rw [if_pos hE,W.lfrE U.ins hE,W.toks W.lfrK.1,hE,U.same X okX]
    rw [if_pos W.lfrK.1]
    obtain ⟨M',d',f1,f2⟩:=F.run k hN
    rw [Lo.self,hp] at f1
    obtain ⟨M'',d'',f3,f4⟩:=makes_through (inF nt g k) o u
    obtain ⟨-,rfl⟩:=full_uniq f1 f3
    rw [f2 0 (by rw [W.io.2]; decide),f4]
    have:inF nt g k 0=g (AmT.lto nt k 0):=by unfold inF; rw [W.io.1,if_pos (by decide)]
    rw [this,hX]; rfl
   ·rw [if_neg hE,W.lfrS U.ins (by omega),W.toksC (by omega)]
    rw [if_neg (show ¬ nt.2.length+i<nt.2.length by omega),Nat.add_sub_cancel_left]; rfl
theorem fix_down (W:Grw nt k ps) (U:Undo ps fs) (hp:AmT.prog nt k=pThrough) (Lo:Loc nt k ps B B' o u) {h:Nat→List Int} (F:Fix (gG nt k ps) B' h) (hg:okT (h (AmT.lto nt k 0))):Fix nt B h:=by
 have hN:=W.hk
 have hc:=W.c
 generalize hX:(h (AmT.lto nt k 0)).drop (u 0)=X
 have okX:okT X:=fun x hx=>by rw [← hX] at hx; exact hg x (List.mem_of_mem_drop hx)
 refine ⟨fun j hj h1=>?_,fun j hj=>?_⟩
 ·rw [← W.toks hj]
  refine F.inp j (by rw [W.nL]; omega) ?_
  rw [W.lnk hj]
  show (if _=_ then _ else _)=_
  rw [if_neg (by omega),h1]
  unfold lessI
  rw [if_neg (by omega)]
 ·by_cases hne:j=k
  ·subst hne
   have chain:∀ i,i<ps.length→∃ d:Lc,d.2.1 0=(if i+1=ps.length then o 0 else [])++thr fs (i+1) X∧h (AmT.lfr (gG nt j ps) (nt.1.length-1+i) 0)=AmT.toks (gG nt j ps) (AmT.lfr (gG nt j ps) (nt.1.length-1+i) 0)++d.2.1 0:=by
    intro i
    induction i with
    | zero=>
     intro hi
     obtain ⟨oi,ui,eB,e1,e2⟩:=Lo.chn 0 hi
     obtain ⟨M,d,f1,f2⟩:=F.run (nt.1.length-1+0) (by rw [W.nP]; omega)
     rw [W.progC] at f1 f2
     rw [eB] at f1
     obtain ⟨M',d',f3,f4⟩:=U.mkf 0 hi (inF (gG nt j ps) h (nt.1.length-1+0)) oi ui
     obtain ⟨-,rfl⟩:=full_uniq f1 f3
     refine ⟨d,?_,f2 0 (by rw [(U.ins 0 hi).2]; decide)⟩
     have hI:inF (gG nt j ps) h (nt.1.length-1+0) 0=h (AmT.lto nt j 0):=by
      unfold inF
      rw [W.progC,(U.ins 0 hi).1,if_pos (by decide),W.lto0 U.ins]
     rw [f4,e1,hI,e2,if_pos rfl,hX]; rfl
    | succ i ih=>
     intro hi
     obtain ⟨d0,g1,g2⟩:=ih (by omega)
     rw [W.lfrS U.ins hi,W.toksC hi,List.nil_append,g1,if_neg (by omega),List.nil_append] at g2
     obtain ⟨oi,ui,eB,e1,e2⟩:=Lo.chn (i+1) hi
     obtain ⟨M,d,f1,f2⟩:=F.run (nt.1.length-1+(i+1)) (by rw [W.nP]; omega)
     rw [W.progC] at f1 f2
     rw [eB] at f1
     obtain ⟨M',d',f3,f4⟩:=U.mkf (i+1) hi (inF (gG nt j ps) h (nt.1.length-1+(i+1))) oi ui
     obtain ⟨-,rfl⟩:=full_uniq f1 f3
     refine ⟨d,?_,f2 0 (by rw [(U.ins (i+1) hi).2]; decide)⟩
     have hI:inF (gG nt j ps) h (nt.1.length-1+(i+1)) 0=thr fs (i+1) X:=by
      unfold inF
      rw [W.progC,(U.ins (i+1) hi).1,if_pos (by decide),W.ltoS U.ins hi,g2]
     rw [f4,e1,hI,e2,if_neg (show ¬ i+1=0 by omega),List.drop_zero]; rfl
   obtain ⟨d0,g1,g2⟩:=chain (ps.length-1) (by omega)
   rw [W.lfrE U.ins (by omega),W.toks W.lfrK.1,g1,if_pos (by omega),show ps.length-1+1=ps.length by omega,U.same X okX] at g2
   obtain ⟨M,d,f1,f2⟩:=makes_through (inF nt h j) o u
   rw [Lo.self,hp]
   refine ⟨M,d,f1,fun b hb=>?_⟩
   obtain rfl:b=0:=by have:(b:Int)<1:=hb; omega
   have:inF nt h j 0=h (AmT.lto nt j 0):=by unfold inF; rw [W.io.1,if_pos (by decide)]
   rw [g2,f2,this,hX]; rfl
  ·have hr:=rho_lt W.hk hj hne
   obtain ⟨M,d,e1,e2⟩:=F.run (rho k j) (by rw [W.nP]; omega)
   rw [W.prog hj hne] at e1 e2
   rw [Lo.oth j hj hne,W.inFo (h:=h) (fun _ _=>rfl) hj hne] at e1
   refine ⟨M,d,e1,fun b hb=>?_⟩
   have hl:=(lfr_spec W.o hj hb).1
   have:=e2 b hb
   rw [W.lfr hj hne hb,W.toks hl] at this
   exact this
end
end Go.AmT
namespace Go.AmT
open Go Go.Am Go.Proofs
set_option linter.unusedVariables false
set_option maxRecDepth 100000
def tys23:List (Nat×TInfo):=[(3,⟨false,1,8,[.int .i64 0],.int .i64,0,some I,[],false⟩),
 (27,⟨false,1,24,[.nil],.slice,75,some (.sl IS),[],false⟩),
 (32,⟨false,1,24,[.nil],.slice,77,some (.sl tActor),[],false⟩),
 (34,⟨true,4,80,[.nil,.nil,.nil,.int .i64 0],.struct,0,some tState,[(0,32),(1,27),(2,27),(3,3)],false⟩),
 (37,⟨false,1,24,[.nil],.slice,53,some (.sl tProgram),[],false⟩),
 (38,⟨false,1,24,[.nil],.slice,81,some (.sl tLink),[],false⟩),
 (40,⟨true,2,48,[.nil,.nil],.struct,0,some tNetwork,[(0,37),(1,38)],false⟩),
 (53,⟨true,3,40,[.int .i64 0,.int .i64 0,.nil],.struct,0,some tProgram,[(0,3),(1,3),(2,51)],false⟩),
 (75,⟨false,1,24,[.nil],.slice,3,some IS,[],false⟩),
 (77,⟨true,2,32,[.int .i64 0,.nil],.struct,0,some tActor,[(0,3),(1,75)],false⟩),
 (81,⟨true,5,56,[.int .i64 0,.int .i64 0,.int .i64 0,.int .i64 0,.nil],.struct,0,some tLink,[(0,3),(1,3),(2,3),(3,3),(4,75)],false⟩)]
theorem tys23_ok:(tys23.all fun p=>tokB Tryz.prog p.1 p.2)=true:=by kernel_rfl
def sL8New.las:List (Nat×LA):=[(3,⟨[(8,.int .i64)],[],[1,6,7],[]⟩)]
noncomputable def sL8New.f (n:Nat) (a0:Actor):Option (Bool×Unit):=iter (α:=(Int×Unit)) n (fun ih7 x6=>br (decide (x6.1<(a0.2.length:Int))) (chk (0≤x6.1∧x6.1<(a0.2.length:Int)) (br (!decide ((a0.2.getD x6.1.toNat 0)=0)) (some (false,())) (ih7 ((w64 (x6.1+1)),())))) (some ((decide (a0.1=0)),()))) (0,())
noncomputable def sL8New.mng (n:Nat):Mng:=⟨[.val tActor],[.val .bool],fun x=>sL8New.f n x.1⟩
noncomputable def sL8New.cfg (n:Nat):Cfg:=⟨tys23,[],[],[]⟩
theorem sL8New.eq:∀ (n:Nat) (a0:Actor),runF (sL8New.cfg n) n Tryz.f36 (annOf Tryz.f36 sL8New.las) [.val tActor] [.val .bool] (a0,())=sL8New.f n a0:=by
 intros
 kernel_rfl
theorem sL8New.gof:GoF Tryz.prog 36:=⟨_,Tryz.func36,by kernel_rfl,by kernel_rfl⟩
theorem sL8New.sound (n:Nat):Sound Tryz.prog 36 (sL8New.mng n):=runF_sound (fn:=Tryz.f36) (m:=sL8New.mng n) (c:=sL8New.cfg n) (regOK mixed (opOK (.of (c:=sL8New.cfg n) trivial) (.of (c:=sL8New.cfg n) trivial)) (tysOK tys23_ok)) (tysOK tys23_ok) Tryz.func36 (fun x=>(sL8New.eq n x.1).symm)
def sL1CopyR.las:List (Nat×LA):=[]
noncomputable def sL1CopyR.f (n:Nat) (a0:List Int):Option ((List Int)×Unit):=chk ((([]:List Int).length+a0.length)*8≤maxB) (some ((([]:List Int)++a0),()))
noncomputable def sL1CopyR.mng (n:Nat):Mng:=⟨[.val IS],[.sh IS],fun x=>sL1CopyR.f n x.1⟩
noncomputable def sL1CopyR.cfg (n:Nat):Cfg:=⟨tys23,[],[],[]⟩
theorem sL1CopyR.eq:∀ (n:Nat) (a0:List Int),runF (sL1CopyR.cfg n) n Tryz.f39 (annOf Tryz.f39 sL1CopyR.las) [.val IS] [.sh IS] (a0,())=sL1CopyR.f n a0:=by
 intros
 kernel_rfl
theorem sL1CopyR.gof:GoF Tryz.prog 39:=⟨_,Tryz.func39,by kernel_rfl,by kernel_rfl⟩
theorem sL1CopyR.sound (n:Nat):Sound Tryz.prog 39 (sL1CopyR.mng n):=runF_sound (fn:=Tryz.f39) (m:=sL1CopyR.mng n) (c:=sL1CopyR.cfg n) (regOK mixed (opOK (.of (c:=sL1CopyR.cfg n) trivial) (.of (c:=sL1CopyR.cfg n) trivial)) (tysOK tys23_ok)) (tysOK tys23_ok) Tryz.func39 (fun x=>(sL1CopyR.eq n x.1).symm)
def sL5CopyF.las:List (Nat×LA):=[(4,⟨[(3,.vptr 1000 0),(16,.int .i64)],[(1000,.cells [] [.own 1001 tActor,.con (.nil),.con (.nil),.int .i64]),(1001,.row false tActor)],[1,2,14,15],[]⟩),(13,⟨[(3,.vptr 1000 0),(35,.int .i64)],[(1000,.cells [] [.own 1001 tActor,.own 1002 IS,.con (.nil),.int .i64]),(1001,.row false tActor),(1002,.row true IS)],[1,2,33,34],[]⟩),(22,⟨[(3,.vptr 1000 0),(50,.int .i64)],[(1000,.cells [] [.own 1001 tActor,.own 1002 IS,.own 1003 IS,.int .i64]),(1001,.row false tActor),(1002,.row true IS),(1003,.row true IS)],[2,48,49],[]⟩)]
def sL5CopyF.la:LA:=⟨[(0,.agg [.sh tActor,.sh IS,.sh IS,.int .i64])],[],[],[]⟩
def sL5CopyF.lb:LA:=⟨[(0,.agg [.own 1000 tActor,.own 1001 IS,.own 1002 IS,.int .i64])],[(1000,.row false tActor),(1001,.row true IS),(1002,.row true IS)],[],[]⟩
noncomputable def sL5CopyF.f (n:Nat) (a0:List Actor) (a1:List (List Int)) (a2:List (List Int)) (a3:Int):Option (Int×(List Actor)×(List (List Int))×(List (List Int))×Unit):=iter (α:=(Int×(Int×(List Actor)×Unit))) n (fun ih29 x28=>br (decide (x28.1<(a0.length:Int))) (chk (0≤x28.1∧x28.1<(a0.length:Int)) (let v30:=(a0.getD x28.1.toNat zActor); (sL1CopyR.f n v30.2).bind fun r31=>chk ((x28.2.2.1.length+([(v30.1,r31.1)]:List Actor).length)*32≤maxB) (ih29 ((w64 (x28.1+1)),(x28.2.1,((x28.2.2.1++[(v30.1,r31.1)]),())))))) (iter (α:=(Int×(Int×(List Actor)×(List (List Int))×Unit))) n (fun ih59 x58=>br (decide (x58.1<(a1.length:Int))) (chk (0≤x58.1∧x58.1<(a1.length:Int)) ((sL1Copy.f n (a1.getD x58.1.toNat [])).bind fun r60=>chk ((x58.2.2.2.1.length+([r60.1]:List (List Int)).length)*24≤maxB) (ih59 ((w64 (x58.1+1)),(x58.2.1,(x58.2.2.1,((x58.2.2.2.1++[r60.1]),()))))))) (iter (α:=(Int×(Int×(List Actor)×(List (List Int))×(List (List Int))×Unit))) n (fun ih79 x78=>br (decide (x78.1<(a2.length:Int))) (chk (0≤x78.1∧x78.1<(a2.length:Int)) ((sL1Copy.f n (a2.getD x78.1.toNat [])).bind fun r80=>chk ((x78.2.2.2.2.1.length+([r80.1]:List (List Int)).length)*24≤maxB) (ih79 ((w64 (x78.1+1)),(x78.2.1,(x78.2.2.1,(x78.2.2.2.1,((x78.2.2.2.2.1++[r80.1]),())))))))) (some (x78.2.1,(x78.2.2.1,(x78.2.2.2.1,(x78.2.2.2.2.1,())))))) (0,(x58.2.1,(x58.2.2.1,(x58.2.2.2.1,([],()))))))) (0,(x28.2.1,(x28.2.2.1,([],())))))) (0,(a3,([],())))
noncomputable def sL5CopyF.mng (n:Nat):LMng:=⟨sL5CopyF.la,sL5CopyF.lb,fun x=>sL5CopyF.f n x.1 x.2.1 x.2.2.1 x.2.2.2.1⟩
noncomputable def sL5CopyF.cfg (n:Nat):Cfg:=⟨tys23,[(1000039,sL1CopyR.mng n),(39,sL1Copy.mng n)],[],[2000044]⟩
theorem sL5CopyF.eq:∀ (n:Nat) (a0:List Actor) (a1:List (List Int)) (a2:List (List Int)) (a3:Int) (mp:Mp),LMng.run (sL5CopyF.cfg n) n Tryz.f37 (annOf Tryz.f37 sL5CopyF.las) sL5CopyF.la sL5CopyF.lb (a0,(a1,(a2,(a3,mp))))=sL5CopyF.f n a0 a1 a2 a3:=by
 intros
 kernel_rfl
theorem sL5CopyF.gof:GoF Tryz.prog 37:=⟨_,Tryz.func37,by kernel_rfl,by kernel_rfl⟩
theorem sL5CopyF.sound (n:Nat):LSound Tryz.prog 37 (sL5CopyF.mng n):=runL_sound (fn:=Tryz.f37) (M:=sL5CopyF.mng n) (c:=sL5CopyF.cfg n) (regOK mixed (opOK (.of (c:=sL5CopyF.cfg n) ⟨⟨sL1CopyR.sound n,sL1CopyR.gof⟩,⟨⟨sL1Copy.sound n,sL1Copy.gof⟩,trivial⟩⟩) (.of (c:=sL5CopyF.cfg n) trivial)) (tysOK tys23_ok)) (tysOK tys23_ok) Tryz.func37 (fun x=>(sL5CopyF.eq n x.1 x.2.1 x.2.2.1 x.2.2.2.1 x.2.2.2.2).symm)
def sExpandStateL.las:List (Nat×LA):=[(2,⟨[(43,.bool)],[],[2,5,7,8,10],[0,1]⟩),(9,⟨[(13,.vptr 1000 0),(57,.int .i64)],[(1000,.cells [] [.own 1001 tActor,.own 1002 IS,.own 1003 IS,.int .i64]),(1001,.row false tActor),(1002,.row true IS),(1003,.row true IS)],[2,7,8,10,55,56],[0,1]⟩),(20,⟨[(13,.vptr 1000 0),(75,.int .i64)],[(1000,.cells [] [.own 1001 tActor,.own 1002 IS,.own 1003 IS,.int .i64]),(1001,.row false tActor),(1002,.row true IS),(1003,.row true IS)],[7,8,10,73,74],[0,1]⟩),(29,⟨[(13,.vptr 1000 0),(90,.int .i64)],[(1000,.cells [] [.own 1001 tActor,.own 1002 IS,.own 1003 IS,.int .i64]),(1001,.row false tActor),(1002,.row true IS),(1003,.row true IS)],[8,10,88,89],[1,0]⟩),(34,⟨[(101,.bool)],[],[8,10,13,19,88,89,90],[1,0]⟩)]
def sExpandStateL.la:LA:=⟨[(0,.agg [.sh tProgram,.sh tLink]),(1,.agg [.sh tActor,.sh IS,.sh IS,.int .i64]),(2,.int .i64),(3,.agg [.own 0 tProgram,.own 1 tLink])],[(0,.row true tProgram),(1,.row true tLink)],[],[]⟩
def sExpandStateL.lb:LA:=⟨[(0,.agg [.own 1000 tActor,.own 1001 IS,.own 1002 IS,.int .i64]),(1,.bool)],[(1000,.row false tActor),(1001,.row true IS),(1002,.row true IS),(0,.row true tProgram),(1,.row true tLink)],[],[]⟩
noncomputable def sExpandStateL.f (n:Nat) (a0:List Program) (a1:List Link) (a2:List Actor) (a3:List (List Int)) (a4:List (List Int)) (a5:Int) (a6:Int) (a7:List Program) (a8:List Link):Option (Int×(Bool×(List Actor)×(List (List Int))×(List (List Int))×(List Program)×(List Link)×Unit)):=(sExpandNetwork.f n (a0,a1) a6 (a7,a8)).bind fun r1=>cut (α:=(Bool×Unit)) (br (!r1.2.1) (some (.inr (true,()))) ((sIsState.f n (a0,a1) (a2,(a3,(a4,a5)))).bind fun r6=>br (!r6.1) (some (.inr (true,()))) (chk (0≤a6∧a6<(a2.length:Int)) (let v7:=(a2.getD a6.toNat zActor); (sL8New.f n v7).bind fun r8=>some (.inr ((!r8.1),())))))) fun y5=>br y5.1 (some (0,(false,([],([],([],(a7,(a8,())))))))) ((sL5CopyF.f n a2 a3 a4 a5).bind fun r9=>iter (α:=(Int×(Int×(List Actor)×(List (List Int))×(List (List Int))×Unit))) n (fun ih38 x37=>br (decide (x37.1<(r9.2.1.length:Int))) (chk (0≤x37.1∧x37.1<(r9.2.1.length:Int)) (br (!decide (x37.1=a6)) (chk ((x37.2.2.1.length+([(r9.2.1.getD x37.1.toNat zActor)]:List Actor).length)*32≤maxB) (ih38 ((w64 (x37.1+1)),(x37.2.1,((x37.2.2.1++[(r9.2.1.getD x37.1.toNat zActor)]),(x37.2.2.2.1,(x37.2.2.2.2.1,()))))))) (ih38 ((w64 (x37.1+1)),(x37.2.1,(x37.2.2.1,(x37.2.2.2.1,(x37.2.2.2.2.1,())))))))) (iter (α:=(Int×(Int×(List Actor)×(List (List Int))×(List (List Int))×Unit))) n (fun ih55 x54=>br (decide (x54.1<(a7.length:Int))) (chk (0≤x54.1∧x54.1<(a7.length:Int)) ((sNewActor.f n (a7.getD x54.1.toNat zProgram)).bind fun r56=>chk ((x54.2.2.1.length+([r56.1]:List Actor).length)*32≤maxB) (ih55 ((w64 (x54.1+1)),(x54.2.1,((x54.2.2.1++[r56.1]),(x54.2.2.2.1,(x54.2.2.2.2.1,())))))))) (iter (α:=(Int×(Int×(List Actor)×(List (List Int))×(List (List Int))×Unit))) n (fun ih76 x75=>br (decide (x75.1<(a8.length:Int))) (chk (0≤x75.1∧x75.1<(a8.length:Int)) (cut (α:=(Bool×Unit)) (br (decide (0≤(a8.getD x75.1.toNat zLink).1)) (some (.inr ((decide (0≤(a8.getD x75.1.toNat zLink).2.2.1)),()))) (some (.inr (false,())))) fun y77=>br y77.1 ((sL1Copy.f n (a8.getD x75.1.toNat zLink).2.2.2.2).bind fun r78=>chk ((x75.2.2.2.1.length+([r78.1]:List (List Int)).length)*24≤maxB) ((sL1Copy.f n (a8.getD x75.1.toNat zLink).2.2.2.2).bind fun r79=>chk ((x75.2.2.2.2.1.length+([r79.1]:List (List Int)).length)*24≤maxB) (ih76 ((w64 (x75.1+1)),(x75.2.1,(x75.2.2.1,((x75.2.2.2.1++[r78.1]),((x75.2.2.2.2.1++[r79.1]),())))))))) (ih76 ((w64 (x75.1+1)),(x75.2.1,(x75.2.2.1,(x75.2.2.2.1,(x75.2.2.2.2.1,())))))))) ((sIsState.f n r1.1 (x75.2.2.1,(x75.2.2.2.1,(x75.2.2.2.2.1,x75.2.1)))).bind fun r80=>br (!r80.1) (some (0,(false,([],([],([],(a7,(a8,())))))))) (some (x75.2.1,(true,(x75.2.2.1,(x75.2.2.2.1,(x75.2.2.2.2.1,(a7,(a8,())))))))))) (0,(x54.2.1,(x54.2.2.1,(x54.2.2.2.1,(x54.2.2.2.2.1,()))))))) (0,(x37.2.1,(x37.2.2.1,(x37.2.2.2.1,(x37.2.2.2.2.1,()))))))) (0,(a5,([],(r9.2.2.1,(r9.2.2.2.1,()))))))
noncomputable def sExpandStateL.mng (n:Nat):LMng:=⟨sExpandStateL.la,sExpandStateL.lb,fun x=>sExpandStateL.f n x.1 x.2.1 x.2.2.1 x.2.2.2.1 x.2.2.2.2.1 x.2.2.2.2.2.1 x.2.2.2.2.2.2.1 x.2.2.2.2.2.2.2.1 x.2.2.2.2.2.2.2.2.1⟩
noncomputable def sExpandStateL.cfg (n:Nat):Cfg:=⟨tys23,[(24,sExpandNetwork.mng n),(35,sIsState.mng n),(36,sL8New.mng n),(38,sNewActor.mng n),(39,sL1Copy.mng n)],[(37,sL5CopyF.mng n)],[]⟩
theorem sExpandStateL.eq:∀ (n:Nat) (a0:List Program) (a1:List Link) (a2:List Actor) (a3:List (List Int)) (a4:List (List Int)) (a5:Int) (a6:Int) (a7:List Program) (a8:List Link) (mp:Mp),LMng.run (sExpandStateL.cfg n) n Tryz.f7 (annOf Tryz.f7 sExpandStateL.las) sExpandStateL.la sExpandStateL.lb (a0,(a1,(a2,(a3,(a4,(a5,(a6,(a7,(a8,mp)))))))))=sExpandStateL.f n a0 a1 a2 a3 a4 a5 a6 a7 a8:=by
 intros
 kernel_rfl
theorem sExpandStateL.gof:GoF Tryz.prog 7:=⟨_,Tryz.func7,by kernel_rfl,by kernel_rfl⟩
theorem sExpandStateL.sound (n:Nat):LSound Tryz.prog 7 (sExpandStateL.mng n):=runL_sound (fn:=Tryz.f7) (M:=sExpandStateL.mng n) (c:=sExpandStateL.cfg n) (regOK mixed (opOK (.of (c:=sExpandStateL.cfg n) ⟨⟨sExpandNetwork.sound n,sExpandNetwork.gof⟩,⟨⟨sIsState.sound n,sIsState.gof⟩,⟨⟨sL8New.sound n,sL8New.gof⟩,⟨⟨sNewActor.sound n,sNewActor.gof⟩,⟨⟨sL1Copy.sound n,sL1Copy.gof⟩,trivial⟩⟩⟩⟩⟩) (.of (c:=sExpandStateL.cfg n) ⟨⟨sL5CopyF.sound n,sL5CopyF.gof⟩,trivial⟩)) (tysOK tys23_ok)) (tysOK tys23_ok) Tryz.func7 (fun x=>(sExpandStateL.eq n x.1 x.2.1 x.2.2.1 x.2.2.2.1 x.2.2.2.2.1 x.2.2.2.2.2.1 x.2.2.2.2.2.2.1 x.2.2.2.2.2.2.2.1 x.2.2.2.2.2.2.2.2.1 x.2.2.2.2.2.2.2.2.2).symm)
end Go.AmT
namespace Go.AmT
open Go Go.Am
set_option linter.unusedVariables false
set_option linter.unusedSimpArgs false
abbrev nA:Actor:=(0,[0,0,0,0])
def innT (m:Network):List (List Int):=(m.2.filter innerL).map (fun l=>l.2.2.2.2)
def grown (s:State) (k:Nat) (m:Network):State:=(rem k s.1++m.1.map (fun _=>nA),(s.2.1++innT m,(s.2.2.1++innT m,s.2.2.2)))
noncomputable def expS (nt:Network) (s:State) (k:Int) (m:Network):State×(Bool×Unit):=
 if (expd nt k m).2.1=true∧okSt nt s=true∧s.1.getD k.toNat zActor=nA then
  (if okSt (expd nt k m).1 (grown s k.toNat m)=true then (grown s k.toNat m,(true,())) else (([],([],([],0))),(false,())))
 else (([],([],([],0))),(false,()))
theorem expd_tm {nt m:Network} {k:Int} (h:(expd nt k m).2.1=true):∃ j:Nat,k=(j:Int)∧Tm nt j m:=by
 unfold expd at h
 split at h
 ·rename_i ht; exact tmpl_of ht
 ·cases h
theorem grown_small {nt m:Network} {s:State} {k:Nat} (hs:SmallSt s) (o:OkSt nt s) (om:OkN m) (hm:SmallN m):SmallSt (grown s k m):=by
 have h1:=o.na; have h2:=o.nq; have h3:=o.ns
 have p1:=o.net.progs; have p2:=o.net.links; have p3:=om.progs; have p4:=om.links
 have hf:=List.length_filter_le innerL m.2
 have hi:(innT m).length≤m.2.length:=by unfold innT; rw [List.length_map]; exact hf
 have hit:∀ q∈innT m,q.length≤1048576:=by
  intro q hq
  obtain ⟨l,hl,rfl⟩:=List.mem_map.1 hq
  exact (hm.link l (List.mem_filter.1 hl).1).tokens
 refine ⟨?_,fun a ha=>?_,?_,fun q hq=>?_,?_,fun q hq=>?_⟩
 ·show (rem k s.1++_:List Actor).length≤_
  simp [rem]; omega
 ·rcases List.mem_append.1 ha with ha | ha
  ·rcases List.mem_append.1 ha with ha | ha
   ·exact hs.actor a (List.mem_of_mem_take ha)
   ·exact hs.actor a (List.mem_of_mem_drop ha)
  ·obtain ⟨p,hp,rfl⟩:=List.mem_map.1 ha
   show (4:Nat)≤1048576; omega
 ·show (_++_:List (List Int)).length≤_
  rw [List.length_append]; omega
 ·rcases List.mem_append.1 hq with hq | hq
  ·exact hs.queue q hq
  ·exact hit q hq
 ·show (_++_:List (List Int)).length≤_
  rw [List.length_append]; omega
 ·rcases List.mem_append.1 hq with hq | hq
  ·exact hs.sent q hq
  ·exact hit q hq
theorem rem_erase {α:Type} (k:Nat) (a:List α):a.eraseIdx k=rem k a:=by
 rw [List.eraseIdx_eq_take_drop_succ]; rfl
theorem sL1CopyR_spec {n:Nat} {a:List Int} (h:a.length≤1048576):sL1CopyR.f n a=some (a,()):=by
 unfold sL1CopyR.f
 rw [small_chk (by simp; omega)]; rfl
theorem iNewActor_specE {n:Nat} {p:Program} (hp:SmallP p) (h:okP p=true) (hn:1048576<n):iNewActor.f n p=some (nA,()):=by
 unfold iNewActor.f
 rw [iIsProgram_spec hp hn,h]
 simp only [Option.bind_some,Bool.not_true,br_false]
 rw [chk_true (by have:=maxB_eq; refine ⟨by trivial,?_⟩; omega)]; rfl
theorem sL5CopyF_spec {n:Nat} {s:State} (h:SmallSt s) (hn:1048576<n):sL5CopyF.f n s.1 s.2.1 s.2.2.1 s.2.2.2=some (s.2.2.2,(s.1,(s.2.1,(s.2.2.1,())))):=by
 have ha:=h.actors
 have hq:=h.queues
 have hs:=h.sents
 unfold sL5CopyF.f
 refine push_loopE s.1 id (fun i ps=>(i,(s.2.2.2,(ps,())))) (fun ih i hi ps hps=>?_) (fun ih=>?_) (by omega)
 ·have c1:(i:Int)<(s.1.length:Int):=by omega
  have e1:s.1.getD i zActor=s.1[i]:=getD_lt hi _
  show br (decide ((i:Int)<(s.1.length:Int))) _ _=_
  rw [br_yes c1,chk_true ⟨Int.natCast_nonneg i,c1⟩]
  simp only [Int.toNat_natCast,e1]
  rw [sL1CopyR_spec (h.actor _ (List.getElem_mem hi)),Option.bind_some,small_chk (by simp; omega),w64_succ (by omega)]; rfl
 ·show br (decide ((s.1.length:Int)<(s.1.length:Int))) _ _=_
  rw [br_no (Int.lt_irrefl _),List.map_id]
  refine push_loopE s.2.1 id (fun i ps=>(i,(s.2.2.2,(s.1,(ps,()))))) (fun ih i hi ps hps=>?_) (fun ih=>?_) (by omega)
  ·have c1:(i:Int)<(s.2.1.length:Int):=by omega
   have e1:s.2.1.getD i []=s.2.1[i]:=getD_lt hi _
   show br (decide ((i:Int)<(s.2.1.length:Int))) _ _=_
   rw [br_yes c1,chk_true ⟨Int.natCast_nonneg i,c1⟩]
   simp only [Int.toNat_natCast,e1]
   rw [sL1Copy_spec (h.queue _ (List.getElem_mem hi)),Option.bind_some,small_chk (by simp; omega),w64_succ (by omega)]; rfl
  ·show br (decide ((s.2.1.length:Int)<(s.2.1.length:Int))) _ _=_
   rw [br_no (Int.lt_irrefl _),List.map_id]
   refine push_loopE s.2.2.1 id (fun i ps=>(i,(s.2.2.2,(s.1,(s.2.1,(ps,())))))) (fun ih i hi ps hps=>?_) (fun ih=>?_) (by omega)
   ·have c1:(i:Int)<(s.2.2.1.length:Int):=by omega
    have e1:s.2.2.1.getD i []=s.2.2.1[i]:=getD_lt hi _
    show br (decide ((i:Int)<(s.2.2.1.length:Int))) _ _=_
    rw [br_yes c1,chk_true ⟨Int.natCast_nonneg i,c1⟩]
    simp only [Int.toNat_natCast,e1]
    rw [sL1Copy_spec (h.sent _ (List.getElem_mem hi)),Option.bind_some,small_chk (by simp; omega),w64_succ (by omega)]; rfl
   ·show br (decide ((s.2.2.1.length:Int)<(s.2.2.1.length:Int))) _ _=_
    rw [br_no (Int.lt_irrefl _),List.map_id]
theorem all_loopR {α:Type} (a:List α) (ok:α→Bool) {R:Bool} {F:(Int×Unit→Option (Bool×Unit))→Int×Unit→Option (Bool×Unit)}
  (hF:∀ ih (i:Nat) (hi:i<a.length),F ih ((i:Int),())=if ok a[i]=true then ih (((i+1:Nat):Int),()) else some (false,()))
  (hE:∀ ih,F ih ((a.length:Int),())=some (R,())) {n:Nat} (hn:a.length<n):iter n F (0,())=some (a.all ok&&R,()):=by
 have:=iter_up (F:=F) a.length (fun i _ o=>o=some ((a.drop i).all ok&&R,())) (fun ih s=>by rw [hE]; simp) (fun ih i s hi h=>by
  rw [hF ih i hi]
  have hd:a.drop i=a[i]::a.drop (i+1):=List.drop_eq_getElem_cons hi
  rw [hd,List.all_cons]
  split
  ·rename_i hk; rw [h ()]; simp [hk]
  ·rename_i hk; simp [hk]) n 0 () (Nat.zero_le _) (by omega)
 simpa using this
theorem sL8New_spec {n:Nat} {a:Actor} (ha:a.2.length=4) (hn:1048576<n):sL8New.f n a=some (decide (a=nA),()):=by
 obtain ⟨pc,l⟩:=a
 have ha:l.length=4:=ha
 unfold sL8New.f
 refine Eq.trans (all_loopR l (fun v=>decide (v=0)) (R:=decide (pc=0)) (fun ih i hi=>?_) (fun ih=>?_) (by omega)) ?_
 ·have c1:(i:Int)<(l.length:Int):=by omega
  have e1:l.getD i 0=l[i]:=getD_lt hi _
  show br (decide ((i:Int)<(l.length:Int))) _ _=_
  rw [br_yes c1,chk_true ⟨Int.natCast_nonneg i,c1⟩]
  simp only [Int.toNat_natCast,e1]
  rw [w64_succ (by omega)]
  by_cases h:l[i]=0
  ·rw [decide_eq_true h]; rfl
  ·rw [decide_eq_false h]; rfl
 ·exact br_no (Int.lt_irrefl _)
 ·match l,ha with
  | [x,y,z,t],_=>
   congr 2
   apply Bool.eq_iff_iff.2
   simp [nA,Prod.mk.injEq]
   constructor
   ·rintro ⟨⟨rfl,rfl,rfl,rfl⟩,rfl⟩; simp
   ·rintro ⟨rfl,rfl,rfl,rfl,rfl⟩; simp
end Go.AmT
namespace Go.Am
open Go
set_option linter.unusedVariables false
set_option linter.unusedSimpArgs false
theorem fr_drew (F:Nat→Nat→Prop) (w:World):Fr F w w.drew:=⟨rfl,rfl,rfl,Nat.le_refl _,fun k c e f h=>⟨c,h,rfl,fun _ _=>rfl⟩,fun _ _ _=>rfl,fun _ _ h _=>h⟩
abbrev tA:Ty:=.pair (.int .i64) (.sl (.int .i64))
structure DelW (b o n k:Nat) (c:Nat→Value) (w w':World):Prop where
 cell:∀ i,i<(n-1)*2→w'.cell? (ad b (o+i))=some (if i<k*2 then c i else c (i+2))
 tail:∀ i,i<n*2→(w'.cell? (ad b (o+i))).isSome=true
 out:∀ b' o',¬ (b'=b∧o≤o'∧o'<o+n*2)→w'.cell? (ad b' o')=w.cell? (ad b' o')
 frz:∀ a,w'.frozen? a=w.frozen? a
 fr:Fr (fun b' o'=>b'=b∧o≤o'∧o'<o+n*2) w w'
def delR (xs:List tA.T) (i j:Int):Option (List tA.T×Unit):=if 0≤i∧j=i+1∧j≤(xs.length:Int) then some (xs.eraseIdx i.toNat,()) else none
def delM:LMng:=⟨⟨[(0,.own 0 tA),(1,.int .i64),(2,.int .i64)],[(0,.row true tA)],[],[]⟩,⟨[(0,.own 1000 tA)],[(1000,.row true tA)],[],[]⟩,fun x=>delR x.2.2.1 x.1 x.2.1⟩
def delHd (g:Gh) (k:Nat):Path→Hd
 | []=>⟨(g.hd 0 0 []).addr,(g.hd 0 0 []).len-1,(g.hd 0 0 []).cap⟩
 | (i,j)::q=>g.hd 0 0 ((if i<k then i else i+1,j)::q)
def delLab (k:Nat):Option (Nat×Path)→Option (Nat×Path)
 | some (0,[])=>some (20480,[])
 | some (0,(i,j)::q)=>if i<k then some (20480,(i,j)::q) else if i=k then some (0,(i,j)::q) else some (20480,(i-1,j)::q)
 | x=>x
def delGh (g:Gh) (k:Nat):Gh:=⟨fun id ver p=>if id=20480 then delHd g k p else g.hd id ver p,fun b o=>delLab k (g.lab b o)⟩
theorem delLab_some {k:Nat} {l:Option (Nat×Path)} {q:Nat×Path} (h:delLab k l=some q):∃ q',l=some q':=by
 cases l with
 | none=>simp [delLab] at h
 | some q'=>exact ⟨q',rfl⟩
theorem delLab_other {k id:Nat} {p:Path} (h:id≠0):delLab k (some (id,p))=some (id,p):=by
 unfold delLab
 split
 ·rename_i e; simp at e; exact absurd e.1 h
 ·rename_i e; simp at e; exact absurd e.1 h
 ·rfl
theorem del_sound {P:Program} {f:FuncId}
  (K:∀ (b o cap n k:Nat) (c:Nat→Value) (w:World),n≤cap→k<n→
   (∀ i,i<n*2→w.cell? ⟨b,o+i,none⟩=some (c i)∧w.frozen? ⟨b,o+i,none⟩=false∧(c i).oneCell'=true)→
   Calls P f #[.slice (some ⟨b,o,none⟩) n cap,.int .i64 k,.int .i64 ((k+1:Nat):Int)] w fun e w'=>e = .returned (.slice (some ⟨b,o,none⟩) (n-1) cap)∧DelW b o n k c w w'):LSound P f delM:=by
 intro x y hy g w args hln henv hobjs hlabs hG
 obtain ⟨i,j,xs,M⟩:=x
 replace hy:delR xs i j=some y:=hy
 unfold delR at hy
 by_cases hc:0≤i∧j=i+1∧j≤(xs.length:Int)
 case neg=>rw [if_neg hc] at hy; simp at hy
 rw [if_pos hc] at hy
 obtain ⟨h0,h1,h2⟩:=hc
 obtain rfl:=Option.some.inj hy
 obtain ⟨k,rfl⟩:∃ k:Nat,i=(k:Int):=⟨i.toNat,by omega⟩
 subst h1
 have hk:k<xs.length:=by omega
 obtain ⟨v0,a0,r0⟩:=henv 0 (.own 0 0 [] tA) rfl
 obtain ⟨v1,a1,r1⟩:=henv 1 (.int .i64 k) rfl
 obtain ⟨v2,a2,r2⟩:=henv 2 (.int .i64 (k+1)) rfl
 obtain ⟨-,-,-,-,-,rfl⟩:=r0
 obtain rfl:v1 = .int .i64 k:=r1
 obtain rfl:v2 = .int .i64 (k+1):=r2
 obtain ⟨-,-,-,hlen,hcap,hnone,hrow⟩:=hobjs 0 (.row true tA 0 xs) rfl
 cases had:(g.hd 0 0 []).addr with
 | none=>have:=hnone had; omega
 | some q=>
 obtain ⟨b,o⟩:=q
 obtain ⟨hmem,hel⟩:=hrow b o had
 have hhd:(g.hd 0 0 []).val = .slice (some ⟨b,o,none⟩) xs.length (g.hd 0 0 []).cap:=by
  unfold Hd.val; rw [had,hlen]; rfl
 have hrow2:∀ i (hi:i<xs.length),w.cell? (ad b (o+i*2))=some (.int .i64 xs[i].1)∧w.cell? (ad b (o+i*2+1))=some (g.hd 0 0 [(i,1)]).val∧
   rowR w g.lab 1 (0,[(i,1)]) (g.hd 0 0 [(i,1)]) (fun k x b o=>w.cell? (ad b o)=some (.int .i64 x)) xs[i].2:=by
  intro i hi
  obtain ⟨e1,e2⟩:=hel i hi
  refine ⟨e1,?_⟩
  rcases e2 with e2 | e2
  ·simp [noSk] at e2
  ·exact e2
 let c:Nat→Value:=fun i=>match xs[i / 2]? with | some x=>if i % 2=0 then .int .i64 x.1 else (g.hd 0 0 [(i / 2,1)]).val | none=>.int .i64 0
 have hcells:∀ i,i<xs.length*2→w.cell? ⟨b,o+i,none⟩=some (c i)∧w.frozen? ⟨b,o+i,none⟩=false∧(c i).oneCell'=true:=by
  intro i hi
  have hlt:i / 2<xs.length:=by omega
  obtain ⟨e1,e2,-⟩:=hrow2 (i / 2) hlt
  have hm:=hmem i (by show i<(g.hd 0 0 []).cap*2; omega)
  have hci:c i=if i % 2=0 then .int .i64 xs[i / 2].1 else (g.hd 0 0 [(i / 2,1)]).val:=by
   show (match xs[i / 2]? with | some x=>if i % 2=0 then Value.int .i64 x.1 else (g.hd 0 0 [(i / 2,1)]).val | none=>.int .i64 0)=_
   rw [List.getElem?_eq_getElem hlt]
  rw [hci]
  refine ⟨?_,hm.2.2,?_⟩
  ·by_cases hp:i % 2=0
   ·rw [if_pos hp,show o+i=o+i / 2*2 by omega]
    exact e1
   ·rw [if_neg hp,show o+i=o+i / 2*2+1 by omega]
    exact e2
  ·split
   ·rfl
   ·unfold Hd.val; rfl
 have hargs:args=[.slice (some ⟨b,o,none⟩) xs.length (g.hd 0 0 []).cap,.int .i64 k,.int .i64 ((k+1:Nat):Int)]:=by
  rw [hhd] at a0
  have hln:args.length=3:=hln
  match args,hln,a0,a1,a2 with
  | [x0,x1,x2],_,a0,a1,a2=>
   simp only [List.getElem?_cons_zero,List.getElem?_cons_succ,Option.some.injEq] at a0 a1 a2
   subst a0 a1 a2
   rfl
 subst hargs
 have hcl:xs.length≤(g.hd 0 0 []).cap:=by omega
 refine (K b o (g.hd 0 0 []).cap xs.length k c w hcl hk hcells).mono fun e w' he=>?_
 obtain ⟨rfl,D⟩:=he
 have hin:∀ b' o' p,g.lab b' o'=some p→p≠(0,[])→w'.cell? (ad b' o')=w.cell? (ad b' o'):=by
  intro b' o' p hl hp
  refine D.out b' o' fun ⟨e1,e2,e3⟩=>hp ?_
  subst e1
  have:=(hmem (o'-o) (by show o'-o<(g.hd 0 0 []).cap*2; omega)).1
  rw [show o+(o'-o)=o' by omega,hl] at this
  exact Option.some.inj this
 have hsz:w.heap.size≤w'.heap.size:=D.fr.size
 have hrt:∀ j,j<(g.hd 0 0 []).cap*2→(w'.cell? (ad b (o+j))).isSome=true:=by
  intro j hj
  by_cases hjn:j<xs.length*2
  ·exact D.tail j hjn
  ·rw [D.out b (o+j) (by omega)]; exact (hmem j hj).2.1
 refine ⟨[.slice (some ⟨b,o,none⟩) (xs.length-1) (g.hd 0 0 []).cap],delGh g k,fun s=>s<21,{ env:=[(0,.own 20480 0 [] tA)],heap:=[(20480,some (.row true tA 0 (xs.eraseIdx k)))],nxt:=21 },rfl,⟨fun id ob h=>?_,fun t v h=>?_,rfl,?_,fun id h=>?_,fun b' o' hl v hv=>?_,fun b' o' id p hl h19=>?_,fun b' o' q h=>?_,fun b' o' q hb h=>?_,?_,fun id h=>?_⟩⟩
 ·replace h:(match look [(20480,some (AObj.row true tA 0 (xs.eraseIdx k)))] id with | some (some o)=>some o | _=>none)=some ob:=h
  rw [look_cons] at h
  by_cases hid:20480=id
  case neg=>rw [if_neg hid] at h; simp [look] at h
  rw [if_pos hid] at h
  subst hid
  obtain rfl:=Option.some.inj h
  refine ⟨by show 20480 / 1024<21; decide,by show 0<21; decide,by show 0<21; decide,?_⟩
  have hl1:(xs.eraseIdx k).length=xs.length-1:=List.length_eraseIdx_of_lt hk
  have hd0:(delGh g k).hd 20480 0 []=⟨some (b,o),xs.length-1,(g.hd 0 0 []).cap⟩:=by
   show Hd.mk (g.hd 0 0 []).addr ((g.hd 0 0 []).len-1) (g.hd 0 0 []).cap=_
   rw [had,hlen]
  refine ⟨by rw [hd0,hl1],by rw [hd0]; show xs.length-1≤(g.hd 0 0 []).cap; omega,by rw [hd0]; simp,fun b' o' hb=>?_⟩
  rw [hd0] at hb ⊢
  simp only [Option.some.injEq,Prod.mk.injEq] at hb
  obtain ⟨rfl,rfl⟩:=hb
  refine ⟨fun j hj=>⟨?_,hrt j hj,by rw [D.frz]; exact (hmem j hj).2.2⟩,fun i hi=>?_⟩
  ·show delLab k (g.lab b (o+j))=_
   rw [(hmem j hj).1]; rfl
  ·have hi1:i<xs.length-1:=by rw [hl1] at hi; exact hi
   let i':=if i<k then i else i+1
   have hi':i'<xs.length:=by show (if i<k then i else i+1)<_; split<;>omega
   have hx:(xs.eraseIdx k)[i]=xs[i']:=by
    rw [List.getElem_eraseIdx]
    show _=xs[if i<k then i else i+1]
    split<;>simp_all
   rw [hx]
   obtain ⟨e1,e2,e3⟩:=hrow2 i' hi'
   have hcx:∀ d,d<2→w'.cell? (ad b (o+i*2+d))=w.cell? (ad b (o+i'*2+d)):=by
    intro d hd
    have h1:=D.cell (i*2+d) (by omega)
    rw [show o+i*2+d=o+(i*2+d) by omega,h1]
    show _=w.cell? (ad b (o+(if i<k then i else i+1)*2+d))
    by_cases hik:i<k
    ·rw [if_pos (by omega),if_pos hik,show o+i*2+d=o+(i*2+d) by omega]
     exact (hcells (i*2+d) (by omega)).1.symm
    ·rw [if_neg (by omega),if_neg hik,show o+(i+1)*2+d=o+(i*2+d+2) by omega]
     exact (hcells (i*2+d+2) (by omega)).1.symm
   refine ⟨?_,.inr ⟨?_,?_⟩⟩
   ·have:=hcx 0 (by omega)
    rw [Nat.add_zero,Nat.add_zero] at this
    show w'.cell? (ad b (o+i*2))=_
    rw [this]; exact e1
   ·show w'.cell? (ad b (o+i*2+1))=some (delHd g k [(i,1)]).val
    rw [hcx 1 (by omega)]
    exact e2
   ·obtain ⟨f1,f2,f3,f4⟩:=e3
    refine ⟨f1,f2,f3,fun b2 o2 hb2=>?_⟩
    obtain ⟨m1,m2⟩:=f4 b2 o2 hb2
    refine ⟨fun q hq=>?_,fun q hq=>?_⟩
    ·obtain ⟨l1,l2,l3⟩:=m1 q hq
     refine ⟨?_,?_,by rw [D.frz]; exact l3⟩
     ·show delLab k (g.lab b2 (o2+q))=some (20480,[(i,1)])
      rw [l1]
      show (if i'<k then some (20480,[(i',1)]) else if i'=k then some (0,[(i',1)]) else some (20480,[(i'-1,1)]))=_
      show (if (if i<k then i else i+1)<k then some (20480,[((if i<k then i else i+1),1)]) else if (if i<k then i else i+1)=k then some (0,[((if i<k then i else i+1),1)]) else some (20480,[((if i<k then i else i+1)-1,1)]))=_
      by_cases hik:i<k
      ·rw [if_pos hik,if_pos hik]
      ·rw [if_neg hik,if_neg (by omega),if_neg (by omega)]; rfl
     ·rw [hin _ _ _ l1 (by simp)]; exact l2
    ·show w'.cell? (ad b2 (o2+q*1))=_
     have hq1:q<xs[i'].2.length:=hq
     have hf1:(g.hd 0 0 [(i',1)]).len=xs[i'].2.length:=f1
     have hq2:q<(g.hd 0 0 [(i',1)]).cap*1:=by omega
     have hl2:g.lab b2 (o2+q*1)=some (0,[(i',1)]):=by rw [Nat.mul_one]; exact (m1 q hq2).1
     rw [hin _ _ _ hl2 (by simp)]
     exact m2 q hq
 ·replace h:look [(0,AVal.own 20480 0 [] tA)] t=some v:=h
  rw [look_cons] at h
  by_cases ht:0=t
  case neg=>rw [if_neg ht] at h; simp [look] at h
  rw [if_pos ht] at h
  subst ht
  obtain rfl:=Option.some.inj h
  refine ⟨by show 20480 / 1024<21; decide,by show 0<21; decide,by show 0<21; decide,trivial,fun _=>rfl,?_⟩
  show (actOf [_]).eval (.tmp 0)=(Hd.mk (g.hd 0 0 []).addr ((g.hd 0 0 []).len-1) (g.hd 0 0 []).cap).val
  rw [actOf_eval,had,hlen]
  rfl
 ·rfl
 ·show (if id=20480 then delHd g k [] else g.hd id 0 [])=_
  rw [if_neg (by omega)]
 ·have hm:∀ p,g.lab b' o'≠some (0,p):=fun p e=>by rw [hl] at e; simp at e
  refine ⟨?_,by show delLab k (g.lab b' o')=none; rw [hl]; rfl⟩
  rw [D.out b' o' (fun ⟨e1,e2,e3⟩=>?_)]; exact hv
  subst e1
  have:=(hmem (o'-o) (by show o'-o<(g.hd 0 0 []).cap*2; omega)).1
  rw [show o+(o'-o)=o' by omega,hl] at this
  simp at this
 ·show delLab k (g.lab b' o')=some (id,p)
  rw [hl,delLab_other (by omega)]
 ·obtain ⟨q',hq⟩:=delLab_some h
  have:=hlabs _ _ _ hq
  omega
 ·obtain ⟨q',hq⟩:=delLab_some h
  rw [hq]; simp
 ·refine D.fr.mono fun b' o' _ ⟨e1,e2,e3⟩=>?_
  subst e1
  have:=(hmem (o'-o) (by show o'-o<(g.hd 0 0 []).cap*2; omega)).1
  rw [show o+(o'-o)=o' by omega] at this
  exact ⟨_,_,this,by decide⟩
 ·intro h19
  refine h ?_
  show (match look [(20480,some (AObj.row true tA 0 (xs.eraseIdx k)))] id with | some (some o)=>some o | _=>none)=none
  rw [look_cons,if_neg (by omega)]
  rfl
def delNews (c:Nat→Value) (n k:Nat):List Value:=(List.range ((n-(k+1))*2)).map fun t=>c ((k+1)*2+t)
theorem delNews_len (c:Nat→Value) (n k:Nat):(delNews c n k).length=(n-(k+1))*2:=by simp [delNews]
theorem delNews_get (c:Nat→Value) {n k t:Nat} (h:t<(n-(k+1))*2):(delNews c n k)[t]? = some (c ((k+1)*2+t)):=by
 rw [delNews,List.getElem?_map,List.getElem?_range h]; rfl
section
variable {b o n k:Nat} {c:Nat→Value} {w:World}
theorem del_w1 (hk:k<n) (hH:∀ i,i<n*2→w.cell? ⟨b,o+i,none⟩=some (c i)) {t:Nat} (ht:t<n*2) :
  (w.drew.setCells b (o+k*2) (delNews c n k)).cell? (ad b (o+t))=some (if k*2≤t∧t<(n-1)*2 then c (t+2) else c t):=by
 have hl:=delNews_len c n k
 by_cases h:k*2≤t∧t<(n-1)*2
 ·rw [if_pos h]
  have h1:=World.cell?_setCells_in b (delNews c n k) (o+k*2) w.drew (fun j hj=>by
   rw [hl] at hj
   show (w.cell? ⟨b,o+k*2+j,none⟩).isSome=true
   rw [Nat.add_assoc,hH (k*2+j) (by omega)]; rfl) (t-k*2) (by rw [hl]; omega)
  rw [show o+k*2+(t-k*2)=o+t by omega] at h1
  rw [show ad b (o+t)=⟨b,o+t,none⟩ from rfl,h1,← List.getElem?_eq_getElem,delNews_get c (by omega)]
  rw [show (k+1)*2+(t-k*2)=t+2 by omega]
 ·rw [if_neg h,World.cell?_setCells_out b _ _ w.drew _ (fun _ _=>by rw [hl]; show o+t<o+k*2∨o+k*2+(n-(k+1))*2≤o+t; omega)]
  exact hH t ht
theorem delW_of (hk:k<n) (hH:∀ i,i<n*2→w.cell? ⟨b,o+i,none⟩=some (c i)) :
  DelW b o n k c w ((w.drew.setCells b (o+k*2) (delNews c n k)).setCells b (o+(n-1)*2) [.int .i64 0,.slice none 0 0]):=by
 have hl:=delNews_len c n k
 have hs2:∀ j,j<2→((w.drew.setCells b (o+k*2) (delNews c n k)).cell? (ad b (o+(n-1)*2+j))).isSome=true:=by
  intro j hj
  rw [Nat.add_assoc,del_w1 hk hH (by omega)]; rfl
 refine ⟨fun i hi=>?_,fun i hi=>?_,fun b' o' h=>?_,fun a=>?_,?_⟩
 ·rw [World.cell?_setCells_out b _ _ _ _ (fun _ _=>.inl (by show o+i<o+(n-1)*2; omega)),del_w1 hk hH (by omega)]
  by_cases h:i<k*2
  ·rw [if_neg (by omega),if_pos h]
  ·rw [if_pos (by omega),if_neg h]
 ·by_cases h:i<(n-1)*2
  ·rw [World.cell?_setCells_out b _ _ _ _ (fun _ _=>.inl (by show o+i<o+(n-1)*2; omega)),del_w1 hk hH hi]; rfl
  ·have h1:=World.cell?_setCells_in b [.int .i64 0,.slice none 0 0] (o+(n-1)*2) _ hs2 (i-(n-1)*2) (by show _<2; omega)
   rw [show o+(n-1)*2+(i-(n-1)*2)=o+i by omega] at h1
   rw [show ad b (o+i)=⟨b,o+i,none⟩ from rfl,h1]; rfl
 ·have e1:∀ (vs:List Value) (o1:Nat) (w1:World),(∀ j,j<vs.length→o≤o1+j∧o1+j<o+n*2)→(w1.setCells b o1 vs).cell? (ad b' o')=w1.cell? (ad b' o'):=by
   intro vs o1 w1 hv
   refine World.cell?_setCells_out b vs o1 w1 _ (fun e _=>?_)
   have e:b'=b:=e
   show o'<o1∨o1+vs.length≤o'
   rcases Nat.lt_or_ge o' o1 with h1 | h1
   ·exact .inl h1
   ·rcases Nat.lt_or_ge o' (o1+vs.length) with h2 | h2
    ·have:=hv (o'-o1) (by omega)
     exact absurd ⟨e,by omega,by omega⟩ h
    ·exact .inr h2
  rw [e1 _ _ _ (fun j hj=>by have hj:j<2:=hj; omega),e1 _ _ _ (fun j hj=>by rw [hl] at hj; omega)]
  rfl
 ·rw [World.frozen?_setCells,World.frozen?_setCells]; rfl
 ·have f0:=fr_drew (fun b' o'=>b'=b∧o≤o'∧o'<o+n*2) w
  refine (f0.trans (Fr_setCells b _ _ _ (fun j hj=>?_))).trans (Fr_setCells b _ _ _ (fun j hj=>?_))
  ·rw [hl] at hj; exact ⟨rfl,by omega,by omega⟩
  ·have hj:j<2:=hj
   exact ⟨rfl,by omega,by omega⟩
end
end Go.Am
