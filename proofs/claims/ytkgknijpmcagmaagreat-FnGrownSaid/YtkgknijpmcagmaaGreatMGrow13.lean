/- The links of a network whose one end is outside, and templates, in plain Lean: both programs tell the same. -/
import Derived.Test.YtkgknijpmcagmaaGreatMGrow12
import Derived.Test.YtkgknijpmcagmaaGreatMGrow11
namespace Go.AmT
open Go Go.Am
set_option linter.unusedVariables false
set_option linter.unusedSimpArgs false
abbrev toI (l:List Nat):List Int:=l.map fun (i:Nat)=>(i:Int)
def ixs (p:Link→Bool) (ls:List Link):List Nat:=(List.range ls.length).filter fun i=>p (ls.getD i zLink)
def lks (p:Link→Bool) (ls:List Link):List Link:=(ixs p ls).map fun i=>ls.getD i zLink
def inOut (b:Bool) (l:Link):Bool:=if b=true then decide (l.1 = -1) else decide (l.2.2.1 = -1)
theorem ixs_len {p:Link→Bool} {ls:List Link} : (ixs p ls).length≤ls.length:=Nat.le_trans (List.length_filter_le _ _) (by simp)
theorem lks_len {p:Link→Bool} {ls:List Link} : (lks p ls).length=(ixs p ls).length:=by simp [lks]
theorem ixs_lt {p:Link→Bool} {ls:List Link} {i:Nat} (h:i∈ixs p ls):i<ls.length:=by
 have:=(List.mem_filter.1 h).1
 simpa using this
theorem sL8Outside_spec {n:Nat} {nt:Network} {b:Bool} (hl:nt.2.length≤1048576) (hn:1048576<n):sL8Outside.f n nt b=some (lks (inOut b) nt.2,()):=by
 unfold sL8Outside.f
 refine pushif_loop nt.2.length (fun i=>inOut b (nt.2.getD i zLink)) (fun i=>nt.2.getD i zLink) (fun i s=>(i,(s,()))) (R:=fun s=>some (s,())) (fun ih i hi s hs=>?_) (fun ih s=>br_no (Int.lt_irrefl _)) (by omega)
 have c0:0≤(i:Int):=by omega
 have c1:(i:Int)<(nt.2.length:Int):=by omega
 simp only [c1,c0,and_self,chk_T,decide_true,br_true,Int.toNat_natCast]
 rw [w64_succ (by omega),small_chk (by simp; omega)]
 cases b
 ·simp only [br_false,Bool.not_false,br_true,cut_inr,inOut,Bool.false_eq_true,if_false]
  cases decide ((nt.2.getD i zLink).2.2.1 = -1)<;>rfl
 ·simp only [br_true,Bool.not_true,br_false,inOut,if_true]
  cases decide ((nt.2.getD i zLink).1 = -1)<;>rfl
theorem whereI_spec {n:Nat} {nt:Network} (hl:nt.2.length≤1048576) (hn:1048576<n):whereI.f n nt ()=some (toI (ixs (inOut true) nt.2),()):=by
 unfold whereI.f insC.f
 refine pushif_loop nt.2.length (fun i=>inOut true (nt.2.getD i zLink)) (fun i=>(i:Int)) (fun i s=>(i,(s,()))) (R:=fun s=>some (s,())) (fun ih i hi s hs=>?_) (fun ih s=>br_no (Int.lt_irrefl _)) (by omega)
 have c0:0≤(i:Int):=by omega
 have c1:(i:Int)<(nt.2.length:Int):=by omega
 simp only [c1,c0,and_self,chk_T,decide_true,br_true,Int.toNat_natCast,Option.bind_some]
 rw [w64_succ (by omega),small_chk (by simp; omega),br_ite]
 rfl
theorem whereO_spec {n:Nat} {nt:Network} (hl:nt.2.length≤1048576) (hn:1048576<n):whereO.f n nt ()=some (toI (ixs (inOut false) nt.2),()):=by
 unfold whereO.f outsC.f
 refine pushif_loop nt.2.length (fun i=>inOut false (nt.2.getD i zLink)) (fun i=>(i:Int)) (fun i s=>(i,(s,()))) (R:=fun s=>some (s,())) (fun ih i hi s hs=>?_) (fun ih s=>br_no (Int.lt_irrefl _)) (by omega)
 have c0:0≤(i:Int):=by omega
 have c1:(i:Int)<(nt.2.length:Int):=by omega
 simp only [c1,c0,and_self,chk_T,decide_true,br_true,Int.toNat_natCast,Option.bind_some]
 rw [w64_succ (by omega),small_chk (by simp; omega),br_ite]
 rfl
theorem insOf_spec {n:Nat} {nt:Network} (h:SmallN nt) (o:okN nt=true) (hn:1048576<n):insOf.f n nt=some (toI (ixs (inOut true) nt.2),()):=by
 unfold insOf.f
 rw [iIsNetwork_spec h hn,whereI_spec h.links hn,o]; rfl
theorem outsOf_spec {n:Nat} {nt:Network} (h:SmallN nt) (o:okN nt=true) (hn:1048576<n):outsOf.f n nt=some (toI (ixs (inOut false) nt.2),()):=by
 unfold outsOf.f
 rw [iIsNetwork_spec h hn,whereO_spec h.links hn,o]; rfl
theorem concatIG_spec {n:Nat} {a:Int} (h0:0≤a) (h1:a≤4194304):concatIG.f n a=some ([],()):=by
 have hm:=maxB_eq
 unfold concatIG.f
 rw [br_no (by omega),w64_id (by omega) (by omega)]
 by_cases h:0<a-0
 ·rw [br_yes h,chk_true (by omega),chk_true (by omega),chk_true (by simp; omega)]
 ·rw [br_no h]
theorem flat_take {α:Type} (ls:List (List α)) (i:Nat):(ls.take i).flatten.length≤ls.flatten.length:=by
 conv=>rhs; rw [← List.take_append_drop i ls]
 rw [List.flatten_append,List.length_append]; omega
theorem concatI_all {n:Nat} {ls:List (List Int)} (hl:ls.length≤1048576) (ht:ls.flatten.length≤4194304) (hn:1048576<n):concatI.f n ls=some (ls.flatten,()):=by
 unfold concatI.f
 have hst:((0:Int),((0:Int),()))=(fun (i:Nat)=>(((ls.take i).flatten.length:Int),((i:Int),()))) 0:=by simp
 rw [hst]
 refine iter_line (fun i=>(((ls.take i).flatten.length:Int),((i:Int),()))) ls.length (fun ih i hi=>?_) (fun ih=>?_) (by omega)
 ·have c0:0≤(i:Int):=by omega
  have c1:(i:Int)<(ls.length:Int):=by omega
  have e1:ls.getD i []=ls[i]:=getD_lt hi _
  have h1:=flat_take ls (i+1)
  have e2:(ls.take (i+1)).flatten=(ls.take i).flatten++ls[i]:=by rw [List.take_succ_eq_append_getElem hi,List.flatten_append]; simp
  rw [e2,List.length_append] at h1
  show br (decide ((i:Int)<(ls.length:Int))) _ _=_
  rw [br_yes c1,chk_true ⟨c0,c1⟩]
  simp only [Int.toNat_natCast,e1]
  rw [w64_id (by omega) (by omega),br_no (by omega),w64_succ (by omega),e2,List.length_append,Int.natCast_add (List.take i ls).flatten.length]
 ·simp only [List.take_length]
  rw [br_no (Int.lt_irrefl _),concatIG_spec (by omega) (by omega)]
  simp only [Option.bind_some]
  refine Eq.trans (iter_line (fun i=>((i:Int),((ls.take i).flatten,()))) ls.length (R:=some (ls.flatten,())) (fun ih i hi=>?_) (fun ih=>?_) (by omega)) rfl
  ·have c0:0≤(i:Int):=by omega
   have c1:(i:Int)<(ls.length:Int):=by omega
   have e1:ls.getD i []=ls[i]:=getD_lt hi _
   have h1:=flat_take ls (i+1)
   have e2:(ls.take (i+1)).flatten=(ls.take i).flatten++ls[i]:=by rw [List.take_succ_eq_append_getElem hi,List.flatten_append]; simp
   rw [e2,List.length_append] at h1
   show br (decide ((i:Int)<(ls.length:Int))) _ _=_
   rw [br_yes c1,chk_true ⟨c0,c1⟩]
   simp only [Int.toNat_natCast,e1]
   rw [small_chk (by omega),w64_succ (by omega),e2]
  ·simp only [List.take_length]
   exact br_no (Int.lt_irrefl _)
theorem concatI_spec {n:Nat} {a b:List Int} (ha:a.length≤1048576) (hb:b.length≤1048576) (hn:1048576<n):concatI.f n [a,b]=some (a++b,()):=by
 rw [concatI_all (by simp) (by simp; omega) hn]; simp
def hasT (l:Link):Bool:=decide (0<(l.2.2.2.2.length:Int))
theorem containsT_spec {n:Nat} {m:Network} {is:List Nat} (hi:∀ i∈is,i<m.2.length) (hl:is.length≤1048576) (hn:1048576<n):containsFuncT.f n (toI is) (m,())=some (is.any (fun i=>hasT (m.2.getD i zLink)),()):=by
 unfold containsFuncT.f indexFuncT.f tmplC.f
 have key:W (iter (α:=(Int×Unit)) n (fun ih7 x6=>br (decide (x6.1<((toI is).length:Int))) (chk (0≤x6.1∧x6.1<((toI is).length:Int)) ((chk (0≤(toI is).getD x6.1.toNat 0∧(toI is).getD x6.1.toNat 0<(m.2.length:Int)) (let v1:=(m.2.getD ((toI is).getD x6.1.toNat 0).toNat zLink); some ((decide (0<(v1.2.2.2.2.length:Int))),()))).bind fun r8=>br r8.1 (some (x6.1,())) (ih7 ((w64 (x6.1+1)),())))) (some ((-1),()))) (0,())) (fun r=>decide (0≤r.1)=is.any (fun i=>hasT (m.2.getD i zLink))):=by
  refine any_loop is.length (fun j=>hasT (m.2.getD (is.getD j 0) zLink)) (yes:=fun j=>some ((j:Int),())) (no:=some (-1,())) (fun ih j hj=>?_) (fun ih=>?_) (by omega) (fun j hj h=>?_) (fun h=>?_)
  ·have e:(toI is).getD j 0=(is[j]:Int):=by simp [hj]
   have e2:is.getD j 0=is[j]:=getD_lt hj _
   have:=hi _ (List.getElem_mem hj)
   simp only [List.length_map,Int.toNat_natCast,e]
   rw [br_yes (by omega),chk_true (by omega),chk_true (by omega),w64_succ (by omega),Option.bind_some,br_ite,e2]
   rfl
  ·simp only [List.length_map]; exact br_no (Int.lt_irrefl _)
  ·rw [W_some]
   have:is.any (fun i=>hasT (m.2.getD i zLink))=true:=List.any_eq_true.2 ⟨is[j],List.getElem_mem hj,by rw [getD_lt hj] at h; exact h⟩
   rw [this]; simp
  ·rw [W_some]
   have:is.any (fun i=>hasT (m.2.getD i zLink))=false:=by
    rw [List.any_eq_false]
    intro x hx
    obtain ⟨j,hj,rfl⟩:=List.mem_iff_getElem.1 hx
    have:=h j hj
    rw [getD_lt hj] at this
    rw [this]; simp
   rw [this]; simp
 refine W_eq.1 (W_bind.2 (W_and key (fun r hr=>?_)))
 rw [W_some,hr]
noncomputable def tmpl (nt:Network) (k:Int) (m:Network):Bool:=
 okN nt&&(okN m&&(decide (0≤k)&&(decide (k<(nt.1.length:Int))&&(decide (((ixs (inOut true) m.2).length:Int)=(nt.1.getD k.toNat zProgram).1)&&(decide (((ixs (inOut false) m.2).length:Int)=(nt.1.getD k.toNat zProgram).2.1)&&
  !((ixs (inOut true) m.2++ixs (inOut false) m.2).any (fun i=>hasT (m.2.getD i zLink))))))))
theorem iIsTemplate_spec {n:Nat} {nt m:Network} {k:Int} (h:SmallN nt) (h':SmallN m) (hn:1048576<n):iIsTemplate.f n nt k m=some (tmpl nt k m,()):=by
 have hl:=h'.links
 have i1:=ixs_len (p:=inOut true) (ls:=m.2)
 have i2:=ixs_len (p:=inOut false) (ls:=m.2)
 unfold iIsTemplate.f tmpl
 rw [iIsNetwork_spec h hn,iIsNetwork_spec h' hn]
 simp only [Option.bind_some]
 cases o1:okN nt
 ·rfl
 ·cases o2:okN m
  ·by_cases a:k<0<;>by_cases b:(nt.1.length:Int)≤k<;>simp [a,b,br,cut]
  ·by_cases a:k<0
   ·simp [a,br,cut,show ¬ 0≤k by omega]
   ·by_cases b:(nt.1.length:Int)≤k
    ·simp [a,b,br,cut,show ¬ k<(nt.1.length:Int) by omega]
    ·rw [insOf_spec h' o2 hn,outsOf_spec h' o2 hn]
     simp only [Bool.not_true,br_false,a,b,decide_false,cut_inr,Option.bind_some,List.length_map]
     rw [chk_true (by omega)]
     have c1:decide (0≤k)=true:=decide_eq_true (by omega)
     have c2:decide (k<(nt.1.length:Int))=true:=decide_eq_true (by omega)
     rw [c1,c2,concatI_spec (by simp; omega) (by simp; omega) hn,← List.map_append]
     simp only [Option.bind_some]
     rw [containsT_spec (fun i hi=>by rcases List.mem_append.1 hi with hi | hi<;>exact ixs_lt hi) (by
      have h1:=ixs_len (p:=inOut true) (ls:=m.2); have h2:=ixs_len (p:=inOut false) (ls:=m.2); have o:=(of_decide_eq_true o2:OkN m).links
      rw [List.length_append]; omega) hn]
     simp only [Option.bind_some,Bool.true_and]
     cases decide (((ixs (inOut true) m.2).length:Int)=(nt.1.getD k.toNat zProgram).1)
     ·rfl
     ·simp only [Bool.not_true,br_false]
      rw [chk_true (by omega)]
      cases decide (((ixs (inOut false) m.2).length:Int)=(nt.1.getD k.toNat zProgram).2.1)<;>rfl
theorem lks_any {p:Link→Bool} {ls:List Link} : (lks p ls).any hasT=(ixs p ls).any (fun i=>hasT (ls.getD i zLink)):=by
 unfold lks; rw [List.any_map]; rfl
theorem sIsTemplate_spec {n:Nat} {nt m:Network} {k:Int} (h:SmallN nt) (h':SmallN m) (hn:1048576<n):sIsTemplate.f n nt k m=some (tmpl nt k m,()):=by
 have hl:=h'.links
 have i1:=ixs_len (p:=inOut true) (ls:=m.2)
 have i2:=ixs_len (p:=inOut false) (ls:=m.2)
 unfold sIsTemplate.f tmpl sL3Has.f
 rw [sIsNetwork_spec h hn,sIsNetwork_spec h' hn]
 simp only [Option.bind_some]
 cases o1:okN nt
 ·rfl
 ·cases o2:okN m
  ·rfl
  ·have hk:=(of_decide_eq_true o2:OkN m).links
   by_cases a:0≤k
   ·by_cases b:k<(nt.1.length:Int)
    ·rw [sL8Outside_spec h'.links hn,sL8Outside_spec h'.links hn]
     simp only [Bool.not_true,br_false,a,b,decide_true,br_true,cut_inr,Option.bind_some,Bool.true_and,and_self,chk_T]
     rw [small_chk (by rw [lks_len]; omega),small_chk (by rw [lks_len,lks_len]; omega),List.any_append,← lks_any,← lks_any,← List.any_append]
     have hlen:(lks (inOut true) m.2++lks (inOut false) m.2).length≤60:=by rw [List.length_append,lks_len,lks_len]; omega
     generalize hL:lks (inOut true) m.2++lks (inOut false) m.2=L at hlen
     refine W_eq.1 (any_loop L.length (fun j=>hasT (L.getD j zLink)) (yes:=fun _=>some (false,())) (fun ih j hj=>?_) (fun ih=>br_no (Int.lt_irrefl _)) (by omega) (fun j hj h=>?_) (fun h=>?_))
     ·have c0:0≤(j:Int):=by omega
      have c1:(j:Int)<(L.length:Int):=by omega
      simp only [c1,c0,and_self,chk_T,decide_true,br_true,Int.toNat_natCast]
      rw [w64_succ (by omega),br_ite]; rfl
     ·rw [W_some]
      have:L.any hasT=true:=List.any_eq_true.2 ⟨L[j],List.getElem_mem hj,by rw [getD_lt hj] at h; exact h⟩
      rw [this]; simp
     ·have:L.any hasT=false:=by
       rw [List.any_eq_false]
       intro x hx
       obtain ⟨j,hj,rfl⟩:=List.mem_iff_getElem.1 hx
       have:=h j hj
       rw [getD_lt hj] at this
       rw [this]; simp
      rw [this,lks_len,lks_len]
      cases decide (((ixs (inOut true) m.2).length:Int)=(nt.1.getD k.toNat zProgram).1)
      ·exact W_some.2 rfl
      ·rw [br_true,W_some]; simp
    ·simp [a,b,br,cut]
   ·simp [a,br,cut]
end Go.AmT
namespace Go.AmT
open Go Go.Am Go.Proofs
set_option linter.unusedVariables false
set_option maxRecDepth 100000
def tys22:List (Nat×TInfo):=[(3,⟨false,1,8,[.int .i64 0],.int .i64,0,some I,[],false⟩),
 (37,⟨false,1,24,[.nil],.slice,53,some (.sl tProgram),[],false⟩),
 (38,⟨false,1,24,[.nil],.slice,81,some (.sl tLink),[],false⟩),
 (40,⟨true,2,48,[.nil,.nil],.struct,0,some tNetwork,[(0,37),(1,38)],false⟩),
 (53,⟨true,3,40,[.int .i64 0,.int .i64 0,.nil],.struct,0,some tProgram,[(0,3),(1,3),(2,51)],false⟩),
 (75,⟨false,1,24,[.nil],.slice,3,some IS,[],false⟩),
 (81,⟨true,5,56,[.int .i64 0,.int .i64 0,.int .i64 0,.int .i64 0,.nil],.struct,0,some tLink,[(0,3),(1,3),(2,3),(3,3),(4,75)],false⟩),
 (167,⟨false,1,24,[.nil],.slice,37,some (.sl (.sl tProgram)),[],false⟩)]
theorem tys22_ok:(tys22.all fun p=>tokB Tryz.prog p.1 p.2)=true:=by kernel_rfl
def sL8Less.las:List (Nat×LA):=[]
noncomputable def sL8Less.f (n:Nat) (a0:Int) (a1:Int):Option (Int×Unit):=br (decide (a1<a0)) (some ((w64 (a0-1)),())) (some (a0,()))
noncomputable def sL8Less.mng (n:Nat):Mng:=⟨[.val I,.val I],[.val I],fun x=>sL8Less.f n x.1 x.2.1⟩
noncomputable def sL8Less.cfg (n:Nat):Cfg:=⟨tys22,[],[],[]⟩
theorem sL8Less.eq:∀ (n:Nat) (a0:Int) (a1:Int),runF (sL8Less.cfg n) n Tryz.f83 (annOf Tryz.f83 sL8Less.las) [.val I,.val I] [.val I] (a0,(a1,()))=sL8Less.f n a0 a1:=by
 intros
 kernel_rfl
theorem sL8Less.gof:GoF Tryz.prog 83:=⟨_,Tryz.func83,by kernel_rfl,by kernel_rfl⟩
theorem sL8Less.sound (n:Nat):Sound Tryz.prog 83 (sL8Less.mng n):=runF_sound (fn:=Tryz.f83) (m:=sL8Less.mng n) (c:=sL8Less.cfg n) (regOK mixed (opOK (.of (c:=sL8Less.cfg n) trivial) (.of (c:=sL8Less.cfg n) trivial)) (tysOK tys22_ok)) (tysOK tys22_ok) Tryz.func83 (fun x=>(sL8Less.eq n x.1 x.2.1).symm)
def sExpandNetwork.las:List (Nat×LA):=[(10,⟨[(11,.vptr 1000 0),(40,.int .i64)],[(1000,.cells [] [.own 1001 tProgram,.con (.nil)]),(1001,.row true tProgram)],[1,3,5,6,8,9,10,38,39],[]⟩),(21,⟨[(11,.vptr 1000 0),(59,.int .i64)],[(1000,.cells [] [.own 1001 tProgram,.con (.nil)]),(1001,.row true tProgram)],[1,3,5,6,8,9,10,57,58],[]⟩),(30,⟨[(11,.vptr 1000 0),(74,.int .i64)],[(1000,.cells [] [.own 1001 tProgram,.own 1002 tLink]),(1001,.row true tProgram),(1002,.row true tLink)],[1,5,6,8,9,10,72,73],[]⟩),(39,⟨[(18,.vptr 1000 0)],[(1000,.cells [] [.int .i64,.int .i64,.int .i64,.int .i64,.own 1001 I]),(1001,.row true I)],[1,5,6,8,9,10,11,17,72,73,74],[]⟩),(43,⟨[(18,.vptr 1000 0)],[(1000,.cells [] [.int .i64,.int .i64,.int .i64,.int .i64,.own 1001 I]),(1001,.row true I)],[1,5,6,8,9,10,11,72,73,74],[]⟩),(50,⟨[(11,.vptr 1000 0),(140,.int .i64)],[(1000,.cells [] [.own 1001 tProgram,.own 1002 tLink]),(1001,.row true tProgram),(1002,.row true tLink)],[6,8,138,139],[]⟩),(55,⟨[(151,.bool)],[],[6,8,11,20,138,139,140],[]⟩)]
noncomputable def sExpandNetwork.f (n:Nat) (a0:Network) (a1:Int) (a2:Network):Option (Network×(Bool×Unit)):=(sIsTemplate.f n a0 a1 a2).bind fun r1=>br (!r1.1) (some (([],[]),(false,()))) ((sL8Outside.f n a2 true).bind fun r2=>(sL8Outside.f n a2 false).bind fun r3=>iter (α:=(Int×(List Program)×Unit)) n (fun ih36 x35=>br (decide (x35.1<(a0.1.length:Int))) (chk (0≤x35.1∧x35.1<(a0.1.length:Int)) (let v37:=(a0.1.getD x35.1.toNat zProgram); br (!decide (x35.1=a1)) ((sL3Program.f n v37).bind fun r38=>chk ((x35.2.1.length+([r38.1]:List Program).length)*40≤maxB) (ih36 ((w64 (x35.1+1)),((x35.2.1++[r38.1]),())))) (ih36 ((w64 (x35.1+1)),(x35.2.1,()))))) (iter (α:=(Int×(List Program)×Unit)) n (fun ih58 x57=>br (decide (x57.1<(a2.1.length:Int))) (chk (0≤x57.1∧x57.1<(a2.1.length:Int)) (let v59:=(a2.1.getD x57.1.toNat zProgram); (sL3Program.f n v59).bind fun r60=>chk ((x57.2.1.length+([r60.1]:List Program).length)*40≤maxB) (ih58 ((w64 (x57.1+1)),((x57.2.1++[r60.1]),()))))) (iter (α:=(Int×(List Program)×(List Link)×Unit)) n (fun ih127 x126=>br (decide (x126.1<(a0.2.length:Int))) (chk (0≤x126.1∧x126.1<(a0.2.length:Int)) (let v128:=(a0.2.getD x126.1.toNat zLink); (sL3Link.f n v128).bind fun r129=>(sL8Less.f n v128.1 a1).bind fun r130=>(sL8Less.f n v128.2.2.1 a1).bind fun r131=>cut (α:=(Int×(Int×(Int×(Int×(List Int)×Unit))))) (br (decide (v128.1=a1)) (chk (0≤v128.2.1∧v128.2.1<(r3.1.length:Int)) (let v133:=(r3.1.getD v128.2.1.toNat zLink); chk (0≤v128.2.1∧v128.2.1<(r3.1.length:Int)) (let v134:=(r3.1.getD v128.2.1.toNat zLink); some (.inr ((w64 ((w64 ((a0.1.length:Int)-1))+v133.1)),(v134.2.1,(r131.1,(r129.1.2.2.2.1,(r129.1.2.2.2.2,()))))))))) (some (.inr (r130.1,(r129.1.2.1,(r131.1,(r129.1.2.2.2.1,(r129.1.2.2.2.2,())))))))) fun y132=>cut (α:=(Int×(Int×(Int×(Int×(List Int)×Unit))))) (br (decide (v128.2.2.1=a1)) (chk (0≤v128.2.2.2.1∧v128.2.2.2.1<(r2.1.length:Int)) (let v136:=(r2.1.getD v128.2.2.2.1.toNat zLink); chk (0≤v128.2.2.2.1∧v128.2.2.2.1<(r2.1.length:Int)) (let v137:=(r2.1.getD v128.2.2.2.1.toNat zLink); some (.inr (y132.1,(y132.2.1,((w64 ((w64 ((a0.1.length:Int)-1))+v136.2.2.1)),(v137.2.2.2.1,(y132.2.2.2.2.1,()))))))))) (some (.inr (y132.1,(y132.2.1,(y132.2.2.1,(y132.2.2.2.1,(y132.2.2.2.2.1,())))))))) fun y135=>chk ((x126.2.2.1.length+([(y135.1,(y135.2.1,(y135.2.2.1,(y135.2.2.2.1,y135.2.2.2.2.1))))]:List Link).length)*56≤maxB) (ih127 ((w64 (x126.1+1)),(x126.2.1,((x126.2.2.1++[(y135.1,(y135.2.1,(y135.2.2.1,(y135.2.2.2.1,y135.2.2.2.2.1))))]),())))))) (iter (α:=(Int×(List Program)×(List Link)×Unit)) n (fun ih153 x152=>br (decide (x152.1<(a2.2.length:Int))) (chk (0≤x152.1∧x152.1<(a2.2.length:Int)) (let v154:=(a2.2.getD x152.1.toNat zLink); cut (α:=(Bool×Unit)) (br (decide (0≤v154.1)) (some (.inr ((decide (0≤v154.2.2.1)),()))) (some (.inr (false,())))) fun y155=>br y155.1 ((sL3Link.f n v154).bind fun r156=>chk ((x152.2.2.1.length+([((w64 ((w64 ((a0.1.length:Int)-1))+v154.1)),(r156.1.2.1,((w64 ((w64 ((a0.1.length:Int)-1))+v154.2.2.1)),r156.1.2.2.2)))]:List Link).length)*56≤maxB) (ih153 ((w64 (x152.1+1)),(x152.2.1,((x152.2.2.1++[((w64 ((w64 ((a0.1.length:Int)-1))+v154.1)),(r156.1.2.1,((w64 ((w64 ((a0.1.length:Int)-1))+v154.2.2.1)),r156.1.2.2.2)))]),()))))) (ih153 ((w64 (x152.1+1)),(x152.2.1,(x152.2.2.1,())))))) ((sIsNetwork.f n (x152.2.1,x152.2.2.1)).bind fun r157=>br (!r157.1) (some (([],[]),(false,()))) (some ((x152.2.1,x152.2.2.1),(true,()))))) (0,(x126.2.1,(x126.2.2.1,()))))) (0,(x57.2.1,([],()))))) (0,(x35.2.1,())))) (0,([],())))
noncomputable def sExpandNetwork.mng (n:Nat):Mng:=⟨[.val tNetwork,.val I,.val tNetwork],[.val tNetwork,.val .bool],fun x=>sExpandNetwork.f n x.1 x.2.1 x.2.2.1⟩
noncomputable def sExpandNetwork.cfg (n:Nat):Cfg:=⟨tys22,[(79,sIsTemplate.mng n),(80,sL8Outside.mng n),(81,sL3Program.mng n),(82,sL3Link.mng n),(83,sL8Less.mng n),(84,sIsNetwork.mng n)],[],[]⟩
theorem sExpandNetwork.eq:∀ (n:Nat) (a0:Network) (a1:Int) (a2:Network),runF (sExpandNetwork.cfg n) n Tryz.f24 (annOf Tryz.f24 sExpandNetwork.las) [.val tNetwork,.val I,.val tNetwork] [.val tNetwork,.val .bool] (a0,(a1,(a2,())))=sExpandNetwork.f n a0 a1 a2:=by
 intros
 kernel_rfl
theorem sExpandNetwork.gof:GoF Tryz.prog 24:=⟨_,Tryz.func24,by kernel_rfl,by kernel_rfl⟩
theorem sExpandNetwork.sound (n:Nat):Sound Tryz.prog 24 (sExpandNetwork.mng n):=runF_sound (fn:=Tryz.f24) (m:=sExpandNetwork.mng n) (c:=sExpandNetwork.cfg n) (regOK mixed (opOK (.of (c:=sExpandNetwork.cfg n) ⟨⟨sIsTemplate.sound n,sIsTemplate.gof⟩,⟨⟨sL8Outside.sound n,sL8Outside.gof⟩,⟨⟨sL3Program.sound n,sL3Program.gof⟩,⟨⟨sL3Link.sound n,sL3Link.gof⟩,⟨⟨sL8Less.sound n,sL8Less.gof⟩,⟨⟨sIsNetwork.sound n,sIsNetwork.gof⟩,trivial⟩⟩⟩⟩⟩⟩) (.of (c:=sExpandNetwork.cfg n) trivial)) (tysOK tys22_ok)) (tysOK tys22_ok) Tryz.func24 (fun x=>(sExpandNetwork.eq n x.1 x.2.1 x.2.2.1).symm)
def concatPG.las:List (Nat×LA):=[]
def concatPG.la:LA:=⟨[(0,.con (.nil)),(1,.int .i64)],[],[],[]⟩
def concatPG.lb:LA:=⟨[(0,.own 1000 tProgram)],[(1000,.row false tProgram)],[],[]⟩
noncomputable def concatPG.f (n:Nat) (a0:Int):Option ((List Program)×Unit):=br (decide (a0<0)) (none) (br (decide (0<(w64 (a0-0)))) (chk ((0:Int)≤0∧(0:Int)≤0∧0≤0) (chk (0<(w64 (a0-0))∧(w64 (a0-0))*(40:Int)≤(maxB:Int)) (chk ((0:Int)≤0∧(0:Int)≤0∧0≤((List.replicate (w64 (a0-0)).toNat ((0,(0,[])):Program)).length:Int)) (some ([],()))))) (some ([],())))
noncomputable def concatPG.mng (n:Nat):LMng:=⟨concatPG.la,concatPG.lb,fun x=>concatPG.f n x.1⟩
noncomputable def concatPG.cfg (n:Nat):Cfg:=⟨tys22,[],[],[41]⟩
theorem concatPG.eq:∀ (n:Nat) (a0:Int) (mp:Mp),LMng.run (concatPG.cfg n) n Tryz.f138 (annOf Tryz.f138 concatPG.las) concatPG.la concatPG.lb (a0,mp)=concatPG.f n a0:=by
 intros
 kernel_rfl
theorem concatPG.gof:GoF Tryz.prog 138:=⟨_,Tryz.func138,by kernel_rfl,by kernel_rfl⟩
theorem concatPG.sound (n:Nat):LSound Tryz.prog 138 (concatPG.mng n):=runL_sound (fn:=Tryz.f138) (M:=concatPG.mng n) (c:=concatPG.cfg n) (regOK mixed (opOK (.of (c:=concatPG.cfg n) trivial) (.of (c:=concatPG.cfg n) trivial)) (tysOK tys22_ok)) (tysOK tys22_ok) Tryz.func138 (fun x=>(concatPG.eq n x.1 x.2).symm)
def concatP.las:List (Nat×LA):=[(4,⟨[(3,.int .i64),(11,.int .i64)],[],[0,9,10],[0]⟩),(17,⟨[(6,.own 1000 tProgram),(27,.int .i64)],[(1000,.row false tProgram)],[25,26],[0]⟩)]
def concatP.la:LA:=⟨[(0,.own 0 (.sl tProgram))],[(0,.row false (.sl tProgram))],[],[]⟩
def concatP.lb:LA:=⟨[(0,.own 1000 tProgram)],[(1000,.row false tProgram)],[],[]⟩
noncomputable def concatP.f (n:Nat) (a0:List (List Program)):Option ((List Program)×Unit):=iter (α:=(Int×(Int×Unit))) n (fun ih8 x7=>br (decide (x7.2.1<(a0.length:Int))) (chk (0≤x7.2.1∧x7.2.1<(a0.length:Int)) (br (decide ((w64 (x7.1+((a0.getD x7.2.1.toNat []).length:Int)))<0)) (none) (ih8 ((w64 (x7.1+((a0.getD x7.2.1.toNat []).length:Int))),((w64 (x7.2.1+1)),()))))) ((concatPG.f n x7.1).bind fun r9=>iter (α:=(Int×(List Program)×Unit)) n (fun ih15 x14=>br (decide (x14.1<(a0.length:Int))) (chk (0≤x14.1∧x14.1<(a0.length:Int)) (chk ((x14.2.1.length+(a0.getD x14.1.toNat []).length)*40≤maxB) (ih15 ((w64 (x14.1+1)),((x14.2.1++(a0.getD x14.1.toNat [])),()))))) (some (x14.2.1,()))) (0,(r9.1,())))) (0,(0,()))
noncomputable def concatP.mng (n:Nat):LMng:=⟨concatP.la,concatP.lb,fun x=>concatP.f n x.1⟩
noncomputable def concatP.cfg (n:Nat):Cfg:=⟨tys22,[],[(138,concatPG.mng n)],[]⟩
theorem concatP.eq:∀ (n:Nat) (a0:List (List Program)) (mp:Mp),LMng.run (concatP.cfg n) n Tryz.f77 (annOf Tryz.f77 concatP.las) concatP.la concatP.lb (a0,mp)=concatP.f n a0:=by
 intros
 kernel_rfl
theorem concatP.gof:GoF Tryz.prog 77:=⟨_,Tryz.func77,by kernel_rfl,by kernel_rfl⟩
theorem concatP.sound (n:Nat):LSound Tryz.prog 77 (concatP.mng n):=runL_sound (fn:=Tryz.f77) (M:=concatP.mng n) (c:=concatP.cfg n) (regOK mixed (opOK (.of (c:=concatP.cfg n) trivial) (.of (c:=concatP.cfg n) ⟨⟨concatPG.sound n,concatPG.gof⟩,trivial⟩)) (tysOK tys22_ok)) (tysOK tys22_ok) Tryz.func77 (fun x=>(concatP.eq n x.1 x.2).symm)
def iBehind.las:List (Nat×LA):=[]
noncomputable def iBehind.f (n:Nat) (a0:Int) (a1:Int):Option (Int×Unit):=br (decide (a1<a0)) (some ((w64 (a0-1)),())) (some (a0,()))
noncomputable def iBehind.mng (n:Nat):Mng:=⟨[.val I,.val I],[.val I],fun x=>iBehind.f n x.1 x.2.1⟩
noncomputable def iBehind.cfg (n:Nat):Cfg:=⟨tys22,[],[],[]⟩
theorem iBehind.eq:∀ (n:Nat) (a0:Int) (a1:Int),runF (iBehind.cfg n) n Tryz.f78 (annOf Tryz.f78 iBehind.las) [.val I,.val I] [.val I] (a0,(a1,()))=iBehind.f n a0 a1:=by
 intros
 kernel_rfl
theorem iBehind.gof:GoF Tryz.prog 78:=⟨_,Tryz.func78,by kernel_rfl,by kernel_rfl⟩
theorem iBehind.sound (n:Nat):Sound Tryz.prog 78 (iBehind.mng n):=runF_sound (fn:=Tryz.f78) (m:=iBehind.mng n) (c:=iBehind.cfg n) (regOK mixed (opOK (.of (c:=iBehind.cfg n) trivial) (.of (c:=iBehind.cfg n) trivial)) (tysOK tys22_ok)) (tysOK tys22_ok) Tryz.func78 (fun x=>(iBehind.eq n x.1 x.2.1).symm)
def iExp.las:List (Nat×LA):=[(9,⟨[(11,.vptr 1000 0),(51,.int .i64)],[(1000,.cells [] [.own 1001 tProgram,.own 1002 tLink]),(1001,.row false tProgram),(1002,.row false tLink)],[1,5,6,8,9,10,49,50],[]⟩),(17,⟨[(13,.vptr 1000 0)],[(1000,.cells [] [.int .i64,.int .i64,.int .i64,.int .i64,.sh I])],[1,5,6,8,9,10,11,15,49,50,51],[]⟩),(21,⟨[(13,.vptr 1000 0)],[(1000,.cells [] [.int .i64,.int .i64,.int .i64,.int .i64,.sh I])],[1,5,6,8,9,10,11,49,50,51],[]⟩),(28,⟨[(11,.vptr 1000 0),(117,.int .i64)],[(1000,.cells [] [.own 1001 tProgram,.own 1002 tLink]),(1001,.row false tProgram),(1002,.row false tLink)],[6,8,115,116],[]⟩),(33,⟨[(128,.bool)],[],[6,8,11,19,115,116,117],[]⟩)]
noncomputable def iExp.f (n:Nat) (a0:Network) (a1:Int) (a2:Network):Option (Network×(Bool×Unit)):=(iIsTemplate.f n a0 a1 a2).bind fun r1=>br (!r1.1) (some (([],[]),(false,()))) ((insOf.f n a2).bind fun r2=>(outsOf.f n a2).bind fun r3=>chk ((0:Int)≤0∧(0:Int)≤a1∧a1≤(a0.1.length:Int)) (chk (0≤(w64 (a1+1))∧(w64 (a1+1))≤(a0.1.length:Int)∧(a0.1.length:Int)≤(a0.1.length:Int)) ((concatP.f n ([((a0.1.take a1.toNat).drop 0),((a0.1.take (a0.1.length:Int).toNat).drop (w64 (a1+1)).toNat),a2.1]:List (List Program))).bind fun r4=>iter (α:=(Int×(List Program)×(List Link)×Unit)) n (fun ih68 x67=>br (decide (x67.1<(a0.2.length:Int))) (chk (0≤x67.1∧x67.1<(a0.2.length:Int)) (let v69:=(a0.2.getD x67.1.toNat zLink); (iBehind.f n v69.1 a1).bind fun r70=>(iBehind.f n v69.2.2.1 a1).bind fun r71=>cut (α:=(Int×(Int×(Int×(Int×(List Int)×Unit))))) (br (decide (v69.1=a1)) (chk (0≤v69.2.1∧v69.2.1<(r3.1.length:Int)) (let v73:=(r3.1.getD v69.2.1.toNat 0); chk (0≤v73∧v73<(a2.2.length:Int)) (let v74:=(a2.2.getD v73.toNat zLink); some (.inr ((w64 ((w64 ((a0.1.length:Int)-1))+v74.1)),(v74.2.1,(r71.1,(v69.2.2.2.1,(v69.2.2.2.2,()))))))))) (some (.inr (r70.1,(v69.2.1,(r71.1,(v69.2.2.2.1,(v69.2.2.2.2,())))))))) fun y72=>cut (α:=(Int×(Int×(Int×(Int×(List Int)×Unit))))) (br (decide (v69.2.2.1=a1)) (chk (0≤y72.2.2.2.1∧y72.2.2.2.1<(r2.1.length:Int)) (let v76:=(r2.1.getD y72.2.2.2.1.toNat 0); chk (0≤v76∧v76<(a2.2.length:Int)) (let v77:=(a2.2.getD v76.toNat zLink); some (.inr (y72.1,(y72.2.1,((w64 ((w64 ((a0.1.length:Int)-1))+v77.2.2.1)),(v77.2.2.2.1,(y72.2.2.2.2.1,()))))))))) (some (.inr (y72.1,(y72.2.1,(y72.2.2.1,(y72.2.2.2.1,(y72.2.2.2.2.1,())))))))) fun y75=>chk ((x67.2.2.1.length+([(y75.1,(y75.2.1,(y75.2.2.1,(y75.2.2.2.1,y75.2.2.2.2.1))))]:List Link).length)*56≤maxB) (ih68 ((w64 (x67.1+1)),(x67.2.1,((x67.2.2.1++[(y75.1,(y75.2.1,(y75.2.2.1,(y75.2.2.2.1,y75.2.2.2.2.1))))]),())))))) (iter (α:=(Int×(List Program)×(List Link)×Unit)) n (fun ih91 x90=>br (decide (x90.1<(a2.2.length:Int))) (chk (0≤x90.1∧x90.1<(a2.2.length:Int)) (let v92:=(a2.2.getD x90.1.toNat zLink); cut (α:=(Bool×Unit)) (br (decide (0≤v92.1)) (some (.inr ((decide (0≤v92.2.2.1)),()))) (some (.inr (false,())))) fun y93=>br y93.1 (chk ((x90.2.2.1.length+([((w64 ((w64 ((a0.1.length:Int)-1))+v92.1)),(v92.2.1,((w64 ((w64 ((a0.1.length:Int)-1))+v92.2.2.1)),v92.2.2.2)))]:List Link).length)*56≤maxB) (ih91 ((w64 (x90.1+1)),(x90.2.1,((x90.2.2.1++[((w64 ((w64 ((a0.1.length:Int)-1))+v92.1)),(v92.2.1,((w64 ((w64 ((a0.1.length:Int)-1))+v92.2.2.1)),v92.2.2.2)))]),()))))) (ih91 ((w64 (x90.1+1)),(x90.2.1,(x90.2.2.1,())))))) ((iChecked.f n (x90.2.1,x90.2.2.1)).bind fun r94=>some (r94.1,(r94.2.1,())))) (0,(x67.2.1,(x67.2.2.1,()))))) (0,(r4.1,([],()))))))
noncomputable def iExp.mng (n:Nat):Mng:=⟨[.val tNetwork,.val I,.val tNetwork],[.val tNetwork,.val .bool],fun x=>iExp.f n x.1 x.2.1 x.2.2.1⟩
noncomputable def iExp.cfg (n:Nat):Cfg:=⟨tys22,[(22,iIsTemplate.mng n),(72,insOf.mng n),(73,outsOf.mng n),(78,iBehind.mng n),(70,iChecked.mng n)],[(77,concatP.mng n)],[]⟩
theorem iExp.eq:∀ (n:Nat) (a0:Network) (a1:Int) (a2:Network),runF (iExp.cfg n) n Tryz.f23 (annOf Tryz.f23 iExp.las) [.val tNetwork,.val I,.val tNetwork] [.val tNetwork,.val .bool] (a0,(a1,(a2,())))=iExp.f n a0 a1 a2:=by
 intros
 kernel_rfl
theorem iExp.gof:GoF Tryz.prog 23:=⟨_,Tryz.func23,by kernel_rfl,by kernel_rfl⟩
theorem iExp.sound (n:Nat):Sound Tryz.prog 23 (iExp.mng n):=runF_sound (fn:=Tryz.f23) (m:=iExp.mng n) (c:=iExp.cfg n) (regOK mixed (opOK (.of (c:=iExp.cfg n) ⟨⟨iIsTemplate.sound n,iIsTemplate.gof⟩,⟨⟨insOf.sound n,insOf.gof⟩,⟨⟨outsOf.sound n,outsOf.gof⟩,⟨⟨iBehind.sound n,iBehind.gof⟩,⟨⟨iChecked.sound n,iChecked.gof⟩,trivial⟩⟩⟩⟩⟩) (.of (c:=iExp.cfg n) ⟨⟨concatP.sound n,concatP.gof⟩,trivial⟩)) (tysOK tys22_ok)) (tysOK tys22_ok) Tryz.func23 (fun x=>(iExp.eq n x.1 x.2.1 x.2.2.1).symm)
end Go.AmT
namespace Go.AmT
open Go Go.Am
set_option linter.unusedVariables false
set_option linter.unusedSimpArgs false
def rem {α:Type} (k:Nat) (a:List α):List α:=a.take k++a.drop (k+1)
theorem rem_snoc {α:Type} {k:Nat} {a:List α} (x:α):rem k (a++[x])=if a.length=k then rem k a else rem k a++[x]:=by
 unfold rem
 by_cases h:a.length=k
 ·rw [if_pos h,List.take_append_of_le_length (by omega),List.drop_eq_nil_of_le (by simp; omega),List.drop_eq_nil_of_le (by omega)]
 ·rw [if_neg h]
  by_cases h2:a.length<k
  ·rw [List.take_of_length_le (by simp; omega),List.drop_eq_nil_of_le (by simp; omega),List.take_of_length_le (by omega),List.drop_eq_nil_of_le (by omega)]; simp
  ·rw [List.take_append_of_le_length (by omega),List.drop_append_of_le_length (by omega),List.append_assoc]
def lessI (k i:Int):Int:=if k<i then i-1 else i
theorem range_fm {α β:Type} (ls:List α) (p:α→Bool) (g:α→β) (z:α):((List.range ls.length).filter (fun i=>p (ls.getD i z))).map (fun i=>g (ls.getD i z))=(ls.filter p).map g:=by
 have e:ls=(List.range ls.length).map (fun i=>ls.getD i z):=by
  apply List.ext_getElem
  ·simp
  ·intro i h1 h2; simp [h1]
 conv=>rhs; rw [e]
 rw [List.filter_map,List.map_map]; rfl
theorem end_bounds {nt:Network} {l:Link} (E:EndOk nt l) (hp:nt.1.length≤12) : -1≤l.1∧l.1≤12∧-1≤l.2.2.1∧l.2.2.1≤12:=by
 refine ⟨?_,?_,?_,?_⟩
 ·rcases E.out with h | h<;>have:=h.1<;>omega
 ·rcases E.out with h | h
  ·have:=h.1; omega
  ·have:=h.2.1; omega
 ·rcases E.inn with h | h<;>have:=h.1<;>omega
 ·rcases E.inn with h | h
  ·have:=h.1; omega
  ·have:=h.2.1; omega
theorem concatPG_spec {n:Nat} {a:Int} (h0:0≤a) (h1:a≤4194304):concatPG.f n a=some ([],()):=by
 have hm:=maxB_eq
 unfold concatPG.f
 rw [br_no (by omega),w64_id (by omega) (by omega)]
 by_cases h:0<a-0
 ·rw [br_yes h,chk_true (by omega),chk_true (by omega),chk_true (by simp; omega)]
 ·rw [br_no h]
theorem flat_takeP {α:Type} (ls:List (List α)) (i:Nat):(ls.take i).flatten.length≤ls.flatten.length:=by
 conv=>rhs; rw [← List.take_append_drop i ls]
 rw [List.flatten_append,List.length_append]; omega
theorem concatP_all {n:Nat} {ls:List (List Program)} (hl:ls.length≤1048576) (ht:ls.flatten.length≤4194304) (hn:1048576<n):concatP.f n ls=some (ls.flatten,()):=by
 unfold concatP.f
 have hst:((0:Int),((0:Int),()))=(fun (i:Nat)=>(((ls.take i).flatten.length:Int),((i:Int),()))) 0:=by simp
 rw [hst]
 refine iter_line (fun i=>(((ls.take i).flatten.length:Int),((i:Int),()))) ls.length (fun ih i hi=>?_) (fun ih=>?_) (by omega)
 ·have c0:0≤(i:Int):=by omega
  have c1:(i:Int)<(ls.length:Int):=by omega
  have e1:ls.getD i []=ls[i]:=getD_lt hi _
  have h1:=flat_takeP ls (i+1)
  have e2:(ls.take (i+1)).flatten=(ls.take i).flatten++ls[i]:=by rw [List.take_succ_eq_append_getElem hi,List.flatten_append]; simp
  rw [e2,List.length_append] at h1
  show br (decide ((i:Int)<(ls.length:Int))) _ _=_
  rw [br_yes c1,chk_true ⟨c0,c1⟩]
  simp only [Int.toNat_natCast,e1]
  rw [w64_id (by omega) (by omega),br_no (by omega),w64_succ (by omega),e2,List.length_append,Int.natCast_add (List.take i ls).flatten.length]
 ·simp only [List.take_length]
  rw [br_no (Int.lt_irrefl _),concatPG_spec (by omega) (by omega)]
  simp only [Option.bind_some]
  refine Eq.trans (iter_line (fun i=>((i:Int),((ls.take i).flatten,()))) ls.length (R:=some (ls.flatten,())) (fun ih i hi=>?_) (fun ih=>?_) (by omega)) rfl
  ·have c0:0≤(i:Int):=by omega
   have c1:(i:Int)<(ls.length:Int):=by omega
   have e1:ls.getD i []=ls[i]:=getD_lt hi _
   have h1:=flat_takeP ls (i+1)
   have e2:(ls.take (i+1)).flatten=(ls.take i).flatten++ls[i]:=by rw [List.take_succ_eq_append_getElem hi,List.flatten_append]; simp
   rw [e2,List.length_append] at h1
   show br (decide ((i:Int)<(ls.length:Int))) _ _=_
   rw [br_yes c1,chk_true ⟨c0,c1⟩]
   simp only [Int.toNat_natCast,e1]
   rw [small_chk (by omega),w64_succ (by omega),e2]
  ·simp only [List.take_length]
   exact br_no (Int.lt_irrefl _)
theorem sL8Less_spec {n:Nat} {i k:Int} (h1 : -1≤i) (h2:i≤12) (hk:0≤k):sL8Less.f n i k=some (lessI k i,()):=by
 unfold sL8Less.f lessI
 by_cases h:k<i
 ·rw [br_yes h,if_pos h,w64_id (by omega) (by omega)]
 ·rw [br_no h,if_neg h]
theorem iBehind_spec {n:Nat} {i k:Int} (h1 : -1≤i) (h2:i≤12) (hk:0≤k):iBehind.f n i k=some (lessI k i,()):=by
 unfold iBehind.f lessI
 by_cases h:k<i
 ·rw [br_yes h,if_pos h,w64_id (by omega) (by omega)]
 ·rw [br_no h,if_neg h]
def outAt (m:Network) (l:Link):Link:=(lks (inOut false) m.2).getD l.2.1.toNat zLink
def inAt (m:Network) (l:Link):Link:=(lks (inOut true) m.2).getD l.2.2.2.1.toNat zLink
def expL (first k : Int) (m : Network) (l : Link) : Link :=
  (if l.1 = k then first + (outAt m l).1 else lessI k l.1, if l.1 = k then (outAt m l).2.1 else l.2.1,
   if l.2.2.1 = k then first + (inAt m l).2.2.1 else lessI k l.2.2.1, if l.2.2.1 = k then (inAt m l).2.2.2.1 else l.2.2.2.1, l.2.2.2.2)
def innerL (l:Link):Bool:=decide (0≤l.1)&&decide (0≤l.2.2.1)
def shiftL (first:Int) (l:Link):Link:=(first+l.1,l.2.1,first+l.2.2.1,l.2.2.2.1,l.2.2.2.2)
def expN (nt:Network) (k:Nat) (m:Network):Network:=
 (rem k nt.1++m.1,nt.2.map (expL ((nt.1.length:Int)-1) k m)++(m.2.filter innerL).map (shiftL ((nt.1.length:Int)-1)))
noncomputable def expd (nt:Network) (k:Int) (m:Network):Network×Bool×Unit:=
 if tmpl nt k m=true then (if okN (expN nt k.toNat m)=true then (expN nt k.toNat m,(true,())) else (([],[]),(false,()))) else (([],[]),(false,()))
structure Tm (nt:Network) (k:Nat) (m:Network):Prop where
 net:OkN nt
 tn:OkN m
 lt:k<nt.1.length
 ins:((ixs (inOut true) m.2).length:Int)=nt.1[k].1
 outs:((ixs (inOut false) m.2).length:Int)=nt.1[k].2.1
theorem tmpl_of {nt m:Network} {k:Int} (h:tmpl nt k m=true):∃ j:Nat,k=(j:Int)∧Tm nt j m:=by
 unfold tmpl at h
 simp only [Bool.and_eq_true,decide_eq_true_eq] at h
 obtain ⟨h1,h2,h3,h4,h5,h6,-⟩:=h
 obtain ⟨j,rfl⟩:∃ j:Nat,k=(j:Int):=⟨k.toNat,by omega⟩
 have hj:j<nt.1.length:=by omega
 simp only [Int.toNat_natCast,getD_lt hj] at h5 h6
 exact ⟨j,rfl,of_decide_eq_true h1,of_decide_eq_true h2,hj,h5,h6⟩
theorem lks_get {p:Link→Bool} {ls:List Link} {i:Nat} (h:i<(ixs p ls).length):(lks p ls).getD i zLink=ls.getD ((ixs p ls)[i]) zLink:=by
 have:i<(lks p ls).length:=by rw [lks_len]; exact h
 rw [getD_lt this]; simp [lks]
theorem lks_mem {p:Link→Bool} {ls:List Link} {i:Nat} (h:i<(ixs p ls).length):(lks p ls).getD i zLink∈ls:=by
 rw [lks_get h,getD_lt (ixs_lt (List.getElem_mem h))]; exact List.getElem_mem _
theorem expN_small {nt m:Network} {k:Nat} (h:SmallN nt) (h':SmallN m) (T:Tm nt k m):SmallN (expN nt k m):=by
 have hp:=T.net.progs
 have hl:=T.net.links
 have hp':=T.tn.progs
 have hl':=T.tn.links
 have hf:=List.length_filter_le innerL m.2
 refine ⟨?_,fun p hp=>?_,?_,fun l hl=>?_⟩
 ·show (rem k nt.1++m.1).length≤_
  simp [rem]; omega
 ·rcases List.mem_append.1 hp with hp | hp
  ·rcases List.mem_append.1 hp with hp | hp
   ·exact h.prog p (List.mem_of_mem_take hp)
   ·exact h.prog p (List.mem_of_mem_drop hp)
  ·exact h'.prog p hp
 ·show (_++_:List Link).length≤_
  rw [List.length_append,List.length_map,List.length_map]; omega
 ·rcases List.mem_append.1 hl with hl | hl
  ·obtain ⟨l',h3,rfl⟩:=List.mem_map.1 hl
   exact ⟨(h.link l' h3).tokens⟩
  ·obtain ⟨l',h3,rfl⟩:=List.mem_map.1 hl
   exact ⟨(h'.link l' (List.mem_filter.1 h3).1).tokens⟩
theorem mem_end {nt:Network} (o:OkN nt) {l:Link} (hm:l∈nt.2):EndOk nt l:=by
 obtain ⟨i,hi,rfl⟩:=List.mem_iff_getElem.1 hm; exact o.ends i hi
theorem out_port {nt m:Network} {k:Nat} (T:Tm nt k m) {l:Link} (hm:l∈nt.2) (h:l.1=(k:Int)):0≤l.2.1∧l.2.1.toNat<(ixs (inOut false) m.2).length:=by
 rcases (mem_end T.net hm).out with e | ⟨a1,a2,a3,a4⟩
 ·omega
 ·rw [h,Int.toNat_natCast,getD_lt T.lt] at a4
  have:=T.outs; omega
theorem in_port {nt m:Network} {k:Nat} (T:Tm nt k m) {l:Link} (hm:l∈nt.2) (h:l.2.2.1=(k:Int)):0≤l.2.2.2.1∧l.2.2.2.1.toNat<(ixs (inOut true) m.2).length:=by
 rcases (mem_end T.net hm).inn with e | ⟨a1,a2,a3,a4⟩
 ·omega
 ·rw [h,Int.toNat_natCast,getD_lt T.lt] at a4
  have:=T.ins; omega
theorem sExpandNetwork_spec {n:Nat} {nt m:Network} {k:Int} (h:SmallN nt) (h':SmallN m) (hn:1048576<n):sExpandNetwork.f n nt k m=some (expd nt k m):=by
 unfold sExpandNetwork.f expd
 rw [sIsTemplate_spec h h' hn]
 simp only [Option.bind_some]
 cases ht:tmpl nt k m
 ·rfl
 ·obtain ⟨k,rfl,T⟩:=tmpl_of ht
  have hk:=T.lt
  have hp:=T.net.progs
  have hl:=T.net.links
  have hp':=T.tn.progs
  have hl':=T.tn.links
  rw [sL8Outside_spec h'.links hn,sL8Outside_spec h'.links hn]
  simp only [Bool.not_true,br_false,if_true,Option.bind_some,Int.toNat_natCast]
  have hst:((0:Int),(([]:List Program),()))=(fun (i:Nat)=>((i:Int),(rem k (nt.1.take i),()))) 0:=by simp [rem]
  rw [hst]
  refine iter_line (fun i=>((i:Int),(rem k (nt.1.take i),()))) nt.1.length (fun ih i hi=>?_) (fun ih=>?_) (by omega)
  ·have c1:(i:Int)<(nt.1.length:Int):=by omega
   have e1:nt.1.getD i zProgram=nt.1[i]:=getD_lt hi _
   have e2:(nt.1.take i).length=i:=by simp; omega
   have hr:(rem k (nt.1.take i)).length≤24:=by simp [rem]; omega
   show br (decide ((i:Int)<(nt.1.length:Int))) _ _=_
   rw [br_yes c1,chk_true ⟨by omega,c1⟩]
   simp only [Int.toNat_natCast,e1]
   rw [sL3Program_spec (h.prog _ (List.getElem_mem hi)),w64_succ (by omega),List.take_succ_eq_append_getElem hi,rem_snoc,e2]
   by_cases hik:i=k
   ·subst hik; simp [br]
   ·rw [if_neg hik,show decide ((i:Int)=(k:Int))=false from decide_eq_false (by omega)]
    simp only [Bool.not_false,br_true,Option.bind_some]
    rw [small_chk (by simp; omega)]
  ·show br (decide ((nt.1.length:Int)<(nt.1.length:Int))) _ _=_
   rw [br_no (Int.lt_irrefl _),List.take_length]
   have hst:((0:Int),(rem k nt.1,()))=(fun (i:Nat)=>((i:Int),(rem k nt.1++m.1.take i,()))) 0:=by simp
   show iter n _ ((0:Int),(rem k nt.1,()))=_
   rw [hst]
   have hrl:(rem k nt.1).length≤24:=by simp [rem]; omega
   refine iter_line (fun i=>((i:Int),(rem k nt.1++m.1.take i,()))) m.1.length (fun ih i hi=>?_) (fun ih=>?_) (by omega)
   ·have c1:(i:Int)<(m.1.length:Int):=by omega
    have e1:m.1.getD i zProgram=m.1[i]:=getD_lt hi _
    show br (decide ((i:Int)<(m.1.length:Int))) _ _=_
    rw [br_yes c1,chk_true ⟨by omega,c1⟩]
    simp only [Int.toNat_natCast,e1]
    rw [sL3Program_spec (h'.prog _ (List.getElem_mem hi)),w64_succ (by omega),List.take_succ_eq_append_getElem hi]
    simp only [Option.bind_some,List.append_assoc]
    rw [small_chk (by simp; omega)]
   ·show br (decide ((m.1.length:Int)<(m.1.length:Int))) _ _=_
    rw [br_no (Int.lt_irrefl _),List.take_length]
    show iter n _ ((0:Int),(rem k nt.1++m.1,(([]:List Link),())))=_
    refine push_loopE nt.2 (expL ((nt.1.length:Int)-1) k m) (fun i s=>(i,(rem k nt.1++m.1,(s,())))) (fun ih i hi s hs=>?_) (fun ih=>?_) (by omega)
    ·have c1:(i:Int)<(nt.2.length:Int):=by omega
     have e1:nt.2.getD i zLink=nt.2[i]:=getD_lt hi _
     have hm:=List.getElem_mem hi
     have B:=end_bounds (mem_end T.net hm) hp
     have hB:∀ (p:Link→Bool) (q:Nat),q<(ixs p m.2).length→-1≤((lks p m.2).getD q zLink).1∧((lks p m.2).getD q zLink).1≤12∧-1≤((lks p m.2).getD q zLink).2.2.1∧((lks p m.2).getD q zLink).2.2.1≤12:=fun p q hq=>end_bounds (mem_end T.tn (lks_mem hq)) hp'
     show br (decide ((i:Int)<(nt.2.length:Int))) _ _=_
     rw [br_yes c1,chk_true ⟨by omega,c1⟩]
     simp only [Int.toNat_natCast,e1]
     rw [sL3Link_spec (h.link _ hm),sL8Less_spec B.1 B.2.1 (by omega),sL8Less_spec B.2.2.1 B.2.2.2 (by omega),w64_succ (by omega),w64_id (n:=(nt.1.length:Int)-1) (by omega) (by omega)]
     simp only [Option.bind_some]
     by_cases h1:nt.2[i].1=(k:Int)
     ·have P1:=out_port T hm h1
      have b1:=hB _ _ P1.2
      rw [br_yes h1,chk_true (by rw [lks_len]; omega),chk_true (by rw [lks_len]; omega),w64_id (by omega) (by omega)]
      simp only [cut_inr]
      by_cases h2:nt.2[i].2.2.1=(k:Int)
      ·have P2:=in_port T hm h2
       have b2:=hB _ _ P2.2
       rw [br_yes h2,chk_true (by rw [lks_len]; omega),chk_true (by rw [lks_len]; omega),w64_id (by omega) (by omega)]
       simp only [cut_inr]
       rw [small_chk (by simp; omega)]
       simp only [expL,outAt,inAt,h1,h2,if_true]
      ·rw [br_no h2]
       simp only [cut_inr]
       rw [small_chk (by simp; omega)]
       simp only [expL,outAt,inAt,h1,h2,if_true,if_false]
     ·rw [br_no h1]
      simp only [cut_inr]
      by_cases h2:nt.2[i].2.2.1=(k:Int)
      ·have P2:=in_port T hm h2
       have b2:=hB _ _ P2.2
       rw [br_yes h2,chk_true (by rw [lks_len]; omega),chk_true (by rw [lks_len]; omega),w64_id (by omega) (by omega)]
       simp only [cut_inr]
       rw [small_chk (by simp; omega)]
       simp only [expL,outAt,inAt,h1,h2,if_true,if_false]
      ·rw [br_no h2]
       simp only [cut_inr]
       rw [small_chk (by simp; omega)]
       simp only [expL,outAt,inAt,h1,h2,if_false]
    ·have hAl:(nt.2.map (expL ((nt.1.length:Int)-1) k m)).length=nt.2.length:=List.length_map _
     have hS:=sIsNetwork_spec (expN_small h h' T) hn
     unfold expN at hS ⊢
     generalize nt.2.map (expL ((nt.1.length:Int)-1) k m)=A at hAl hS ⊢
     rw [br_no (Int.lt_irrefl _)]
     have hst:((0:Int),(rem k nt.1++m.1,(A,())))=(fun (i:Int) (t:List Link)=>(i,(rem k nt.1++m.1,(A++t,())))) 0 []:=by simp
     show iter n _ ((0:Int),(rem k nt.1++m.1,(A,())))=_
     rw [hst]
     refine Eq.trans (pushif_loop m.2.length (fun i=>innerL (m.2.getD i zLink)) (fun i=>shiftL ((nt.1.length:Int)-1) (m.2.getD i zLink)) (fun (i:Int) (t:List Link)=>(i,(rem k nt.1++m.1,(A++t,())))) (R:=fun t=>(sIsNetwork.f n (rem k nt.1++m.1,A++t)).bind fun r157=>br (!r157.1) (some (([],[]),(false,()))) (some ((rem k nt.1++m.1,A++t),(true,())))) (fun ih i hi t ht=>?_) (fun ih t=>br_no (Int.lt_irrefl _)) (by omega)) ?_
     ·have c1:(i:Int)<(m.2.length:Int):=by omega
      have e1:m.2.getD i zLink=m.2[i]:=getD_lt hi _
      have hm:=List.getElem_mem hi
      have B:=end_bounds (mem_end T.tn hm) hp'
      show br (decide ((i:Int)<(m.2.length:Int))) _ _=_
      rw [br_yes c1,chk_true ⟨by omega,c1⟩]
      simp only [Int.toNat_natCast,e1]
      rw [sL3Link_spec (h'.link _ hm),w64_succ (by omega),w64_id (n:=(nt.1.length:Int)-1) (by omega) (by omega),w64_id (n:=(nt.1.length:Int)-1+m.2[i].1) (by omega) (by omega),w64_id (n:=(nt.1.length:Int)-1+m.2[i].2.2.1) (by omega) (by omega)]
      simp only [Option.bind_some,innerL]
      by_cases f1:0≤m.2[i].1
      ·rw [br_yes f1]
       simp only [cut_inr,f1,decide_true,Bool.true_and]
       by_cases f2:0≤m.2[i].2.2.1
       ·rw [br_yes f2,if_pos (decide_eq_true f2),small_chk (by simp; omega),List.append_assoc]; rfl
       ·rw [br_no f2,if_neg (by simp [f2])]
      ·rw [br_no f1]
       simp only [cut_inr,f1,decide_false,Bool.false_and]; rfl
     ·rw [range_fm m.2 innerL (shiftL ((nt.1.length:Int)-1)) zLink,hS]
      simp only [Option.bind_some]
      cases okN _<;>rfl
theorem iExp_spec {n:Nat} {nt m:Network} {k:Int} (h:SmallN nt) (h':SmallN m) (hn:1048576<n):iExp.f n nt k m=some (expd nt k m):=by
 unfold iExp.f expd
 rw [iIsTemplate_spec h h' hn]
 simp only [Option.bind_some]
 cases ht:tmpl nt k m
 ·rfl
 ·obtain ⟨k,rfl,T⟩:=tmpl_of ht
  have hk:=T.lt
  have hp:=T.net.progs
  have hl:=T.net.links
  have hp':=T.tn.progs
  have hl':=T.tn.links
  have om:okN m=true:=by have:=T.tn; simp [okN,this]
  rw [insOf_spec h' om hn,outsOf_spec h' om hn]
  simp only [Bool.not_true,br_false,if_true,Option.bind_some,Int.toNat_natCast]
  rw [w64_succ (by omega),chk_true (by omega),chk_true (by omega),Int.toNat_natCast,List.take_length,List.drop_zero]
  have hf:([nt.1.take k,nt.1.drop (k+1),m.1]:List (List Program)).flatten=rem k nt.1++m.1:=by simp [rem]
  rw [concatP_all (by simp) (by rw [hf]; simp [rem]; omega) hn,hf]
  simp only [Option.bind_some]
  refine push_loopE nt.2 (expL ((nt.1.length:Int)-1) k m) (fun i s=>(i,(rem k nt.1++m.1,(s,())))) (fun ih i hi s hs=>?_) (fun ih=>?_) (by omega)
  ·have c1:(i:Int)<(nt.2.length:Int):=by omega
   have e1:nt.2.getD i zLink=nt.2[i]:=getD_lt hi _
   have hm:=List.getElem_mem hi
   have B:=end_bounds (mem_end T.net hm) hp
   have hB:∀ (p:Link→Bool) (q:Nat),q<(ixs p m.2).length→-1≤((lks p m.2).getD q zLink).1∧((lks p m.2).getD q zLink).1≤12∧-1≤((lks p m.2).getD q zLink).2.2.1∧((lks p m.2).getD q zLink).2.2.1≤12:=fun p q hq=>end_bounds (mem_end T.tn (lks_mem hq)) hp'
   have hI:∀ (p:Link→Bool) (q:Nat) (hq:q<(ixs p m.2).length),(toI (ixs p m.2)).getD q 0=((ixs p m.2)[q]:Int)∧(ixs p m.2)[q]<m.2.length∧m.2.getD (ixs p m.2)[q] zLink=(lks p m.2).getD q zLink:=fun p q hq=>⟨by simp [hq],ixs_lt (List.getElem_mem hq),(lks_get hq).symm⟩
   show br (decide ((i:Int)<(nt.2.length:Int))) _ _=_
   rw [br_yes c1,chk_true ⟨by omega,c1⟩]
   simp only [Int.toNat_natCast,e1]
   rw [iBehind_spec B.1 B.2.1 (by omega),iBehind_spec B.2.2.1 B.2.2.2 (by omega),w64_succ (by omega),w64_id (n:=(nt.1.length:Int)-1) (by omega) (by omega)]
   simp only [Option.bind_some,List.length_map]
   by_cases h1:nt.2[i].1=(k:Int)
   ·have P1:=out_port T hm h1
    have b1:=hB _ _ P1.2
    obtain ⟨q1,q2,q3⟩:=hI _ _ P1.2
    rw [br_yes h1,chk_true (by omega),q1,chk_true (by omega),Int.toNat_natCast,q3,w64_id (by omega) (by omega)]
    simp only [cut_inr]
    by_cases h2:nt.2[i].2.2.1=(k:Int)
    ·have P2:=in_port T hm h2
     have b2:=hB _ _ P2.2
     obtain ⟨q1,q2,q3⟩:=hI _ _ P2.2
     rw [br_yes h2,chk_true (by omega),q1,chk_true (by omega),Int.toNat_natCast,q3,w64_id (by omega) (by omega)]
     simp only [cut_inr]
     rw [small_chk (by simp; omega)]
     simp only [expL,outAt,inAt,h1,h2,if_true]
    ·rw [br_no h2]
     simp only [cut_inr]
     rw [small_chk (by simp; omega)]
     simp only [expL,outAt,inAt,h1,h2,if_true,if_false]
   ·rw [br_no h1]
    simp only [cut_inr]
    by_cases h2:nt.2[i].2.2.1=(k:Int)
    ·have P2:=in_port T hm h2
     have b2:=hB _ _ P2.2
     obtain ⟨q1,q2,q3⟩:=hI _ _ P2.2
     rw [br_yes h2,chk_true (by omega),q1,chk_true (by omega),Int.toNat_natCast,q3,w64_id (by omega) (by omega)]
     simp only [cut_inr]
     rw [small_chk (by simp; omega)]
     simp only [expL,outAt,inAt,h1,h2,if_true,if_false]
    ·rw [br_no h2]
     simp only [cut_inr]
     rw [small_chk (by simp; omega)]
     simp only [expL,outAt,inAt,h1,h2,if_false]
  ·have hAl:(nt.2.map (expL ((nt.1.length:Int)-1) k m)).length=nt.2.length:=List.length_map _
   have hS:=iChecked_spec (expN_small h h' T) hn
   unfold expN at hS ⊢
   generalize nt.2.map (expL ((nt.1.length:Int)-1) k m)=A at hAl hS ⊢
   rw [br_no (Int.lt_irrefl _)]
   have hst:((0:Int),(rem k nt.1++m.1,(A,())))=(fun (i:Int) (t:List Link)=>(i,(rem k nt.1++m.1,(A++t,())))) 0 []:=by simp
   show iter n _ ((0:Int),(rem k nt.1++m.1,(A,())))=_
   rw [hst]
   refine Eq.trans (pushif_loop m.2.length (fun i=>innerL (m.2.getD i zLink)) (fun i=>shiftL ((nt.1.length:Int)-1) (m.2.getD i zLink)) (fun (i:Int) (t:List Link)=>(i,(rem k nt.1++m.1,(A++t,())))) (R:=fun t=>(iChecked.f n (rem k nt.1++m.1,A++t)).bind fun r94=>some (r94.1,(r94.2.1,()))) (fun ih i hi t ht=>?_) (fun ih t=>br_no (Int.lt_irrefl _)) (by omega)) ?_
   ·have c1:(i:Int)<(m.2.length:Int):=by omega
    have e1:m.2.getD i zLink=m.2[i]:=getD_lt hi _
    have hm:=List.getElem_mem hi
    have B:=end_bounds (mem_end T.tn hm) hp'
    show br (decide ((i:Int)<(m.2.length:Int))) _ _=_
    rw [br_yes c1,chk_true ⟨by omega,c1⟩]
    simp only [Int.toNat_natCast,e1]
    rw [w64_succ (by omega),w64_id (n:=(nt.1.length:Int)-1) (by omega) (by omega),w64_id (n:=(nt.1.length:Int)-1+m.2[i].1) (by omega) (by omega),w64_id (n:=(nt.1.length:Int)-1+m.2[i].2.2.1) (by omega) (by omega)]
    simp only [innerL]
    by_cases f1:0≤m.2[i].1
    ·rw [br_yes f1]
     simp only [cut_inr,f1,decide_true,Bool.true_and]
     by_cases f2:0≤m.2[i].2.2.1
     ·rw [br_yes f2,if_pos (decide_eq_true f2),small_chk (by simp; omega),List.append_assoc]; rfl
     ·rw [br_no f2,if_neg (by simp [f2])]
    ·rw [br_no f1]
     simp only [cut_inr,f1,decide_false,Bool.false_and]; rfl
   ·rw [range_fm m.2 innerL (shiftL ((nt.1.length:Int)-1)) zLink,hS]
    simp only [Option.bind_some]
theorem expd_small {nt m:Network} {k:Int} (h:SmallN nt) (h':SmallN m):SmallN (expd nt k m).1:=by
 have z:SmallN ([],[]):=⟨by simp,by simp,by simp,by simp⟩
 unfold expd
 split
 ·rename_i ht
  obtain ⟨k,rfl,T⟩:=tmpl_of ht
  split
  ·exact expN_small h h' T
  ·exact z
 ·exact z
end Go.AmT
