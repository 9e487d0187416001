/- Functions that the law FnGrown reaches, each as a plain Lean function, and that each does what that says. No condition. -/
import Derived.Test.YtkgknijpmcagmaaGreatMGrow14
import Derived.WalkKit
import Derived.Deep.RegionLaw
import Derived.Lib.SliceRun
import Derived.Test.YtkgknijpmcagmaaGreatMGrow7
import Derived.Test.YtkgknijpmcagmaaGreatMGrow8
import Derived.Test.YtkgknijpmcagmaaGreatMGrow10
namespace Go.AmT
open Go Go.Am Go.Proofs Go.RowKit Go.Lib
set_option linter.unusedVariables false
set_option maxRecDepth 100000
theorem del_info:(Tryz.prog.info? 77).map (fun i=>(i.zero,i.size,i.bytes))=some (some (.agg #[.int .i64 0,.slice none 0 0]),2,32):=by kernel_rfl
theorem run_clear2 (w:World) (ty:TypeId) (b o cp:Nat)
  (hc:∀ j,j<2→(w.cell? ⟨b,o+j,none⟩).isSome=true) (hf:∀ j,j<2→w.frozen? ⟨b,o+j,none⟩=false) :
  (Builtin.clear_ #[32] ty #[.slice (some ⟨b,o,none⟩) 1 cp]).run Tryz.prog w = .ok (.tuple #[]) (w.setCells b o [.int .i64 0,.slice none 0 0]):=by
 have hst:=run_storeCells_cells (P:=Tryz.prog) b o [.int .i64 0,.slice none 0 0] 0 w (by simpa using hc) (by simpa using hf) (by intro v hv; simp at hv; rcases hv with rfl | rfl<;>rfl)
 simp only [Nat.add_zero] at hst
 have hz:(Builtin.zeroCells (Value.agg #[.int .i64 0,.slice none 0 0]).cells 1).toList=[.int .i64 0,.slice none 0 0]:=by
  simp [Builtin.zeroCells,Value.cells]
  rfl
 simp [Builtin.clear_,run_underlying Tryz.underlying32,Tryz.zeroValue77,hz,hst]
set_option maxHeartbeats 4000000 in
set_option maxRecDepth 1000000 in
theorem del_calls (b o cap n k:Nat) (c:Nat→Value) (w:World) (hcap:n≤cap) (hk:k<n)
  (hH:∀ i,i<n*2→w.cell? ⟨b,o+i,none⟩=some (c i)∧w.frozen? ⟨b,o+i,none⟩=false∧(c i).oneCell'=true) :
  Calls Tryz.prog 47 #[.slice (some ⟨b,o,none⟩) n cap,.int .i64 k,.int .i64 ((k+1:Nat):Int)] w fun e w'=>e = .returned (.slice (some ⟨b,o,none⟩) (n-1) cap)∧DelW b o n k c w w':=by
 obtain ⟨i0,hi0,hz0,hz1,hz2⟩:=info_parts del_info
 obtain ⟨news,hnews⟩:∃ news,news=delNews c n k:=⟨_,rfl⟩
 have hlen:news.length=(n-(k+1))*2:=by rw [hnews]; exact delNews_len c n k
 obtain ⟨A,hA,hsrc⟩:∃ A:Addr,(if cap=k+1 then some (⟨b,o,none⟩:Addr) else some ⟨b,o+(k+1)*2,none⟩)=some A∧Hid (∀ t u,news[t]? = some u→w.drew.cell? (A.add t)=some u):=by
  by_cases h:cap=k+1
  ·refine ⟨⟨b,o,none⟩,by simp [h],fun t u hu=>?_⟩
   have h0:news.length=0:=by rw [hlen]; omega
   rw [List.length_eq_zero_iff.1 h0] at hu
   simp at hu
  ·refine ⟨⟨b,o+(k+1)*2,none⟩,by simp [h],fun t u hu=>?_⟩
   have ht:t<(n-(k+1))*2:=by
    have:=(List.getElem?_eq_some_iff.1 hu).1
    rwa [hlen] at this
   rw [hnews,delNews_get c ht] at hu
   rw [Addr.add_lit,show o+(k+1)*2+t=o+((k+1)*2+t) by omega]
   exact (hH ((k+1)*2+t) (by omega)).1.trans hu
 have s1:Hid (news.length=(n-(k+1))*2):=hlen
 have s2:Hid (∀ u∈news,u.oneCell'=true):=by
  intro u hu
  rw [hnews,delNews] at hu
  obtain ⟨x,hx,rfl⟩:=List.mem_map.1 hu
  exact (hH ((k+1)*2+x) (by have:=List.mem_range.1 hx; omega)).2.2
 have s3:Hid (∀ t,t<news.length→(w.drew.cell? ⟨b,o+k*2+t,none⟩).isSome=true∧w.drew.frozen? ⟨b,o+k*2+t,none⟩=false):=by
  intro t ht
  rw [hlen] at ht
  rw [Nat.add_assoc]
  exact ⟨by show (w.cell? _).isSome=true; rw [(hH (k*2+t) (by omega)).1]; rfl,(hH (k*2+t) (by omega)).2.1⟩
 obtain ⟨W1,hW1⟩:∃ W1,W1=w.drew.setCells b (o+k*2) news:=⟨_,rfl⟩
 have hsome:∀ t,t<n*2→(W1.cell? ⟨b,o+t,none⟩).isSome=true∧W1.frozen? ⟨b,o+t,none⟩=false:=by
  intro t ht
  rw [hW1,hnews]
  refine ⟨?_,by rw [World.frozen?_setCells]; exact (hH t ht).2.1⟩
  have h:=del_w1 hk (fun i hi=>(hH i hi).1) ht
  rw [show (⟨b,o+t,none⟩:Addr)=ad b (o+t) from rfl,h]
  rfl
 have hcl:∀ ty,(Builtin.clear_ #[32] ty #[.slice (some ⟨b,o+(k+(n-(k+1)))*2,none⟩) (n-(k+(n-(k+1)))) (cap-(k+(n-(k+1))))]).run Tryz.prog W1 = .ok (.tuple #[]) (W1.setCells b (o+(k+(n-(k+1)))*2) [.int .i64 0,.slice none 0 0]):=by
  intro ty
  rw [show n-(k+(n-(k+1)))=1 by omega]
  exact run_clear2 W1 ty b _ _ (fun j hj=>by rw [Nat.add_assoc]; exact (hsome _ (by omega)).1) (fun j hj=>by rw [Nat.add_assoc]; exact (hsome _ (by omega)).2)
 have hfin:Hid (DelW b o n k c w (W1.setCells b (o+(k+(n-(k+1)))*2) [.int .i64 0,.slice none 0 0])):=by
  rw [hW1,hnews,show k+(n-(k+1))=n-1 by omega]
  exact delW_of hk (fun i hi=>(hH i hi).1)
 have hW:Hid (W1=w.drew.setCells b (o+k*2) news):=hW1
 have hic:k≤cap:=by omega
 have hjc:k+1≤cap:=by omega
 have hp0:(0:Int)≤(k:Int)+1:=by omega
 have hp1:(k:Int)+1≤(n:Int):=by omega
 have hp2:((k:Int)+1).toNat=k+1:=by omega
 clear hW1 hH hnews hlen hsome
 go_enter Tryz.func47,Tryz.ntmps47
 go_wp2_with fail
 go_region_law (refine step_append_room rfl (.tmp 22) (.tmp 25) 32 rfl 77 i0 2 Tryz.underlying32 hi0 hz1 b o k cap (by simp [Act.eval,Act.put]) A (n-(k+1)) (cap-(k+1)) news (by simp [Act.eval,Act.put]) s1.out hsrc.out s2.out (by omega) s3.out ?_; rw [← hW.out])
 go_wp2
 go_ret
 exact ⟨by rw [show n-1=k+(n-(k+1)) by omega]; rfl,hfin.out⟩
noncomputable def delA.f (n:Nat) (a0 a1:Int) (a2:List Actor):Option (List Actor×Unit):=delR a2 a0 a1
def delA.lb:LA:=delM.lb
noncomputable def delA.mng (n:Nat):LMng:=⟨delM.la,delA.lb,fun x=>delA.f n x.1 x.2.1 x.2.2.1⟩
theorem delA.gof:GoF Tryz.prog 47:=⟨_,Tryz.func47,by kernel_rfl,by kernel_rfl⟩
theorem delA.sound (n:Nat):LSound Tryz.prog 47 (delA.mng n):=del_sound del_calls
end Go.AmT
namespace Go.AmT
open Go Go.Am Go.Proofs
set_option linter.unusedVariables false
set_option maxRecDepth 100000
def tys25:List (Nat×TInfo):=[(3,⟨false,1,8,[.int .i64 0],.int .i64,0,some I,[],false⟩),
 (27,⟨false,1,24,[.nil],.slice,75,some (.sl IS),[],false⟩),
 (32,⟨false,1,24,[.nil],.slice,77,some (.sl tActor),[],false⟩),
 (34,⟨true,4,80,[.nil,.nil,.nil,.int .i64 0],.struct,0,some tState,[(0,32),(1,27),(2,27),(3,3)],false⟩),
 (37,⟨false,1,24,[.nil],.slice,53,some (.sl tProgram),[],false⟩),
 (38,⟨false,1,24,[.nil],.slice,81,some (.sl tLink),[],false⟩),
 (40,⟨true,2,48,[.nil,.nil],.struct,0,some tNetwork,[(0,37),(1,38)],false⟩),
 (53,⟨true,3,40,[.int .i64 0,.int .i64 0,.nil],.struct,0,some tProgram,[(0,3),(1,3),(2,51)],false⟩),
 (75,⟨false,1,24,[.nil],.slice,3,some IS,[],false⟩),
 (77,⟨true,2,32,[.int .i64 0,.nil],.struct,0,some tActor,[(0,3),(1,75)],false⟩),
 (81,⟨true,5,56,[.int .i64 0,.int .i64 0,.int .i64 0,.int .i64 0,.nil],.struct,0,some tLink,[(0,3),(1,3),(2,3),(3,3),(4,75)],false⟩)]
theorem tys25_ok:(tys25.all fun p=>tokB Tryz.prog p.1 p.2)=true:=by kernel_rfl
def iExpandState.las:List (Nat×LA):=[(1,⟨[(32,.bool)],[],[2,4,5,7,8],[]⟩),(5,⟨[(48,.bool)],[],[2,4,5,7,8],[]⟩),(16,⟨[(13,.vptr 1000 0),(72,.int .i64)],[(1000,.cells [] [.own 1001 tActor,.own 1002 IS,.own 1003 IS,.int .i64]),(1001,.row true tActor),(1002,.row true IS),(1003,.row true IS)],[7,8,11,70,71],[]⟩),(25,⟨[(13,.vptr 1000 0),(87,.int .i64)],[(1000,.cells [] [.own 1001 tActor,.own 1002 IS,.own 1003 IS,.int .i64]),(1001,.row true tActor),(1002,.row true IS),(1003,.row true IS)],[8,11,85,86],[]⟩),(30,⟨[(98,.bool)],[],[8,11,13,17,85,86,87],[]⟩)]
noncomputable def iExpandState.f (n:Nat) (a0:Network) (a1:State) (a2:Int) (a3:Network):Option (State×(Bool×Unit)):=cut (α:=(Bool×Unit)) ((iIsState.f n a0 a1).bind fun r3=>br (!r3.1) (some (.inr (true,()))) (br (decide (a2<0)) (some (.inr (true,()))) (some (.inr ((decide ((a1.1.length:Int)≤a2)),()))))) fun y2=>br y2.1 (some (([],([],([],0))),(false,()))) (chk (0≤a2∧a2<(a1.1.length:Int)) (let v4:=(a1.1.getD a2.toNat zActor); cut (α:=(Bool×Unit)) (br (!decide (v4.1=0)) (some (.inr (true,()))) ((equalI.f n v4.2 ([0,0,0,0]:List Int)).bind fun r7=>some (.inr ((!r7.1),())))) fun y6=>br y6.1 (some (([],([],([],0))),(false,()))) ((iExp.f n a0 a2 a3).bind fun r8=>br (!r8.2.1) (some (([],([],([],0))),(false,()))) ((copyState.f n a1).bind fun r9=>(delA.f n a2 (w64 (a2+1)) r9.1.1).bind fun r10=>iter (α:=(Int×(Int×(List Actor)×(List (List Int))×(List (List Int))×Unit))) n (fun ih30 x29=>br (decide (x29.1<(a3.1.length:Int))) (chk (0≤x29.1∧x29.1<(a3.1.length:Int)) (let v31:=(a3.1.getD x29.1.toNat zProgram); (iNewActor.f n v31).bind fun r32=>chk ((x29.2.2.1.length+([r32.1]:List Actor).length)*32≤maxB) (ih30 ((w64 (x29.1+1)),(x29.2.1,((x29.2.2.1++[r32.1]),(x29.2.2.2.1,(x29.2.2.2.2.1,())))))))) (iter (α:=(Int×(Int×(List Actor)×(List (List Int))×(List (List Int))×Unit))) n (fun ih54 x53=>br (decide (x53.1<(a3.2.length:Int))) (chk (0≤x53.1∧x53.1<(a3.2.length:Int)) (let v55:=(a3.2.getD x53.1.toNat zLink); cut (α:=(Bool×Unit)) (br (decide (0≤v55.1)) (some (.inr ((decide (0≤v55.2.2.1)),()))) (some (.inr (false,())))) fun y56=>br y56.1 ((cloneI.f n v55.2.2.2.2).bind fun r57=>chk ((x53.2.2.2.1.length+([r57.1]:List (List Int)).length)*24≤maxB) ((cloneI.f n v55.2.2.2.2).bind fun r58=>chk ((x53.2.2.2.2.1.length+([r58.1]:List (List Int)).length)*24≤maxB) (ih54 ((w64 (x53.1+1)),(x53.2.1,(x53.2.2.1,((x53.2.2.2.1++[r57.1]),((x53.2.2.2.2.1++[r58.1]),())))))))) (ih54 ((w64 (x53.1+1)),(x53.2.1,(x53.2.2.1,(x53.2.2.2.1,(x53.2.2.2.2.1,())))))))) ((iIsState.f n r8.1 (x53.2.2.1,(x53.2.2.2.1,(x53.2.2.2.2.1,x53.2.1)))).bind fun r59=>br (!r59.1) (some (([],([],([],0))),(false,()))) (some ((x53.2.2.1,(x53.2.2.2.1,(x53.2.2.2.2.1,x53.2.1))),(true,()))))) (0,(x29.2.1,(x29.2.2.1,(x29.2.2.2.1,(x29.2.2.2.2.1,()))))))) (0,(r9.1.2.2.2,(r10.1,(r9.1.2.1,(r9.1.2.2.1,())))))))))
noncomputable def iExpandState.mng (n:Nat):Mng:=⟨[.val tNetwork,.val tState,.val I,.val tNetwork],[.val tState,.val .bool],fun x=>iExpandState.f n x.1 x.2.1 x.2.2.1 x.2.2.2.1⟩
noncomputable def iExpandState.cfg (n:Nat):Cfg:=⟨tys25,[(44,iIsState.mng n),(45,equalI.mng n),(23,iExp.mng n),(46,copyState.mng n),(48,iNewActor.mng n),(49,cloneI.mng n)],[(47,delA.mng n)],[]⟩
theorem iExpandState.eq:∀ (n:Nat) (a0:Network) (a1:State) (a2:Int) (a3:Network),runF (iExpandState.cfg n) n Tryz.f10 (annOf Tryz.f10 iExpandState.las) [.val tNetwork,.val tState,.val I,.val tNetwork] [.val tState,.val .bool] (a0,(a1,(a2,(a3,()))))=iExpandState.f n a0 a1 a2 a3:=by
 intros
 kernel_rfl
theorem iExpandState.gof:GoF Tryz.prog 10:=⟨_,Tryz.func10,by kernel_rfl,by kernel_rfl⟩
theorem iExpandState.sound (n:Nat):Sound Tryz.prog 10 (iExpandState.mng n):=runF_sound (fn:=Tryz.f10) (m:=iExpandState.mng n) (c:=iExpandState.cfg n) (regOK mixed (opOK (.of (c:=iExpandState.cfg n) ⟨⟨iIsState.sound n,iIsState.gof⟩,⟨⟨equalI.sound n,equalI.gof⟩,⟨⟨iExp.sound n,iExp.gof⟩,⟨⟨copyState.sound n,copyState.gof⟩,⟨⟨iNewActor.sound n,iNewActor.gof⟩,⟨⟨cloneI.sound n,cloneI.gof⟩,trivial⟩⟩⟩⟩⟩⟩) (.of (c:=iExpandState.cfg n) ⟨⟨delA.sound n,delA.gof⟩,trivial⟩)) (tysOK tys25_ok)) (tysOK tys25_ok) Tryz.func10 (fun x=>(iExpandState.eq n x.1 x.2.1 x.2.2.1 x.2.2.2.1).symm)
end Go.AmT
namespace Go.AmT
open Go Go.Am
set_option linter.unusedVariables false
set_option linter.unusedSimpArgs false
theorem delA_spec {n j:Nat} {a:List Actor} (h:j<a.length) (hl:a.length≤12):delA.f n (j:Int) (w64 ((j:Int)+1)) a=some (rem j a,()):=by
 rw [w64_succ (by omega),← rem_erase]
 unfold delA.f delR
 have c:0≤(j:Int)∧((j+1:Nat):Int)=(j:Int)+1∧((j+1:Nat):Int)≤(List.length (α:=tA.T) a:Int):=by
  have e:List.length (α:=tA.T) a=a.length:=rfl
  rw [e]
  omega
 rw [if_pos c]
 rfl
theorem iExpandState_spec {n:Nat} {nt m:Network} {s:State} {k:Int} (h:SmallN nt) (hs:SmallSt s) (h':SmallN m) (hn:1048576<n):iExpandState.f n nt s k m=some (expS nt s k m):=by
 unfold iExpandState.f expS
 rw [iIsState_spec h hs hn]
 cases h2:okSt nt s
 ·rw [if_neg (by simp)]; rfl
 ·have o:OkSt nt s:=of_decide_eq_true h2
  have hna:=o.na
  have hp:=o.net.progs
  have hl:=o.net.links
  simp only [Option.bind_some,Bool.not_true,br_false]
  by_cases hk:0≤k∧k<(s.1.length:Int)
  rotate_left
  ·have hf:(expd nt k m).2.1=true→False:=fun h1=>by
    obtain ⟨j,rfl,T⟩:=expd_tm h1
    have:=T.lt
    exact hk ⟨by omega,by omega⟩
   rw [if_neg (fun h=>hf h.1)]
   by_cases h0:k<0
   ·rw [br_yes h0]; rfl
   ·rw [br_no h0,cut_inr]
    simp only
    rw [decide_eq_true (show (s.1.length:Int)≤k by omega)]; rfl
  ·obtain ⟨k,rfl⟩:∃ j:Nat,k=(j:Int):=⟨k.toNat,by omega⟩
   have hkl:k<s.1.length:=by omega
   rw [br_no (by omega),cut_inr]
   simp only
   rw [decide_eq_false (show ¬ (s.1.length:Int)≤(k:Int) by omega),br_false,chk_true hk,Int.toNat_natCast]
   have ha:=hs.actor (s.1.getD k zActor) (by rw [getD_lt hkl]; exact List.getElem_mem hkl)
   rw [equalI_spec ha hn]
   by_cases h3:s.1.getD k zActor=nA
   rotate_left
   ·rw [if_neg (fun h=>h3 h.2.2)]
    by_cases h4:(s.1.getD k zActor).1=0
    ·have h5:¬ (s.1.getD k zActor).2=[0,0,0,0]:=fun e=>h3 (Prod.ext h4 e)
     simp only [Option.bind_some]
     rw [decide_eq_true h4,decide_eq_false h5]; rfl
    ·rw [decide_eq_false h4]; rfl
   ·have h4:(s.1.getD k zActor).1=0:=by rw [h3]
    have h5:(s.1.getD k zActor).2=[0,0,0,0]:=by rw [h3]
    simp only [Option.bind_some]
    rw [decide_eq_true h4,decide_eq_true h5]
    simp only [Bool.not_true,br_false,cut_inr]
    rw [iExp_spec h h' hn]
    have hu:∀ x:Network×Bool×Unit,∀ f:(Network×Bool×Unit)→Option (State×(Bool×Unit)),(some x).bind f=f x:=fun _ _=>rfl
    rw [hu]
    cases h1:(expd nt k m).2.1
    ·rw [if_neg (by simp)]; rfl
    ·obtain ⟨j,hj,T⟩:=expd_tm h1
     obtain rfl:j=k:=by omega
     rw [if_pos ⟨rfl,trivial,h3⟩]
     simp only [Bool.not_true,br_false]
     rw [copyState_spec hs hn,bind_unit]
     dsimp only
     have hd:delA.f n (j:Int) (w64 ((j:Int)+1)) s.1=some (rem j s.1,()):=by
      exact delA_spec (by omega) (by omega)
     rw [hd,bind_unit]
     dsimp only
     have hp':=T.tn.progs
     have hl':=T.tn.links
     have hrl:(rem j s.1).length≤24:=by simp [rem]; omega
     refine push_loopE m.1 (fun _=>nA) (fun i t=>(i,(s.2.2.2,(rem j s.1++t,(s.2.1,(s.2.2.1,())))))) (fun ih i hi t ht=>?_) (fun ih=>?_) (by omega) |> fun e=>Eq.trans (by rw [List.append_nil]) e
     ·have c1:(i:Int)<(m.1.length:Int):=by omega
      have e1:m.1.getD i zProgram=m.1[i]:=getD_lt hi _
      show br (decide ((i:Int)<(m.1.length:Int))) _ _=_
      rw [br_yes c1,chk_true ⟨by omega,c1⟩]
      simp only [Int.toNat_natCast,e1]
      rw [iNewActor_specE (h'.prog _ (List.getElem_mem hi)) (T.tn.prog i hi) hn,Option.bind_some,small_chk (by simp; omega),w64_succ (by omega),List.append_assoc]
     ·show br (decide ((m.1.length:Int)<(m.1.length:Int))) _ _=_
      rw [br_no (Int.lt_irrefl _)]
      have hnq:=o.nq; have hns:=o.ns
      have hG:=expd_small (k:=(j:Int)) h h'
      have hS:=iIsState_spec (n:=n) hG (grown_small (k:=j) hs o T.tn h') hn
      unfold grown at hS ⊢
      refine Eq.trans (pushif_loop m.2.length (fun i=>innerL (m.2.getD i zLink)) (fun i=>(m.2.getD i zLink).2.2.2.2) (fun (i:Int) (t:List (List Int))=>(i,(s.2.2.2,(rem j s.1++m.1.map (fun _=>nA),(s.2.1++t,(s.2.2.1++t,())))))) (R:=fun t=>(iIsState.f n (expd nt j m).1 (rem j s.1++m.1.map (fun _=>nA),(s.2.1++t,(s.2.2.1++t,s.2.2.2)))).bind fun r87=>br (!r87.1) (some (([],([],([],0))),(false,()))) (some ((rem j s.1++m.1.map (fun _=>nA),(s.2.1++t,(s.2.2.1++t,s.2.2.2))),(true,())))) (fun ih i hi t ht=>?_) (fun ih t=>br_no (Int.lt_irrefl _)) (by omega)) ?_ |> fun e=>Eq.trans (by rw [List.append_nil,List.append_nil]) e
      ·have c1:(i:Int)<(m.2.length:Int):=by omega
       have e1:m.2.getD i zLink=m.2[i]:=getD_lt hi _
       have hm:=List.getElem_mem hi
       show br (decide ((i:Int)<(m.2.length:Int))) _ _=_
       rw [br_yes c1,chk_true ⟨by omega,c1⟩]
       simp only [Int.toNat_natCast,e1]
       rw [w64_succ (by omega),cloneI_spec (h'.link _ hm).tokens]
       simp only [Option.bind_some,innerL]
       by_cases f1:0≤m.2[i].1
       ·rw [br_yes f1]
        simp only [cut_inr,f1,decide_true,Bool.true_and]
        by_cases f2:0≤m.2[i].2.2.1
        ·rw [br_yes f2,if_pos (decide_eq_true f2),small_chk (by simp; omega),small_chk (by simp; omega),List.append_assoc,List.append_assoc]
        ·rw [br_no f2,if_neg (by simp [f2])]
       ·rw [br_no f1]
        simp only [cut_inr,f1,decide_false,Bool.false_and,br_false]; rfl
      ·rw [range_fm m.2 innerL (fun l=>l.2.2.2.2) zLink]
       unfold innT at hS ⊢
       rw [hS]
       simp only [Option.bind_some]
       cases okSt _ _<;>rfl
end Go.AmT
namespace Go.AmT
open Go Go.Am
set_option linter.unusedVariables false
set_option linter.unusedSimpArgs false
section
variable {nt:Network} {k:Nat} {ps:List Program} {fs:Nat→List Int→List Int} {s:State}
abbrev lateS (s:State) (k:Nat) (ps:List Program):State:=grown s k (mC ps)
theorem inn_nil (W:Grw nt k ps) (i:Nat):(innT (mC ps)).getD i []=[]:=by
 unfold innT
 rw [W.inn,List.map_map]
 by_cases h:i<ps.length-1
 ·rw [getD_lt (by simpa using h)]; simp
 ·rw [List.getD_eq_getElem?_getD,List.getElem?_eq_none (by simpa using h)]; rfl
theorem late_sent (o:OkSt nt s) {j:Nat} (hj:j<nt.2.length):sent (lateS s k ps) j=sent s j:=by
 unfold sent
 show (s.2.2.1++_).getD j []=_
 rw [List.getD_eq_getElem?_getD,List.getD_eq_getElem?_getD,List.getElem?_append_left (by rw [o.ns]; exact hj)]
theorem late_queue (o:OkSt nt s) {j:Nat} (hj:j<nt.2.length):queue (lateS s k ps) j=queue s j:=by
 unfold queue
 show (s.2.1++_).getD j []=_
 rw [List.getD_eq_getElem?_getD,List.getD_eq_getElem?_getD,List.getElem?_append_left (by rw [o.nq]; exact hj)]
theorem late_sentC (W:Grw nt k ps) (o:OkSt nt s) {j:Nat} (hj:nt.2.length≤j):sent (lateS s k ps) j=[]:=by
 unfold sent
 show (s.2.2.1++innT (mC ps)).getD j []=_
 rw [List.getD_eq_getElem?_getD,List.getElem?_append_right (by rw [o.ns]; exact hj),← List.getD_eq_getElem?_getD]
 exact inn_nil W _
theorem late_used (o:OkSt nt s) {j:Nat} (hj:j<nt.2.length):used (lateS s k ps) j=used s j:=by
 unfold used
 rw [late_sent o hj,late_queue o hj]
theorem late_usedC (W:Grw nt k ps) (o:OkSt nt s) {j:Nat} (hj:nt.2.length≤j):used (lateS s k ps) j=0:=by
 unfold used
 rw [late_sentC W o hj]; simp
theorem late_act (W:Grw nt k ps) (o:OkSt nt s) {j:Nat} (hj:j<nt.1.length) (hne:j≠k):actor (lateS s k ps) (rho k j)=actor s j:=
 rem_app (by rw [o.na]; exact W.hk) (by rw [o.na]; exact hj) hne _
theorem late_actC (W:Grw nt k ps) (o:OkSt nt s) {i:Nat} (hi:i<ps.length):actor (lateS s k ps) (nt.1.length-1+i)=newA:=by
 have:=rem_appC (k:=k) (i:=i) (a:=s.1) (b:=ps.map fun _=>nA) (by rw [o.na]; exact W.hk) zActor
 rw [o.na] at this
 refine Eq.trans this ?_
 rw [getD_lt (by simpa using hi),List.getElem_map]; rfl
theorem late_loc (W:Grw nt k ps) (U:Undo ps fs) (o:OkSt nt s) (ha:actor s k=newA):Loc nt k ps (lc nt s) (lc (gG nt k ps) (lateS s k ps)) (outF nt (sent s) k) (useF nt (used s) k):=by
 have hk:=W.hk
 refine ⟨fun j hj hne=>?_,by unfold lc; rw [ha],fun i hi=>?_⟩
 ·unfold lc
  rw [late_act W o hj hne]
  refine Prod.ext rfl (Prod.ext ?_ ?_)
  ·funext b
   show outF _ _ _ b=outF _ _ _ b
   unfold outF
   rw [W.prog hj hne]
   split
   ·rename_i hb
    have hl:=(lfr_spec W.o hj hb).1
    rw [W.lfr hj hne hb,W.toks hl,late_sent o hl]
   ·rfl
  ·funext b
   show useF _ _ _ b=useF _ _ _ b
   unfold useF
   rw [W.prog hj hne]
   split
   ·rename_i hb
    have hl:=(lto_spec W.o hj hb).1
    rw [W.lto hj hne hb,late_used o hl]
   ·rfl
 ·refine ⟨outF (gG nt k ps) (sent (lateS s k ps)) (nt.1.length-1+i),useF (gG nt k ps) (used (lateS s k ps)) (nt.1.length-1+i),?_,?_,?_⟩
  ·unfold lc
   rw [late_actC W o hi]
  ·unfold outF
   rw [W.progC,(U.ins i hi).2,if_pos (by decide)]
   by_cases hE:i+1=ps.length
   ·rw [if_pos hE,W.lfrE U.ins hE,W.toks W.lfrK.1,late_sent o W.lfrK.1,W.io.2,if_pos (by decide)]
   ·rw [if_neg hE,W.lfrS U.ins (by omega),late_sentC W o (by omega)]; simp
  ·unfold useF
   rw [W.progC,(U.ins i hi).1,if_pos (by decide)]
   cases i with
   | zero=>rw [if_pos rfl,W.lto0 U.ins,late_used o W.ltoK.1,W.io.1,if_pos (by decide)]
   | succ i=>rw [if_neg (show ¬ i+1=0 by omega),W.ltoS U.ins hi,late_usedC W o (by omega)]
theorem c0_loc:Loc nt k ps (fun _=>c0) (fun _=>c0) (fun _=>[]) (fun _=>0):=by
 refine ⟨fun _ _ _=>rfl,rfl,fun i _=>⟨fun _=>[],fun _=>0,rfl,?_,?_⟩⟩
 ·split<;>rfl
 ·split<;>rfl
theorem least_okT {g:List (List Int)} {r:Int} (e:leastP nt=some (g,r)) {j:Nat} (hj:j<nt.2.length):okT (atL g j)∧(atL g j).length≤400:=okT_of (least_okS e hj)
theorem grow_least (W:Grw nt k ps) (U:Undo ps fs) (hp:AmT.prog nt k=pThrough) {g h:List (List Int)} {r r':Int} (e:leastP nt=some (g,r)) (e':leastP (gG nt k ps)=some (h,r')) {j:Nat} (hj:j<nt.2.length):atL h j=atL g j:=by
 have up:=fix_up W U hp c0_loc (least_fix W.o e) (least_okT e W.ltoK.1).1
 have h1:=least_le W.og e' up j
 rw [if_pos hj] at h1
 have down:=fix_down W U hp c0_loc (least_fix W.og e') (least_okT e' (by rw [W.nL]; have:=W.ltoK.1; omega)).1
 have h2:=least_le W.o e down j
 exact h1.eq_of_length (Nat.le_antisymm h1.length_le h2.length_le)
theorem grow_run (W:Grw nt k ps) (U:Undo ps fs) (hp:AmT.prog nt k=pThrough) {g:List (List Int)} {r:Int} (e:leastP nt=some (g,r)) {g0 g1:State→Nat→Bool} {m0 m:Nat→Nat} {t:State} (S0:Steps nt g0 (start nt) s m0) (ha:actor s k=newA) (og:OkSt (gG nt k ps) (lateS s k ps))
  (S:Steps (gG nt k ps) g1 (lateS s k ps) t m) (hq:anyCan (gG nt k ps) t=false) (ht:t.2.2.2<20000) {j:Nat} (hj:j<nt.2.length):sent t j=atL g j:=by
 have o0:=start_ok W.o
 have o:OkSt nt s:=S0.ok o0
 have hF:=least_fix W.o e
 have hsub:=(S0.quiet_eq W.o e).1
 have F1:Fix nt (lc nt s) (atL g):=⟨hF.inp,fun q hq=>by
  obtain ⟨M,d,f1,f2⟩:=hF.run q hq
  have h1:=S0.run o0 q hq
  rw [lc_start hq] at h1
  obtain ⟨h2,h3,-⟩:=full_le f1 h1 (inF_mono hsub)
  exact ⟨M-m0 q,d,⟨h3,f1.2⟩,f2⟩⟩
 have up:=fix_up W U hp (late_loc W U o ha) F1 (least_okT e W.ltoK.1).1
 have h0:Sub (sent (lateS s k ps)) (fun j=>if j<nt.2.length then atL g j else thr fs (j-nt.2.length+1) ((atL g (AmT.lto nt k 0)).drop (useF nt (used s) k 0))):=by
  intro i
  by_cases h:i<nt.2.length
  ·rw [late_sent o h]; simp only [if_pos h]; exact hsub i
  ·rw [late_sentC W o (by omega)]; exact List.nil_prefix
 have hh:∀ i,i<(gG nt k ps).2.length→((fun j=>if j<nt.2.length then atL g j else thr fs (j-nt.2.length+1) ((atL g (AmT.lto nt k 0)).drop (useF nt (used s) k 0))) i).length≤400:=by
  intro i hi
  rcases W.link hi with h | ⟨q,hq,rfl⟩
  ·simp only [if_pos h]; exact (least_okT e h).2
  ·have h1:=(least_okT e W.ltoK.1).2
   dsimp only
   rw [if_neg (show ¬ nt.2.length+q<nt.2.length by omega),Nat.add_sub_cancel_left,U.len _ _ (by omega),List.length_drop]
   omega
 have h2:=S.under og up h0
 have hfull:=S.quiet_fix og up hh h0 hq ht
 have ot:=S.ok og
 have FG:Fix (gG nt k ps) (lc (gG nt k ps) (lateS s k ps)) (sent t):=⟨fun i hi h1=>sent_in ot hi h1,fun q hq=>⟨m q,lc (gG nt k ps) t q,hfull q hq,fun b hb=>sent_from ot hq hb⟩⟩
 have down:=fix_down W U hp (late_loc W U o ha) FG (okT_of (sent_ok ot)).1
 have hst:Sub (sent s) (sent t):=fun i=>by
  by_cases h:i<nt.2.length
  ·rw [← late_sent (k:=k) (ps:=ps) o h]; exact S.sub og i
  ·rw [sent_big o (by omega)]; exact List.nil_prefix
 have F0:Fix nt (fun _=>c0) (sent t):=⟨down.inp,fun q hq=>by
  obtain ⟨M,d,f1,f2⟩:=down.run q hq
  have h1:=S0.run o0 q hq
  rw [lc_start hq] at h1
  refine ⟨m0 q+M,d,⟨?_,f1.2⟩,f2⟩
  rw [lrun_add,lrun_mono (inF_mono hst) h1,Option.bind_some]
  exact f1.1⟩
 have h3:=least_le W.o e F0 j
 have h4:=h2 j
 simp only [if_pos hj] at h4
 exact h4.eq_of_length (Nat.le_antisymm h4.length_le h3.length_le)
theorem rch_steps (R:Rch nt s):∃ m,Steps nt (fun _ _=>true) (start nt) s m:=
 R (fun s=>∃ m,Steps nt (fun _ _=>true) (start nt) s m) ⟨_,.refl⟩ (fun s q ⟨m,S⟩ hq hc=>⟨_,S.step hq rfl hc⟩)
end
end Go.AmT
namespace Go.AmT
open Go Go.Am Go.Proofs
set_option linter.unusedVariables false
set_option maxRecDepth 100000
def tys26:List (Nat×TInfo):=[(3,⟨false,1,8,[.int .i64 0],.int .i64,0,some I,[],false⟩),
 (4,⟨false,1,1,[.bool false],.bool,0,some .bool,[],false⟩),
 (9,⟨false,1,16,[.str []],.str,0,some .str,[],false⟩),
 (27,⟨false,1,24,[.nil],.slice,75,some (.sl IS),[],false⟩),
 (34,⟨true,4,80,[.nil,.nil,.nil,.int .i64 0],.struct,0,some tState,[(0,32),(1,27),(2,27),(3,3)],false⟩),
 (37,⟨false,1,24,[.nil],.slice,53,some (.sl tProgram),[],false⟩),
 (40,⟨true,2,48,[.nil,.nil],.struct,0,some tNetwork,[(0,37),(1,38)],false⟩),
 (48,⟨false,1,24,[.nil],.slice,5,some (.sl U8),[],false⟩),
 (51,⟨false,1,24,[.nil],.slice,103,some (.sl tInstr),[],false⟩),
 (53,⟨true,3,40,[.int .i64 0,.int .i64 0,.nil],.struct,0,some tProgram,[(0,3),(1,3),(2,51)],false⟩),
 (56,⟨false,1,24,[.nil],.slice,9,some (.sl .str),[],false⟩),
 (57,⟨false,1,24,[.nil],.slice,56,some (.sl (.sl .str)),[],false⟩),
 (75,⟨false,1,24,[.nil],.slice,3,some IS,[],false⟩),
 (103,⟨true,4,32,[.int .i64 0,.int .i64 0,.int .i64 0,.int .i64 0],.struct,0,some tInstr,[(0,3),(1,3),(2,3),(3,3)],false⟩)]
theorem tys26_ok:(tys26.all fun p=>tokB Tryz.prog p.1 p.2)=true:=by kernel_rfl
def iSampleProgram3.las:List (Nat×LA):=[]
def iSampleProgram3.la:LA:=⟨[(0,.int .i64),(1,.int .i64),(2,.own 0 tInstr)],[(0,.row true tInstr)],[],[]⟩
def iSampleProgram3.lb:LA:=⟨[(0,.agg [.int .i64,.int .i64,.own 1000 tInstr])],[(1000,.row true tInstr)],[],[]⟩
noncomputable def iSampleProgram3.f (n:Nat) (a0:Int) (a1:Int) (a2:List Instr):Option (Int×(Int×(List Instr)×Unit)):=chk ((a2.length+([(8,(0,(0,0)))]:List Instr).length)*32≤maxB) (some (a0,(a1,((a2++[(8,(0,(0,0)))]),()))))
noncomputable def iSampleProgram3.mng (n:Nat):LMng:=⟨iSampleProgram3.la,iSampleProgram3.lb,fun x=>iSampleProgram3.f n x.1 x.2.1 x.2.2.1⟩
noncomputable def iSampleProgram3.cfg (n:Nat):Cfg:=⟨tys26,[],[],[]⟩
theorem iSampleProgram3.eq:∀ (n:Nat) (a0:Int) (a1:Int) (a2:List Instr) (mp:Mp),LMng.run (iSampleProgram3.cfg n) n Tryz.f69 (annOf Tryz.f69 iSampleProgram3.las) iSampleProgram3.la iSampleProgram3.lb (a0,(a1,(a2,mp)))=iSampleProgram3.f n a0 a1 a2:=by
 intros
 kernel_rfl
theorem iSampleProgram3.gof:GoF Tryz.prog 69:=⟨_,Tryz.func69,by kernel_rfl,by kernel_rfl⟩
theorem iSampleProgram3.sound (n:Nat):LSound Tryz.prog 69 (iSampleProgram3.mng n):=runL_sound (fn:=Tryz.f69) (M:=iSampleProgram3.mng n) (c:=iSampleProgram3.cfg n) (regOK mixed (opOK (.of (c:=iSampleProgram3.cfg n) trivial) (.of (c:=iSampleProgram3.cfg n) trivial)) (tysOK tys26_ok)) (tysOK tys26_ok) Tryz.func69 (fun x=>(iSampleProgram3.eq n x.1 x.2.1 x.2.2.1 x.2.2.2).symm)
def iSampleProgram1.las:List (Nat×LA):=[]
noncomputable def iSampleProgram1.f (n:Nat) (a0:Int) (a1:Int):Option (Instr×Unit):=some ((1,(a0,(a1,0))),())
noncomputable def iSampleProgram1.mng (n:Nat):Mng:=⟨[.val I,.val I],[.val tInstr],fun x=>iSampleProgram1.f n x.1 x.2.1⟩
noncomputable def iSampleProgram1.cfg (n:Nat):Cfg:=⟨tys26,[],[],[]⟩
theorem iSampleProgram1.eq:∀ (n:Nat) (a0:Int) (a1:Int),runF (iSampleProgram1.cfg n) n Tryz.f67 (annOf Tryz.f67 iSampleProgram1.las) [.val I,.val I] [.val tInstr] (a0,(a1,()))=iSampleProgram1.f n a0 a1:=by
 intros
 kernel_rfl
theorem iSampleProgram1.gof:GoF Tryz.prog 67:=⟨_,Tryz.func67,by kernel_rfl,by kernel_rfl⟩
theorem iSampleProgram1.sound (n:Nat):Sound Tryz.prog 67 (iSampleProgram1.mng n):=runF_sound (fn:=Tryz.f67) (m:=iSampleProgram1.mng n) (c:=iSampleProgram1.cfg n) (regOK mixed (opOK (.of (c:=iSampleProgram1.cfg n) trivial) (.of (c:=iSampleProgram1.cfg n) trivial)) (tysOK tys26_ok)) (tysOK tys26_ok) Tryz.func67 (fun x=>(iSampleProgram1.eq n x.1 x.2.1).symm)
def iSampleProgram2.las:List (Nat×LA):=[]
noncomputable def iSampleProgram2.f (n:Nat) (a0:Int) (a1:Int):Option (Instr×Unit):=some ((2,(a0,(a1,0))),())
noncomputable def iSampleProgram2.mng (n:Nat):Mng:=⟨[.val I,.val I],[.val tInstr],fun x=>iSampleProgram2.f n x.1 x.2.1⟩
noncomputable def iSampleProgram2.cfg (n:Nat):Cfg:=⟨tys26,[],[],[]⟩
theorem iSampleProgram2.eq:∀ (n:Nat) (a0:Int) (a1:Int),runF (iSampleProgram2.cfg n) n Tryz.f68 (annOf Tryz.f68 iSampleProgram2.las) [.val I,.val I] [.val tInstr] (a0,(a1,()))=iSampleProgram2.f n a0 a1:=by
 intros
 kernel_rfl
theorem iSampleProgram2.gof:GoF Tryz.prog 68:=⟨_,Tryz.func68,by kernel_rfl,by kernel_rfl⟩
theorem iSampleProgram2.sound (n:Nat):Sound Tryz.prog 68 (iSampleProgram2.mng n):=runF_sound (fn:=Tryz.f68) (m:=iSampleProgram2.mng n) (c:=iSampleProgram2.cfg n) (regOK mixed (opOK (.of (c:=iSampleProgram2.cfg n) trivial) (.of (c:=iSampleProgram2.cfg n) trivial)) (tysOK tys26_ok)) (tysOK tys26_ok) Tryz.func68 (fun x=>(iSampleProgram2.eq n x.1 x.2.1).symm)
def iSampleProgram.las:List (Nat×LA):=[]
noncomputable def iSampleProgram.f (n:Nat) (a0:List UInt8):Option (Program×Unit):=br (decide (a0=([116,104,114,111,117,103,104]:List UInt8))) ((iSampleProgram1.f n 0 0).bind fun r1=>(iSampleProgram2.f n 0 0).bind fun r2=>(iSampleProgram3.f n 1 1 ([r1.1,r2.1]:List Instr)).bind fun r3=>some ((r3.1,(r3.2.1,r3.2.2.1)),())) (br (decide (a0=([99,111,112,121]:List UInt8))) ((iSampleProgram1.f n 0 0).bind fun r4=>(iSampleProgram2.f n 0 0).bind fun r5=>(iSampleProgram2.f n 0 1).bind fun r6=>(iSampleProgram3.f n 1 2 ([r4.1,r5.1,r6.1]:List Instr)).bind fun r7=>some ((r7.1,(r7.2.1,r7.2.2.1)),())) (br (decide (a0=([115,105,110,107]:List UInt8))) ((iSampleProgram1.f n 0 0).bind fun r8=>(iSampleProgram3.f n 1 0 ([r8.1]:List Instr)).bind fun r9=>some ((r9.1,(r9.2.1,r9.2.2.1)),())) (br (decide (a0=([97,100,100]:List UInt8))) ((iSampleProgram1.f n 0 0).bind fun r10=>(iSampleProgram1.f n 1 1).bind fun r11=>(iSampleProgram2.f n 0 0).bind fun r12=>(iSampleProgram3.f n 2 1 ([r10.1,r11.1,(4,(0,(0,1))),r12.1]:List Instr)).bind fun r13=>some ((r13.1,(r13.2.1,r13.2.2.1)),())) (br (decide (a0=([97,108,116,101,114,110,97,116,101]:List UInt8))) ((iSampleProgram1.f n 0 0).bind fun r14=>(iSampleProgram2.f n 0 0).bind fun r15=>(iSampleProgram1.f n 0 1).bind fun r16=>(iSampleProgram2.f n 0 0).bind fun r17=>(iSampleProgram3.f n 2 1 ([r14.1,r15.1,r16.1,r17.1]:List Instr)).bind fun r18=>some ((r18.1,(r18.2.1,r18.2.2.1)),())) (br (decide (a0=([115,112,108,105,116]:List UInt8))) ((iSampleProgram1.f n 0 0).bind fun r19=>(iSampleProgram2.f n 0 0).bind fun r20=>(iSampleProgram1.f n 0 0).bind fun r21=>(iSampleProgram2.f n 0 1).bind fun r22=>(iSampleProgram3.f n 1 2 ([r19.1,r20.1,r21.1,r22.1]:List Instr)).bind fun r23=>some ((r23.1,(r23.2.1,r23.2.2.1)),())) (br (decide (a0=([115,117,109,115]:List UInt8))) ((iSampleProgram1.f n 1 0).bind fun r24=>(iSampleProgram2.f n 0 0).bind fun r25=>(iSampleProgram3.f n 1 1 ([r24.1,(4,(0,(0,1))),r25.1]:List Instr)).bind fun r26=>some ((r26.1,(r26.2.1,r26.2.2.1)),())) (br (decide (a0=([115,116,101,112,115]:List UInt8))) ((iSampleProgram1.f n 1 0).bind fun r27=>(iSampleProgram2.f n 2 0).bind fun r28=>(iSampleProgram3.f n 1 1 ([r27.1,(5,(2,(1,0))),r28.1,(3,(3,(0,0))),(4,(0,(1,3)))]:List Instr)).bind fun r29=>some ((r29.1,(r29.2.1,r29.2.2.1)),())) (br (decide (a0=([116,119,105,99,101]:List UInt8))) ((iSampleProgram1.f n 0 0).bind fun r30=>(iSampleProgram2.f n 0 0).bind fun r31=>(iSampleProgram2.f n 0 0).bind fun r32=>(iSampleProgram3.f n 1 1 ([r30.1,r31.1,r32.1]:List Instr)).bind fun r33=>some ((r33.1,(r33.2.1,r33.2.2.1)),())) (br (decide (a0=([99,111,117,110,116]:List UInt8))) ((iSampleProgram2.f n 0 0).bind fun r34=>(iSampleProgram3.f n 0 1 ([r34.1,(3,(1,(1,0))),(4,(0,(0,1)))]:List Instr)).bind fun r35=>some ((r35.1,(r35.2.1,r35.2.2.1)),())) (br (decide (a0=([112,105,99,107]:List UInt8))) ((iSampleProgram1.f n 0 0).bind fun r36=>(iSampleProgram1.f n 1 2).bind fun r37=>(iSampleProgram1.f n 1 1).bind fun r38=>(iSampleProgram2.f n 1 0).bind fun r39=>(iSampleProgram3.f n 3 1 ([r36.1,(9,(0,(4,0))),r37.1,(8,(0,(5,0))),r38.1,r39.1]:List Instr)).bind fun r40=>some ((r40.1,(r40.2.1,r40.2.2.1)),())) (some ((0,(0,[])),()))))))))))))
noncomputable def iSampleProgram.mng (n:Nat):Mng:=⟨[.val .str],[.val tProgram],fun x=>iSampleProgram.f n x.1⟩
noncomputable def iSampleProgram.cfg (n:Nat):Cfg:=⟨tys26,[(67,iSampleProgram1.mng n),(68,iSampleProgram2.mng n)],[(69,iSampleProgram3.mng n)],[]⟩
theorem iSampleProgram.eq:∀ (n:Nat) (a0:List UInt8),runF (iSampleProgram.cfg n) n Tryz.f20 (annOf Tryz.f20 iSampleProgram.las) [.val .str] [.val tProgram] (a0,())=iSampleProgram.f n a0:=by
 intros
 kernel_rfl
theorem iSampleProgram.gof:GoF Tryz.prog 20:=⟨_,Tryz.func20,by kernel_rfl,by kernel_rfl⟩
theorem iSampleProgram.sound (n:Nat):Sound Tryz.prog 20 (iSampleProgram.mng n):=runF_sound (fn:=Tryz.f20) (m:=iSampleProgram.mng n) (c:=iSampleProgram.cfg n) (regOK mixed (opOK (.of (c:=iSampleProgram.cfg n) ⟨⟨iSampleProgram1.sound n,iSampleProgram1.gof⟩,⟨⟨iSampleProgram2.sound n,iSampleProgram2.gof⟩,trivial⟩⟩) (.of (c:=iSampleProgram.cfg n) ⟨⟨iSampleProgram3.sound n,iSampleProgram3.gof⟩,trivial⟩)) (tysOK tys26_ok)) (tysOK tys26_ok) Tryz.func20 (fun x=>(iSampleProgram.eq n x.1).symm)
def law.las:List (Nat×LA):=[(17,⟨[(7,.own 1000 tProgram),(73,.int .i64)],[(1000,.row true tProgram)],[0,3,4,71,72],[]⟩),(25,⟨[(96,.bool)],[],[0,3,4,10],[]⟩),(30,⟨[(117,.bool)],[],[0,3,4,10,12,13,15],[]⟩),(36,⟨[(154,.bool)],[],[0,3,4,10,12,16,18,19,21],[]⟩),(39,⟨[(160,.bool)],[],[0,3,4,10,12,16,19],[]⟩),(49,⟨[],[],[16,19],[]⟩)]
noncomputable def law.f (n:Nat) (a0:List Int):Option (Bool×Unit):=br (decide (1048576<(a0.length:Int))) (some (true,())) ((makeNetwork.f n a0 5).bind fun r1=>(lawAt.f n a0 1).bind fun r2=>if (w64 ((r1.1.1.length:Int)+1))=0 then none else br (decide ((r2.1.tmod (w64 ((r1.1.1.length:Int)+1)))=(r1.1.1.length:Int))) (some (true,())) ((sSampleProgram.f n ([116,104,114,111,117,103,104]:List UInt8)).bind fun r3=>chk (0≤(r2.1.tmod (w64 ((r1.1.1.length:Int)+1)))∧(r2.1.tmod (w64 ((r1.1.1.length:Int)+1)))<(r1.1.1.length:Int)) (let v4:=(r1.1.1.getD (r2.1.tmod (w64 ((r1.1.1.length:Int)+1))).toNat zProgram); (fmtProgram.f n v4).bind fun r5=>(fmtProgram.f n r3.1).bind fun r6=>br (!decide (r5.1=r6.1)) (some (true,())) ((lawAt.f n a0 2).bind fun r7=>br (decide ((r7.1.tmod 5)=4)) (iter (α:=(Int×(List Program)×Unit)) n (fun ih27 x26=>br (decide (x26.1<3)) (br (decide (x26.1=2)) ((iSampleProgram.f n ([115,116,101,112,115]:List UInt8)).bind fun r28=>chk ((x26.2.1.length+([r28.1]:List Program).length)*40≤maxB) (ih27 ((w64 (x26.1+1)),((x26.2.1++[r28.1]),())))) (br (decide (x26.1=1)) ((iSampleProgram.f n ([116,104,114,111,117,103,104]:List UInt8)).bind fun r29=>chk ((x26.2.1.length+([r29.1]:List Program).length)*40≤maxB) (ih27 ((w64 (x26.1+1)),((x26.2.1++[r29.1]),())))) (br (decide (x26.1=0)) ((iSampleProgram.f n ([115,117,109,115]:List UInt8)).bind fun r30=>chk ((x26.2.1.length+([r30.1]:List Program).length)*40≤maxB) (ih27 ((w64 (x26.1+1)),((x26.2.1++[r30.1]),())))) (none)))) ((iChain.f n x26.2.1 ([]:List Int)).bind fun r31=>cut (α:=(Bool×Unit)) (br (!r31.2.1) (some (.inr (true,()))) ((iIsTemplate.f n r1.1 (r2.1.tmod (w64 ((r1.1.1.length:Int)+1))) r31.1).bind fun r34=>some (.inr ((!r34.1),())))) fun y33=>br y33.1 (some (false,())) ((iExp.f n r1.1 (r2.1.tmod (w64 ((r1.1.1.length:Int)+1))) r31.1).bind fun r35=>(sExpandNetwork.f n r1.1 (r2.1.tmod (w64 ((r1.1.1.length:Int)+1))) r31.1).bind fun r36=>cut (α:=(Bool×Unit)) (br (!decide (r35.2.1=r36.2.1)) (some (.inr (true,()))) (some (.inr ((!r35.2.1),())))) fun y37=>br y37.1 (some ((decide (r35.2.1=r36.2.1)),())) ((sLeast.f n r1.1).bind fun r38=>(iLeast.f n r35.1).bind fun r39=>(sLeast.f n r35.1).bind fun r40=>cut (α:=(Bool×Unit)) (br (!decide (r39.2.2.1=r40.2.2.1)) (some (.inr (true,()))) (br r39.2.2.1 (br r38.2.2.1 (some (.inr ((decide ((r39.1.length:Int)<(r38.1.length:Int))),()))) (some (.inr (false,())))) (some (.inr (false,()))))) fun y41=>br y41.1 (some (false,())) (cut (α:=(Bool×Unit)) (br (!r38.2.2.1) (some (.inr (true,()))) (some (.inr ((!r39.2.2.1),())))) fun y42=>br y42.1 (some (true,())) ((fresh.f n a0 3).bind fun r43=>(makeState.f n r43.1 r1.1 40).bind fun r44=>(iExpandState.f n r1.1 r44.1 (r2.1.tmod (w64 ((r1.1.1.length:Int)+1))) r31.1).bind fun r45=>(sExpandStateL.f n r1.1.1 r1.1.2 r44.1.1 r44.1.2.1 r44.1.2.2.1 r44.1.2.2.2 (r2.1.tmod (w64 ((r1.1.1.length:Int)+1))) r31.1.1 r31.1.2).bind fun r46=>br (!decide (r45.2.1=r46.2.1)) (some (false,())) (cut (α:=(Unit)) (br r45.2.1 ((iRunTurns.f n r35.1 r45.1 20000).bind fun r50=>br (!r50.2.1) (some (.inl (false,()))) (br (decide ((r50.1.2.2.1.length:Int)<(r38.1.length:Int))) (some (.inl (false,()))) (br (decide (r50.1.2.2.2<20000)) (chk ((0:Int)≤0∧(0:Int)≤(r38.1.length:Int)∧(r38.1.length:Int)≤(r50.1.2.2.1.length:Int)) ((makeEqual.f n ((r50.1.2.2.1.drop 0).take ((r38.1.length:Int).toNat-0)) r38.1).bind fun r51=>br (!r51.1) (some (.inl (false,()))) (some (.inr ())))) (some (.inr ()))))) (some (.inr ()))) fun y49=>chk ((0:Int)≤0∧(0:Int)≤(r38.1.length:Int)∧(r38.1.length:Int)≤(r39.1.length:Int)) ((makeEqual.f n ((r39.1.drop 0).take ((r38.1.length:Int).toNat-0)) r38.1).bind fun r52=>some (r52.1,()))))))))) (0,([],()))) (br (decide ((r7.1.tmod 5)=3)) (iter (α:=(Int×(List Program)×Unit)) n (fun ih54 x53=>br (decide (x53.1<2)) (br (decide (x53.1=1)) ((iSampleProgram.f n ([115,117,109,115]:List UInt8)).bind fun r55=>chk ((x53.2.1.length+([r55.1]:List Program).length)*40≤maxB) (ih54 ((w64 (x53.1+1)),((x53.2.1++[r55.1]),())))) (br (decide (x53.1=0)) ((iSampleProgram.f n ([115,116,101,112,115]:List UInt8)).bind fun r56=>chk ((x53.2.1.length+([r56.1]:List Program).length)*40≤maxB) (ih54 ((w64 (x53.1+1)),((x53.2.1++[r56.1]),())))) (none))) ((iChain.f n x53.2.1 ([]:List Int)).bind fun r57=>cut (α:=(Bool×Unit)) (br (!r57.2.1) (some (.inr (true,()))) ((iIsTemplate.f n r1.1 (r2.1.tmod (w64 ((r1.1.1.length:Int)+1))) r57.1).bind fun r59=>some (.inr ((!r59.1),())))) fun y58=>br y58.1 (some (false,())) ((iExp.f n r1.1 (r2.1.tmod (w64 ((r1.1.1.length:Int)+1))) r57.1).bind fun r60=>(sExpandNetwork.f n r1.1 (r2.1.tmod (w64 ((r1.1.1.length:Int)+1))) r57.1).bind fun r61=>cut (α:=(Bool×Unit)) (br (!decide (r60.2.1=r61.2.1)) (some (.inr (true,()))) (some (.inr ((!r60.2.1),())))) fun y62=>br y62.1 (some ((decide (r60.2.1=r61.2.1)),())) ((sLeast.f n r1.1).bind fun r63=>(iLeast.f n r60.1).bind fun r64=>(sLeast.f n r60.1).bind fun r65=>cut (α:=(Bool×Unit)) (br (!decide (r64.2.2.1=r65.2.2.1)) (some (.inr (true,()))) (br r64.2.2.1 (br r63.2.2.1 (some (.inr ((decide ((r64.1.length:Int)<(r63.1.length:Int))),()))) (some (.inr (false,())))) (some (.inr (false,()))))) fun y66=>br y66.1 (some (false,())) (cut (α:=(Bool×Unit)) (br (!r63.2.2.1) (some (.inr (true,()))) (some (.inr ((!r64.2.2.1),())))) fun y67=>br y67.1 (some (true,())) ((fresh.f n a0 3).bind fun r68=>(makeState.f n r68.1 r1.1 40).bind fun r69=>(iExpandState.f n r1.1 r69.1 (r2.1.tmod (w64 ((r1.1.1.length:Int)+1))) r57.1).bind fun r70=>(sExpandStateL.f n r1.1.1 r1.1.2 r69.1.1 r69.1.2.1 r69.1.2.2.1 r69.1.2.2.2 (r2.1.tmod (w64 ((r1.1.1.length:Int)+1))) r57.1.1 r57.1.2).bind fun r71=>br (!decide (r70.2.1=r71.2.1)) (some (false,())) (cut (α:=(Unit)) (br r70.2.1 ((iRunTurns.f n r60.1 r70.1 20000).bind fun r73=>br (!r73.2.1) (some (.inl (false,()))) (br (decide ((r73.1.2.2.1.length:Int)<(r63.1.length:Int))) (some (.inl (false,()))) (br (decide (r73.1.2.2.2<20000)) (chk ((0:Int)≤0∧(0:Int)≤(r63.1.length:Int)∧(r63.1.length:Int)≤(r73.1.2.2.1.length:Int)) ((makeEqual.f n ((r73.1.2.2.1.drop 0).take ((r63.1.length:Int).toNat-0)) r63.1).bind fun r74=>br (!r74.1) (some (.inl (false,()))) (some (.inr ())))) (some (.inr ()))))) (some (.inr ()))) fun y72=>chk ((0:Int)≤0∧(0:Int)≤(r63.1.length:Int)∧(r63.1.length:Int)≤(r64.1.length:Int)) ((makeEqual.f n ((r64.1.drop 0).take ((r63.1.length:Int).toNat-0)) r63.1).bind fun r75=>some (r75.1,()))))))))) (0,([],()))) (br (decide ((r7.1.tmod 5)=2)) (iter (α:=(Int×(List Program)×Unit)) n (fun ih77 x76=>br (decide (x76.1<2)) (br (decide (x76.1=1)) ((iSampleProgram.f n ([115,116,101,112,115]:List UInt8)).bind fun r78=>chk ((x76.2.1.length+([r78.1]:List Program).length)*40≤maxB) (ih77 ((w64 (x76.1+1)),((x76.2.1++[r78.1]),())))) (br (decide (x76.1=0)) ((iSampleProgram.f n ([115,117,109,115]:List UInt8)).bind fun r79=>chk ((x76.2.1.length+([r79.1]:List Program).length)*40≤maxB) (ih77 ((w64 (x76.1+1)),((x76.2.1++[r79.1]),())))) (none))) ((iChain.f n x76.2.1 ([]:List Int)).bind fun r80=>cut (α:=(Bool×Unit)) (br (!r80.2.1) (some (.inr (true,()))) ((iIsTemplate.f n r1.1 (r2.1.tmod (w64 ((r1.1.1.length:Int)+1))) r80.1).bind fun r82=>some (.inr ((!r82.1),())))) fun y81=>br y81.1 (some (false,())) ((iExp.f n r1.1 (r2.1.tmod (w64 ((r1.1.1.length:Int)+1))) r80.1).bind fun r83=>(sExpandNetwork.f n r1.1 (r2.1.tmod (w64 ((r1.1.1.length:Int)+1))) r80.1).bind fun r84=>cut (α:=(Bool×Unit)) (br (!decide (r83.2.1=r84.2.1)) (some (.inr (true,()))) (some (.inr ((!r83.2.1),())))) fun y85=>br y85.1 (some ((decide (r83.2.1=r84.2.1)),())) ((sLeast.f n r1.1).bind fun r86=>(iLeast.f n r83.1).bind fun r87=>(sLeast.f n r83.1).bind fun r88=>cut (α:=(Bool×Unit)) (br (!decide (r87.2.2.1=r88.2.2.1)) (some (.inr (true,()))) (br r87.2.2.1 (br r86.2.2.1 (some (.inr ((decide ((r87.1.length:Int)<(r86.1.length:Int))),()))) (some (.inr (false,())))) (some (.inr (false,()))))) fun y89=>br y89.1 (some (false,())) (cut (α:=(Bool×Unit)) (br (!r86.2.2.1) (some (.inr (true,()))) (some (.inr ((!r87.2.2.1),())))) fun y90=>br y90.1 (some (true,())) ((fresh.f n a0 3).bind fun r91=>(makeState.f n r91.1 r1.1 40).bind fun r92=>(iExpandState.f n r1.1 r92.1 (r2.1.tmod (w64 ((r1.1.1.length:Int)+1))) r80.1).bind fun r93=>(sExpandStateL.f n r1.1.1 r1.1.2 r92.1.1 r92.1.2.1 r92.1.2.2.1 r92.1.2.2.2 (r2.1.tmod (w64 ((r1.1.1.length:Int)+1))) r80.1.1 r80.1.2).bind fun r94=>br (!decide (r93.2.1=r94.2.1)) (some (false,())) (cut (α:=(Unit)) (br r93.2.1 ((iRunTurns.f n r83.1 r93.1 20000).bind fun r96=>br (!r96.2.1) (some (.inl (false,()))) (br (decide ((r96.1.2.2.1.length:Int)<(r86.1.length:Int))) (some (.inl (false,()))) (br (decide (r96.1.2.2.2<20000)) (chk ((0:Int)≤0∧(0:Int)≤(r86.1.length:Int)∧(r86.1.length:Int)≤(r96.1.2.2.1.length:Int)) ((makeEqual.f n ((r96.1.2.2.1.drop 0).take ((r86.1.length:Int).toNat-0)) r86.1).bind fun r97=>br (!r97.1) (some (.inl (false,()))) (some (.inr ())))) (some (.inr ()))))) (some (.inr ()))) fun y95=>chk ((0:Int)≤0∧(0:Int)≤(r86.1.length:Int)∧(r86.1.length:Int)≤(r87.1.length:Int)) ((makeEqual.f n ((r87.1.drop 0).take ((r86.1.length:Int).toNat-0)) r86.1).bind fun r98=>some (r98.1,()))))))))) (0,([],()))) (br (decide ((r7.1.tmod 5)=1)) (iter (α:=(Int×(List Program)×Unit)) n (fun ih100 x99=>br (decide (x99.1<2)) (br (decide (x99.1=1)) ((iSampleProgram.f n ([116,104,114,111,117,103,104]:List UInt8)).bind fun r101=>chk ((x99.2.1.length+([r101.1]:List Program).length)*40≤maxB) (ih100 ((w64 (x99.1+1)),((x99.2.1++[r101.1]),())))) (br (decide (x99.1=0)) ((iSampleProgram.f n ([116,104,114,111,117,103,104]:List UInt8)).bind fun r102=>chk ((x99.2.1.length+([r102.1]:List Program).length)*40≤maxB) (ih100 ((w64 (x99.1+1)),((x99.2.1++[r102.1]),())))) (none))) ((iChain.f n x99.2.1 ([]:List Int)).bind fun r103=>cut (α:=(Bool×Unit)) (br (!r103.2.1) (some (.inr (true,()))) ((iIsTemplate.f n r1.1 (r2.1.tmod (w64 ((r1.1.1.length:Int)+1))) r103.1).bind fun r105=>some (.inr ((!r105.1),())))) fun y104=>br y104.1 (some (false,())) ((iExp.f n r1.1 (r2.1.tmod (w64 ((r1.1.1.length:Int)+1))) r103.1).bind fun r106=>(sExpandNetwork.f n r1.1 (r2.1.tmod (w64 ((r1.1.1.length:Int)+1))) r103.1).bind fun r107=>cut (α:=(Bool×Unit)) (br (!decide (r106.2.1=r107.2.1)) (some (.inr (true,()))) (some (.inr ((!r106.2.1),())))) fun y108=>br y108.1 (some ((decide (r106.2.1=r107.2.1)),())) ((sLeast.f n r1.1).bind fun r109=>(iLeast.f n r106.1).bind fun r110=>(sLeast.f n r106.1).bind fun r111=>cut (α:=(Bool×Unit)) (br (!decide (r110.2.2.1=r111.2.2.1)) (some (.inr (true,()))) (br r110.2.2.1 (br r109.2.2.1 (some (.inr ((decide ((r110.1.length:Int)<(r109.1.length:Int))),()))) (some (.inr (false,())))) (some (.inr (false,()))))) fun y112=>br y112.1 (some (false,())) (cut (α:=(Bool×Unit)) (br (!r109.2.2.1) (some (.inr (true,()))) (some (.inr ((!r110.2.2.1),())))) fun y113=>br y113.1 (some (true,())) ((fresh.f n a0 3).bind fun r114=>(makeState.f n r114.1 r1.1 40).bind fun r115=>(iExpandState.f n r1.1 r115.1 (r2.1.tmod (w64 ((r1.1.1.length:Int)+1))) r103.1).bind fun r116=>(sExpandStateL.f n r1.1.1 r1.1.2 r115.1.1 r115.1.2.1 r115.1.2.2.1 r115.1.2.2.2 (r2.1.tmod (w64 ((r1.1.1.length:Int)+1))) r103.1.1 r103.1.2).bind fun r117=>br (!decide (r116.2.1=r117.2.1)) (some (false,())) (cut (α:=(Unit)) (br r116.2.1 ((iRunTurns.f n r106.1 r116.1 20000).bind fun r119=>br (!r119.2.1) (some (.inl (false,()))) (br (decide ((r119.1.2.2.1.length:Int)<(r109.1.length:Int))) (some (.inl (false,()))) (br (decide (r119.1.2.2.2<20000)) (chk ((0:Int)≤0∧(0:Int)≤(r109.1.length:Int)∧(r109.1.length:Int)≤(r119.1.2.2.1.length:Int)) ((makeEqual.f n ((r119.1.2.2.1.drop 0).take ((r109.1.length:Int).toNat-0)) r109.1).bind fun r120=>br (!r120.1) (some (.inl (false,()))) (some (.inr ())))) (some (.inr ()))))) (some (.inr ()))) fun y118=>chk ((0:Int)≤0∧(0:Int)≤(r109.1.length:Int)∧(r109.1.length:Int)≤(r110.1.length:Int)) ((makeEqual.f n ((r110.1.drop 0).take ((r109.1.length:Int).toNat-0)) r109.1).bind fun r121=>some (r121.1,()))))))))) (0,([],()))) (br (decide ((r7.1.tmod 5)=0)) (iter (α:=(Int×(List Program)×Unit)) n (fun ih123 x122=>br (decide (x122.1<1)) (br (decide (x122.1=0)) ((iSampleProgram.f n ([116,104,114,111,117,103,104]:List UInt8)).bind fun r124=>chk ((x122.2.1.length+([r124.1]:List Program).length)*40≤maxB) (ih123 ((w64 (x122.1+1)),((x122.2.1++[r124.1]),())))) (none)) ((iChain.f n x122.2.1 ([]:List Int)).bind fun r125=>cut (α:=(Bool×Unit)) (br (!r125.2.1) (some (.inr (true,()))) ((iIsTemplate.f n r1.1 (r2.1.tmod (w64 ((r1.1.1.length:Int)+1))) r125.1).bind fun r127=>some (.inr ((!r127.1),())))) fun y126=>br y126.1 (some (false,())) ((iExp.f n r1.1 (r2.1.tmod (w64 ((r1.1.1.length:Int)+1))) r125.1).bind fun r128=>(sExpandNetwork.f n r1.1 (r2.1.tmod (w64 ((r1.1.1.length:Int)+1))) r125.1).bind fun r129=>cut (α:=(Bool×Unit)) (br (!decide (r128.2.1=r129.2.1)) (some (.inr (true,()))) (some (.inr ((!r128.2.1),())))) fun y130=>br y130.1 (some ((decide (r128.2.1=r129.2.1)),())) ((sLeast.f n r1.1).bind fun r131=>(iLeast.f n r128.1).bind fun r132=>(sLeast.f n r128.1).bind fun r133=>cut (α:=(Bool×Unit)) (br (!decide (r132.2.2.1=r133.2.2.1)) (some (.inr (true,()))) (br r132.2.2.1 (br r131.2.2.1 (some (.inr ((decide ((r132.1.length:Int)<(r131.1.length:Int))),()))) (some (.inr (false,())))) (some (.inr (false,()))))) fun y134=>br y134.1 (some (false,())) (cut (α:=(Bool×Unit)) (br (!r131.2.2.1) (some (.inr (true,()))) (some (.inr ((!r132.2.2.1),())))) fun y135=>br y135.1 (some (true,())) ((fresh.f n a0 3).bind fun r136=>(makeState.f n r136.1 r1.1 40).bind fun r137=>(iExpandState.f n r1.1 r137.1 (r2.1.tmod (w64 ((r1.1.1.length:Int)+1))) r125.1).bind fun r138=>(sExpandStateL.f n r1.1.1 r1.1.2 r137.1.1 r137.1.2.1 r137.1.2.2.1 r137.1.2.2.2 (r2.1.tmod (w64 ((r1.1.1.length:Int)+1))) r125.1.1 r125.1.2).bind fun r139=>br (!decide (r138.2.1=r139.2.1)) (some (false,())) (cut (α:=(Unit)) (br r138.2.1 ((iRunTurns.f n r128.1 r138.1 20000).bind fun r141=>br (!r141.2.1) (some (.inl (false,()))) (br (decide ((r141.1.2.2.1.length:Int)<(r131.1.length:Int))) (some (.inl (false,()))) (br (decide (r141.1.2.2.2<20000)) (chk ((0:Int)≤0∧(0:Int)≤(r131.1.length:Int)∧(r131.1.length:Int)≤(r141.1.2.2.1.length:Int)) ((makeEqual.f n ((r141.1.2.2.1.drop 0).take ((r131.1.length:Int).toNat-0)) r131.1).bind fun r142=>br (!r142.1) (some (.inl (false,()))) (some (.inr ())))) (some (.inr ()))))) (some (.inr ()))) fun y140=>chk ((0:Int)≤0∧(0:Int)≤(r131.1.length:Int)∧(r131.1.length:Int)≤(r132.1.length:Int)) ((makeEqual.f n ((r132.1.drop 0).take ((r131.1.length:Int).toNat-0)) r131.1).bind fun r143=>some (r143.1,()))))))))) (0,([],()))) (none)))))))))
noncomputable def law.mng (n:Nat):Mng:=⟨[.val (.sl U8)],[.val .bool],fun x=>law.f n x.1⟩
noncomputable def law.cfg (n:Nat):Cfg:=⟨tys26,[(16,makeNetwork.mng n),(17,lawAt.mng n),(18,sSampleProgram.mng n),(19,fmtProgram.mng n),(20,iSampleProgram.mng n),(21,iChain.mng n),(22,iIsTemplate.mng n),(23,iExp.mng n),(24,sExpandNetwork.mng n),(25,sLeast.mng n),(26,iLeast.mng n),(28,fresh.mng n),(27,makeState.mng n),(10,iExpandState.mng n),(29,iRunTurns.mng n),(30,makeEqual.mng n)],[(7,sExpandStateL.mng n)],[2000062,2000071,2000072]⟩
theorem law.eq:∀ (n:Nat) (a0:List Int),runF (law.cfg n) n Tryz.f4 (annOf Tryz.f4 law.las) [.val (.sl U8)] [.val .bool] (a0,())=law.f n a0:=by
 intros
 kernel_rfl
theorem law.sound (n:Nat):Sound Tryz.prog 4 (law.mng n):=runF_sound (fn:=Tryz.f4) (m:=law.mng n) (c:=law.cfg n) (regOK mixed (opOK (.of (c:=law.cfg n) ⟨⟨makeNetwork.sound n,makeNetwork.gof⟩,⟨⟨lawAt.sound n,lawAt.gof⟩,⟨⟨sSampleProgram.sound n,sSampleProgram.gof⟩,⟨⟨fmtProgram.sound n,fmtProgram.gof⟩,⟨⟨iSampleProgram.sound n,iSampleProgram.gof⟩,⟨⟨iChain.sound n,iChain.gof⟩,⟨⟨iIsTemplate.sound n,iIsTemplate.gof⟩,⟨⟨iExp.sound n,iExp.gof⟩,⟨⟨sExpandNetwork.sound n,sExpandNetwork.gof⟩,⟨⟨sLeast.sound n,sLeast.gof⟩,⟨⟨iLeast.sound n,iLeast.gof⟩,⟨⟨fresh.sound n,fresh.gof⟩,⟨⟨makeState.sound n,makeState.gof⟩,⟨⟨iExpandState.sound n,iExpandState.gof⟩,⟨⟨iRunTurns.sound n,iRunTurns.gof⟩,⟨⟨makeEqual.sound n,makeEqual.gof⟩,trivial⟩⟩⟩⟩⟩⟩⟩⟩⟩⟩⟩⟩⟩⟩⟩⟩) (.of (c:=law.cfg n) ⟨⟨sExpandStateL.sound n,sExpandStateL.gof⟩,trivial⟩)) (tysOK tys26_ok)) (tysOK tys26_ok) Tryz.func4 (fun x=>(law.eq n x.1).symm)
end Go.AmT
