/- The lines of a desk as texts, in plain Lean. -/
import Derived.Test.YtfoamipegmbcgaaGreatDoorMDkF11
import Derived.Lib.Replace
import Derived.Test.YtfoamipegmbcgaaGreatDoorMDkF13
import Derived.Test.YtfoamipegmbcgaaGreatDoorAmE
import Derived.WalkKit
import Derived.Test.YtfoamipegmbcgaaGreatDoorMDkF5
namespace Go.AmT
open Go Go.Am
set_option linter.unusedVariables false
set_option linter.unusedSimpArgs false
def sub1 (a b:UInt8) (s:List UInt8):List UInt8:=s.map fun c=>if c=a then b else c
theorem replK_eq (a b:UInt8):∀ s:List UInt8,Lib.replaceK [a] [b] (Lib.count s [a]) s=sub1 a b s
 | []=>by rw [Lib.count_miss (by simp [Lib.index])]; rfl
 | x::xs=>by
  by_cases h:x=a
  ·subst h
   have hix:Lib.index (x::xs) [x]=((0:Nat):Int):=by rw [Lib.index]; simp [List.isPrefixOf]
   rw [Lib.count_cons_eq,Nat.add_comm,Lib.replaceK_hit _ _ _ _ 0 hix]
   have ih:=replK_eq x b xs
   simp only [List.take_zero,List.nil_append,List.length_singleton,Nat.zero_add,List.drop_one,List.tail_cons]
   rw [ih]
   unfold sub1
   rw [List.map_cons,if_pos rfl]; rfl
  ·rw [Lib.count_cons_ne x a xs h]
   have ih:=replK_eq a b xs
   have e:sub1 a b (x::xs)=x::sub1 a b xs:=by unfold sub1; rw [List.map_cons,if_neg h]
   have hp:([a]:List UInt8).isPrefixOf (x::xs)=false:=by simp [List.isPrefixOf,Ne.symm h]
   have hix:Lib.index (x::xs) [a]=if Lib.index xs [a]==-1 then -1 else Lib.index xs [a]+1:=by rw [Lib.index,hp]; simp
   rw [e]
   by_cases hm:Lib.index xs [a] = -1
   ·rw [Lib.count_miss hm] at ih ⊢
    rw [← ih]; rfl
   ·have hge:=Lib.index_ge xs [a]
    obtain ⟨j,hj⟩:∃ j:Nat,Lib.index xs [a]=j:=⟨(Lib.index xs [a]).toNat,by omega⟩
    have hix':Lib.index (x::xs) [a]=((j+1:Nat):Int):=by rw [hix,if_neg (fun e=>hm (beq_iff_eq.1 e)),hj]; omega
    rw [Lib.count_hit (by simp) hj,Nat.add_comm] at ih ⊢
    rw [Lib.replaceK_hit _ _ _ _ (j+1) hix',← ih,Lib.replaceK_hit _ _ _ _ j hj]
    simp
theorem repl_one {a b:UInt8} (h:a≠b) (s:List UInt8):Lib.replaceAll s [a] [b]=sub1 a b s:=by
 unfold Lib.replaceAll Lib.replace Lib.replaceNum
 rw [if_neg (by simp [h]),if_pos (.inl (by decide))]
 exact replK_eq a b s
theorem sub1_len (a b:UInt8) (s:List UInt8):(sub1 a b s).length=s.length:=by simp [sub1]
theorem sub_back {a b:UInt8} {s:List UInt8} (h:b∉s):sub1 b a (sub1 a b s)=s:=by
 unfold sub1
 rw [List.map_map]
 conv=>rhs; rw [← List.map_id s]
 refine List.map_congr_left (fun c hc=>?_)
 show (if (if c=a then b else c)=b then a else if c=a then b else c)=c
 by_cases h1:c=a
 ·rw [if_pos h1,if_pos rfl,h1]
 ·rw [if_neg h1,if_neg (fun e=>h (by rw [← e]; exact hc))]
theorem count_le (a:UInt8):∀ s:List UInt8,Lib.count s [a]≤s.length
 | []=>by rw [Lib.count_miss (by simp [Lib.index])]; simp
 | x::xs=>by
  have ih:=count_le a xs
  by_cases h:x=a
  ·subst h
   rw [Lib.count_cons_eq,List.length_cons]; omega
  ·rw [Lib.count_cons_ne x a xs h,List.length_cons]; omega
def lo (l:List UInt8):Prop:=∀ c∈l,c.toNat≤122
theorem lo_app {a b:List UInt8} (ha:lo a) (hb:lo b):lo (a++b):=fun c hc=>by
 rcases List.mem_append.1 hc with h | h
 ·exact ha c h
 ·exact hb c h
theorem lo_flat {α:Type} {g:α→List UInt8} {l:List α} (h:∀ x∈l,lo (g x)):lo (l.map g).flatten:=fun c hc=>by
 obtain ⟨t,ht,hc⟩:=List.mem_flatten.1 hc
 obtain ⟨x,hx,rfl⟩:=List.mem_map.1 ht
 exact h x hx c hc
theorem lo_itoa {x:Int} (h:smI x):lo (Lib.itoa x):=fun c hc=>by
 rcases itoa_mem h.1 h.2 c hc with e | e
 ·rw [e]; decide
 ·omega
theorem lo_opw {op:Int} (h:1≤op∧op≤11):lo (opw op):=by
 unfold lo
 rcases op_cases h with rfl | rfl | rfl | rfl | rfl | rfl | rfl | rfl | rfl | rfl | rfl<;>decide
theorem lo_sp {x:Int} (h:smI x):lo (spD x):=lo_app (by unfold lo; decide) (lo_itoa h)
theorem lo_nil:lo []:=fun _ h=>by cases h
theorem lo_txtI {x:Instr} (O:OkI x):lo (txtI x):=by
 unfold txtI
 refine lo_app (lo_opw O.op) ?_
 split
 ·exact lo_app (lo_sp O.a) (lo_sp O.b)
 ·split
  ·exact lo_app (lo_sp O.a) (lo_app (lo_sp O.b) (lo_sp O.c))
  ·split
   ·exact lo_sp O.b
   ·exact lo_nil
theorem lo_txtP {p:Program} (h:okP p=true):lo (txtP p):=by
 obtain ⟨h1,h2,h3,h4⟩:=okP_all h
 have hi:=okP_instr h
 unfold txtP
 rw [semi_eq hi]
 refine lo_app (lo_app (lo_app (lo_itoa ⟨by omega,by omega⟩) (by unfold lo; decide)) (lo_itoa ⟨by omega,by omega⟩)) (lo_flat fun x hx=>?_)
 exact lo_app (a:=[59]) (by unfold lo; decide) (lo_txtI (okI_all (hi x hx) (by omega) (by omega) (by omega)))
theorem lo_txtS {s:List Int} (h:∀ y∈s,tok y=true):lo (txtS s):=fun c hc=>by
 rcases Nat.lt_or_ge 122 c.toNat with h1 | h1
 ·refine absurd hc (txtS_mem h (fun e=>?_) (fun e=>?_) (fun e=>?_) (by omega))
  ·rw [e] at h1; exact absurd h1 (by decide)
  ·rw [e] at h1; exact absurd h1 (by decide)
  ·rw [e] at h1; exact absurd h1 (by decide)
 ·exact h1
theorem lo_txtN {nt:Network} (o:OkN nt):lo (txtN nt):=by
 unfold txtN
 refine lo_app (lo_flat fun i hi=>?_) (lo_flat fun i hi=>?_)
 ·have hi:=List.mem_range.1 hi
  have ho:=okP_at o hi
  unfold lineP fmtP
  rw [if_pos ho]
  exact lo_app (lo_app (by unfold lo; decide) (lo_txtP ho)) (by unfold lo; decide)
 ·have hi:=List.mem_range.1 hi
  have B:=lnk_bd o hi
  obtain ⟨a,b,c,d,t⟩:=B
  unfold lineL
  rw [fmtS_txt t]
  have t1:∀ y∈(nt.2.getD i zLink).2.2.2.2,tok y=true:=(okS_bd t).2
  have sp:lo [32]:=by unfold lo; decide
  exact lo_app (lo_app (lo_app (lo_app (lo_app (lo_app (lo_app (lo_app (lo_app (lo_app (by unfold lo; decide) (lo_itoa ⟨by omega,by omega⟩)) sp) (lo_itoa ⟨by omega,by omega⟩)) sp) (lo_itoa ⟨by omega,by omega⟩)) sp) (lo_itoa ⟨by omega,by omega⟩)) sp) (lo_txtS t1)) (by unfold lo; decide)
theorem bar_not {nt:Network} (o:OkN nt):(124:UInt8)∉txtN nt:=fun h=>absurd (lo_txtN o _ h) (by decide)
noncomputable def txtLoad (nt:Network):List UInt8:=[108,111,97,100,32]++sub1 10 124 (txtN nt)
theorem load_back {nt:Network} (o:OkN nt):Lib.replaceAll (sub1 10 124 (txtN nt)) [124] [10]=txtN nt:=by
 rw [repl_one (by decide),sub_back (bar_not o)]
end Go.AmT
namespace Go.AmT
open Go Go.Am Go.Proofs
set_option linter.unusedVariables false
set_option maxRecDepth 100000
abbrev tDesk:Ty:=(.pair tNetwork (.pair tState IS))
abbrev Desk:Type:=Network×(State×List Int)
def tys29:List (Nat×TInfo):=[(3,⟨false,1,8,[.int .i64 0],.int .i64,0,some I,[],false⟩),
 (9,⟨false,1,16,[.str []],.str,0,some .str,[],false⟩),
 (26,⟨true,2,48,[.nil,.nil],.struct,0,some tNetwork,[(0,23),(1,24)],false⟩),
 (31,⟨true,4,80,[.nil,.nil,.nil,.int .i64 0],.struct,0,some tState,[(0,28),(1,29),(2,29),(3,3)],false⟩),
 (32,⟨false,1,24,[.nil],.slice,3,some IS,[],false⟩),
 (34,⟨true,7,152,[.nil,.nil,.nil,.nil,.nil,.int .i64 0,.nil],.struct,0,some tDesk,[(0,26),(2,31),(6,32)],false⟩),
 (48,⟨false,1,24,[.nil],.slice,9,some (.sl .str),[],false⟩)]
theorem tys29_ok:(tys29.all fun p=>tokB Tryz.prog p.1 p.2)=true:=by kernel_rfl
def iNewDesk.las:List (Nat×LA):=[]
noncomputable def iNewDesk.f (n:Nat)  : Option (Desk×Unit):=some ((([],[]),(([],([],([],0))),[])),())
noncomputable def iNewDesk.mng (n:Nat):Mng:=⟨[],[.sh tDesk],fun x=>iNewDesk.f n ⟩
noncomputable def iNewDesk.cfg (n:Nat):Cfg:=⟨tys29,[],[],[]⟩
theorem iNewDesk.gof:GoF Tryz.prog 7:=⟨_,Tryz.func7,by kernel_rfl,by kernel_rfl⟩
theorem iNewDesk.sound (n:Nat):Sound Tryz.prog 7 (iNewDesk.mng n):=sndF (c:=iNewDesk.cfg n) (n:=n) (an:=annOf Tryz.f7 iNewDesk.las) trivial trivial (tysOK tys29_ok) Tryz.func7 (fun x=>by kernel_rfl)
def iIsDesk.las:List (Nat×LA):=[]
noncomputable def iIsDesk.f (n:Nat) (a0:Desk):Option (Bool×Unit):=(iIsState.f n a0.1 a0.2.1).bind fun r1=>br r1.1 ((iAre.f n a0.1 a0.2.2).bind fun r2=>some (r2.1,())) (some (false,()))
noncomputable def iIsDesk.mng (n:Nat):Mng:=⟨[.val tDesk],[.val .bool],fun x=>iIsDesk.f n x.1⟩
noncomputable def iIsDesk.cfg (n:Nat):Cfg:=⟨tys29,[(38,iIsState.mng n),(61,iAre.mng n)],[],[]⟩
theorem iIsDesk.gof:GoF Tryz.prog 27:=⟨_,Tryz.func27,by kernel_rfl,by kernel_rfl⟩
theorem iIsDesk.sound (n:Nat):Sound Tryz.prog 27 (iIsDesk.mng n):=sndF (c:=iIsDesk.cfg n) (n:=n) (an:=annOf Tryz.f27 iIsDesk.las) ⟨⟨iIsState.sound n,iIsState.gof⟩,⟨⟨iAre.sound n,iAre.gof⟩,trivial⟩⟩ trivial (tysOK tys29_ok) Tryz.func27 (fun x=>by kernel_rfl)
def iCopyDesk.las:List (Nat×LA):=[]
noncomputable def iCopyDesk.f (n:Nat) (a0:Desk):Option (Desk×Unit):=(iCopyNetwork.f n a0.1).bind fun r1=>(copyState.f n a0.2.1).bind fun r2=>(cloneI.f n a0.2.2).bind fun r3=>some ((r1.1,(r2.1,r3.1)),())
noncomputable def iCopyDesk.mng (n:Nat):Mng:=⟨[.val tDesk],[.sh tDesk],fun x=>iCopyDesk.f n x.1⟩
noncomputable def iCopyDesk.cfg (n:Nat):Cfg:=⟨tys29,[(62,iCopyNetwork.mng n),(63,copyState.mng n),(64,cloneI.mng n)],[],[]⟩
theorem iCopyDesk.gof:GoF Tryz.prog 28:=⟨_,Tryz.func28,by kernel_rfl,by kernel_rfl⟩
theorem iCopyDesk.sound (n:Nat):Sound Tryz.prog 28 (iCopyDesk.mng n):=sndF (c:=iCopyDesk.cfg n) (n:=n) (an:=annOf Tryz.f28 iCopyDesk.las) ⟨⟨iCopyNetwork.sound n,iCopyNetwork.gof⟩,⟨⟨copyState.sound n,copyState.gof⟩,⟨⟨cloneI.sound n,cloneI.gof⟩,trivial⟩⟩⟩ trivial (tysOK tys29_ok) Tryz.func28 (fun x=>by kernel_rfl)
def iLoaded.las:List (Nat×LA):=[]
noncomputable def iLoaded.f (n:Nat) (a0:Network) (a1:Bool):Option (Desk×(List UInt8)×(Bool×Unit)):=br (!a1) (some ((([],[]),(([],([],([],0))),[])),([],(false,())))) ((iStartState.f n a0).bind fun r1=>(iUni.f n a0 0).bind fun r2=>some ((a0,(r1.1,r2.1)),([111,107],(true,()))))
noncomputable def iLoaded.mng (n:Nat):Mng:=⟨[.val tNetwork,.val .bool],[.sh tDesk,.val .str,.val .bool],fun x=>iLoaded.f n x.1 x.2.1⟩
noncomputable def iLoaded.cfg (n:Nat):Cfg:=⟨tys29,[(114,iStartState.mng n),(16,iUni.mng n)],[],[]⟩
theorem iLoaded.gof:GoF Tryz.prog 66:=⟨_,Tryz.func66,by kernel_rfl,by kernel_rfl⟩
theorem iLoaded.sound (n:Nat):Sound Tryz.prog 66 (iLoaded.mng n):=sndF (c:=iLoaded.cfg n) (n:=n) (an:=annOf Tryz.f66 iLoaded.las) ⟨⟨iStartState.sound n,iStartState.gof⟩,⟨⟨iUni.sound n,iUni.gof⟩,trivial⟩⟩ trivial (tysOK tys29_ok) Tryz.func66 (fun x=>by kernel_rfl)
def hasPreL.las:List (Nat×LA):=[]
noncomputable def hasPreL.f (n:Nat) (a0:List UInt8) (a1:List UInt8):Option (Bool×Unit):=br (decide ((a1.length:Int)≤(a0.length:Int))) (chk ((0:Int)≤0∧(0:Int)≤(a1.length:Int)∧(a1.length:Int)≤(a0.length:Int)) (some ((decide (((a0.take (a1.length:Int).toNat).drop 0)=a1)),()))) (some (false,()))
noncomputable def hasPreL.mng (n:Nat):Mng:=⟨[.val .str,.val .str],[.val .bool],fun x=>hasPreL.f n x.1 x.2.1⟩
noncomputable def hasPreL.cfg (n:Nat):Cfg:=⟨tys29,[],[],[]⟩
theorem hasPreL.gof:GoF Tryz.prog 158:=⟨_,Tryz.func158,by kernel_rfl,by kernel_rfl⟩
theorem hasPreL.sound (n:Nat):Sound Tryz.prog 158 (hasPreL.mng n):=sndF (c:=hasPreL.cfg n) (n:=n) (an:=annOf Tryz.f158 hasPreL.las) trivial trivial (tysOK tys29_ok) Tryz.func158 (fun x=>by kernel_rfl)
def cutPreL.las:List (Nat×LA):=[]
noncomputable def cutPreL.f (n:Nat) (a0:List UInt8) (a1:List UInt8):Option ((List UInt8)×(Bool×Unit)):=(hasPreL.f n a0 a1).bind fun r1=>br (!r1.1) (some (a0,(false,()))) (chk (0≤(a1.length:Int)∧(a1.length:Int)≤(a0.length:Int)∧(a0.length:Int)≤(a0.length:Int)) (some (((a0.take (a0.length:Int).toNat).drop (a1.length:Int).toNat),(true,()))))
noncomputable def cutPreL.mng (n:Nat):Mng:=⟨[.val .str,.val .str],[.val .str,.val .bool],fun x=>cutPreL.f n x.1 x.2.1⟩
noncomputable def cutPreL.cfg (n:Nat):Cfg:=⟨tys29,[(158,hasPreL.mng n)],[],[]⟩
theorem cutPreL.gof:GoF Tryz.prog 113:=⟨_,Tryz.func113,by kernel_rfl,by kernel_rfl⟩
theorem cutPreL.sound (n:Nat):Sound Tryz.prog 113 (cutPreL.mng n):=sndF (c:=cutPreL.cfg n) (n:=n) (an:=annOf Tryz.f113 cutPreL.las) ⟨⟨hasPreL.sound n,hasPreL.gof⟩,trivial⟩ trivial (tysOK tys29_ok) Tryz.func113 (fun x=>by kernel_rfl)
def cutPre.las:List (Nat×LA):=[]
noncomputable def cutPre.f (n:Nat) (a0:List UInt8) (a1:List UInt8):Option ((List UInt8)×(Bool×Unit)):=(cutPreL.f n a0 a1).bind fun r1=>some (r1.1,(r1.2.1,()))
noncomputable def cutPre.mng (n:Nat):Mng:=⟨[.val .str,.val .str],[.val .str,.val .bool],fun x=>cutPre.f n x.1 x.2.1⟩
noncomputable def cutPre.cfg (n:Nat):Cfg:=⟨tys29,[(113,cutPreL.mng n)],[],[]⟩
theorem cutPre.gof:GoF Tryz.prog 65:=⟨_,Tryz.func65,by kernel_rfl,by kernel_rfl⟩
theorem cutPre.sound (n:Nat):Sound Tryz.prog 65 (cutPre.mng n):=sndF (c:=cutPre.cfg n) (n:=n) (an:=annOf Tryz.f65 cutPre.las) ⟨⟨cutPreL.sound n,cutPreL.gof⟩,trivial⟩ trivial (tysOK tys29_ok) Tryz.func65 (fun x=>by kernel_rfl)
def trimPreL.las:List (Nat×LA):=[]
noncomputable def trimPreL.f (n:Nat) (a0:List UInt8) (a1:List UInt8):Option ((List UInt8)×Unit):=(hasPreL.f n a0 a1).bind fun r1=>br r1.1 (chk (0≤(a1.length:Int)∧(a1.length:Int)≤(a0.length:Int)∧(a0.length:Int)≤(a0.length:Int)) (some (((a0.take (a0.length:Int).toNat).drop (a1.length:Int).toNat),()))) (some (a0,()))
noncomputable def trimPreL.mng (n:Nat):Mng:=⟨[.val .str,.val .str],[.val .str],fun x=>trimPreL.f n x.1 x.2.1⟩
noncomputable def trimPreL.cfg (n:Nat):Cfg:=⟨tys29,[(158,hasPreL.mng n)],[],[]⟩
theorem trimPreL.gof:GoF Tryz.prog 171:=⟨_,Tryz.func171,by kernel_rfl,by kernel_rfl⟩
theorem trimPreL.sound (n:Nat):Sound Tryz.prog 171 (trimPreL.mng n):=sndF (c:=trimPreL.cfg n) (n:=n) (an:=annOf Tryz.f171 trimPreL.las) ⟨⟨hasPreL.sound n,hasPreL.gof⟩,trivial⟩ trivial (tysOK tys29_ok) Tryz.func171 (fun x=>by kernel_rfl)
def trimPre.las:List (Nat×LA):=[]
noncomputable def trimPre.f (n:Nat) (a0:List UInt8) (a1:List UInt8):Option ((List UInt8)×Unit):=(trimPreL.f n a0 a1).bind fun r1=>some (r1.1,())
noncomputable def trimPre.mng (n:Nat):Mng:=⟨[.val .str,.val .str],[.val .str],fun x=>trimPre.f n x.1 x.2.1⟩
noncomputable def trimPre.cfg (n:Nat):Cfg:=⟨tys29,[(171,trimPreL.mng n)],[],[]⟩
theorem trimPre.gof:GoF Tryz.prog 123:=⟨_,Tryz.func123,by kernel_rfl,by kernel_rfl⟩
theorem trimPre.sound (n:Nat):Sound Tryz.prog 123 (trimPre.mng n):=sndF (c:=trimPre.cfg n) (n:=n) (an:=annOf Tryz.f123 trimPre.las) ⟨⟨trimPreL.sound n,trimPreL.gof⟩,trivial⟩ trivial (tysOK tys29_ok) Tryz.func123 (fun x=>by kernel_rfl)
def iIntegers.las:List (Nat×LA):=[(4,⟨[(4,.own 1000 I),(12,.int .i64)],[(1000,.row true I)],[10,11],[]⟩),(10,⟨[(28,.bool)],[],[4,7,10,11,12],[]⟩)]
noncomputable def iIntegers.f (n:Nat) (a0:List (List UInt8)):Option ((List Int)×(Bool×Unit)):=iter (α:=(Int×(List Int)×Unit)) n (fun ih10 x9=>br (decide (x9.1<(a0.length:Int))) (chk (0≤x9.1∧x9.1<(a0.length:Int)) ((iNumber.f n (a0.getD x9.1.toNat [])).bind fun r11=>cut (α:=(Bool×Unit)) (br (!r11.2.1) (some (.inr (true,()))) ((trimPre.f n (a0.getD x9.1.toNat []) ([45]:List UInt8)).bind fun r14=>some (.inr ((decide (9<(r14.1.length:Int))),())))) fun y13=>br y13.1 (some ([],(false,()))) (chk ((x9.2.1.length+([r11.1]:List Int).length)*8≤maxB) (ih10 ((w64 (x9.1+1)),((x9.2.1++[r11.1]),())))))) (some (x9.2.1,(true,())))) (0,([],()))
noncomputable def iIntegers.mng (n:Nat):Mng:=⟨[.val (.sl .str)],[.val IS,.val .bool],fun x=>iIntegers.f n x.1⟩
noncomputable def iIntegers.cfg (n:Nat):Cfg:=⟨tys29,[(122,iNumber.mng n),(123,trimPre.mng n)],[],[]⟩
theorem iIntegers.gof:GoF Tryz.prog 70:=⟨_,Tryz.func70,by kernel_rfl,by kernel_rfl⟩
theorem iIntegers.sound (n:Nat):Sound Tryz.prog 70 (iIntegers.mng n):=sndF (c:=iIntegers.cfg n) (n:=n) (an:=annOf Tryz.f70 iIntegers.las) ⟨⟨iNumber.sound n,iNumber.gof⟩,⟨⟨trimPre.sound n,trimPre.gof⟩,trivial⟩⟩ trivial (tysOK tys29_ok) Tryz.func70 (fun x=>by kernel_rfl)
end Go.AmT
namespace Go.AmT
open Go Go.Am Go.Proofs Go.RowKit
set_option linter.unusedVariables false
set_option maxRecDepth 100000
def tys30:List (Nat×TInfo):=[(3,⟨false,1,8,[.int .i64 0],.int .i64,0,some I,[],false⟩),
 (9,⟨false,1,16,[.str []],.str,0,some .str,[],false⟩),
 (24,⟨false,1,24,[.nil],.slice,71,some (.sl tLink),[],false⟩),
 (26,⟨true,2,48,[.nil,.nil],.struct,0,some tNetwork,[(0,23),(1,24)],false⟩),
 (29,⟨false,1,24,[.nil],.slice,32,some (.sl IS),[],false⟩),
 (31,⟨true,4,80,[.nil,.nil,.nil,.int .i64 0],.struct,0,some tState,[(0,28),(1,29),(2,29),(3,3)],false⟩),
 (32,⟨false,1,24,[.nil],.slice,3,some IS,[],false⟩),
 (34,⟨true,7,152,[.nil,.nil,.nil,.nil,.nil,.int .i64 0,.nil],.struct,0,some tDesk,[(0,26),(2,31),(6,32)],false⟩),
 (48,⟨false,1,24,[.nil],.slice,9,some (.sl .str),[],false⟩)]
theorem tys30_ok:(tys30.all fun p=>tokB Tryz.prog p.1 p.2)=true:=by kernel_rfl
noncomputable def replC.f (n:Nat) (a0:List UInt8) (a1:List UInt8) (a2:List UInt8):Option (List UInt8×Unit):=replF a0 a1 a2
noncomputable def replC.mng (n:Nat):Mng:=⟨[.val .str,.val .str,.val .str],[.val .str],fun x=>replC.f n x.1 x.2.1 x.2.2.1⟩
theorem replC.gof:GoF Tryz.prog 68:=⟨_,Tryz.func68,by kernel_rfl,by kernel_rfl⟩
theorem replC.sound (n:Nat):Sound Tryz.prog 68 (replC.mng n):=repl_sound (b:=1) (by kernel_rfl) (fun s o r m w hs hm h1 h2=>Tryz.strings_ReplaceAll s o r m w hs hm h1 h2)
theorem wf_of {n:Int} (h0 : -9223372036854775808≤n) (h1:n<9223372036854775808):(Lit.int .i64 n).wf=true:=WalkArith.wf_i64 (by omega)
set_option maxHeartbeats 4000000 in
set_option maxRecDepth 1000000 in
theorem bound_calls (n:Int) (h0 : -9223372036854775808≤n) (h1:n<9223372036854775808) (w:World):Calls Tryz.prog 129 #[.int .i64 n] w fun e w'=>e = .returned (.string ⟨(boundT n).toArray⟩)∧Below w.heap.size w w':=by
 have hmm:=@run_makeMap Tryz.prog
 have ho0:(w.alloc (.map #[] 0)).ownsMap (H:=Unit) Tryz.prog 3 (plainElem Tryz.prog 9) w.heap.size 0 (.map []):=World.ownsMap_made _ _ _ _
 go_enter Tryz.func129,Tryz.ntmps129
 go_wp2_with (first
  | (refine wpList_insert_own _ rfl _ _ _ 205 rfl 3 9 (Maps.int_keyed Tryz.underlying3) Tryz.underlying205 _ _ 0 _ rfl ho0 (by unfold maxLen; omega) _ _ _ rfl rfl (Maps.keyOf_int_mk Tryz.underlying3 (by decide)) _ [] (plainElem_string Tryz.underlying9 (by decide)) ?_; intro w1 ho1 hg1)
  | (refine wpList_insert_own _ rfl _ _ _ 205 rfl 3 9 (Maps.int_keyed Tryz.underlying3) Tryz.underlying205 _ _ 1 _ rfl ho1 (by unfold maxLen; omega) _ _ _ rfl rfl (Maps.keyOf_int_mk Tryz.underlying3 (by decide)) _ [] (plainElem_string Tryz.underlying9 (by decide)) ?_; intro w2 ho2 hg2)
  | (refine wpList_insert_own _ rfl _ _ _ 205 rfl 3 9 (Maps.int_keyed Tryz.underlying3) Tryz.underlying205 _ _ 2 _ rfl ho2 (by unfold maxLen; omega) _ _ _ rfl rfl (Maps.keyOf_int_mk Tryz.underlying3 (by decide)) _ [] (plainElem_string Tryz.underlying9 (by decide)) ?_; intro w3 ho3 hg3)
  | (refine wpList_lookup_str w3 rfl _ _ 205 rfl 3 9 (Maps.int_keyed Tryz.underlying3) Tryz.underlying205 Tryz.underlying9 (by kernel_rfl) _ 3 _ rfl ho3 _ _ rfl (Maps.keyOf_int_mk Tryz.underlying3 (wf_of h0 h1)) (boundT n) (bound_at n) ?_))
 go_ret
 refine ⟨rfl,?_⟩
 have b0:Below w.heap.size w (w.alloc (.map #[] 0)):=below_alloc w _
 exact below_grown (below_grown (below_grown b0 hg1 (Nat.le_refl _)) hg2 (Nat.le_refl _)) hg3 (Nat.le_refl _)
noncomputable def boundC.f (n:Nat) (a0:Int):Option (List UInt8×Unit):=boundF a0
noncomputable def boundC.mng (n:Nat):Mng:=⟨[.val (.int .i64)],[.val .str],fun x=>boundC.f n x.1⟩
theorem boundC.gof:GoF Tryz.prog 129:=⟨_,Tryz.func129,by kernel_rfl,by kernel_rfl⟩
theorem boundC.sound (n:Nat):Sound Tryz.prog 129 (boundC.mng n):=bound_sound (fun m h0 h1 w=>bound_calls m h0 h1 w)
theorem iOne.mapTy:MapTy Tryz.prog 168 9 9:=⟨Tryz.underlying168,Tryz.underlying9,Tryz.underlying9,fun w=>by kernel_rfl⟩
def iOne.las:List (Nat×LA):=[(2,⟨[(11,.bool)],[],[1,2,3,6,9,10],[]⟩),(10,⟨[(56,.bool)],[],[2,3,6,9],[]⟩),(41,⟨[(141,.bool)],[],[2,3,6,21],[]⟩),(46,⟨[(149,.bool)],[],[1,2,3,6,10,11],[]⟩)]
noncomputable def iOne.f (n:Nat) (a0:Desk) (a1:List UInt8) (a2:Int):Option (Desk×(List UInt8)×(Bool×Unit)):=cut (α:=(Bool×Unit)) (br (decide (0≤a2)) (some (.inr ((decide (a2<(a0.1.2.length:Int))),()))) (some (.inr (false,())))) fun y1=>br (decide (a1=([115,112,108,105,99,101]:List UInt8))) (none) (br (decide (a1=([99,97,112,115]:List UInt8))) (cut (α:=(Bool×Unit)) (br (decide (a2<0)) (some (.inr (true,()))) (some (.inr ((decide (400<a2)),())))) fun y2=>br y2.1 (some (a0,([],(false,())))) ((iUni.f n a0.1 a2).bind fun r3=>some ((a0.1,(a0.2.1,r3.1)),([111,107],(true,()))))) (br (decide (a1=([115,116,101,112]:List UInt8))) (none) (br (decide (a1=([116,117,114,110,115]:List UInt8))) ((iRunTurns.f n a0.1 a0.2.1 a2).bind fun r4=>br r4.2.1 (some ((a0.1,(r4.1,a0.2.2)),([113,117,105,101,116],(true,())))) (some ((a0.1,(r4.1,a0.2.2)),([98,117,115,121],(true,()))))) (br (decide (a1=([98,111,117,110,100,101,100]:List UInt8))) ((iRunBounded.f n a0.1 a0.2.1 a0.2.2 a2).bind fun r5=>(boundC.f n r5.2.1).bind fun r6=>some ((a0.1,(r5.1,a0.2.2)),(r6.1,(true,())))) (br (decide (a1=([112,97,114,107,115]:List UInt8))) (none) (br (decide (a1=([108,101,97,115,116]:List UInt8))) ((iLeast.f n a0.1).bind fun r7=>cut (α:=(Bool×Unit)) (br (!r7.2.2.1) (some (.inr (true,()))) (some (.inr ((!y1.1),())))) fun y8=>br y8.1 (some (a0,([],(false,())))) (chk (0≤a2∧a2<(r7.1.length:Int)) ((iFmtStream.f n (r7.1.getD a2.toNat [])).bind fun r9=>some (a0,(r9.1,(true,())))))) (cut (α:=(Bool×Unit)) (br (decide (a1=([115,101,110,116]:List UInt8))) (some (.inr ((decide (a1=([115,101,110,116]:List UInt8))),()))) (br (decide (a1=([113,117,101,117,101]:List UInt8))) (some (.inr ((decide (a1=([113,117,101,117,101]:List UInt8))),()))) (some (.inr ((decide (a1=([114,111,111,109]:List UInt8))),()))))) fun y10=>br y10.1 (br (!y1.1) (some (a0,([],(false,())))) (br (decide (a1=([115,101,110,116]:List UInt8))) (chk (0≤a2∧a2<(a0.2.1.2.2.1.length:Int)) (let v11:=(a0.2.1.2.2.1.getD a2.toNat []); (iFmtStream.f n v11).bind fun r12=>chk (0≤a2∧a2<(a0.2.1.2.1.length:Int)) (let v13:=(a0.2.1.2.1.getD a2.toNat []); (iFmtStream.f n v13).bind fun r14=>chk (0≤a2∧a2<(a0.2.2.length:Int)) ((itoaC.f n (a0.2.2.getD a2.toNat 0)).bind fun r15=>chk (r12.1.length<maxS) (chk (r14.1.length<maxS) (chk (r15.1.length<maxS) (some (a0,(r12.1,(true,())))))))))) (br (decide (a1=([113,117,101,117,101]:List UInt8))) (chk (0≤a2∧a2<(a0.2.1.2.2.1.length:Int)) (let v16:=(a0.2.1.2.2.1.getD a2.toNat []); (iFmtStream.f n v16).bind fun r17=>chk (0≤a2∧a2<(a0.2.1.2.1.length:Int)) (let v18:=(a0.2.1.2.1.getD a2.toNat []); (iFmtStream.f n v18).bind fun r19=>chk (0≤a2∧a2<(a0.2.2.length:Int)) ((itoaC.f n (a0.2.2.getD a2.toNat 0)).bind fun r20=>chk (r17.1.length<maxS) (chk (r19.1.length<maxS) (chk (r20.1.length<maxS) (some (a0,(r19.1,(true,())))))))))) (br (decide (a1=([114,111,111,109]:List UInt8))) (chk (0≤a2∧a2<(a0.2.1.2.2.1.length:Int)) (let v21:=(a0.2.1.2.2.1.getD a2.toNat []); (iFmtStream.f n v21).bind fun r22=>chk (0≤a2∧a2<(a0.2.1.2.1.length:Int)) (let v23:=(a0.2.1.2.1.getD a2.toNat []); (iFmtStream.f n v23).bind fun r24=>chk (0≤a2∧a2<(a0.2.2.length:Int)) ((itoaC.f n (a0.2.2.getD a2.toNat 0)).bind fun r25=>chk (r22.1.length<maxS) (chk (r24.1.length<maxS) (chk (r25.1.length<maxS) (some (a0,(r25.1,(true,())))))))))) (none))))) (some (a0,([],(false,())))))))))))
noncomputable def iOne.mng (n:Nat):Mng:=⟨[.val tDesk,.val .str,.val I],[.sh tDesk,.val .str,.val .bool],fun x=>iOne.f n x.1 x.2.1 x.2.2.1⟩
noncomputable def iOne.cfg (n:Nat):Cfg:=⟨tys30,[(16,iUni.mng n),(14,iRunTurns.mng n),(15,iRunBounded.mng n),(129,boundC.mng n),(131,iLeast.mng n),(18,iFmtStream.mng n),(50,itoaC.mng n)],[],[2900168]⟩
theorem iOne.eq:∀ (n:Nat) (a0:Desk) (a1:List UInt8) (a2:Int),runF (iOne.cfg n) n Tryz.f74 (annOf Tryz.f74 iOne.las) [.val tDesk,.val .str,.val I] [.sh tDesk,.val .str,.val .bool] (a0,(a1,(a2,())))=iOne.f n a0 a1 a2:=by
 intros
 kernel_rfl
theorem iOne.gof:GoF Tryz.prog 74:=⟨_,Tryz.func74,by kernel_rfl,by kernel_rfl⟩
theorem iOne.sound (n:Nat):Sound Tryz.prog 74 (iOne.mng n):=runF_sound (fn:=Tryz.f74) (m:=iOne.mng n) (c:=iOne.cfg n) (regOKm mixed (opOK (.of (c:=iOne.cfg n) ⟨⟨iUni.sound n,iUni.gof⟩,⟨⟨iRunTurns.sound n,iRunTurns.gof⟩,⟨⟨iRunBounded.sound n,iRunBounded.gof⟩,⟨⟨boundC.sound n,boundC.gof⟩,⟨⟨iLeast.sound n,iLeast.gof⟩,⟨⟨iFmtStream.sound n,iFmtStream.gof⟩,⟨⟨itoaC.sound n,itoaC.gof⟩,trivial⟩⟩⟩⟩⟩⟩⟩) (.of (c:=iOne.cfg n) trivial)) (tysOK tys30_ok) rfl iOne.mapTy) (tysOK tys30_ok) Tryz.func74 (fun x=>(iOne.eq n x.1 x.2.1 x.2.2.1).symm)
def iPerform.las:List (Nat×LA):=[(6,⟨[(41,.bool)],[],[2,4,9],[]⟩),(10,⟨[(60,.bool)],[],[2,4,10,12],[]⟩),(25,⟨[(112,.bool)],[],[2,4,14],[]⟩)]
noncomputable def iPerform.f (n:Nat) (a0:Desk) (a1:List UInt8):Option (Desk×(List UInt8)×(Bool×Unit)):=(cutPre.f n a1 ([108,111,97,100,32]:List UInt8)).bind fun r1=>br r1.2.1 ((replC.f n r1.1 ([124]:List UInt8) ([10]:List UInt8)).bind fun r5=>(iParseNetwork.f n r5.1).bind fun r6=>(iLoaded.f n r6.1 r6.2.1).bind fun r7=>some (r7.1,(r7.2.1,(r7.2.2.1,())))) ((splitC.f n a1 ([32]:List UInt8)).bind fun r8=>cut (α:=(Bool×Unit)) (chk ((0:Int)≤0∧(0:Int)<(r8.1.length:Int)) (br (decide ((r8.1.getD 0 [])=([102,101,101,100]:List UInt8))) (some (.inr ((decide ((r8.1.length:Int)=3)),()))) (some (.inr (false,()))))) fun y9=>br y9.1 (chk ((0:Int)≤1∧(1:Int)≤2∧2≤(r8.1.length:Int)) ((iIntegers.f n ((r8.1.take 2).drop 1)).bind fun r13=>chk ((0:Int)≤2∧(2:Int)<(r8.1.length:Int)) ((iParseStream.f n (r8.1.getD 2 [])).bind fun r14=>cut (α:=(Bool×Unit)) (br (!r13.2.1) (some (.inr (true,()))) (some (.inr ((!r14.2.1),())))) fun y15=>br y15.1 (some (a0,([],(false,())))) (chk ((0:Int)≤0∧(0:Int)<(r13.1.length:Int)) (none))))) (chk ((0:Int)≤1∧(1:Int)≤(r8.1.length:Int)∧(r8.1.length:Int)≤(r8.1.length:Int)) ((iIntegers.f n ((r8.1.take (r8.1.length:Int).toNat).drop 1)).bind fun r16=>br (!r16.2.1) (some (a0,([],(false,())))) (br (decide ((r16.1.length:Int)=0)) (chk ((0:Int)≤0∧(0:Int)<(r8.1.length:Int)) (none)) (br (decide ((r16.1.length:Int)=1)) (chk ((0:Int)≤0∧(0:Int)<(r8.1.length:Int)) (chk ((0:Int)≤0∧(0:Int)<(r16.1.length:Int)) ((iOne.f n a0 (r8.1.getD 0 []) (r16.1.getD 0 0)).bind fun r17=>some (r17.1,(r17.2.1,(r17.2.2.1,())))))) (cut (α:=(Bool×Unit)) (br (decide ((r16.1.length:Int)=2)) (chk ((0:Int)≤0∧(0:Int)<(r8.1.length:Int)) (some (.inr ((decide ((r8.1.getD 0 [])=([100,101,109,97,110,100]:List UInt8))),())))) (some (.inr (false,())))) fun y18=>br y18.1 (chk ((0:Int)≤0∧(0:Int)<(r16.1.length:Int)) (chk ((0:Int)≤1∧(1:Int)<(r16.1.length:Int)) (none))) (some (a0,([],(false,()))))))))))
noncomputable def iPerform.mng (n:Nat):Mng:=⟨[.val tDesk,.val .str],[.sh tDesk,.val .str,.val .bool],fun x=>iPerform.f n x.1 x.2.1⟩
noncomputable def iPerform.cfg (n:Nat):Cfg:=⟨tys30,[(65,cutPre.mng n),(68,replC.mng n),(67,iParseNetwork.mng n),(66,iLoaded.mng n),(69,splitC.mng n),(70,iIntegers.mng n),(71,iParseStream.mng n),(74,iOne.mng n)],[],[]⟩
theorem iPerform.gof:GoF Tryz.prog 29:=⟨_,Tryz.func29,by kernel_rfl,by kernel_rfl⟩
theorem iPerform.sound (n:Nat):Sound Tryz.prog 29 (iPerform.mng n):=sndF (c:=iPerform.cfg n) (n:=n) (an:=annOf Tryz.f29 iPerform.las) ⟨⟨cutPre.sound n,cutPre.gof⟩,⟨⟨replC.sound n,replC.gof⟩,⟨⟨iParseNetwork.sound n,iParseNetwork.gof⟩,⟨⟨iLoaded.sound n,iLoaded.gof⟩,⟨⟨splitC.sound n,splitC.gof⟩,⟨⟨iIntegers.sound n,iIntegers.gof⟩,⟨⟨iParseStream.sound n,iParseStream.gof⟩,⟨⟨iOne.sound n,iOne.gof⟩,trivial⟩⟩⟩⟩⟩⟩⟩⟩ trivial (tysOK tys30_ok) Tryz.func29 (fun x=>by kernel_rfl)
def iExec.las:List (Nat×LA):=[]
noncomputable def iExec.f (n:Nat) (a0:Desk) (a1:List UInt8):Option (Desk×(List UInt8)×Unit):=(iIsDesk.f n a0).bind fun r1=>br (!r1.1) ((iCopyDesk.f n a0).bind fun r3=>some (r3.1,([110,111],()))) ((iCopyDesk.f n a0).bind fun r4=>(iPerform.f n r4.1 a1).bind fun r5=>br (!r5.2.2.1) ((iCopyDesk.f n a0).bind fun r6=>some (r6.1,([110,111],()))) (some (r5.1,(r5.2.1,()))))
noncomputable def iExec.mng (n:Nat):Mng:=⟨[.val tDesk,.val .str],[.sh tDesk,.val .str],fun x=>iExec.f n x.1 x.2.1⟩
noncomputable def iExec.cfg (n:Nat):Cfg:=⟨tys30,[(27,iIsDesk.mng n),(28,iCopyDesk.mng n),(29,iPerform.mng n)],[],[]⟩
theorem iExec.gof:GoF Tryz.prog 6:=⟨_,Tryz.func6,by kernel_rfl,by kernel_rfl⟩
theorem iExec.sound (n:Nat):Sound Tryz.prog 6 (iExec.mng n):=sndF (c:=iExec.cfg n) (n:=n) (an:=annOf Tryz.f6 iExec.las) ⟨⟨iIsDesk.sound n,iIsDesk.gof⟩,⟨⟨iCopyDesk.sound n,iCopyDesk.gof⟩,⟨⟨iPerform.sound n,iPerform.gof⟩,trivial⟩⟩⟩ trivial (tysOK tys30_ok) Tryz.func6 (fun x=>by kernel_rfl)
end Go.AmT
namespace Go.AmT
open Go Go.Am
set_option linter.unusedVariables false
set_option linter.unusedSimpArgs false
structure OkD (d:Desk):Prop where
 st:OkSt d.1 d.2.1
 caps:okC d.1.2 d.2.2=true
 small:SmallN d.1
theorem OkD.smallS {d:Desk} (h:OkD d):SmallSt d.2.1:=small_of_ok h.st
theorem OkD.smallC {d:Desk} (h:OkD d):d.2.2.length≤1048576:=by
 have h1:=okC_len h.caps
 have h2:=h.st.net.links
 omega
theorem dk_iIsDesk {n:Nat} {d:Desk} (h:OkD d) (hn:1048576<n):iIsDesk.f n d=some (true,()):=by
 unfold iIsDesk.f
 rw [iIsState_spec h.small h.smallS hn,bind_unit]
 simp only [okSt_true h.st,br_true]
 rw [iAre_spec h.small h.smallC hn,bind_unit]
 simp only [okN_true h.st.net,h.caps]; rfl
theorem iCopyDesk_spec {n:Nat} {d:Desk} (h:OkD d) (hn:1048576<n):iCopyDesk.f n d=some (d,()):=by
 unfold iCopyDesk.f
 rw [iCopyNetwork_spec h.small hn,bind_unit]
 dsimp only
 rw [copyState_spec h.smallS hn,bind_unit]
 dsimp only
 rw [cloneI_spec h.smallC,bind_unit]
theorem hasPreL_spec {n:Nat} (s p:List UInt8):hasPreL.f n s p=some (decide (s.take p.length=p),()):=by
 unfold hasPreL.f
 by_cases h:p.length≤s.length
 ·rw [br_yes (by omega),chk_true (by omega),List.drop_zero,Int.toNat_natCast]
 ·rw [br_no (by omega),decide_eq_false]
  intro e
  have:=congrArg List.length e
  rw [List.length_take] at this
  omega
theorem cutPre_yes {n:Nat} (p t:List UInt8):cutPre.f n (p++t) p=some (t,(true,())):=by
 unfold cutPre.f cutPreL.f
 rw [hasPreL_spec,bind_unit]
 dsimp only
 rw [List.take_left,decide_eq_true rfl]
 simp only [Bool.not_true,br_false]
 rw [chk_true (by rw [List.length_append]; omega)]
 simp only [Option.bind_some,Int.toNat_natCast,List.take_length,List.drop_left]
theorem cutPre_no {n:Nat} {s p:List UInt8} (h:s.take p.length≠p):cutPre.f n s p=some (s,(false,())):=by
 unfold cutPre.f cutPreL.f
 rw [hasPreL_spec,bind_unit]
 dsimp only
 rw [decide_eq_false h]; rfl
theorem trimPre_W {n:Nat} (s p:List UInt8):W (trimPre.f n s p) (fun r=>r.1.length≤s.length):=by
 unfold trimPre.f trimPreL.f
 rw [hasPreL_spec,bind_unit]
 dsimp only
 cases h:decide (s.take p.length=p)
 ·exact W_some.2 (Nat.le_refl _)
 ·have h:=of_decide_eq_true h
  have hl:p.length≤s.length:=by
   have:=congrArg List.length h
   rw [List.length_take] at this
   omega
  rw [br_true,chk_true (by omega)]
  refine W_some.2 ?_
  simp only [Int.toNat_natCast,List.take_length,List.length_drop]; omega
theorem iIntegers_one {n:Nat} {x:Int} (h0:0≤x) (h1:x≤1000000) (hn:1048576<n):iIntegers.f n [Lib.itoa x]=some ([x],(true,())):=by
 have hl:=itoa_len (x:=x) (by omega) h1
 have ht:=trimPre_W (n:=n) (Lib.itoa x) [45]
 obtain ⟨r,e1,e2⟩:∃ r,trimPre.f n (Lib.itoa x) [45]=some r∧r.1.length≤(Lib.itoa x).length:=by
  cases e:trimPre.f n (Lib.itoa x) [45] with
  | none=>rw [e] at ht; exact absurd ht (by simp [W])
  | some r=>rw [e,W_some] at ht; exact ⟨r,rfl,ht⟩
 unfold iIntegers.f
 have hst:((0:Int),(([]:List Int),()))=(fun (i:Nat)=>((i:Int),(([x]:List Int).take i,()))) 0:=rfl
 rw [hst]
 refine iter_line (fun i=>((i:Int),(([x]:List Int).take i,()))) 1 (fun ih i hi=>?_) (fun ih=>br_no (by simp)) (by omega)
 obtain rfl:i=0:=by omega
 have e:([Lib.itoa x]:List (List UInt8)).getD ((0:Nat):Int).toNat []=Lib.itoa x:=rfl
 rw [br_yes (by simp),chk_true (by simp)]
 simp only [e]
 rw [iNumber_spec (by omega) h1,bind_unit]
 simp only [Bool.not_true,br_false]
 rw [e1,bind_unit]
 simp only [cut_inr]
 rw [br_no (show ¬ (9:Int)<(r.1.length:Int) by omega),small_chk (by simp)]
 rfl
noncomputable def lineW (w:List UInt8) (x:Int):List UInt8:=w++32::Lib.itoa x
theorem perform_one {n:Nat} {d:Desk} {w:List UInt8} {x:Int} (hw:(32:UInt8)∉w) (hl:w.length≤100) (h5:(lineW w x).take 5≠[108,111,97,100,32]) (h0:0≤x) (h1:x≤1000000) (hn:1048577<n) :
  iPerform.f n d (lineW w x)=(iOne.f n d w x).bind fun r=>some (r.1,(r.2.1,(r.2.2.1,()))):=by
 have hx:=itoa_len (x:=x) (by omega) h1
 have hsp:splitR 32 (lineW w x)=[w,Lib.itoa x]:=by
  unfold lineW
  rw [splitR_app _ hw,splitR_no (notin_itoa ⟨by omega,h1⟩ (by decide) (by decide))]
 unfold iPerform.f
 rw [cutPre_no (p:=[108,111,97,100,32]) h5,bind_unit]
 simp only [br_false]
 rw [splitC_spec (by unfold lineW; simp; omega),bind_unit,hsp]
 dsimp only
 rw [chk_true (by simp)]
 have ecut:∀ {ρ:Type} (f:Bool×Unit→Option ρ),cut (br (decide (([w,Lib.itoa x]:List (List UInt8)).getD 0 []=([102,101,101,100]:List UInt8))) (some (.inr ((decide ((([w,Lib.itoa x]:List (List UInt8)).length:Int)=3)),()))) (some (.inr (false,())))) f=f (false,()):=by
  intro ρ f
  cases decide (([w,Lib.itoa x]:List (List UInt8)).getD 0 []=([102,101,101,100]:List UInt8))<;>rfl
 rw [ecut]
 simp only [br_false]
 rw [chk_true (by simp)]
 have edr:(List.take ((([w,Lib.itoa x]:List (List UInt8)).length:Int)).toNat [w,Lib.itoa x]).drop 1=[Lib.itoa x]:=rfl
 rw [edr,iIntegers_one h0 h1 (by omega),bind_unit]
 simp only [Bool.not_true,br_false]
 rw [br_no (by simp),br_yes (by simp),chk_true (by simp),chk_true (by simp)]
 rfl
theorem exec_ok {n:Nat} {d:Desk} {line:List UInt8} (h:OkD d) (hn:1048576<n):iExec.f n d line=(iPerform.f n d line).bind fun r5=>br (!r5.2.2.1) (some (d,([110,111],()))) (some (r5.1,(r5.2.1,()))):=by
 unfold iExec.f
 rw [dk_iIsDesk h hn,bind_unit]
 simp only [Bool.not_true,br_false]
 rw [iCopyDesk_spec h hn,bind_unit,bind_unit]
theorem exec_one {n:Nat} {d:Desk} {w:List UInt8} {x:Int} {r:Desk×(List UInt8×(Bool×Unit))} (h:OkD d) (hw:(32:UInt8)∉w) (hl:w.length≤100) (h5:(lineW w x).take 5≠[108,111,97,100,32]) (h0:0≤x) (h1:x≤1000000) (hn:1048577<n) (e:iOne.f n d w x=some r) :
  iExec.f n d (lineW w x)=some (if r.2.2.1=true then (r.1,(r.2.1,())) else (d,([110,111],()))):=by
 rw [exec_ok h (by omega),perform_one hw hl h5 h0 h1 hn,e]
 simp only [Option.bind_some]
 cases r.2.2.1<;>rfl
abbrev wCaps:List UInt8:=[99,97,112,115]
abbrev wTurns:List UInt8:=[116,117,114,110,115]
abbrev wBound:List UInt8:=[98,111,117,110,100,101,100]
abbrev wLeast:List UInt8:=[108,101,97,115,116]
abbrev wSent:List UInt8:=[115,101,110,116]
theorem one_caps {n:Nat} {d:Desk} {x:Int} (h:OkD d) (h0:0≤x) (h1:x≤400) (hn:1048576<n):iOne.f n d wCaps x=some ((d.1,(d.2.1,uni d.1 x)),([111,107],(true,()))):=by
 unfold iOne.f
 rw [br_yes h0,cut_inr,br_no (by decide),br_yes rfl,br_no (by omega),cut_inr]
 dsimp only
 rw [br_no (by omega),iUni_spec h.small hn,bind_unit]
theorem one_turns {n:Nat} {d:Desk} {x:Int} (h:OkD d) (h0:0≤x) (hn:1048576<n):iOne.f n d wTurns x=some ((d.1,((runTurns d.1 d.2.1 x).1,d.2.2)),(if (runTurns d.1 d.2.1 x).2=true then [113,117,105,101,116] else [98,117,115,121],(true,()))):=by
 unfold iOne.f
 rw [br_yes h0,cut_inr,br_no (by decide),br_no (by decide),br_no (by decide),br_yes rfl,iRunTurns_spec h.small h.smallS hn,bind_unit]
 dsimp only
 cases (runTurns d.1 d.2.1 x).2<;>rfl
theorem one_bound {n:Nat} {d:Desk} {x:Int} (h:OkD d) (h0:0≤x) (hn:1048576<n):iOne.f n d wBound x=some ((d.1,((runBounded d.1 d.2.1 d.2.2 x).1,d.2.2)),(boundT (runBounded d.1 d.2.1 d.2.2 x).2,(true,()))):=by
 have hb : -9223372036854775808≤(runBounded d.1 d.2.1 d.2.2 x).2∧(runBounded d.1 d.2.1 d.2.2 x).2<9223372036854775808:=by
  unfold runBounded
  rw [okSt_true h.st,h.caps]
  show -9223372036854775808≤bndW _ _ _∧bndW _ _ _<9223372036854775808
  unfold bndW
  split
  ·split<;>omega
  ·omega
 unfold iOne.f
 rw [br_yes h0,cut_inr,br_no (by decide),br_no (by decide),br_no (by decide),br_no (by decide),br_yes rfl,iRunBounded_spec h.small h.smallS h.smallC hn,bind_unit]
 dsimp only
 unfold boundC.f boundF
 rw [if_pos hb]; rfl
theorem one_least {n:Nat} {d:Desk} {k:Nat} (h:OkD d) (hk:k<d.1.2.length) (hn:1048576<n):iOne.f n d wLeast (k:Int)=(match leastP d.1 with | some (g,_)=>some (d,(fmtS (atL g k),(true,()))) | none=>some (d,([],(false,())))):=by
 unfold iOne.f
 rw [br_yes (by omega),cut_inr,decide_eq_true (show (k:Int)<(d.1.2.length:Int) by omega),br_no (by decide),br_no (by decide),br_no (by decide),br_no (by decide),br_no (by decide),br_no (by decide),br_yes rfl,iLeast_spec h.small h.st.net hn,bind_unit]
 unfold leastR
 cases e:leastF d.1 300 1 (tokL d.1) with
 | none=>
  have e':leastP d.1=none:=e
  rw [e']; rfl
 | some gr=>
  obtain ⟨g,r⟩:=gr
  have e':leastP d.1=some (g,r):=e
  rw [e']
  have lg:=least_len e'
  dsimp only
  simp only [decide_true,Bool.not_true,br_false,cut_inr]
  rw [chk_true (by omega),Int.toNat_natCast]
  have hl:(g.getD k []).length≤1048576:=by have:=(okS_len (least_okS e' hk)).1; unfold atL at this; omega
  rw [iFmtStream_spec hl hn,bind_unit]; rfl
theorem one_sent {n:Nat} {d:Desk} {k:Nat} (h:OkD d) (hk:k<d.1.2.length) (hn:1048576<n):iOne.f n d wSent (k:Int)=some (d,(fmtS (d.2.1.2.2.1.getD k []),(true,()))):=by
 have hq:=h.st.nq
 have hs:=h.st.ns
 have hc:=okC_len h.caps
 have L:=h.st.lnk k hk
 have l1:=okS_len L.qs
 have l2:=okS_len L.hs
 have hcap:0≤d.2.2.getD k 0∧d.2.2.getD k 0≤400:=by
  have:=h.caps
  unfold okC at this
  simp only [Bool.and_eq_true,decide_eq_true_eq,List.all_eq_true] at this
  have:=this.2 k (List.mem_range.2 (by omega))
  omega
 have hm:∀ s,(fmtS s).length<maxS:=fun s=>by have:=fmtS_len s; unfold maxS; omega
 unfold iOne.f
 rw [br_yes (by omega),cut_inr,decide_eq_true (show (k:Int)<(d.1.2.length:Int) by omega),br_no (by decide),br_no (by decide),br_no (by decide),br_no (by decide),br_no (by decide),br_no (by decide),br_no (by decide),br_yes rfl,cut_inr]
 simp only [decide_true,br_true,Bool.not_true,br_false,Int.toNat_natCast]
 rw [chk_true (by omega),iFmtStream_spec (by omega) hn,bind_unit]
 dsimp only
 rw [chk_true (by omega),iFmtStream_spec (by omega) hn,bind_unit]
 dsimp only
 rw [chk_true (by omega),itoaC_spec (by omega) (by omega),bind_unit]
 dsimp only
 rw [chk_true (hm _),chk_true (hm _),chk_true (by have:=itoa_len (x:=d.2.2.getD k 0) (by omega) (by omega); unfold maxS; omega)]
theorem uni_ok {nt:Network} (o:OkN nt) {c:Int} (h0:0≤c) (h1:c≤400):okC nt.2 (uni nt c)=true:=by
 unfold uni
 rw [okN_true o,decide_eq_true (show 0≤c∧c≤400 from ⟨h0,h1⟩)]
 simp only [Bool.and_self,if_true]
 unfold okC
 rw [Bool.and_eq_true,decide_eq_true_eq,List.all_eq_true]
 refine ⟨by simp,fun j hj=>?_⟩
 have hj:=List.mem_range.1 hj
 rw [List.length_map] at hj
 have ht:=(okS_bd (o.toks j hj)).1
 have e1:(nt.2.map fun l=>max c (l.2.2.2.2.length:Int)).getD j 0=max c ((nt.2.getD j zLink).2.2.2.2.length:Int):=by rw [getD_lt (by simpa using hj),getD_lt hj]; simp
 rw [e1,getD_lt hj,Bool.and_eq_true,decide_eq_true_eq,decide_eq_true_eq]
 omega
theorem okD_new {nt:Network} (o:OkN nt) (hS:SmallN nt) {c:Int} (h0:0≤c) (h1:c≤400):OkD (nt,(start nt,uni nt c)):=⟨start_ok o,uni_ok o h0 h1,hS⟩
abbrev zD:Desk:=(([],[]),(([],([],([],0))),[]))
theorem okD_zero:OkD zD:=by
 have on:OkN (([],[]):Network):=⟨by simp,by simp,fun i hi=>absurd hi (by simp),fun i hi=>absurd hi (by simp),fun i hi=>absurd hi (by simp),fun i hi=>absurd hi (by simp),fun i hi=>absurd hi (by simp)⟩
 exact ⟨⟨on,rfl,rfl,rfl,by decide,fun i hi=>absurd hi (by simp),fun i hi=>absurd hi (by simp)⟩,by decide,⟨by simp,by simp,by simp,by simp⟩⟩
theorem exec_load {n:Nat} {nt:Network} (o:OkN nt) (hS:SmallN nt) (hn:1048577<n):iExec.f n zD (txtLoad nt)=some ((nt,(start nt,uni nt 0)),([111,107],())):=by
 have hl:=txtN_len o
 rw [exec_ok okD_zero (by omega)]
 unfold iPerform.f txtLoad
 rw [cutPre_yes,bind_unit]
 simp only [br_true]
 have hc:Lib.count (sub1 10 124 (txtN nt)) [124]≤150000:=by
  have:=count_le 124 (sub1 10 124 (txtN nt))
  rw [sub1_len] at this
  omega
 have er:replC.f n (sub1 10 124 (txtN nt)) ([124]:List UInt8) ([10]:List UInt8)=some (txtN nt,()):=by
  unfold replC.f replF
  rw [if_pos ⟨by rw [sub1_len]; omega,by decide,by rw [sub1_len,List.length_singleton]; omega⟩,load_back o]
  rfl
 rw [er,bind_unit]
 dsimp only
 rw [iParseNetwork_txt o hn]
 have hu:∀ {ρ:Type} (x:Network×(Bool×Unit)),∀ f:Network×(Bool×Unit)→Option ρ,(some x).bind f=f x:=fun _ _=>rfl
 rw [hu]
 unfold iLoaded.f
 simp only [Bool.not_true,br_false]
 rw [iStartState_spec hS o (by omega),bind_unit]
 dsimp only
 rw [iUni_spec hS (by omega),bind_unit]
 rfl
end Go.AmT
