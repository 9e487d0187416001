/- States, in plain Lean: both programs tell the same states valid. -/
import Derived.Test.YtfoamipegmbcgaaGreatDoorMDkF1
import Derived.Test.YtfoamipegmbcgaaGreatDoorAmE
namespace Go.AmT
open Go Go.Am
set_option linter.unusedVariables false
set_option linter.unusedSimpArgs false
structure SmallSt (s:State):Prop where
 actors:s.1.length≤1048576
 actor:∀ a∈s.1,a.2.length≤1048576
 queues:s.2.1.length≤1048576
 queue:∀ q∈s.2.1,q.length≤1048576
 sents:s.2.2.1.length≤1048576
 sent:∀ q∈s.2.2.1,q.length≤1048576
theorem Left.mono {left left':Int} {o:Option (Int×Unit)} {P:Prop} (h:Left left o P) (hl:left≤left'):Left left' o P:=by
 obtain ⟨r,e,r1,r2⟩:=h
 exact ⟨r,e,by omega,r2⟩
theorem eq_of_getD {a b:List Int} (hl:a.length=b.length) (h:∀ i,i<a.length→a.getD i 0=b.getD i 0):a=b:=by
 refine List.ext_getElem hl (fun i h1 h2=>?_)
 have:=h i h1
 rwa [getD_lt h1,getD_lt h2] at this
theorem equalI_spec {n:Nat} {a b:List Int} (hl:a.length≤1048576) (hn:1048576<n):equalI.f n a b=some (decide (a=b),()):=by
 unfold equalI.f
 by_cases h:a.length=b.length
 ·have h':(a.length:Int)=(b.length:Int):=by omega
  rw [show (!decide ((a.length:Int)=(b.length:Int)))=false by simp [h'],br_false]
  refine W_dec (W_chkloop (bad:=some (false,())) a.length (fun i=>decide (a.getD i 0=b.getD i 0)) (fun ih i hi=>?_) (fun ih=>br_no (Int.lt_irrefl _)) (by omega) (fun hok=>?_) (fun i hi hb=>?_))
  ·have h1:(i:Int)<(a.length:Int):=by omega
   simp only [h1,decide_true,br_true,Int.toNat_natCast]
   rw [chk_true (by simp),chk_true (by simp; omega),w64_succ (by omega),br_nif]
  ·simp only [W_some,true_iff]
   exact eq_of_getD h (fun i hi=>by simpa using hok i hi)
  ·simp only [W_some,Bool.false_eq_true,false_iff]
   intro e; subst e; simp at hb
 ·have h':¬ (a.length:Int)=(b.length:Int):=by omega
  have hne:a≠b:=fun e=>h (by rw [e])
  simp [h',hne,br]
theorem prefix_getD {a b:List Int} : a <+: b↔a.length≤b.length∧∀ i,i<a.length→b.getD i 0=a.getD i 0:=by
 constructor
 ·rintro ⟨c,rfl⟩
  refine ⟨by simp,fun i hi=>?_⟩
  rw [getD_lt hi,getD_lt (by simp; omega),List.getElem_append_left hi]
 ·rintro ⟨hl,h⟩
  rw [List.prefix_iff_eq_take]
  refine eq_of_getD (by simp; omega) (fun i hi=>?_)
  rw [← h i hi,getD_lt (by omega),getD_lt (by simp; omega),List.getElem_take]
theorem sL1Begins_spec {n:Nat} {a b:List Int} (hl:a.length≤1048576) (hn:1048576<n):sL1Begins.f n a b=some (decide (a <+: b),()):=by
 unfold sL1Begins.f
 by_cases h:b.length<a.length
 ·have hne:¬ a <+: b:=fun e=>by have:=(prefix_getD.1 e).1; omega
  simp [hne,br,show (b.length:Int)<(a.length:Int) by omega]
 ·rw [br_no (by omega)]
  refine W_dec (W_chkloop (bad:=some (false,())) a.length (fun i=>decide (b.getD i 0=a.getD i 0)) (fun ih i hi=>?_) (fun ih=>br_no (Int.lt_irrefl _)) (by omega) (fun hok=>?_) (fun i hi hb=>?_))
  ·have h1:(i:Int)<(a.length:Int):=by omega
   simp only [h1,decide_true,br_true,Int.toNat_natCast]
   rw [chk_true (by simp),chk_true (by simp; omega),w64_succ (by omega),br_nif]
  ·simp only [W_some,true_iff]
   exact prefix_getD.2 ⟨by omega,fun i hi=>by simpa using hok i hi⟩
  ·simp only [W_some,Bool.false_eq_true,false_iff]
   intro e
   have:=(prefix_getD.1 e).2 i hi
   rw [this] at hb; simp at hb
theorem suffix_drop {a b:List Int} (h:a.length≤b.length):a <:+ b↔a=b.drop (b.length-a.length):=List.suffix_iff_eq_drop
theorem sL5Ends_spec {n:Nat} {a b:List Int} (hl:a.length≤1048576) (hb:b.length≤1048576) (hn:1048576<n):sL5Ends.f n a b=some (decide (a <:+ b),()):=by
 unfold sL5Ends.f
 by_cases h:a.length≤b.length
 ·have h':(a.length:Int)≤(b.length:Int):=by omega
  rw [br_yes h',w64_id (by omega) (by omega),chk_true (by omega)]
  simp only [Int.toNat_natCast,List.take_length]
  rw [show ((b.length:Int)-(a.length:Int)).toNat=b.length-a.length by omega,sL1Begins_spec hl hn]
  simp only [Option.bind_some]
  congr 2
  refine decide_eq_decide.2 ?_
  rw [suffix_drop h]
  constructor
  ·intro hp
   obtain ⟨c,hc⟩:=hp
   have:c=[]:=by
    have:=congrArg List.length hc
    simp at this
    exact List.eq_nil_of_length_eq_zero (by omega)
   rw [← hc,this,List.append_nil]
  ·intro e
   rw [← e]; exact List.prefix_refl _
 ·have hne:¬ a <:+ b:=fun e=>h e.length_le
  simp [hne,br,show ¬ (a.length:Int)≤(b.length:Int) by omega]
theorem iIsPrefix_spec {n:Nat} {a b:List Int} (hl:a.length≤1048576) (hb:b.length≤1048576) (hn:1048576<n):iIsPrefix.f n a b=some (okS a&&(okS b&&decide (a <+: b)),()):=by
 unfold iIsPrefix.f
 rw [iIsStream_spec hl hn,iIsStream_spec hb hn]
 simp only [Option.bind_some]
 cases okS a with
 | false=>rfl
 | true=>cases okS b with
  | false=>rfl
  | true=>
   simp only [br_true,Bool.true_and]
   by_cases h:a.length≤b.length
   ·rw [br_yes (by omega),chk_true (by omega)]
    simp only [Int.toNat_natCast,List.drop_zero]
    rw [equalI_spec hl hn]
    simp only [Option.bind_some]
    congr 2
    exact decide_eq_decide.2 List.prefix_iff_eq_take.symm
   ·have hne:¬ a <+: b:=fun e=>h e.length_le
    rw [br_no (by omega)]
    simp [hne]
def okA (p:Program) (a:Actor):Bool:=decide (0≤a.1)&&(decide (a.1≤(p.2.2.length:Int))&&(decide (a.2.length=4)&&okS a.2))
theorem isActor_spec {n:Nat} {p:Program} {a:Actor} (hl:a.2.length≤1048576) (hn:1048576<n):isActor.f n p a=some (okA p a,()):=by
 unfold isActor.f okA
 rw [iIsStream_spec hl hn]
 simp only [Option.bind_some]
 by_cases h1:0≤a.1<;>by_cases h2:a.1≤(p.2.2.length:Int)<;>by_cases h3:a.2.length=4<;>simp [h1,h2,h3,br,show ((a.2.length:Int)=4)↔a.2.length=4 by omega]
theorem sL2Actor_spec {n:Nat} {p:Program} {a:Actor} (hl:a.2.length≤1048576) (hn:1048576<n):sL2Actor.f n p a=some (okA p a,()):=by
 unfold sL2Actor.f okA
 rw [sIsStream_spec hl hn,sL1In_spec]
 simp only [Option.bind_some]
 by_cases h1:0≤a.1<;>by_cases h2:a.1≤(p.2.2.length:Int)<;>by_cases h3:a.2.length=4<;>simp [h1,h2,h3,br,show ((a.2.length:Int)=4)↔a.2.length=4 by omega]
structure LinkSt (l:Link) (q h:List Int):Prop where
 qs:okS q=true
 hs:okS h=true
 pre:l.2.2.2.2 <+: h
 suf:q <:+ h
 inp:l.1 = -1→h.length=l.2.2.2.2.length
 out:l.2.2.1 = -1→h.length=q.length
noncomputable instance (l:Link) (q h:List Int):Decidable (LinkSt l q h):=Classical.propDecidable _
structure OkSt (nt:Network) (s:State):Prop where
 net:OkN nt
 na:s.1.length=nt.1.length
 nq:s.2.1.length=nt.2.length
 ns:s.2.2.1.length=nt.2.length
 steps:0≤s.2.2.2∧s.2.2.2≤20000
 act:∀ i,i<nt.1.length→okA (nt.1.getD i zProgram) (s.1.getD i zActor)=true
 lnk:∀ i,i<nt.2.length→LinkSt (nt.2.getD i zLink) (s.2.1.getD i []) (s.2.2.1.getD i [])
noncomputable instance (nt:Network) (s:State):Decidable (OkSt nt s):=Classical.propDecidable _
noncomputable def okSt (nt:Network) (s:State):Bool:=decide (OkSt nt s)
theorem linkSt_iff {l:Link} {q g:List Int} : LinkSt l q g↔(okS q=true∧okS g=true∧l.2.2.2.2 <+: g∧q <:+ g∧(l.1 = -1→g.length=l.2.2.2.2.length)∧(l.2.2.1 = -1→g.length=q.length)):=
 ⟨fun o=>⟨o.qs,o.hs,o.pre,o.suf,o.inp,o.out⟩,fun ⟨a,b,c,d,e,f⟩=>⟨a,b,c,d,e,f⟩⟩
theorem linkSt_dec (l:Link) (q g:List Int):decide (LinkSt l q g)=(okS q&&(okS g&&(decide (l.2.2.2.2 <+: g)&&(decide (q <:+ g)&&((!decide (l.1 = -1)||decide (g.length=l.2.2.2.2.length))&&(!decide (l.2.2.1 = -1)||decide (g.length=q.length))))))):=by
 apply Bool.eq_iff_iff.2
 rw [decide_eq_true_iff,linkSt_iff]
 by_cases c5:l.1 = -1<;>by_cases c7:l.2.2.1 = -1<;>simp [c5,c7]
theorem linkS_step {n:Nat} {l:Link} {q g:List Int} {Y:Option (Bool×Unit)} (e1:l.2.2.2.2.length≤1048576) (e2:q.length≤1048576) (e3:g.length≤1048576) (hn:1048576<n) :
  (cut (α:=(Bool×Unit)) ((sIsStream.f n q).bind fun r55=>br (!r55.1) (some (.inr (true,()))) ((sIsStream.f n g).bind fun r56=>br (!r56.1) (some (.inr (true,()))) ((sL1Begins.f n l.2.2.2.2 g).bind fun r57=>br (!r57.1) (some (.inr (true,()))) ((sL5Ends.f n q g).bind fun r58=>some (.inr ((!r58.1),())))))) fun y54=>br y54.1 (some (false,())) (br (decide (l.1=(-1))) (br (!decide ((g.length:Int)=(l.2.2.2.2.length:Int))) (some (false,())) (br (decide (l.2.2.1=(-1))) (br (!decide ((g.length:Int)=(q.length:Int))) (some (false,())) Y) Y)) (br (decide (l.2.2.1=(-1))) (br (!decide ((g.length:Int)=(q.length:Int))) (some (false,())) Y) Y))) =
  if decide (LinkSt l q g)=true then Y else some (false,()):=by
 rw [sIsStream_spec e2 hn,sIsStream_spec e3 hn,sL1Begins_spec e1 hn,sL5Ends_spec e2 e3 hn]
 rw [linkSt_dec]
 simp only [Option.bind_some,show ((g.length:Int)=(l.2.2.2.2.length:Int))↔g.length=l.2.2.2.2.length by omega,show ((g.length:Int)=(q.length:Int))↔g.length=q.length by omega]
 generalize okS q=b1
 generalize okS g=b2
 generalize decide (l.2.2.2.2 <+: g)=b3
 generalize decide (q <:+ g)=b4
 generalize decide (l.1 = -1)=b5
 generalize decide (l.2.2.1 = -1)=b6
 generalize decide (g.length=l.2.2.2.2.length)=b7
 generalize decide (g.length=q.length)=b8
 cases b1<;>cases b2<;>cases b3<;>cases b4<;>cases b5<;>cases b6<;>cases b7<;>cases b8<;>rfl
theorem linkI_step {n:Nat} {l:Link} {q g:List Int} {Y:Option (Bool×Unit)} (e1:l.2.2.2.2.length≤1048576) (e2:q.length≤1048576) (e3:g.length≤1048576) (e4:okS l.2.2.2.2=true) (hn:1048576<n) :
  (cut (α:=(Bool×Unit)) ((iIsStream.f n q).bind fun r50=>br (!r50.1) (some (.inr (true,()))) ((iIsPrefix.f n l.2.2.2.2 g).bind fun r51=>br (!r51.1) (some (.inr (true,()))) (br (decide ((g.length:Int)<(q.length:Int))) (some (.inr (true,()))) (chk (0≤(w64 ((g.length:Int)-(q.length:Int)))∧(w64 ((g.length:Int)-(q.length:Int)))≤(g.length:Int)∧(g.length:Int)≤(g.length:Int)) ((equalI.f n q ((g.take (g.length:Int).toNat).drop (w64 ((g.length:Int)-(q.length:Int))).toNat)).bind fun r52=>some (.inr ((!r52.1),()))))))) fun y49=>br y49.1 (some (false,())) (br (decide (l.1=(-1))) (br (!decide ((g.length:Int)=(l.2.2.2.2.length:Int))) (some (false,())) (br (decide (l.2.2.1=(-1))) (br (!decide ((q.length:Int)=(g.length:Int))) (some (false,())) Y) Y)) (br (decide (l.2.2.1=(-1))) (br (!decide ((q.length:Int)=(g.length:Int))) (some (false,())) Y) Y))) =
  if decide (LinkSt l q g)=true then Y else some (false,()):=by
 rw [iIsStream_spec e2 hn,iIsPrefix_spec e1 e3 hn,e4]
 rw [linkSt_dec]
 simp only [Option.bind_some,Bool.true_and,show ((g.length:Int)=(l.2.2.2.2.length:Int))↔g.length=l.2.2.2.2.length by omega,show ((q.length:Int)=(g.length:Int))↔g.length=q.length by omega]
 by_cases c0:g.length<q.length
 ·have c4:¬ q <:+ g:=fun e=>by have:=e.length_le; omega
  cases okS q<;>cases okS g<;>by_cases c3:l.2.2.2.2 <+: g<;>simp [c0,c3,c4,br,cut,show (g.length:Int)<(q.length:Int) by omega]
 ·rw [w64_id (by omega) (by omega),chk_true (by omega),show ((g.length:Int)).toNat=g.length by omega,List.take_length,show ((g.length:Int)-(q.length:Int)).toNat=g.length-q.length by omega,equalI_spec e2 hn]
  have c4':decide (q=g.drop (g.length-q.length))=decide (q <:+ g):=decide_eq_decide.2 (suffix_drop (by omega)).symm
  rw [c4']
  simp only [Option.bind_some]
  have c9:decide ((g.length:Int)<(q.length:Int))=false:=decide_eq_false (by omega)
  have c10:decide (q.length=g.length)=decide (g.length=q.length):=decide_eq_decide.2 ⟨Eq.symm,Eq.symm⟩
  simp only [c9,c10]
  generalize okS q=b1
  generalize okS g=b2
  generalize decide (l.2.2.2.2 <+: g)=b3
  generalize decide (q <:+ g)=b4
  generalize decide (l.1 = -1)=b5
  generalize decide (l.2.2.1 = -1)=b6
  generalize decide (g.length=l.2.2.2.2.length)=b7
  generalize decide (g.length=q.length)=b8
  cases b1<;>cases b2<;>cases b3<;>cases b4<;>cases b5<;>cases b6<;>cases b7<;>cases b8<;>rfl
theorem sIsState_spec {n:Nat} {nt:Network} {s:State} (h:SmallN nt) (hs:SmallSt s) (hn:1048576<n):sIsState.f n nt s=some (okSt nt s,()):=by
 have hp:=h.progs
 have hl:=h.links
 unfold sIsState.f okSt
 refine W_dec ?_
 refine W_cut_of (!(okN nt)||(!(decide (s.1.length=nt.1.length))||(!(decide (s.2.1.length=nt.2.length))||(!(decide (s.2.2.1.length=nt.2.length))||!(decide (0≤s.2.2.2)&&decide (s.2.2.2≤20000))))),()) ?_ ?_
 ·rw [sIsNetwork_spec h hn,sL1In_spec]
  simp only [Option.bind_some,show ((s.1.length:Int)=(nt.1.length:Int))↔s.1.length=nt.1.length by omega,show ((s.2.1.length:Int)=(nt.2.length:Int))↔s.2.1.length=nt.2.length by omega,show ((s.2.2.1.length:Int)=(nt.2.length:Int))↔s.2.2.1.length=nt.2.length by omega]
  cases okN nt<;>cases decide (s.1.length=nt.1.length)<;>cases decide (s.2.1.length=nt.2.length)<;>cases decide (s.2.2.1.length=nt.2.length)<;>rfl
 rw [W_br]
 refine ⟨fun a=>?_,fun a=>?_⟩
 ·simp only [W_some,Bool.false_eq_true,false_iff]
  intro o
  have:=o.steps
  simp [okN,o.net,o.na,o.nq,o.ns,o.steps] at a
 simp only [Bool.or_eq_false_iff,Bool.not_eq_false',Bool.and_eq_true,decide_eq_true_eq,okN] at a
 obtain ⟨a1,a2,a3,a4,a5⟩:=a
 refine W_chkloop (bad:=some (false,())) s.1.length (fun i=>okA (nt.1.getD i zProgram) (s.1.getD i zActor)) (fun ih i hi=>?_) (fun ih=>br_no (Int.lt_irrefl _)) (by omega) (fun hok=>?_) (fun i hi hb=>?_)
 ·have h1:(i:Int)<(s.1.length:Int):=by omega
  simp only [h1,decide_true,br_true,Int.toNat_natCast]
  rw [chk_true (by simp),chk_true (by simp; omega),sL2Actor_spec (by rw [getD_lt hi]; exact hs.actor _ (List.getElem_mem hi)) hn,w64_succ (by omega),Option.bind_some,br_nif]
 rotate_left
 ·simp only [W_some,Bool.false_eq_true,false_iff]
  intro o; have:=o.act i (by omega); rw [hb] at this; simp at this
 refine W_chkloop (bad:=some (false,())) nt.2.length (fun i=>decide (LinkSt (nt.2.getD i zLink) (s.2.1.getD i []) (s.2.2.1.getD i []))) (fun ih i hi=>?_) (fun ih=>br_no (Int.lt_irrefl _)) (by omega) (fun hlk=>?_) (fun i hi hb=>?_)
 ·have h1:(i:Int)<(nt.2.length:Int):=by omega
  have e1:((nt.2.getD i zLink).2.2.2.2).length≤1048576:=by rw [getD_lt hi]; exact (h.link _ (List.getElem_mem hi)).tokens
  have e2:(s.2.1.getD i []).length≤1048576:=by rw [getD_lt (by omega)]; exact hs.queue _ (List.getElem_mem (by omega))
  have e3:(s.2.2.1.getD i []).length≤1048576:=by rw [getD_lt (by omega)]; exact hs.sent _ (List.getElem_mem (by omega))
  simp only [h1,decide_true,br_true,Int.toNat_natCast]
  rw [chk_true (by simp),chk_true (by simp; omega),chk_true (by simp; omega),w64_succ (by omega)]
  exact linkS_step e1 e2 e3 hn
 ·simp only [W_some,true_iff]
  exact ⟨a1,a2,a3,a4,a5,fun i hi=>hok i (by omega),fun i hi=>by simpa using hlk i hi⟩
 ·simp only [W_some,Bool.false_eq_true,false_iff]
  intro o; have:=o.lnk i hi; exact of_decide_eq_false hb this
theorem iIsState_spec {n:Nat} {nt:Network} {s:State} (h:SmallN nt) (hs:SmallSt s) (hn:1048576<n):iIsState.f n nt s=some (okSt nt s,()):=by
 have hp:=h.progs
 have hl:=h.links
 unfold iIsState.f okSt
 refine W_dec ?_
 refine W_cut_of (!(okN nt)||(!(decide (s.1.length=nt.1.length))||(!(decide (s.2.1.length=nt.2.length))||(!(decide (s.2.2.1.length=nt.2.length))||(decide (s.2.2.2<0)||decide (20000<s.2.2.2))))),()) ?_ ?_
 ·rw [iIsNetwork_spec h hn]
  simp only [Option.bind_some,show ((s.1.length:Int)=(nt.1.length:Int))↔s.1.length=nt.1.length by omega,show ((s.2.1.length:Int)=(nt.2.length:Int))↔s.2.1.length=nt.2.length by omega,show ((s.2.2.1.length:Int)=(nt.2.length:Int))↔s.2.2.1.length=nt.2.length by omega]
  cases okN nt<;>cases decide (s.1.length=nt.1.length)<;>cases decide (s.2.1.length=nt.2.length)<;>cases decide (s.2.2.1.length=nt.2.length)<;>cases decide (s.2.2.2<0)<;>rfl
 rw [W_br]
 refine ⟨fun a=>?_,fun a=>?_⟩
 ·simp only [W_some,Bool.false_eq_true,false_iff]
  intro o
  have:=o.steps
  simp [okN,o.net,o.na,o.nq,o.ns] at a
  omega
 simp only [Bool.or_eq_false_iff,Bool.not_eq_false',Bool.and_eq_true,decide_eq_true_eq,decide_eq_false_iff_not,okN] at a
 obtain ⟨a1,a2,a3,a4,a5⟩:=a
 refine W_chkloop (bad:=some (false,())) nt.1.length (fun i=>okA (nt.1.getD i zProgram) (s.1.getD i zActor)) (fun ih i hi=>?_) (fun ih=>br_no (Int.lt_irrefl _)) (by omega) (fun hok=>?_) (fun i hi hb=>?_)
 ·have h1:(i:Int)<(nt.1.length:Int):=by omega
  simp only [h1,decide_true,br_true,Int.toNat_natCast]
  rw [chk_true (by simp),chk_true (by simp; omega),isActor_spec (by rw [getD_lt (by omega)]; exact hs.actor _ (List.getElem_mem (by omega))) hn,w64_succ (by omega),Option.bind_some,br_nif]
 rotate_left
 ·simp only [W_some,Bool.false_eq_true,false_iff]
  intro o; have:=o.act i (by omega); rw [hb] at this; simp at this
 refine W_chkloop (bad:=some (false,())) nt.2.length (fun i=>decide (LinkSt (nt.2.getD i zLink) (s.2.1.getD i []) (s.2.2.1.getD i []))) (fun ih i hi=>?_) (fun ih=>br_no (Int.lt_irrefl _)) (by omega) (fun hlk=>?_) (fun i hi hb=>?_)
 ·have h1:(i:Int)<(nt.2.length:Int):=by omega
  have e1:((nt.2.getD i zLink).2.2.2.2).length≤1048576:=by rw [getD_lt hi]; exact (h.link _ (List.getElem_mem hi)).tokens
  have e2:(s.2.1.getD i []).length≤1048576:=by rw [getD_lt (by omega)]; exact hs.queue _ (List.getElem_mem (by omega))
  have e3:(s.2.2.1.getD i []).length≤1048576:=by rw [getD_lt (by omega)]; exact hs.sent _ (List.getElem_mem (by omega))
  have e4:okS (nt.2.getD i zLink).2.2.2.2=true:=by rw [getD_lt hi]; exact a1.toks i hi
  simp only [h1,decide_true,br_true,Int.toNat_natCast]
  rw [chk_true (by simp),chk_true (by simp; omega),chk_true (by simp; omega),w64_succ (by omega)]
  exact linkI_step e1 e2 e3 e4 hn
 ·simp only [W_some,true_iff]
  exact ⟨a1,a2,a3,a4,by omega,fun i hi=>hok i (by omega),fun i hi=>by simpa using hlk i hi⟩
 ·simp only [W_some,Bool.false_eq_true,false_iff]
  intro o; have:=o.lnk i hi; exact of_decide_eq_false hb this
end Go.AmT
namespace Go.AmT
open Go Go.Am Go.Proofs
set_option linter.unusedVariables false
set_option maxRecDepth 100000
end Go.AmT
namespace Go.AmT
open Go Go.Am
set_option linter.unusedVariables false
set_option linter.unusedSimpArgs false
theorem iter_line {γ ρ:Type} {F:(γ→Option ρ)→γ→Option ρ} (st:Nat→γ) (len:Nat) {R:Option ρ} (h1:∀ ih i,i<len→F ih (st i)=ih (st (i+1))) (h2:∀ ih,F ih (st len)=R) {n:Nat} (hn:len<n):iter n F (st 0)=R:=by
 have:∀ k i,i+k=len→∀ n,k<n→iter n F (st i)=R:=by
  intro k
  induction k with
  | zero=>intro i e n hn; obtain ⟨m,rfl⟩:∃ m,n=m+1:=⟨n-1,by omega⟩; rw [show i=len by omega]; exact h2 _
  | succ k ih=>intro i e n hn; obtain ⟨m,rfl⟩:∃ m,n=m+1:=⟨n-1,by omega⟩; exact (h1 _ i (by omega)).trans (ih (i+1) (by omega) m (by omega))
 exact this len 0 (by omega) n hn
theorem push_loop {α β γ ρ:Type} (l:List α) (g:α→β) (st:Int→List β→γ) {F:(γ→Option ρ)→γ→Option ρ} {R:List β→Option ρ}
  (h1:∀ ih i (hi:i<l.length) (s:List β),s.length=i→F ih (st i s)=ih (st ((i+1:Nat):Int) (s++[g l[i]])))
  (h2:∀ ih s,F ih (st l.length s)=R s) {n:Nat} (hn:l.length<n):iter n F (st 0 [])=R (l.map g):=by
 have:=iter_line (F:=F) (fun i=>st (i:Int) ((l.take i).map g)) l.length (R:=R (l.map g)) (fun ih i hi=>by
  show F ih (st (i:Int) ((l.take i).map g))=_
  rw [h1 ih i hi _ (by simp; omega),List.take_succ_eq_append_getElem hi,List.map_append]; rfl) (fun ih=>by
  show F ih (st (l.length:Int) _)=_
  rw [h2]; simp) hn
 simpa using this
theorem bind_unit {ρ β:Type} {x:β} {f:β→Option ρ} : (some x).bind f=f x:=rfl
theorem maxB_eq:(maxB:Int)=140737488355328:=rfl
theorem small_chk {m:Nat} {ρ:Type} {x:Option ρ} (h:m≤1000000000):chk (m≤maxB) x=x:=chk_true (by simp only [maxB]; omega)
theorem chk_T {ρ:Type} {i:Decidable True} {x:Option ρ} : @chk ρ True i x=x:=chk_true trivial
theorem getD_set_same {α:Type} {l:List α} {i:Nat} (h:i<l.length) (x z:α):(l.set i x).getD i z=x:=by simp [h]
theorem any_loop {α:Type} {Q:α→Prop} {F:(Int×Unit→Option α)→Int×Unit→Option α} (len:Nat) (p:Nat→Bool) {yes:Nat→Option α} {no:Option α}
  (h1:∀ ih (i:Nat),i<len→F ih ((i:Int),())=if p i=true then yes i else ih (((i+1:Nat):Int),())) (h2:∀ ih,F ih ((len:Int),())=no) {n:Nat} (hn:len<n)
  (hy:∀ i,i<len→p i=true→W (yes i) Q) (hno:(∀ i,i<len→p i=false)→W no Q):W (iter n F (0,())) Q:=by
 refine W_up (fun i (_:Unit)=>((i:Int),())) len (fun i _=>∀ j,j<i→p j=false) (s0:=()) rfl (fun j hj=>by omega) hn (fun ih s hI=>?_) (fun ih i s hi hI hS=>?_)
 ·rw [h2]; exact hno hI
 ·rw [h1 ih i hi]
  cases hp:p i
  ·refine hS () (fun j hj=>?_)
   rcases Nat.lt_or_ge j i with h | h
   ·exact hI j h
   ·rwa [show j=i by omega]
  ·exact hy i hi hp
theorem any_of {p:Nat→Bool} {len i:Nat} (hi:i<len) (h:p i=true):(List.range len).any p=true:=List.any_eq_true.2 ⟨i,List.mem_range.2 hi,h⟩
theorem any_no {p:Nat→Bool} {len:Nat} (h:∀ i,i<len→p i=false):(List.range len).any p=false:=by
 rw [List.any_eq_false]; intro i hi; rw [h i (List.mem_range.1 hi)]; simp
theorem br_ite {α:Type} {b:Bool} {x y:Option α} : br b x y=if b=true then x else y:=by cases b<;>rfl
theorem push_loopE {α β γ ρ:Type} (l:List α) (g:α→β) (st:Int→List β→γ) {F:(γ→Option ρ)→γ→Option ρ} {R:Option ρ}
  (h1:∀ ih i (hi:i<l.length) (s:List β),s.length=i→F ih (st i s)=ih (st ((i+1:Nat):Int) (s++[g l[i]])))
  (h2:∀ ih,F ih (st l.length (l.map g))=R) {n:Nat} (hn:l.length<n):iter n F (st 0 [])=R:=by
 have:=iter_line (F:=F) (fun i=>st (i:Int) ((l.take i).map g)) l.length (R:=R) (fun ih i hi=>by
  show F ih (st (i:Int) ((l.take i).map g))=_
  rw [h1 ih i hi _ (by simp; omega),List.take_succ_eq_append_getElem hi,List.map_append]; rfl) (fun ih=>by
  show F ih (st (l.length:Int) _)=_
  rw [List.take_length]; exact h2 ih) hn
 simpa using this
variable {α:Type} {f:α→Int→α×Int}
end Go.AmT
namespace Go.AmT
open Go Go.Am
set_option linter.unusedVariables false
set_option linter.unusedSimpArgs false
end Go.AmT
namespace Go.AmT
open Go Go.Am Go.Proofs
set_option linter.unusedVariables false
set_option maxRecDepth 100000
abbrev tRun:Ty:=(.pair tNetwork (.pair tState (.pair (.sl IS) (.pair (.sl IS) (.osl I)))))
abbrev Run:Type:=Network×(State×(List (List Int)×(List (List Int)×Option (List Int))))
def tys4:List (Nat×TInfo):=[(3,⟨false,1,8,[.int .i64 0],.int .i64,0,some I,[],false⟩),
 (23,⟨false,1,24,[.nil],.slice,68,some (.sl tProgram),[],false⟩),
 (24,⟨false,1,24,[.nil],.slice,71,some (.sl tLink),[],false⟩),
 (26,⟨true,2,48,[.nil,.nil],.struct,0,some tNetwork,[(0,23),(1,24)],false⟩),
 (28,⟨false,1,24,[.nil],.slice,75,some (.sl tActor),[],false⟩),
 (29,⟨false,1,24,[.nil],.slice,32,some (.sl IS),[],false⟩),
 (31,⟨true,4,80,[.nil,.nil,.nil,.int .i64 0],.struct,0,some tState,[(0,28),(1,29),(2,29),(3,3)],false⟩),
 (32,⟨false,1,24,[.nil],.slice,3,some IS,[],false⟩),
 (66,⟨false,1,24,[.nil],.slice,122,some (.sl tInstr),[],false⟩),
 (68,⟨true,3,40,[.int .i64 0,.int .i64 0,.nil],.struct,0,some tProgram,[(0,3),(1,3),(2,66)],false⟩),
 (71,⟨true,5,56,[.int .i64 0,.int .i64 0,.int .i64 0,.int .i64 0,.nil],.struct,0,some tLink,[(0,3),(1,3),(2,3),(3,3),(4,32)],false⟩),
 (75,⟨true,2,32,[.int .i64 0,.nil],.struct,0,some tActor,[(0,3),(1,32)],false⟩),
 (82,⟨true,9,200,[.nil,.nil,.nil,.nil,.nil,.int .i64 0,.nil,.nil,.nil],.struct,0,some tRun,[(0,26),(2,31),(6,29),(7,29),(8,32)],false⟩),
 (122,⟨true,4,32,[.int .i64 0,.int .i64 0,.int .i64 0,.int .i64 0],.struct,0,some tInstr,[(0,3),(1,3),(2,3),(3,3)],false⟩)]
theorem tys4_ok:(tys4.all fun p=>tokB Tryz.prog p.1 p.2)=true:=by kernel_rfl
noncomputable def cloneI.f (n:Nat) (a0:List Int):Option ((List Int)×Unit):=chk ((([]:List Int).length+a0.length)*8≤maxB) (some ((([]:List Int)++a0),()))
noncomputable def cloneI.mng (n:Nat):Mng:=⟨[.val (.sl I)],[.val (.sl I)],fun x=>cloneI.f n x.1⟩
noncomputable def cloneI.cfg (n:Nat):Cfg:=⟨tys4,[],[],[]⟩
theorem cloneI.gof:GoF Tryz.prog 64:=⟨_,Tryz.func64,by kernel_rfl,by kernel_rfl⟩
theorem cloneI.eq0:∀ (n:Nat),runNil (cloneI.cfg n) n Tryz.f64 (annOf Tryz.f64 []) [.val (.sl I)] [.val (.sl I)] .nil [] []=some (([]:List Int),()):=by
 intros
 kernel_rfl
theorem cloneI.eq1:∀ (n:Nat) (a0:List Int),runNil (cloneI.cfg n) n Tryz.f64 (annOf Tryz.f64 []) [.val (.sl I)] [.val (.sl I)] (.osh I (some a0)) [] []=cloneI.f n a0:=by
 intros
 kernel_rfl
theorem cloneI.sound (n:Nat):Sound Tryz.prog 64 (cloneI.mng n):=
 runNil_sound (t:=I) (ps:=[]) (rs:=[.val (.sl I)]) (F:=fun x=>cloneI.f n x.1) (regOK mixed (opOK (.of (c:=cloneI.cfg n) trivial) (.of (c:=cloneI.cfg n) trivial)) (tysOK tys4_ok)) (tysOK tys4_ok) Tryz.func64
  (fun x y hy hx=>by
   have hy:cloneI.f n x.1=some y:=hy
   rw [hx] at hy
   unfold cloneI.f chk at hy
   split at hy
   ·exact (cloneI.eq0 n).trans hy
   ·simp at hy)
  (fun x y hy=>(cloneI.eq1 n x.1).trans hy)
def copyStreams.las:List (Nat×LA):=[(4,⟨[(3,.own 1000 IS),(9,.int .i64)],[(1000,.row true IS)],[7,8],[]⟩)]
noncomputable def copyStreams.f (n:Nat) (a0:List (List Int)):Option ((List (List Int))×Unit):=iter (α:=(Int×(List (List Int))×Unit)) n (fun ih7 x6=>br (decide (x6.1<(a0.length:Int))) (chk (0≤x6.1∧x6.1<(a0.length:Int)) ((cloneI.f n (a0.getD x6.1.toNat [])).bind fun r8=>chk ((x6.2.1.length+([r8.1]:List (List Int)).length)*24≤maxB) (ih7 ((w64 (x6.1+1)),((x6.2.1++[r8.1]),()))))) (some (x6.2.1,()))) (0,([],()))
noncomputable def copyStreams.mng (n:Nat):Mng:=⟨[.val (.sl IS)],[.val (.sl IS)],fun x=>copyStreams.f n x.1⟩
noncomputable def copyStreams.cfg (n:Nat):Cfg:=⟨tys4,[(64,cloneI.mng n)],[],[]⟩
theorem copyStreams.gof:GoF Tryz.prog 112:=⟨_,Tryz.func112,by kernel_rfl,by kernel_rfl⟩
theorem copyStreams.sound (n:Nat):Sound Tryz.prog 112 (copyStreams.mng n):=sndF (c:=copyStreams.cfg n) (n:=n) (an:=annOf Tryz.f112 copyStreams.las) ⟨⟨cloneI.sound n,cloneI.gof⟩,trivial⟩ trivial (tysOK tys4_ok) Tryz.func112 (fun x=>by kernel_rfl)
def copyState.las:List (Nat×LA):=[(4,⟨[(3,.vptr 1000 0),(18,.int .i64)],[(1000,.cells [] [.own 1001 tActor,.own 1002 IS,.own 1003 IS,.int .i64]),(1001,.row true tActor),(1002,.row true IS),(1003,.row true IS)],[2,16,17],[]⟩)]
noncomputable def copyState.f (n:Nat) (a0:State):Option (State×Unit):=(copyStreams.f n a0.2.1).bind fun r1=>(copyStreams.f n a0.2.2.1).bind fun r2=>iter (α:=(Int×(Int×(List Actor)×(List (List Int))×(List (List Int))×Unit))) n (fun ih23 x22=>br (decide (x22.1<(a0.1.length:Int))) (chk (0≤x22.1∧x22.1<(a0.1.length:Int)) (let v24:=(a0.1.getD x22.1.toNat zActor); (cloneI.f n v24.2).bind fun r25=>chk ((x22.2.2.1.length+([(v24.1,r25.1)]:List Actor).length)*32≤maxB) (ih23 ((w64 (x22.1+1)),(x22.2.1,((x22.2.2.1++[(v24.1,r25.1)]),(x22.2.2.2.1,(x22.2.2.2.2.1,())))))))) (some ((x22.2.2.1,(x22.2.2.2.1,(x22.2.2.2.2.1,x22.2.1))),()))) (0,(a0.2.2.2,([],(r1.1,(r2.1,())))))
noncomputable def copyState.mng (n:Nat):Mng:=⟨[.val tState],[.val tState],fun x=>copyState.f n x.1⟩
noncomputable def copyState.cfg (n:Nat):Cfg:=⟨tys4,[(112,copyStreams.mng n),(64,cloneI.mng n)],[],[]⟩
theorem copyState.gof:GoF Tryz.prog 63:=⟨_,Tryz.func63,by kernel_rfl,by kernel_rfl⟩
theorem copyState.sound (n:Nat):Sound Tryz.prog 63 (copyState.mng n):=sndF (c:=copyState.cfg n) (n:=n) (an:=annOf Tryz.f63 copyState.las) ⟨⟨copyStreams.sound n,copyStreams.gof⟩,⟨⟨cloneI.sound n,cloneI.gof⟩,trivial⟩⟩ trivial (tysOK tys4_ok) Tryz.func63 (fun x=>by kernel_rfl)
def newRun.las:List (Nat×LA):=[(4,⟨[(7,.vptr 1000 0),(21,.int .i64)],[(1000,.cells [] [.sh tProgram,.sh tLink,.own 1001 tActor,.own 1002 IS,.own 1003 IS,.int .i64,.own 1004 IS,.own 1005 IS,.osh I]),(1001,.row true tActor),(1002,.row true IS),(1003,.row true IS),(1004,.row true IS),(1005,.row true IS)],[3,19,20],[]⟩),(13,⟨[(7,.vptr 1000 0),(53,.int .i64)],[(1000,.cells [] [.sh tProgram,.sh tLink,.own 1001 tActor,.own 1002 IS,.own 1003 IS,.int .i64,.own 1004 IS,.own 1005 IS,.osh I]),(1001,.row true tActor),(1002,.row true IS),(1003,.row true IS),(1004,.row true IS),(1005,.row true IS)],[51,52],[]⟩),(19,⟨[(7,.vptr 1000 0)],[(1000,.cells [] [.sh tProgram,.sh tLink,.own 1001 tActor,.own 1002 IS,.own 1003 IS,.int .i64,.own 1004 IS,.own 1005 IS,.osh I]),(1001,.row true tActor),(1002,.row true IS),(1003,.row true IS),(1004,.row true IS),(1005,.row true IS)],[10,11,51,52,53],[]⟩)]
def newRun.la:LA:=⟨[(0,.agg [.sh tProgram,.sh tLink]),(1,.agg [.sh tActor,.sh IS,.sh IS,.int .i64]),(2,.osh I)],[],[],[]⟩
def newRun.lb:LA:=⟨[(0,.vptr 1000 0)],[(1000,.cells [] [.sh tProgram,.sh tLink,.own 1001 tActor,.own 1002 IS,.own 1003 IS,.int .i64,.own 1004 IS,.own 1005 IS,.osh I]),(1001,.row true tActor),(1002,.row true IS),(1003,.row true IS),(1004,.row true IS),(1005,.row true IS)],[],[]⟩
noncomputable def newRun.f (n:Nat) (a0:List Program) (a1:List Link) (a2:List Actor) (a3:List (List Int)) (a4:List (List Int)) (a5:Int) (a6:Option (List Int)):Option ((List Program)×(List Link)×(Int×(Option (List Int))×(List Actor)×(List (List Int))×(List (List Int))×(List (List Int))×(List (List Int))×Unit)):=(copyState.f n (a2,(a3,(a4,a5)))).bind fun r1=>iter (α:=(Int×(List Program)×(List Link)×(Int×(Option (List Int))×(List Actor)×(List (List Int))×(List (List Int))×(List (List Int))×(List (List Int))×Unit))) n (fun ih34 x33=>br (decide (x33.1<(a0.length:Int))) (chk (0≤x33.1∧x33.1<(a0.length:Int)) (let v35:=(a0.getD x33.1.toNat zProgram); chk (v35.1=v35.1∧0≤v35.1∧v35.1*(8:Int)≤(maxB:Int)) (chk ((x33.2.2.2.2.2.2.2.2.1.length+([(List.replicate v35.1.toNat (0:Int))]:List (List Int)).length)*24≤maxB) (chk (v35.2.1=v35.2.1∧0≤v35.2.1∧v35.2.1*(8:Int)≤(maxB:Int)) (chk ((x33.2.2.2.2.2.2.2.2.2.1.length+([(List.replicate v35.2.1.toNat (0:Int))]:List (List Int)).length)*24≤maxB) (ih34 ((w64 (x33.1+1)),(x33.2.1,(x33.2.2.1,(x33.2.2.2.1,(x33.2.2.2.2.1,(x33.2.2.2.2.2.1,(x33.2.2.2.2.2.2.1,(x33.2.2.2.2.2.2.2.1,((x33.2.2.2.2.2.2.2.2.1++[(List.replicate v35.1.toNat (0:Int))]),((x33.2.2.2.2.2.2.2.2.2.1++[(List.replicate v35.2.1.toNat (0:Int))]),())))))))))))))))) (iter (α:=(Int×(List Program)×(List Link)×(Int×(Option (List Int))×(List Actor)×(List (List Int))×(List (List Int))×(List (List Int))×(List (List Int))×Unit))) n (fun ih54 x53=>br (decide (x53.1<(a1.length:Int))) (chk (0≤x53.1∧x53.1<(a1.length:Int)) (let v55:=(a1.getD x53.1.toNat zLink); cut (α:=((List Program)×(List Link)×(Int×(Option (List Int))×(List Actor)×(List (List Int))×(List (List Int))×(List (List Int))×(List (List Int))×Unit))) (br (decide (0≤v55.2.2.1)) (chk (0≤v55.2.2.1∧v55.2.2.1<(x53.2.2.2.2.2.2.2.2.1.length:Int)) (chk (0≤v55.2.2.2.1∧v55.2.2.2.1<((x53.2.2.2.2.2.2.2.2.1.getD v55.2.2.1.toNat []).length:Int)) (let v58:=(x53.2.2.2.2.2.2.2.2.1.set v55.2.2.1.toNat ((x53.2.2.2.2.2.2.2.2.1.getD v55.2.2.1.toNat []).set v55.2.2.2.1.toNat x53.1)); some (.inr (x53.2.1,(x53.2.2.1,(x53.2.2.2.1,(x53.2.2.2.2.1,(x53.2.2.2.2.2.1,(x53.2.2.2.2.2.2.1,(x53.2.2.2.2.2.2.2.1,(v58,(x53.2.2.2.2.2.2.2.2.2.1,()))))))))))))) (some (.inr (x53.2.1,(x53.2.2.1,(x53.2.2.2.1,(x53.2.2.2.2.1,(x53.2.2.2.2.2.1,(x53.2.2.2.2.2.2.1,(x53.2.2.2.2.2.2.2.1,(x53.2.2.2.2.2.2.2.2.1,(x53.2.2.2.2.2.2.2.2.2.1,())))))))))))) fun y57=>br (decide (0≤v55.1)) (chk (0≤v55.1∧v55.1<(y57.2.2.2.2.2.2.2.2.1.length:Int)) (chk (0≤v55.2.1∧v55.2.1<((y57.2.2.2.2.2.2.2.2.1.getD v55.1.toNat []).length:Int)) (let v59:=(y57.2.2.2.2.2.2.2.2.1.set v55.1.toNat ((y57.2.2.2.2.2.2.2.2.1.getD v55.1.toNat []).set v55.2.1.toNat x53.1)); ih54 ((w64 (x53.1+1)),(y57.1,(y57.2.1,(y57.2.2.1,(y57.2.2.2.1,(y57.2.2.2.2.1,(y57.2.2.2.2.2.1,(y57.2.2.2.2.2.2.1,(y57.2.2.2.2.2.2.2.1,(v59,()))))))))))))) (ih54 ((w64 (x53.1+1)),(y57.1,(y57.2.1,(y57.2.2.1,(y57.2.2.2.1,(y57.2.2.2.2.1,(y57.2.2.2.2.2.1,(y57.2.2.2.2.2.2.1,(y57.2.2.2.2.2.2.2.1,(y57.2.2.2.2.2.2.2.2.1,()))))))))))))) (some (x53.2.1,(x53.2.2.1,(x53.2.2.2.1,(x53.2.2.2.2.1,(x53.2.2.2.2.2.1,(x53.2.2.2.2.2.2.1,(x53.2.2.2.2.2.2.2.1,(x53.2.2.2.2.2.2.2.2.1,(x53.2.2.2.2.2.2.2.2.2.1,()))))))))))) (0,(x33.2.1,(x33.2.2.1,(x33.2.2.2.1,(x33.2.2.2.2.1,(x33.2.2.2.2.2.1,(x33.2.2.2.2.2.2.1,(x33.2.2.2.2.2.2.2.1,(x33.2.2.2.2.2.2.2.2.1,(x33.2.2.2.2.2.2.2.2.2.1,())))))))))))) (0,(a0,(a1,(r1.1.2.2.2,(a6,(r1.1.1,(r1.1.2.1,(r1.1.2.2.1,([],([],()))))))))))
noncomputable def newRun.mng (n:Nat):LMng:=⟨newRun.la,newRun.lb,fun x=>newRun.f n x.1 x.2.1 x.2.2.1 x.2.2.2.1 x.2.2.2.2.1 x.2.2.2.2.2.1 x.2.2.2.2.2.2.1⟩
noncomputable def newRun.cfg (n:Nat):Cfg:=⟨tys4,[(63,copyState.mng n)],[],[]⟩
theorem newRun.gof:GoF Tryz.prog 39:=⟨_,Tryz.func39,by kernel_rfl,by kernel_rfl⟩
theorem newRun.sound (n:Nat):LSound Tryz.prog 39 (newRun.mng n):=sndL (c:=newRun.cfg n) (n:=n) (an:=annOf Tryz.f39 newRun.las) ⟨⟨copyState.sound n,copyState.gof⟩,trivial⟩ trivial (tysOK tys4_ok) Tryz.func39 (fun x=>by kernel_rfl)
def want.las:List (Nat×LA):=[]
noncomputable def want.f (n:Nat) (a0:Program) (a1:Actor):Option (Int×(Int×Unit)):=br (decide (a1.1=(a0.2.2.length:Int))) (some (0,(0,()))) (chk (0≤a1.1∧a1.1<(a0.2.2.length:Int)) (let v1:=(a0.2.2.getD a1.1.toNat zInstr); br (decide (v1.1=11)) (some (0,(0,()))) (br (decide (v1.1=1)) (some (2,(v1.2.2.1,()))) (br (decide (v1.1=2)) (some (3,(v1.2.2.1,()))) (some (1,(0,())))))))
noncomputable def want.mng (n:Nat):Mng:=⟨[.val tProgram,.val tActor],[.val I,.val I],fun x=>want.f n x.1 x.2.1⟩
noncomputable def want.cfg (n:Nat):Cfg:=⟨tys4,[],[],[]⟩
theorem want.gof:GoF Tryz.prog 179:=⟨_,Tryz.func179,by kernel_rfl,by kernel_rfl⟩
theorem want.sound (n:Nat):Sound Tryz.prog 179 (want.mng n):=sndF (c:=want.cfg n) (n:=n) (an:=annOf Tryz.f179 want.las) trivial trivial (tysOK tys4_ok) Tryz.func179 (fun x=>by kernel_rfl)
def wants.las:List (Nat×LA):=[]
noncomputable def wants.f (n:Nat) (a0:Run) (a1:Int):Option (Int×(Int×Unit)):=chk (0≤a1∧a1<(a0.1.1.length:Int)) (let v1:=(a0.1.1.getD a1.toNat zProgram); chk (0≤a1∧a1<(a0.2.1.1.length:Int)) (let v2:=(a0.2.1.1.getD a1.toNat zActor); (want.f n v1 v2).bind fun r3=>br (decide (r3.1=2)) (chk (0≤a1∧a1<(a0.2.2.1.length:Int)) (let v4:=(a0.2.2.1.getD a1.toNat []); chk (0≤r3.2.1∧r3.2.1<(v4.length:Int)) (some (r3.1,((v4.getD r3.2.1.toNat 0),()))))) (br (decide (r3.1=3)) (chk (0≤a1∧a1<(a0.2.2.2.1.length:Int)) (let v5:=(a0.2.2.2.1.getD a1.toNat []); chk (0≤r3.2.1∧r3.2.1<(v5.length:Int)) (some (r3.1,((v5.getD r3.2.1.toNat 0),()))))) (some (r3.1,((-1),()))))))
noncomputable def wants.mng (n:Nat):Mng:=⟨[.psh tRun,.val I],[.val I,.val I],fun x=>wants.f n x.1 x.2.1⟩
noncomputable def wants.cfg (n:Nat):Cfg:=⟨tys4,[(179,want.mng n)],[],[]⟩
theorem wants.gof:GoF Tryz.prog 141:=⟨_,Tryz.func141,by kernel_rfl,by kernel_rfl⟩
theorem wants.sound (n:Nat):Sound Tryz.prog 141 (wants.mng n):=sndF (c:=wants.cfg n) (n:=n) (an:=annOf Tryz.f141 wants.las) ⟨⟨want.sound n,want.gof⟩,trivial⟩ trivial (tysOK tys4_ok) Tryz.func141 (fun x=>by kernel_rfl)
def can.las:List (Nat×LA):=[(3,⟨[(13,.bool)],[],[0,5,6],[]⟩)]
noncomputable def can.f (n:Nat) (a0:Run) (a1:Int):Option (Bool×Unit):=(wants.f n a0 a1).bind fun r1=>cut (α:=(Bool×Unit)) (br (decide (r1.1=0)) (some (.inr (true,()))) (some (.inr ((decide (20000≤a0.2.1.2.2.2)),())))) fun y2=>br y2.1 (some (false,())) (br (decide (r1.1=2)) (chk (0≤r1.2.1∧r1.2.1<(a0.2.1.2.1.length:Int)) (let v3:=(a0.2.1.2.1.getD r1.2.1.toNat []); some ((decide (0<(v3.length:Int))),()))) (br (decide (r1.1=3)) (chk (0≤r1.2.1∧r1.2.1<(a0.2.1.2.2.1.length:Int)) (let v4:=(a0.2.1.2.2.1.getD r1.2.1.toNat []); some ((decide ((v4.length:Int)<400)),()))) (some (true,()))))
noncomputable def can.mng (n:Nat):Mng:=⟨[.psh tRun,.val I],[.val .bool],fun x=>can.f n x.1 x.2.1⟩
noncomputable def can.cfg (n:Nat):Cfg:=⟨tys4,[(141,wants.mng n)],[],[]⟩
theorem can.gof:GoF Tryz.prog 89:=⟨_,Tryz.func89,by kernel_rfl,by kernel_rfl⟩
theorem can.sound (n:Nat):Sound Tryz.prog 89 (can.mng n):=sndF (c:=can.cfg n) (n:=n) (an:=annOf Tryz.f89 can.las) ⟨⟨wants.sound n,wants.gof⟩,trivial⟩ trivial (tysOK tys4_ok) Tryz.func89 (fun x=>by kernel_rfl)
def may.las:List (Nat×LA):=[(1,⟨[(17,.bool)],[],[0,1],[]⟩)]
noncomputable def may.f (n:Nat) (a0:Run) (a1:Int):Option (Bool×Unit):=cut (α:=(Bool×Unit)) ((can.f n a0 a1).bind fun r3=>br (!r3.1) (some (.inr (true,()))) (some (.inr (a0.2.2.2.2.isNone,())))) fun y2=>br y2.1 ((can.f n a0 a1).bind fun r5=>some (r5.1,())) ((wants.f n a0 a1).bind fun r6=>br (!decide (r6.1=3)) (some (true,())) (chk (0≤r6.2.1∧r6.2.1<(a0.1.2.length:Int)) (let v7:=(a0.1.2.getD r6.2.1.toNat zLink); br (decide (v7.2.2.1<0)) (some (true,())) (chk (0≤r6.2.1∧r6.2.1<(a0.2.1.2.1.length:Int)) (let v8:=(a0.2.1.2.1.getD r6.2.1.toNat []); chk (0≤r6.2.1∧r6.2.1<((a0.2.2.2.2.getD []).length:Int)) (let v9:=((a0.2.2.2.2.getD []).getD r6.2.1.toNat 0); some ((decide ((v8.length:Int)<v9)),())))))))
noncomputable def may.mng (n:Nat):Mng:=⟨[.psh tRun,.val I],[.val .bool],fun x=>may.f n x.1 x.2.1⟩
noncomputable def may.cfg (n:Nat):Cfg:=⟨tys4,[(89,can.mng n),(141,wants.mng n)],[],[]⟩
theorem may.gof:GoF Tryz.prog 87:=⟨_,Tryz.func87,by kernel_rfl,by kernel_rfl⟩
theorem may.sound (n:Nat):Sound Tryz.prog 87 (may.mng n):=sndF (c:=may.cfg n) (n:=n) (an:=annOf Tryz.f87 may.las) ⟨⟨can.sound n,can.gof⟩,⟨⟨wants.sound n,wants.gof⟩,trivial⟩⟩ trivial (tysOK tys4_ok) Tryz.func87 (fun x=>by kernel_rfl)
def quiet.las:List (Nat×LA):=[(3,⟨[(10,.int .i64)],[],[0,9],[]⟩)]
noncomputable def quiet.f (n:Nat) (a0:Run):Option (Bool×Unit):=iter (α:=(Int×Unit)) n (fun ih6 x5=>br (decide (x5.1<(a0.1.1.length:Int))) ((can.f n a0 x5.1).bind fun r7=>br r7.1 (some (false,())) (ih6 ((w64 (x5.1+1)),()))) (some (true,()))) (0,())
noncomputable def quiet.mng (n:Nat):Mng:=⟨[.psh tRun],[.val .bool],fun x=>quiet.f n x.1⟩
noncomputable def quiet.cfg (n:Nat):Cfg:=⟨tys4,[(89,can.mng n)],[],[]⟩
theorem quiet.gof:GoF Tryz.prog 42:=⟨_,Tryz.func42,by kernel_rfl,by kernel_rfl⟩
theorem quiet.sound (n:Nat):Sound Tryz.prog 42 (quiet.mng n):=sndF (c:=quiet.cfg n) (n:=n) (an:=annOf Tryz.f42 quiet.las) ⟨⟨can.sound n,can.gof⟩,trivial⟩ trivial (tysOK tys4_ok) Tryz.func42 (fun x=>by kernel_rfl)
def sL2Want.las:List (Nat×LA):=[]
noncomputable def sL2Want.f (n:Nat) (a0:Program) (a1:Actor):Option (Int×(Int×Unit)):=br (decide (a1.1=(a0.2.2.length:Int))) (some (0,(0,()))) (chk (0≤a1.1∧a1.1<(a0.2.2.length:Int)) (let v1:=(a0.2.2.getD a1.1.toNat zInstr); br (decide (v1.1=11)) (some (0,(0,()))) (br (decide (v1.1=1)) (some (2,(v1.2.2.1,()))) (br (decide (v1.1=2)) (some (3,(v1.2.2.1,()))) (some (1,(0,())))))))
noncomputable def sL2Want.mng (n:Nat):Mng:=⟨[.val tProgram,.val tActor],[.val I,.val I],fun x=>sL2Want.f n x.1 x.2.1⟩
noncomputable def sL2Want.cfg (n:Nat):Cfg:=⟨tys4,[],[],[]⟩
theorem sL2Want.gof:GoF Tryz.prog 146:=⟨_,Tryz.func146,by kernel_rfl,by kernel_rfl⟩
theorem sL2Want.sound (n:Nat):Sound Tryz.prog 146 (sL2Want.mng n):=sndF (c:=sL2Want.cfg n) (n:=n) (an:=annOf Tryz.f146 sL2Want.las) trivial trivial (tysOK tys4_ok) Tryz.func146 (fun x=>by kernel_rfl)
end Go.AmT
