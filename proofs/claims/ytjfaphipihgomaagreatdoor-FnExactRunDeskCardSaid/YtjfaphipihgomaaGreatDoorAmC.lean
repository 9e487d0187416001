/- The abstract machine is right: operations, states made anew, code, results. No condition. -/
import Derived.Test.YtjfaphipihgomaaGreatDoorAmB
import Derived.LoopN
import Derived.Scope
set_option linter.unusedVariables false
set_option linter.unusedSimpArgs false
open Array renaming ext' → ri, getD_eq_getD_getElem? → lY, getElem?_toList → qe
open Bool renaming and_eq_true → aw
open Go.Region renaming wanted → nC
open List renaming all_eq_true → gp, any_eq_true → wb, append_assoc → lZ, getElem?_eq_some_iff → dV, getElem_cons_succ → EO, getElem_cons_zero → R_, length_cons → aQ, length_pos_iff → jA, mem_append → eh, mem_append_left → kO, mem_append_right → sn, mem_cons → fZ, mem_cons_of_mem → jO, mem_map → kb
open Nat renaming add_assoc → bL, add_mul → cY, beq → aM, beq_eq → rj, blt → cL, blt_eq → dJ, eq_of_beq_eq_true → bm, eq_zero_or_pos → mM, le_of_ble_eq_true → gh, le_refl → cj, mul_div_cancel → LO, mul_le_mul_right → fa
open Option renaming map_none → H8
open Option.some renaming inj → aW, injEq → aF
open Prod.mk renaming injEq → bE
namespace Go.Am
open Go
section
variable {P:Program} {c:ba} {g:Gh} {L:bW} {w w':World} {U:Nat→Prop} {sr:St} {a:Act} {site:Nat} {o:Oper} {ρ:Type} {r:ρ} {k:cG→Option ρ} {σ:Src}
theorem ny.ok (S:dp P c g w U sr a) {x:ag} {s:Sem Value} (h:Ok P g w U x s) (he:execOp a.eval o=(do pure (.value (← s)):Sem Next)):ny P g w U site o a ⟨x,[]⟩:=by obtain ⟨v,h1,h2⟩:=h;exact .val S (by rw [he]; simp [h1]) h2
theorem ny.post {e:cG} {s:Sem Value} {v:Value} {w':World} {g':Gh} {U':Nat→Prop} (h:s.run P w = .ok v w') (hp:dL g w U site e v w' g' U') (he:execOp a.eval o=(do pure (.value (← s)):Sem Next)):ny P g w U site o a e:=
 .of (by rw [he]; simp [h]) hp
theorem aab (hc:fY P c) {s d:Nat} {k1 k2 kl:IntKind} {n:Int} {v:Value} (h1:(c.ti s).kind = .int k1) (h2:(c.ti d).kind = .int k2) (hx:aV g w U (.int kl n) v) :
  Ok P g w U (.int k2 (nW k2 n)) (convert s d v):=by
 obtain rfl:=hx;refine ⟨_,?_,by rw [← Eh]; rfl⟩;simp [convert,run_underlying (HD hc h1),run_underlying (HD hc h2),Conv.intToInt]
theorem aac (hc:fY P c) {s d:Nat} {x:List UInt8} {v:Value} (h1:(c.ti s).kind = .str) (h2:(c.ti d).kind = .str) (hx:aV g w U (.str x) v) :
  Ok P g w U (.str x) (convert s d v):=by
 obtain rfl:=hx;refine ⟨_,?_,rfl⟩;simp [convert,run_underlying (Cp hc h1),run_underlying (Cp hc h2)]
theorem aad {ty:Nat} {kk:IntKind} {x y:Int} {ts:Array TypeId} : Ok P g w U (.int kk (max x y)) (Builtin.max_ ts ty #[.int kk x,.int kk y]):=by refine ⟨_,?_,rfl⟩;simp [Builtin.max_,Builtin.max2];rw [Int.max_def]; split<;>split<;>omega
theorem aae {ty:Nat} {kk:IntKind} {x y:Int} {ts:Array TypeId} : Ok P g w U (.int kk (min x y)) (Builtin.min_ ts ty #[.int kk x,.int kk y]):=by refine ⟨_,?_,rfl⟩;simp [Builtin.min_,Builtin.min2];rw [Int.min_def]; split<;>split<;>omega
theorem foldl_push:∀ (ns:List Int) (acc:ByteArray),ns.foldl (fun r n=>r.push (UInt8.ofNat n.toNat)) acc=⟨acc.data++(ns.map fun n=>UInt8.ofNat n.toNat).toArray⟩
 | [],acc=>by apply ByteArray.ext; simp
 | n::ns,acc=>by rw [List.foldl_cons,foldl_push ns];apply ByteArray.ext;apply ri;simp [ByteArray.push]
theorem aaf (S:dp P c g w U sr a) {s d:Nat} {x:ag} {xs:List Int} {u:List Nat} {v:Value} (h1:(c.ti s).kind = .slice) (h2:(c.ti d).kind = .str) (h3:(c.ti (c.ti s).elem).kind = .int .u8) (hx:aV g w U x v)
  (e:sr.tail true (.int .u8) x=some (xs,u)):Ok P g w U (.str (xs.map fun n=>UInt8.ofNat n.toNat)) (convert s d v):=by
 obtain ⟨-,σ,⟨xa,xc,rfl,CI⟩,-,-⟩:=CD (L:=g.lab) (t:=.int .u8) S.aX (fun _ _ h=>h) hx 0 (fun hf=>by simp at hf) e;refine ⟨_,?_,rfl⟩;rw [run_convert_bytes_string w s d (c.ti s).elem _ _ _ (sC S.bw h1) (HD S.bw h3) (Cp S.bw h2)];cases xa with
 | none=>
  have hl:xs.length=0:=by
   rcases mM xs.length with h | h
   ·exact h
   obtain ⟨_,_,h,-⟩:=CI h; simp at h
  have:xs=[]:=List.eq_nil_of_length_eq_zero hl;subst this;simp [Conv.bytesToString];rfl
 | some q=>
  have HC:(loadCells q xs.length).run P w = .ok (xs.map (Value.int .u8)).toArray w:=by
   have:=run_loadCells_list (P:=P) w q (xs.map (Value.int .u8)) (fun j v hj=>?_)
   ·simpa using this
   simp only [List.getElem?_map] at hj;obtain ⟨n,h4,rfl⟩:=Option.map_eq_some_iff.1 hj;obtain ⟨h5,rfl⟩:=dV.1 h4;obtain ⟨b,o,h6,h7⟩:=CI (Nat.lt_of_le_of_lt (Nat.zero_le _) h5);simp only [aF] at h6;subst h6;have h8:w.cell? (ad b (o+j*1+0))=some (.int .u8 xs[j]):=h7 j h5;rw [Addr.add_lit];simpa using h8
  refine Eq.trans (run_bytesToString w q xs.length xc xs HC) ?_;rw [foldl_push];simp
end
end Go.Am
namespace Go.Am
open Go
section
variable {P:Program} {c:ba} {g:Gh} {L:bW} {w w':World} {U:Nat→Prop} {sr:St} {a:Act} {site:Nat} {o:Oper} {ρ:Type} {r:ρ} {k:cG→Option ρ} {σ:Src}
theorem aag {x:ag} {v:Value} (h:aV g w U x v):aV g w U x.QH v:=by cases x<;>first | exact h | exact h.1
def H9:Op→Bool
 | .call ⟨.value _,_,_⟩=>true
 | _=>false
theorem aah (S:dp P c g w U sr a) (hs:¬ U site) (ug:H9 o.op=false) (e:eE c sr site o.op k=some r):∃ bq,k bq=some r∧ny P g w U site o a bq:=by
 cases aH:o.op with
 | move x=>rw [aH] at e; exact ⟨_,e,.val S (by simp [execOp,aH]) (S.ev x)⟩
 | assign x=>rw [aH] at e; exact ⟨_,e,.val S (by simp [execOp,aH]) (S.ev x)⟩
 | pick q x y=>
  rw [aH] at e;simp only [eE] at e;split at e
  ·rename_i t hq;have qm:=S.ev q;rw [hq] at qm;cases t with
   | true=>exact ⟨_,e,.val S (v:=a.eval x) (by simp [execOp,aH,show a.eval q = .bool true from qm,asBool]) (S.ev x)⟩
   | false=>exact ⟨_,e,.val S (v:=a.eval y) (by simp [execOp,aH,show a.eval q = .bool false from qm,asBool]) (S.ev y)⟩
  simp at e
 | alloc t=>
  rw [aH] at e;simp only [eE] at e;split at e
  ·rename_i ht;obtain ⟨v,w',g',U',h1,h2⟩:=Y5 S hs (by simpa [dJ] using ht);exact ⟨_,e,.post h1 h2 (by simp [execOp,aH])⟩
  simp at e
 | box t x=>
  rw [aH] at e;simp only [eE] at e;split at e
  ·rename_i ht;obtain ⟨v,w',g',U',h1,h2⟩:=Y6 (t:=t) S hs (S.ev x) ht;exact ⟨_,e,.post h1 h2 (by simp [execOp,aH])⟩
  simp at e
 | build t parts=>
  rw [aH] at e;simp only [eE] at e;split at e
  ·rename_i cs h;split at h
   ·rename_i hk hf;exact ⟨_,e,.ok S (Y7 S hk hf h) (by simp only [execOp,aH])⟩
   simp at h
  simp at e
 | buildSlice t len parts=>
  rw [aH] at e;simp only [eE] at e;split at e
  ·simp at e
  rename_i h;split at h
  ·rename_i hk hf;rw [aw] at hf;split at e
   ·rename_i cs kq;obtain ⟨v,w',g',U',h1,h2⟩:=Za S hs hk (by simpa [dJ] using hf.1) (gh hf.2) kq;exact ⟨_,e,.post h1 h2 (by simp only [execOp,aH])⟩
   simp at e
  simp at h
 | load t x=>
  rw [aH] at e;simp only [eE] at e;split at e
  ·rename_i cs j h;split at h
   ·rename_i ht;split at e
    ·rename_i z hz;exact ⟨_,e,.ok S (Q0 S.bw S.aX (S.ev x) (by simpa [dJ] using ht) h hz) (by simp only [execOp,aH])⟩
    simp at e
   simp at h
  simp at e
 | store t x y=>
  rw [aH] at e;simp only [eE] at e;split at e
  ·simp at e
  rename_i ht;obtain ⟨bq,h1,w',g',U',h2,h3⟩:=ZU S hs (by simpa [dJ] using ht) (S.ev x) (S.ev y) e;exact ⟨_,h1,.skip (by simp [execOp,aH,h2]) h3⟩
 | nilCheck x=>
  rw [aH] at e;simp only [eE] at e;have hx:=S.ev x;split at e
  ·rename_i id j hq;rw [hq] at hx;refine ⟨_,e,.val S (v:=a.eval x) ?_ hx⟩;obtain ⟨-,-,b,o',-,hv⟩:=hx;simp [execOp,aH,hv]
  ·rename_i id _ _ t i j hq;rw [hq] at hx;refine ⟨_,e,.val S (v:=a.eval x) ?_ hx⟩;obtain ⟨-,-,-,-,-,-,b,o',-,hv⟩:=hx;simp [execOp,aH,hv]
  ·rename_i t z j hq;rw [hq] at hx;refine ⟨_,e,.val S (v:=a.eval x) ?_ hx⟩;obtain ⟨b,o',hv,-⟩:=hx;simp [execOp,aH,hv]
  simp at e
 | unOp op t x=>
  rw [aH] at e;simp only [eE] at e;have hx:=S.ev x;split at e
  ·rename_i b hq;rw [hq] at hx;exact ⟨_,e,.ok S (x:=.bool (!b)) (s:=Op.unary .not (a.eval x)) ⟨.bool (!b),by rw [show a.eval x=_ from hx]; rfl,rfl⟩ (by simp only [execOp,aH])⟩
  ·rename_i kk n hq;rw [hq] at hx;exact ⟨_,e,.ok S (x:=.int kk (nW kk (0-n))) (s:=Op.unary .neg (a.eval x)) ⟨.int kk (nW kk (0-n)),by rw [show a.eval x=_ from hx]; simp [Op.unary,Op.intArith,Eh],rfl⟩ (by simp only [execOp,aH])⟩
  simp at e
 | convert s d x=>
  rw [aH] at e;simp only [eE] at e;have hx:=S.ev x;split at e
  ·rename_i kl n h1 h2 hq;rw [hq] at hx;exact ⟨_,e,.ok S (aab S.bw h1 h2 hx) (by simp only [execOp,aH])⟩
  ·rename_i z h1 h2 hq;rw [hq] at hx;exact ⟨_,e,.ok S (aac S.bw h1 h2 hx) (by simp only [execOp,aH])⟩
  ·rename_i y h1 h2;split at e
   ·rename_i u h3 h4;exact ⟨_,e,.ok S (aaf S h1 h2 h3 hx h4) (by simp only [execOp,aH])⟩
   simp at e
  simp at e
 | makeFunc f first caps=>
  rw [aH] at e;cases f with
  | func f=>
   simp only [eE] at e;split at e
   ·rename_i hf;have hf:first = #[]:=by simpa using hf
    subst hf;have hl:∀ l:List Operand,cu g w U (l.map sr.ev) (l.map a.eval):=by
     intro l;induction l with
     | nil=>rfl
     | cons x l ih=>exact ⟨_,_,rfl,S.ev x,ih⟩
    exact ⟨_,e,.ok S (s:=Instr.makeFunc (.func f) ((#[]:Array Operand).map a.eval) (caps.map a.eval)) ⟨_,rfl,caps.toList.map a.eval,by simp; apply ri; simp,hl _⟩ (by simp only [execOp,aH])⟩
   simp at e
  | _=>simp [eE] at e
 | makeSlice t l cp=>
  rw [aH] at e;simp only [eE] at e;have hl:=S.ev l;have hc:=S.ev cp;split at e
  ·rename_i kl n kc m rf ka;rw [rf] at hl;rw [ka] at hc;split at e
   ·rename_i jS hk hty ku;unfold ab at e;split at e
    ·rename_i hb;obtain ⟨rfl,h1,h2⟩:=hb;obtain ⟨v,w',g',U',h3,h4⟩:=Zh (ow:=!(c.mF.any (aM site))) (kl:=kl) (kc:=kc) S hs hk hty (gh ku) ⟨h1,h2⟩;refine ⟨_,e,.post (s:=Instr.makeSlice t (a.eval l) (a.eval cp)) ?_ h4 (by simp only [execOp,aH])⟩;rw [show a.eval l=_ from hl,show a.eval cp=_ from hc];exact h3
    simp at e
   simp at e
  simp at e
 | slice t x lo hi mx=>
  rw [aH] at e;cases mx with
  | some m=>simp [eE] at e
  | none=>
   simp only [eE] at e;split at e
   ·rename_i hk;split at e
    ·simp at e
    rename_i bB;split at e
    ·obtain ⟨bq,h1,v',w',g',U',h2,h3⟩:=RZ S hs hk (by simpa [dJ] using bB) (S.ev x) e;exact ⟨_,h1,.post h2 h3 (by simp only [execOp,aH,H8])⟩
    split at e
    ·obtain ⟨bq,h1,v',w',g',U',h2,h3⟩:=RZ S hs hk (by simpa [dJ] using bB) (S.ev x) e;exact ⟨_,h1,.post h2 h3 (by simp only [execOp,aH,H8])⟩
    obtain ⟨z,h1,h2⟩:=Q7 S hk (by simpa [dJ] using bB) (S.ev x) e;exact ⟨_,h1,.ok S h2 (by simp only [execOp,aH,H8])⟩
   ·rename_i hk;split at e
    ·rename_i z hq;have hx:=S.ev x;rw [hq] at hx;obtain ⟨z,h1,h2⟩:=YM S hk hx e;exact ⟨_,h1,.ok S h2 (by simp only [execOp,aH,H8])⟩
    simp at e
   simp at e
 | extract x i=>
  rw [aH] at e;simp only [eE] at e;have hx:=S.ev x;split at e
  ·rename_i hq;rw [hq] at hx;split at e
   ·rename_i z hz;exact ⟨_,e,.ok S (YP hx hz) (by simp only [execOp,aH])⟩
   simp at e
  simp at e
 | index t x i=>
  rw [aH] at e;simp only [eE] at e;have hx:=S.ev x;have hi:=S.ev i;split at e
  ·rename_i z kk n rf ka hk;rw [rf] at hx;rw [ka] at hi;unfold ab at e;split at e
   ·rename_i hb;refine ⟨_,e,.ok S (s:=Instr.index t (a.eval x) (a.eval i)) ?_ (by simp only [execOp,aH])⟩;rw [show a.eval i=_ from hi];exact YO S.bw hk hx hb
   simp at e
  simp at e
 | indexAddr t x i=>
  rw [aH] at e;simp only [eE] at e;have hi:=S.ev i;split at e
  ·rename_i kk n ka hk bB;rw [ka] at hi;have e:p5 (c.ti (c.ti t).elem).size sr (sr.ev x) n (fun v=>k ⟨v,[]⟩)=some r:=by
    cases hf:c.mF.any (aM (site+2000000)) with
    | true=>simp only [hf] at e; exact Q2 e
    | false=>simp only [hf] at e; exact e
   obtain ⟨z,h1,h2⟩:=YI (z:=.undef) (kk:=kk) S hk (by simpa [dJ] using bB) (S.ev x) e;refine ⟨_,h1,.ok S (s:=Instr.indexAt t (a.eval x) (a.eval i)) ?_ (by simp only [execOp,aH])⟩;rw [show a.eval i=_ from hi];exact h2
  simp at e
 | fieldAddr t x f=>
  rw [aH] at e;simp only [eE] at e;split at e
  ·rename_i off ft hk hf;cases hb:cL 0 (c.ti ft).size with
   | false=>rw [hb] at e; simp at e
   | true=>
    rw [hb] at e;have bB:0<(c.ti ft).size:=by simpa [dJ] using hb
    cases hm:D2 (sr.ev x) off with
    | undef=>rw [hm] at e; simp at e
    | _=>
     rw [hm] at e;exact ⟨_,e,.ok S (YF S.bw hk hf bB (S.ev x) hm (by simp)) (by simp only [execOp,aH])⟩
  simp at e
 | field t x f=>
  rw [aH] at e;simp only [eE] at e;have hx:=S.ev x;split at e
  ·rename_i cs off ft hq hk hf;rw [hq] at hx;split at e
   ·rename_i z hz;split at hz
    ·rename_i bB;exact ⟨_,e,.ok S (YH S.bw hk hf (by simpa [dJ] using bB) hx hz) (by simp only [execOp,aH])⟩
    simp at hz
   simp at e
  simp at e
 | binOp op t x y q=>
  rw [aH] at e;simp only [eE] at e;have hx:=S.ev x;have hy:=S.ev y;split at e
  ·rename_i rf ka;rw [rf] at hx;rw [ka] at hy;split at e
   ·rename_i e' h1 h2;rw [aw] at h1;have h3:=Rb (op:=.eql) (X:=x) (Y:=y) S.bw h1.1 (bm h1.2) hx hy h2;exact ⟨_,e,.ok S (x:=.bool e') ⟨_,h3.1,rfl⟩ (by simp only [execOp,aH])⟩
   ·rename_i e' h1 h2;rw [aw] at h1;have h3:=Rb (op:=.eql) (X:=x) (Y:=y) S.bw h1.1 (bm h1.2) hx hy h2;exact ⟨_,e,.ok S (x:=.bool (!e')) ⟨_,h3.2,rfl⟩ (by simp only [execOp,aH])⟩
   simp at e
  split at e
  ·simp at e
  rename_i hk;have hT:nu P t (c.ti t):=oa S.bw (.inr (by intro h; rw [h] at hk; simp [QK] at hk));obtain ⟨d,h1,h2,-⟩:=hT.desc;obtain ⟨z,v,h3,h4,h5⟩:=YC (P:=P) (X:=x) (Y:=y) (w:=w) h1 (by
   revert h2;cases (c.ti t).kind<;>intro h2<;>first | exact h2 | trivial | exact ⟨_,h2⟩) (fun hc=>by
   cases y<;>simp at hc;exact ⟨_,rfl⟩) hx hy e
  exact ⟨_,h3,.ok S ⟨v,h4,h5⟩ (by simp only [execOp,aH])⟩
 | call cl=>
  rw [aH] at e;obtain ⟨callee,args,ts⟩:=cl;cases callee with
  | value f=>rw [aH] at ug; simp [H9] at ug
  | invoke x n=>simp [eE] at e
  | builtin b=>
   cases b<;>try (simp [eE] at e; done)
   case append=>
    simp only [eE] at e;split at e
    ·rename_i s x t u ha ht;split at e
     ·rename_i hk R3 hb;obtain rfl:=bm R3;rw [aw] at hb;have ha:args = #[s,x]:=by apply ri; simpa using ha
      have ht:ts = #[t,t]:=by apply ri; simpa using ht
      subst ha ht;split at e
      ·obtain ⟨bq,h1,v',w',g',U',h2,h3⟩:=Z6 (ty:=o.type) (site:=site) S hk (gh hb.1) (S.ev s) (S.ev x) e;refine ⟨_,h1,.of ?_ h3⟩;simp [execOp,aH,resolve,invoke,builtin,h2]
      split at e
      ·obtain ⟨bq,h1,v',w',g',U',h2,h3⟩:=Z9 (ty:=o.type) S hs hk (gh hb.1) (S.ev s) (aag (S.ev x)) e;refine ⟨_,h1,.of ?_ h3⟩;simp [execOp,aH,resolve,invoke,builtin,h2]
      obtain ⟨bq,h1,v',w',g',U',h2,h3⟩:=ZB (ty:=o.type) S hs hk (gh hb.1) (S.ev s) (S.ev x) e;refine ⟨_,h1,.of ?_ h3⟩;simp [execOp,aH,resolve,invoke,builtin,h2]
     ·rename_i hk R3 hb;rw [aw] at hb;have ha:args = #[s,x]:=by apply ri; simpa using ha
      have ht:ts = #[t,u]:=by apply ri; simpa using ht
      subst ha ht;split at e
      ·rename_i hu;unfold D4 at e;split at e
       ·rename_i kk n jS R4 yf K4;unfold ab at e;split at e
        ·rename_i hn;have h3:=S.ev s;have h4:=S.ev x;rw [R4] at h3;rw [yf] at h4;obtain ⟨v',w',g',U',h5,h6⟩:=Z2 (ty:=o.type) (kk:=kk) S hs hk hu K4 (gh hb.1) hn;refine ⟨_,e,.of ?_ h6⟩;simp [execOp,aH,resolve,invoke,builtin,show a.eval s=_ from h3,show a.eval x=_ from h4,h5]
        simp at e
       simp at e
      simp at e
     simp at e
    simp at e
   case len=>
    simp only [eE] at e;split at e
    ·rename_i x t ha ht;have ha:args = #[x]:=by apply ri; simpa using ha
     have ht:ts = #[t]:=by apply ri; simpa using ht
     subst ha ht;have hx:=S.ev x;split at e
     ·rename_i s hk hq;rw [hq] at hx;refine ⟨_,e,.val S (v:=.int .i64 (s.length:Int)) ?_ rfl⟩;have hx:a.eval x = .string ⟨s.toArray⟩:=hx;simp [execOp,aH,resolve,invoke,builtin,Builtin.len_,run_underlying (Cp S.bw hk),hx,goInt];rfl
     ·simp at e
     ·rename_i hk aA;split at e
      ·rename_i n hn;rcases Q4 S hx hn with ⟨s,h1,-⟩ | ⟨b,l,cp,h1,rfl,-⟩
       ·exact (aA s h1).elim
       refine ⟨_,e,.val S (v:=.int .i64 (l:Int)) ?_ rfl⟩;simp [execOp,aH,resolve,invoke,builtin,Builtin.len_,run_underlying (sC S.bw hk),h1,goInt]
      simp at e
     simp at e
    simp at e
   case cap=>
    simp only [eE] at e;split at e
    ·rename_i x t ha ht;have ha:args = #[x]:=by apply ri; simpa using ha
     have ht:ts = #[t]:=by apply ri; simpa using ht
     subst ha ht;have hx:=S.ev x;split at e
     ·rename_i hk hq;rw [hq] at hx;refine ⟨_,e,.val S (v:=.int .i64 0) ?_ rfl⟩;have hx:a.eval x = .slice none 0 0:=hx;simp [execOp,aH,resolve,invoke,builtin,Builtin.cap_,run_underlying (sC S.bw hk),hx,goInt]
     simp at e
    simp at e
   case copy=>
    simp only [eE] at e;split at e
    ·rename_i d x t u ha ht;split at e
     ·rename_i hk hb;have ha:args = #[d,x]:=by apply ri; simpa using ha
      have ht:ts = #[t,u]:=by apply ri; simpa using ht
      subst ha ht;obtain ⟨bq,h1,v',w',h2,h3⟩:=Z1 (ty:=o.type) S hk (by simpa [dJ] using hb) (ts:=#[t,u]) rfl (S.ev d) (S.ev x) e;refine ⟨_,h1,.of ?_ h3⟩;simp [execOp,aH,resolve,invoke,builtin,h2]
     simp at e
    simp at e
   case max=>
    simp only [eE] at e;split at e
    ·rename_i kk x kl y hq;split at e
     ·rename_i ly;obtain rfl:=o7 ly;have pt:∃ s t,args = #[s,t]∧sr.ev s = .int kk x∧sr.ev t = .int kk y:=by
       obtain ⟨l⟩:=args;simp only at hq;rcases l with _ | ⟨s,_ | ⟨t,_ | ⟨u,l⟩⟩⟩<;>simp at hq
       exact ⟨s,t,rfl,hq.1,hq.2⟩
      obtain ⟨s,t,rfl,h1,h2⟩:=pt;have h3:=S.ev s;have h4:=S.ev t;rw [h1] at h3;rw [h2] at h4;obtain ⟨v,h5,h6⟩:=aad (P:=P) (g:=g) (w:=w) (U:=U) (ty:=o.type) (kk:=kk) (x:=x) (y:=y) (ts:=ts);refine ⟨_,e,.val S (v:=v) ?_ h6⟩;simp [execOp,aH,resolve,invoke,builtin,show a.eval s=_ from h3,show a.eval t=_ from h4,h5]
     simp at e
    simp at e
   case min=>
    simp only [eE] at e;split at e
    ·rename_i kk x kl y hq;split at e
     ·rename_i ly;obtain rfl:=o7 ly;have pt:∃ s t,args = #[s,t]∧sr.ev s = .int kk x∧sr.ev t = .int kk y:=by
       obtain ⟨l⟩:=args;simp only at hq;rcases l with _ | ⟨s,_ | ⟨t,_ | ⟨u,l⟩⟩⟩<;>simp at hq
       exact ⟨s,t,rfl,hq.1,hq.2⟩
      obtain ⟨s,t,rfl,h1,h2⟩:=pt;have h3:=S.ev s;have h4:=S.ev t;rw [h1] at h3;rw [h2] at h4;obtain ⟨v,h5,h6⟩:=aae (P:=P) (g:=g) (w:=w) (U:=U) (ty:=o.type) (kk:=kk) (x:=x) (y:=y) (ts:=ts);refine ⟨_,e,.val S (v:=v) ?_ h6⟩;simp [execOp,aH,resolve,invoke,builtin,show a.eval s=_ from h3,show a.eval t=_ from h4,h5]
     simp at e
    simp at e
 | _=>(rw [aH] at e; simp [eE] at e)
end
end Go.Am
namespace Go.Am
open Go
theorem Fr.trans' {F F':Nat→Nat→Prop} {w1 w2 w3:World} (h:Fr F w1 w2) (h':Fr F' w2 w3) (hF:∀ b o,b<w1.heap.size→F' b o→F b o):Fr F w1 w3:=by
 refine ⟨h'.os.trans h.os,h'.tape.trans h.tape,h'.output.trans h.output,Nat.le_trans h.size h'.size,fun k c e f hk=>?_,fun k hk hn=>?_,fun k b hb hn=>h'.kind k b (h.kind k b hb hn) hn⟩
 ·have ax:k<w1.heap.size:=by
   rcases Nat.lt_or_ge k w1.heap.size with hh | hh
   ·exact hh
   rw [Array.getElem?_eq_none hh] at hk; simp at hk
  obtain ⟨c1,h1,h2,h3⟩:=h.cells k c e f hk;obtain ⟨c2,h4,h5,h6⟩:=h'.cells k c1 e f h1;exact ⟨c2,h4,by rw [h5,h2],fun o ho=>by rw [h6 o (fun hf=>ho (hF k o ax hf)),h3 o ho]⟩
 rw [h'.block k (Nat.lt_of_lt_of_le hk h.size) (fun o ho=>hn o (hF k o hk ho)),h.block k hk hn]
theorem iK {α:Type} : ∀ (l m:List (Nat×α)) (n:Nat),look (l++m) n=match look l n with | some x=>some x | none=>look m n
 | [],m,n=>rfl
 | (k,v)::l,m,n=>by
  simp only [List.cons_append,look];split
  ·rfl
  exact iK l m n
section
variable {P:Program} {c:ba} {w0:World} {F:bW} {N:Nat} {g g':Gh} {w w':World} {U U':Nat→Prop} {st:St} {a:Act}
theorem Rel.Ia (R:Rel w0 F N g U st a w) (hc:fY P c) (hG:Gl P F w0):dp P c g w U st a:=⟨hc,R.env,R.heap,R.b9,R.u0,R.nr,R.nf,R.gl hG⟩
theorem Rel.fresh (R:Rel w0 F N g U st a w):¬ U st.nxt:=fun h=>Nat.lt_irrefl _ (R.used _ h)
theorem wc {a:Act} {d:Option Nat} {v:Value} {t:Nat} (hd:∀ x,d=some x→x<a.tmps.size):(a.put d v).eval (.tmp t)=if d=some t then v else a.eval (.tmp t):=by
 cases d with
 | none=>simp [Act.put]
 | some d=>
  have:=hd d rfl;by_cases h:d=t
  ·subst h;simp [Act.put,Act.eval,this]
  rw [if_neg (by simpa using h)];exact Act.eval_put (dst:=some d) (x:=.tmp t) (fun x hx=>by simp at hx; subst hx; intro he; simp at he; exact h he.symm)
theorem Rel.put (R:Rel w0 F N g U st a w) {e:cG} {v:Value} {dst:Option Nat} (hd:∀ x,dst=some x→x<N) (Q:dL g w U st.nxt e v w' g' U') :
  Rel w0 F N g' U' (st.put dst e) (a.put dst v) w':=by
 have gC:∀ x,dst=some x→x<a.tmps.size:=by rw [R.size]; exact hd
 refine ⟨fun t x h=>?_,fun id ob h=>?_,fun s h=>?_,Q.b9,fun b o id p hb h=>?_,fun b o id p hf jJ=>?_,?_,?_,?_,Q.iZ.sub _ R.u0,fun s hs=>Q.iZ.sub _ (R.nr s hs),fun id h=>?_⟩
 ·rw [wc gC];cases dst with
  | none=>exact Q.iZ.tV _ _ (R.env t x h)
  | some d=>
   simp only [St.put] at h;rw [dM] at h;by_cases l_:d=t
   ·subst l_;simp only [if_true,aF] at h ⊢;subst h; exact Q.val
   rw [if_neg l_] at h;rw [if_neg (by simpa using l_)];exact Q.iZ.tV _ _ (R.env t x h)
 ·unfold St.obj St.put at h;simp only [iK] at h;cases hl:look e.aX id with
  | some uh=>
   rw [hl] at h;cases uh with
   | none=>simp at h
   | some uh=>
    simp only [aF] at h;subst h;exact Q.aX id _ hl
  | none=>
   rw [hl] at h;have h:st.obj id=some ob:=h;obtain ⟨h1,h2⟩:=R.heap id ob h;exact ⟨Q.iZ.sub _ h1,Hx Q.iZ (by rw [hl]; simp) h1 ob h2⟩
 ·show s<st.nxt+1;rcases Q.used s h with h | h
  ·have:=R.used s h; omega
  omega
 ·have cD:b<w.heap.size:=Nat.lt_of_lt_of_le hb R.fr.size;have aA:=Q.cB b o _ cD h;cases hl:g.lab b o with
  | none=>exact absurd hl aA
  | some q=>
   obtain ⟨az,p'⟩:=q;cases ht:(look e.aX az).isSome with
   | true=>
    rcases R.cB b o az p' hb hl with h2 | h2
    ·exact absurd h2.1 (Q.nf az ht)
    exact .inr h2
   | false=>
    have:=(Q.iZ.own b o az p' hl (by rw [ht]; simp)).1;rw [this] at h;simp only [aF,bE] at h;obtain ⟨rfl,rfl⟩:=h;exact R.cB b o az p' hb hl
 ·have hl:=R.n9 b o id p hf jJ;refine (Q.iZ.own b o id p hl (fun ht=>Q.nf id ht jJ)).1
 ·refine R.fr.trans' Q.fr (fun b o hb h=>?_);obtain ⟨id,p,hl,hn⟩:=h;rcases R.cB b o id p hb hl with h2 | h2
  ·exact absurd h2.1 hn
  exact h2
 ·cases dst<;>exact R.defers
 ·cases dst<;>simp [Act.put,R.size]
 unfold St.obj St.put at h;simp only [iK] at h;cases hl:look e.aX id with
 | some uh=>exact Q.nf id (by rw [hl]; rfl)
 | none=>rw [hl] at h; exact R.nf id h
end
end Go.Am
namespace Go.Am
open Go
section
variable {P:Program} {c:ba} {w0:World} {F:bW} {N:Nat} {g g':Gh} {w w':World} {U U':Nat→Prop} {st:St} {a:Act}
def yg (P:Program) (c:ba):Prop:=∀ {ρ:Type} {r:ρ} {k:cG→Option ρ} {g:Gh} {w:World} {U:Nat→Prop} {sr:St} {a:Act} {site:Nat} {o:Oper},
 dp P c g w U sr a→¬ U site→eE c sr site o.op k=some r→∃ bq,k bq=some r∧ny P g w U site o a bq
theorem Rel.AX (R:Rel w0 F N g U st a w) {d:Nat} {x:ag} (h:aV g w U x (a.eval (.tmp d))):Rel w0 F N g U (st.put (some d) ⟨x,[]⟩) a w:=by
 refine ⟨fun t y hy=>?_,R.heap,fun s hs=>?_,R.b9,R.cB,R.n9,R.fr,R.defers,R.size,R.u0,R.nr,R.nf⟩
 ·simp only [St.put] at hy;rw [dM] at hy;split at hy
  ·rename_i he; subst he; simp at hy; subst hy; exact h
  exact R.env t y hy
 have:=R.used s hs;show s<st.nxt+1;omega
theorem Rel.skip (R:Rel w0 F N g U st a w) {dst:Option Nat} (hd:∀ x,dst=some x→x<N):Rel w0 F N g U (st.put dst ⟨.gN [],[]⟩) (a.put dst undef) w:=
 R.put hd (.same R.b9 ⟨[],rfl,rfl⟩)
theorem R5 {ops:Array Oper} {tmps:Array Value} {gd d:Nat} {b:Bool} (h:tR ops.toList gd=some d) (hv:tmps.getD d undef = .bool b):yielded ops tmps gd=some b:=by
 unfold tR at h;unfold yielded;rw [qe] at h;cases e:ops[gd]? with
 | none=>rw [e] at h; simp at h
 | some o=>
  rw [e] at h;simp only at h;have hs:tmps[d]? = some (.bool b):=by
   rw [lY] at hv;cases e2:tmps[d]? with
   | none=>rw [e2] at hv; simp [undef] at hv
   | some x=>rw [e2] at hv; simp at hv; rw [hv]
  simp [h,hs]
theorem R6 {ops:Array Oper} {tmps:Array Value} {gd d:Nat} (h:tR ops.toList gd=some d) (hv:tmps.getD d undef=undef):yielded ops tmps gd=none:=by
 unfold tR at h;unfold yielded;rw [qe] at h;cases e:ops[gd]? with
 | none=>rfl
 | some o=>
  rw [e] at h;simp only at h;rw [lY] at hv;cases e2:tmps[d]? with
  | none=>simp [h,e2]
  | some x=>
   rw [e2] at hv;simp only [Option.getD_some] at hv;subst hv;simp [h,e2,undef]
end
end Go.Am
namespace Go.Am
open Go
def Sub (M M':Mp):Prop:=∀ k v,look M k=some v→look M' k=some v
def lz (M:Mp):Prop:=∀ k1 k2 a d1 d2,look M k1=some (a,d1)→look M k2=some (a,d2)→a≠cO→k1=k2
theorem Sub.refl (M:Mp):Sub M M:=fun _ _ h=>h
theorem Sub.trans {A B C:Mp} (h:Sub A B) (h':Sub B C):Sub A C:=fun k v e=>h' k v (h k v e)
theorem ky {α:Type} : ∀ {l:List (Nat×α)} {k:Nat} {v:α},look l k=some v→(k,v)∈l
 | (a,b)::l,k,v,h=>by
  rw [dM] at h;split at h
  ·rename_i he; subst he; simp at h; subst h; simp
  exact jO _ (ky h)
theorem yh {M M':Mp} {cq aid d:Nat} (h:kP M cq aid d=some M'):Sub M M'∧look M' cq=some (aid,d)∧aid≠cO∧(lz M→lz M'):=by
 unfold kP at h;split at h
 ·rename_i hl;split at h
  ·rename_i hb;simp only [aw,Nat.beq_eq_true_eq,Bool.not_eq_true',rj] at hb;obtain rfl:=aW h;obtain ⟨⟨h1,h2⟩,h3⟩:=hb;refine ⟨.refl _,by rw [hl,← h1,← h2],fun e=>?_,fun h=>h⟩;subst e; simp at h3
  simp at h
 rename_i hl;split at h
 ·simp at h
 rename_i hb;obtain rfl:=aW h;simp only [Bool.or_eq_false_iff] at hb;obtain ⟨h1,h2⟩:=hb;have aA:aid≠cO:=fun e=>by subst e; simp at h2
 have qj:∀ k d',look M k≠some (aid,d'):=by intro k d' hk;have:=List.any_eq_false.1 h1 _ (ky hk);simp at this
 refine ⟨fun k v hk=>?_,by rw [dM,if_pos rfl],aA,fun hi k1 k2 a d1 d2 e1 e2 hn=>?_⟩
 ·rw [dM,if_neg]
  ·exact hk
  intro e; subst e; rw [hl] at hk; simp at hk
 rw [dM] at e1 e2;split at e1<;>split at e2
 ·rename_i a1 a2; rw [← a1,← a2]
 ·simp at e1; obtain ⟨rfl,rfl⟩:=e1; exact absurd e2 (qj _ _)
 ·simp at e2; obtain ⟨rfl,rfl⟩:=e2; exact absurd e1 (qj _ _)
 exact hi _ _ _ _ _ e1 e2 hn
theorem aai {M:Mp} {cq:Nat} (h:look M cq=none):Sub M ((cq,cO,0)::M)∧(lz M→lz ((cq,cO,0)::M)):=by
 refine ⟨fun k v hk=>?_,fun hi k1 k2 a d1 d2 e1 e2 hn=>?_⟩
 ·rw [dM,if_neg]
  ·exact hk
  intro e; subst e; rw [h] at hk; simp at hk
 rw [dM] at e1 e2;split at e1<;>split at e2
 ·rename_i a1 a2; rw [← a1,← a2]
 ·simp at e1; exact absurd e1.1.symm hn
 ·simp at e2; exact absurd e2.1.symm hn
 exact hi _ _ _ _ _ e1 e2 hn
def ef (g:Gh) (aid d:Nat):Hd:=if aid=cO then dX else if d=0 then g.hd aid 0 [] else ⟨(g.hd aid 0 []).addr,(g.hd aid 0 []).len / d,(g.hd aid 0 []).len / d⟩
def qn (st:St) (id:Nat):Nat:=match st.obj id with | some (.row _ _ vr _)=>vr | _=>0
structure Cons (st:St) (nm:Nat→Nat) (vr:Nat) (M:Mp) (g g':Gh) (U':Nat→Prop):Prop where
 name:∀ k aid d,look M k=some (aid,d)→U' (nm k / 1024)∧g'.hd (nm k) 0 []=ef g aid d
 u0:U' 0
 uv:U' vr
 sh:∀ b o,g.lab b o=none→g'.lab b o=none
 lab:∀ k aid d b o p,look M k=some (aid,d)→aid≠cO→g.lab b o=some (aid,p)→g'.lab b o=some (nm k,p)
 qo:∀ k aid d q,look M k=some (aid,d)→q≠[]→g'.hd (nm k) vr q=if d=0 then g.hd aid (qn st aid) q else dX
theorem Cons.mono {st:St} {nm:Nat→Nat} {vr:Nat} {M M':Mp} {g g':Gh} {U':Nat→Prop} (h:Sub M M') (c:Cons st nm vr M' g g' U'):Cons st nm vr M g g' U':=
 ⟨fun k aid d e=>c.name k aid d (h _ _ e),c.u0,c.uv,c.sh,fun k aid d b o p e=>c.lab k aid d b o p (h _ _ e),fun k aid d q e=>c.qo k aid d q (h _ _ e)⟩
section
variable {g g':Gh} {w:World} {U U':Nat→Prop} {st:St} {nm:Nat→Nat} {vr:Nat}
theorem Cons.R7 {M:Mp} (C:Cons st nm vr M g g' U') {t:Ty} {xs:List t.T} {v:Value} (h:gT t.size (Sh g.lab w t) xs v):gT t.size (Sh g'.lab w t) xs v:=
 ix (gb (fun b o hl v hv=>⟨hv,C.sh b o hl⟩) t) h
theorem cast_eq {a b:Ty} {x:a.T} {y:b.T} (h:Ty.cast a b x=some y):a=b∧HEq x y:=by
 unfold Ty.cast at h;split at h
 ·rename_i hb;have e:=Ty.eq_of_beq hb;subst e;exact ⟨rfl,heq_of_eq (aW h)⟩
 simp at h
theorem R8 {a b:ag} (h:B1 a b=true) {x:Value} (hx:aV g w U b x):aV g' w U' a x:=by
 unfold B1 at h;split at h
 ·trivial
 ·exact hx
 ·exact hx
 ·exact hx
 ·obtain rfl:=bm h;obtain ⟨l,rfl,hl⟩:=hx;exact ⟨l,rfl,hl⟩
 simp at h
section
variable {st:St} {r:Type} {M:Mp} {v:ag} {f:Mp→Option r}
theorem aaj (k:IntKind):reify st (.int k) M v f=(match v with | .int l n=>(match nn k l with | true=>(match f M with | some r=>some (n,r) | none=>none) | false=>none) | _=>none):=by cases v<;>rfl
theorem aak:reify st .bool M v f=(match v with | .bool b=>(match f M with | some r=>some (b,r) | none=>none) | _=>none):=by cases v<;>rfl
theorem aal:reify st .str M v f=(match v with | .str b=>(match f M with | some r=>some (b,r) | none=>none) | _=>none):=by cases v<;>rfl
theorem aam:reify st .err M v f=(match v with | .err b=>(match f M with | some r=>some (b,r) | none=>none) | _=>none):=by cases v<;>rfl
theorem aan (t:Ty):reify st (.sh t) M v f=(match v with
  | .sh u xs=>(match Ty.cast (.sl u) (.sl t) xs with | some ys=>(match f M with | some r=>some (ys,r) | none=>none) | none=>none)
  | .nil=>(match f M with | some r=>some (([]:List t.T),r) | none=>none)
  | _=>none):=by cases v<;>rfl
theorem aao (t:Ty):reify st (.cZ t) M v f=(match v with | .cZ u o=>(match Ty.cast (.bQ u) (.bQ t) o with | some o=>(match f M with | some r=>some (o,r) | none=>none) | none=>none) | _=>none):=by cases v<;>rfl
theorem aap (cq:Nat) (t:Ty):reify st (.own cq t) M v f=(match v with
  | .own aid _ [] _=>(match kP M cq aid 0 with | some M=>f M | none=>none)
  | .fB aid 0 len sz=>(match st.obj aid with
   | some (.cells _ cs)=>(match aM sz t.size&&aM (len*sz) cs.length with
    | true=>(match kP M cq aid t.size with | some M=>f M | none=>none)
    | false=>none)
   | _=>none)
  | .nil=>(match look M cq with | none=>f ((cq,cO,0)::M) | some _=>none)
  | _=>none):=by cases v<;>rfl
theorem aaq (cq:Nat) (t:Ty):reify st (.fK cq t) M v f=(match v with
  | .fK aid _ [] u off len=>(match Ty.beq t u,kP M cq aid 0 with
   | true,some M=>(match f M with | some r=>some (off,len,r) | none=>none)
   | _,_=>none)
  | .own aid _ [] u=>(match st.obj aid with
   | some (.row _ t' _ xs)=>(match Ty.beq t u&&Ty.beq t t',kP M cq aid 0 with
    | true,some M=>(match f M with | some r=>some (0,xs.length,r) | none=>none)
    | _,_=>none)
   | _=>none)
  | _=>none):=by cases v<;>rfl
theorem aar (cq j:Nat):reify st (.bn cq j) M v f=(match v with | .bn aid l=>(match aM j l,kP M cq aid 0 with | true,some M=>f M | _,_=>none) | _=>none):=by cases v<;>rfl
theorem aas (cq : Nat) (t : Ty) (j : Nat) : reify st (.fb cq t j) M v f = (match v with
    | .fb aid _ [] u i l => (match aM j l && Ty.beq t u, kP M cq aid 0 with
      | true, some M => (match f M with | some r => some (i, r) | none => none)
      | _, _ => none)
    | _ => none) := by cases v <;> try rfl
                       rename_i p _ _ _; cases p <;> rfl
theorem aat (t:Ty) (j:Nat):reify st (.ga t j) M v f=(match v with | .ga u x l=>(match aM j l with | true=>(match Ty.cast u t x with | some x=>(match f M with | some r=>some (x,r) | none=>none) | none=>none) | false=>none) | _=>none):=by cases v<;>rfl
theorem aau (l:List cx):reify st (.agg l) M v f=(match v with | .agg cs=>sv st l M cs f | _=>none):=by cases v<;>rfl
theorem aav (cq:Nat) (t:Ty) (j:Nat) (u:Ty):reify st (.xI cq t j u) M v f=(match v with
  | .own aid ver [(i,j')] u'=>(match st.obj aid with
   | some (.row true t' vr _)=>(match aM j j'&&Ty.beq u u'&&aM ver vr&&Ty.beq t t',kP M cq aid 0 with
    | true,some M=>(match f M with | some r=>some (i,r) | none=>none)
    | _,_=>none)
   | _=>none)
  | _=>none):=rfl
theorem aaw (g:FuncId) (l:List cx):reify st (.fn g l) M v f=(match v with | .fn g' cs=>(match aM g g' with | true=>sv st l M cs f | false=>none) | _=>none):=rfl
theorem aax (c:ag):reify st (.lP c) M v f=(match B1 c v with | true=>f M | false=>none):=by cases v<;>rfl
theorem aay {vs:List ag} : sv st [] M vs f=(match vs with | []=>f M | _=>none):=by cases vs<;>rfl
theorem aaz {s:cx} {l:List cx} {vs:List ag} : sv st (s::l) M vs f=(match vs with | v::vs=>reify st s M v (fun M=>sv st l M vs f) | []=>none):=by cases vs<;>rfl
end
def CN (st:St) (g:Gh) (w:World) (U:Nat→Prop) (nm:Nat→Nat) (vr:Nat) {r:Type} (M:Mp) (f:Mp→Option r) (z:r) (rel:Gh→(Nat→Prop)→Prop):Prop:=
 ∃ M',Sub M M'∧(lz M→lz M')∧f M'=some z∧∀ g' U',Cons st nm vr M' g g' U'→rel g' U'
theorem CN.same {r:Type} {M:Mp} {f:Mp→Option r} {z:r} {rel:Gh→(Nat→Prop)→Prop} (h:f M=some z) (hr:∀ g' U',Cons st nm vr M g g' U'→rel g' U'):CN st g w U nm vr M f z rel:=
 ⟨M,.refl _,fun h=>h,h,hr⟩
mutual
theorem R9 (hO:fq g w U st):∀ (s:cx) {r:Type} (M:Mp) (v:ag) (f:Mp→Option r) (y:s.LT r),reify st s M v f=some y→
  CN st g w U nm vr M f (reflect nm vr s y).2 (fun g' U'=>∀ x,aV g w U v x→aV g' w U' (reflect nm vr s y).1 x)
 | .int k,r,M,v,f,y,e=>by
  rw [aaj] at e;cases v<;>try (exact absurd (show none=some _ from e) (by simp))
  all_goals try dsimp only at e
  split at e
  ·rename_i hk;split at e
   ·rename_i z hz;obtain rfl:=aW e;exact .same hz (fun g' U' C x hx=>by obtain rfl:=o7 hk; exact hx)
   simp at e
  simp at e
 | .bool,r,M,v,f,y,e=>by
  rw [aak] at e;cases v<;>try (exact absurd (show none=some _ from e) (by simp))
  all_goals try dsimp only at e
  split at e
  ·rename_i z hz;obtain rfl:=aW e;exact .same hz (fun g' U' C x hx=>hx)
  simp at e
 | .str,r,M,v,f,y,e=>by
  rw [aal] at e;cases v<;>try (exact absurd (show none=some _ from e) (by simp))
  all_goals try dsimp only at e
  split at e
  ·rename_i z hz;obtain rfl:=aW e;exact .same hz (fun g' U' C x hx=>hx)
  simp at e
 | .err,r,M,v,f,y,e=>by
  rw [aam] at e;cases v<;>try (exact absurd (show none=some _ from e) (by simp))
  all_goals try dsimp only at e
  split at e
  ·rename_i z hz;obtain rfl:=aW e;exact .same hz (fun g' U' C x hx=>hx)
  simp at e
 | .sh t,r,M,v,f,y,e=>by
  rw [aan] at e;cases v<;>try (exact absurd (show none=some _ from e) (by simp))
  all_goals try dsimp only at e
  ·split at e
   ·rename_i z hz;obtain rfl:=aW e;exact .same hz (fun g' U' C x hx=>by obtain rfl:=hx;exact ⟨none,0,0,rfl,rfl,cj _,fun _=>rfl,fun h=>absurd rfl h⟩)
   simp at e
  rename_i u xs;split at e
  ·rename_i ys hc;split at e
   ·rename_i z hz;obtain rfl:=aW e;obtain ⟨he,hh⟩:=nz hc;subst he;obtain rfl:=eq_of_heq hh;exact .same hz (fun g' U' C x hx=>C.R7 hx)
   simp at e
  simp at e
 | .cZ t,r,M,v,f,y,e=>by
  rw [aao] at e;cases v<;>try (exact absurd (show none=some _ from e) (by simp))
  all_goals try dsimp only at e
  rename_i u xs;split at e
  ·rename_i ys hc;split at e
   ·rename_i z hz;obtain rfl:=aW e;obtain ⟨he,hh⟩:=cast_eq hc;injection he with he;subst he;obtain rfl:=eq_of_heq hh;exact .same hz (fun g' U' C x hx=>⟨C.R7 hx.1,hx.2⟩)
   simp at e
  simp at e
 | .own cq t,r,M,v,f,y,e=>by
  rw [aap] at e;cases v<;>try (exact absurd (show none=some _ from e) (by simp))
  all_goals try dsimp only at e
  ·
   split at e
   ·rename_i hl;obtain ⟨h1,h2⟩:=aai hl;refine ⟨_,h1,h2,e,fun g' U' C x hx=>?_⟩;obtain rfl:=hx;obtain ⟨c1,c2⟩:=C.name cq cO 0 (by rw [dM,if_pos rfl]);exact ⟨c1,C.u0,C.u0,trivial,fun _=>rfl,by rw [c2]; rfl⟩
   simp at e
  ·rename_i aid ver p u;cases p with
   | cons a p=>simp at e
   | nil=>
    simp only at e;split at e
    ·rename_i M1 hb;obtain ⟨h1,h2,h3,h4⟩:=yh hb;refine ⟨_,h1,h4,e,fun g' U' C x hx=>?_⟩;obtain ⟨u1,u2,u3,-,hv,rfl⟩:=hx;obtain rfl:=hv rfl;obtain ⟨c1,c2⟩:=C.name cq aid 0 h2;exact ⟨c1,C.u0,C.u0,trivial,fun _=>rfl,by rw [c2]; simp [ef,h3]⟩
    simp at e
  rename_i aid off len _;cases off with
  | succ n=>simp at e
  | zero=>
   simp only at e;split at e
   ·rename_i cs ho;split at e
    ·rename_i hq;simp only [aw,rj] at hq;obtain ⟨rf,ka⟩:=hq;subst rf;split at e
     ·rename_i M1 hb;obtain ⟨h1,h2,h3,h4⟩:=yh hb;refine ⟨_,h1,h4,e,fun g' U' C x hx=>?_⟩;obtain ⟨u1,u2,a,c,rfl,AL,kq,b,o,cD,ha⟩:=hx;obtain ⟨c1,c2⟩:=C.name cq aid _ h2;obtain ⟨-,-,b2,o2,dA,-⟩:=hO aid _ ho;have hp:=t.size_pos;have hlen:(g.hd aid 0 []).len=cs.length:=by rw [dA]
      have hc:c=len:=by rw [hlen,← ka] at kq;have:=Nat.eq_of_mul_eq_mul_right hp kq;omega
      refine ⟨c1,C.u0,C.u0,trivial,fun _=>rfl,?_⟩;have hdiv:(g.hd aid 0 []).len / t.size=len:=by rw [hlen,← ka]; exact LO _ hp
      rw [c2];simp only [ef,h3,if_false,show t.size≠0 by omega,hdiv,Hd.val,cD,ha (.inr rfl),hc];simp
     simp at e
    simp at e
   simp at e
 | .fK cq t,r,M,v,f,y,e=>by
  rw [aaq] at e;cases v<;>try (exact absurd (show none=some _ from e) (by simp))
  all_goals try dsimp only at e
  ·rename_i aid ver p u;cases p with
   | cons a p=>simp at e
   | nil=>
    simp only at e;split at e
    ·rename_i own t' vr xs ho;split at e
     ·rename_i M1 hk hb;split at e
      ·rename_i z hz;obtain rfl:=aW e;rw [aw] at hk;obtain ⟨qh,rh⟩:=hk;obtain rfl:=Ty.eq_of_beq qh;obtain rfl:=Ty.eq_of_beq rh;obtain ⟨h1,h2,h3,h4⟩:=yh hb;refine ⟨_,h1,h4,hz,fun g' U' C x hx=>?_⟩;obtain ⟨u1,u2,u3,-,hv,rfl⟩:=hx;obtain rfl:=hv rfl;obtain ⟨c1,c2⟩:=C.name cq aid 0 h2;obtain ⟨-,-,-,r1,r2,r3,-⟩:=hO aid _ ho;refine ⟨c1,C.u0,C.u0,trivial,fun _=>rfl,?_⟩;rw [c2.trans (show _=g.hd aid 0 [] by simp [ef,h3])];dsimp only;refine ⟨_,_,by rw [Hd.val,r1],by omega,by omega,by omega,fun fw=>?_,_,rfl⟩;cases ha:(g.hd aid 0 []).addr with
       | none=>have:=r3 ha; omega
       | some q=>exact ⟨q.1,q.2,rfl,by simp⟩
      simp at e
     simp at e
    simp at e
  rename_i aid ver p u off len;cases p with
  | cons a p=>simp at e
  | nil=>
   simp only at e;split at e
   ·rename_i M1 hk hb;split at e
    ·rename_i z hz;obtain rfl:=aW e;obtain rfl:=Ty.eq_of_beq hk;obtain ⟨h1,h2,h3,h4⟩:=yh hb;refine ⟨_,h1,h4,hz,fun g' U' C x hx=>?_⟩;obtain ⟨u1,u2,u3,-,hv,hx⟩:=hx;obtain rfl:=hv rfl;obtain ⟨c1,c2⟩:=C.name cq aid 0 h2;refine ⟨c1,C.u0,C.u0,trivial,fun _=>rfl,?_⟩;rw [c2];simpa [ef,h3] using hx
    simp at e
   simp at e
 | .bn cq j,r,M,v,f,y,e=>by
  rw [aar] at e;cases v<;>try (exact absurd (show none=some _ from e) (by simp))
  all_goals try dsimp only at e
  rename_i aid l;split at e
  ·rename_i M1 hk hb;obtain rfl:=bm hk;obtain ⟨h1,h2,h3,h4⟩:=yh hb;refine ⟨_,h1,h4,e,fun g' U' C x hx=>?_⟩;obtain ⟨u1,u2,hx⟩:=hx;obtain ⟨c1,c2⟩:=C.name cq aid 0 h2;refine ⟨c1,C.u0,?_⟩;rw [c2];simpa [ef,h3] using hx
  rename_i aA;cases hk:aM j l with
  | false=>rw [hk] at e; exact absurd e (by simp)
  | true=>cases hb:kP M cq aid 0 with
   | none=>rw [hk,hb] at e; exact absurd e (by simp)
   | some M1=>exact (aA M1 hk hb).elim
 | .fb cq t j,r,M,v,f,y,e=>by
  rw [aas] at e;cases v<;>try (exact absurd (show none=some _ from e) (by simp))
  all_goals try dsimp only at e
  rename_i aid ver p u i l;cases p with
  | cons a p=>simp at e
  | nil=>
   simp only at e;split at e
   ·rename_i M1 hk hb;split at e
    ·rename_i z hz;obtain rfl:=aW e;simp only [aw] at hk;obtain rfl:=Ty.eq_of_beq hk.2;obtain rfl:=bm hk.1;obtain ⟨h1,h2,h3,h4⟩:=yh hb;refine ⟨_,h1,h4,hz,fun g' U' C x hx=>?_⟩;obtain ⟨u1,u2,u3,-,hv,hx⟩:=hx;obtain rfl:=hv rfl;obtain ⟨c1,c2⟩:=C.name cq aid 0 h2;refine ⟨c1,C.u0,C.u0,trivial,fun _=>rfl,?_⟩;rw [c2];simpa [ef,h3] using hx
    simp at e
   simp at e
 | .ga t j,r,M,v,f,y,e=>by
  rw [aat] at e;cases v<;>try (exact absurd (show none=some _ from e) (by simp))
  all_goals try dsimp only at e
  rename_i u _ l;split at e
  ·rename_i hk;split at e
   ·rename_i hc;split at e
    ·rename_i z hz;obtain rfl:=aW e;obtain rfl:=bm hk;obtain ⟨he,hh⟩:=cast_eq hc;subst he;obtain rfl:=eq_of_heq hh;exact .same hz (fun g' U' C x hx=>by obtain ⟨b,o,rfl,h⟩:=hx;exact ⟨b,o,rfl,gb (fun b o hl v hv=>⟨hv,C.sh b o hl⟩) u _ b o h⟩)
    simp at e
   simp at e
  simp at e
 | .agg l,r,M,v,f,y,e=>by
  rw [aau] at e;cases v<;>try (exact absurd (show none=some _ from e) (by simp))
  all_goals try dsimp only at e
  rename_i cs;obtain ⟨M',h1,h2,h3,h4⟩:=Ib hO l M cs f y e;refine ⟨M',h1,h2,h3,fun g' U' C x hx=>?_⟩;obtain ⟨vs,rfl,eQ⟩:=hx;exact ⟨vs,rfl,h4 g' U' C vs eQ⟩
 | .xI cq t j u,r,M,v,f,y,e=>by
  rw [aav] at e;split at e
  ·rename_i aid ver i _ _;split at e
   ·rename_i t' _ xs ho;split at e
    ·rename_i M1 hq hb;simp only [aw,rj] at hq;obtain ⟨⟨⟨hj,hu⟩,hv⟩,ht⟩:=hq;subst hj;subst hv;split at e
     ·rename_i z hz;obtain rfl:=aW e;obtain ⟨h1,h2,h3,h4⟩:=yh hb;refine ⟨_,h1,h4,hz,fun g' U' C x hx=>?_⟩;obtain ⟨u1,u2,u3,cC,-,rfl⟩:=hx;obtain ⟨c1,c2⟩:=C.name cq aid 0 h2;have c3:=C.qo cq aid 0 [(i,j)] h2 (by simp);have hvo:qn st aid=ver:=by simp [qn,ho]
      refine ⟨c1,C.uv,C.u0,⟨?_,trivial⟩,fun h=>by simp at h,?_⟩
      ·have:i<(g.hd aid 0 []).len:=cC.1;show i<(g'.hd (nm cq) 0 []).len;rw [c2];simpa [ef,h3] using this
      rw [c3,if_pos rfl,hvo]
     simp at e
    simp at e
   simp at e
  simp at e
 | .fn g0 l,r,M,v,f,y,e=>by
  rw [aaw] at e;split at e
  ·rename_i cs;split at e
   ·rename_i hb;obtain rfl:=bm hb;obtain ⟨M',h1,h2,h3,h4⟩:=Ib hO l M cs f y e;refine ⟨M',h1,h2,h3,fun g' U' C x hx=>?_⟩;obtain ⟨vs,rfl,eQ⟩:=hx;exact ⟨vs,rfl,h4 g' U' C vs eQ⟩
   simp at e
  simp at e
 | .lP c,r,M,v,f,y,e=>by
  rw [aax] at e;split at e
  ·rename_i hk;exact .same e (fun g' U' C x hx=>R8 hk hx)
  simp at e
theorem Ib (hO:fq g w U st):∀ (l:List cx) {r:Type} (M:Mp) (vs:List ag) (f:Mp→Option r) (y:cx.xJ l r),sv st l M vs f=some y→
  CN st g w U nm vr M f (nX nm vr l y).2 (fun g' U'=>∀ xs,cu g w U vs xs→cu g' w U' (nX nm vr l y).1 xs)
 | [],r,M,vs,f,y,e=>by
  rw [aay] at e;cases vs<;>try (exact absurd (show none=some _ from e) (by simp))
  exact .same e (fun g' U' C x hx=>hx)
 | s::l,r,M,vs,f,y,e=>by
  rw [aaz] at e;cases vs with
  | nil=>simp at e
  | cons v vs=>
   simp only at e;obtain ⟨M1,h1,h2,h3,h4⟩:=R9 hO s M v _ y e;obtain ⟨M2,k1,k2,k3,k4⟩:=Ib hO l M1 vs f _ h3;refine ⟨M2,h1.trans k1,fun h=>k2 (h2 h),k3,fun g' U' C x hx=>?_⟩;obtain ⟨a,b,rfl,ha,hb⟩:=hx;exact ⟨a,b,rfl,h4 g' U' (C.mono k1) a ha,k4 g' U' C b hb⟩
end
theorem Ic {own:Bool} {aid cq vr V:Nat} {t:Ty} {xs:List t.T} (h0:g'.hd cq 0 []=g.hd aid 0 []) (h1:∀ q,q≠[]→g'.hd cq V q=g.hd aid vr q)
  (h2:∀ b o p,g.lab b o=some (aid,p)→g'.lab b o=some (cq,p)) (h3:∀ b o,g.lab b o=none→g'.lab b o=none)
  (h:eN g w own aid 0 vr t cP [] xs):eN g' w own cq 0 V t cP [] xs:=by
 have R:Ren g g.lab w g' w (fun q=>if q=[] then none else some (aid,q,g.hd aid vr q)) cq V:=by
  refine ⟨fun q id p h hq=>?_,fun q hq hn=>?_,fun q id p h b o hq hl=>?_,fun b o hl v hv=>⟨hv,h3 b o hl⟩⟩
  ·by_cases hn:q=[]
   ·simp [hn] at hq
   simp only [hn,if_false,aF,bE] at hq;obtain ⟨rfl,rfl,rfl⟩:=hq;exact h1 _ hn
  ·simp [hq] at hn
  by_cases hn:q=[]
  ·simp [hn] at hq
  simp only [hn,if_false,aF,bE] at hq;obtain ⟨rfl,rfl,rfl⟩:=hq;exact ⟨h2 _ _ _ hl,rfl,rfl⟩
 unfold eN at h ⊢;rw [h0];obtain ⟨r1,r2,r3,r4⟩:=h;refine ⟨r1,r2,r3,fun b o hb=>?_⟩;obtain ⟨r5,r6⟩:=r4 b o hb;refine ⟨fun k hk=>?_,fun k hk=>?_⟩
 ·obtain ⟨a1,a2,a3⟩:=r5 k hk;exact ⟨h2 _ _ _ a1,a2,a3⟩
 exact AI R t [] k 0 _ _ b _ (fun _ _=>rfl) (pd (fun _ _ h=>h) t [] [] k 0 k 0 _ b _ (fun _ d s hd=>by simp) (r6 k hk))
theorem aaA (hO:fq g w U st) {k aid d:Nat} {o:dD} (bD:st.obj aid=some o) (aA:aid≠cO):∀ (s:lu) {r:Type} (M:Mp) (f:Mp→Option r) (y:s.LT r),look M k=some (aid,d)→
  B2 st s M d o f=some y→CN st g w U nm vr M f (nY nm vr s y).2 (fun g' U'=>fo g' w U' (nm k) (nY nm vr s y).1):=by
 intro s r M f y hM e;obtain ⟨-,hR⟩:=hO aid o bD;cases s with
 | row own t=>
  cases o with
  | row o u vr xs=>
   replace e:(match KE own o&&aM d 0 with
    | true=>(match Ty.cast (.sl u) (.sl t) xs with | some ys=>(match f M with | some r=>some (ys,r) | none=>none) | none=>none)
    | false=>none)=some y:=e
   split at e
   ·rename_i hk;simp only [aw,rj] at hk;obtain ⟨hk,rfl⟩:=hk;have ho:own=o:=by cases own<;>cases o<;>first | rfl | simp [KE] at hk
    subst ho;split at e
    ·rename_i ys hc;split at e
     ·rename_i z hz;obtain rfl:=aW e;obtain ⟨he,hh⟩:=nz hc;subst he;obtain rfl:=eq_of_heq hh;refine ⟨M,.refl _,fun h=>h,hz,fun g' U' C=>⟨C.u0,C.uv,Ic (aid:=aid) (vr:=vr) ?_ ?_ (fun b o p hl=>C.lab _ _ _ _ _ _ hM aA hl) C.sh hR.2.2⟩⟩
      ·rw [(C.name _ _ _ hM).2]; simp [ef,aA]
      intro q hq;rw [C.qo _ _ _ _ hM hq]; simp [qn,bD]
     simp at e
    simp at e
   simp at e
  | cells ro cs=>
   replace e:(match aM d t.size with
    | true=>(match takeN st own 50 t (cs.length / t.size) cs with | some (xs,[])=>(match f M with | some r=>some (xs,r) | none=>none) | _=>none)
    | false=>none)=some y:=e
   split at e
   ·rename_i hk;obtain rfl:=bm hk;split at e
    ·rename_i xs ht;split at e
     ·rename_i z hz;obtain rfl:=aW e;obtain ⟨u0,b,o,dA,jb⟩:=hR;refine ⟨M,.refl _,fun h=>h,hz,fun g' U' C=>⟨C.u0,C.uv,?_⟩⟩;have hv:gk g w U cs (fun k=>w.cell? (ad b (o+k))):=fun k hk=>by obtain ⟨-,-,v,h1,h2⟩:=jb k hk;exact ⟨v,h1,h2⟩
      obtain ⟨-,eO,σ,T⟩:=(Ct hO (L:=g.lab) (fun _ _ h=>h) own 50).2 t _ cs xs [] _ [] 0 hv ht (fun _ id hi=>by simp at hi);have fv:∀ q,σ q=none:=fun q=>by
       cases h:σ q with
       | none=>rfl
       | some x=>obtain ⟨id,p,h'⟩:=x; exact absurd (T.tk.ids _ _ _ _ h) (by simp)
      have hp:=t.size_pos;have aaB:g'.hd (nm k) 0 []=⟨some (b,o),xs.length,xs.length⟩:=by rw [(C.name _ _ _ hM).2];simp only [ef,aA,if_false,show t.size≠0 by omega,dA,T.len]
      have R:Ren g g.lab w g' w σ (nm k) vr:=by
       refine ⟨fun q id p h hq=>?_,fun q hq hn=>?_,fun q id p h b o hq hl=>?_,fun b o hl v hv=>⟨hv,C.sh b o hl⟩⟩
       ·rw [fv] at hq; simp at hq
       ·rw [C.qo _ _ _ _ hM hq,if_neg (by omega)]
       rw [fv] at hq; simp at hq
      unfold eN;rw [aaB];refine ⟨rfl,cj _,by simp,fun b' o' hb=>?_⟩;simp only [aF,bE] at hb;obtain ⟨rfl,rfl⟩:=hb;refine ⟨fun m hm=>?_,fun m hm=>?_⟩
      ·have hm:m<cs.length:=by rw [eO,← T.len]; exact hm
       obtain ⟨h1,h2,v,h3,-⟩:=jb m hm;exact ⟨C.lab _ _ _ _ _ _ hM aA h1,by rw [h3]; rfl,h2⟩
      have:=T.ow m hm;rw [Nat.zero_add] at this;exact AI R t [] m 0 _ _ b _ (fun d hd=>by rw [bL]) this
     simp at e
    simp at e
   simp at e
  | nV t vr xs i j=>exact absurd (show none=some _ from e) (by simp)
 | cells ro l=>
  cases o with
  | cells ro' cs=>
   replace e:(match aM d 0 with | true=>sv st l M cs f | false=>none)=some y:=e;split at e
   ·rename_i hk;obtain rfl:=bm hk;obtain ⟨M',h1,h2,h3,h4⟩:=Ib (nm:=nm) (vr:=vr) hO l M cs f y e;refine ⟨M',h1,h2,h3,fun g' U' C=>⟨C.u0,?_⟩⟩;obtain ⟨u0,b,o,dA,jb⟩:=hR;have Sa:=h1 _ _ hM;have eQ:cu g w U cs ((List.range cs.length).map fun k=>(w.cell? (ad b (o+k))).getD undef):=by refine vN (by simp) (fun k hk cr=>?_);obtain ⟨-,-,v,h5,h6⟩:=jb k hk;simp [h5]; exact h6
    have Ie:=h4 g' U' C _ eQ;have hlen:=mI Ie;simp only [List.length_map,List.length_range] at hlen;refine ⟨b,o,?_,fun k hk=>?_⟩
    ·rw [(C.name _ _ _ Sa).2];simp only [ef,aA,if_false,if_true,dA,hlen]
    have cr:k<cs.length:=by rw [hlen]; exact hk
    obtain ⟨h5,h6,v,h7,h8⟩:=jb k cr;refine ⟨C.lab _ _ _ _ _ _ Sa aA h5,h6,v,h7,?_⟩;obtain ⟨x,hx,hr⟩:=lU Ie k hk;simp [cr,h7] at hx;subst hx;exact hr
   simp at e
  | row o u vr xs=>exact absurd (show none=some _ from e) (by simp)
  | nV t vr xs i j=>exact absurd (show none=some _ from e) (by simp)
end
end Go.Am
namespace Go.Am
open Go
section
variable {g g':Gh} {w:World} {U U':Nat→Prop} {st:St} {nm:Nat→Nat} {vr nx:Nat} {a:Act}
theorem Ig (hO:fq g w U st) (hE:∀ t v,look st.env t=some v→aV g w U v (a.eval (.tmp t))):∀ (l:List (Nat×cx)) {r:Type} (M:Mp) (f:Mp→Option r) (y:tM l r),B3 st l M f=some y→
  CN st g w U nm vr M f (cT nm vr l y).2 (fun g' U'=>∀ t v,look (cT nm vr l y).1 t=some v→aV g' w U' v (a.eval (.tmp t)))
 | [],r,M,f,y,e=>.same e (fun g' U' C t v h=>by simp [cT,look] at h)
 | (i,s)::l,r,M,f,y,e=>by
  replace e:(match look st.env i with | some v=>reify st s M v (fun M=>B3 st l M f) | none=>none)=some y:=e;split at e
  ·rename_i v hv;obtain ⟨M1,h1,h2,h3,h4⟩:=R9 (nm:=nm) (vr:=vr) hO s M v _ y e;obtain ⟨M2,k1,k2,k3,k4⟩:=Ig hO hE l M1 f _ h3;refine ⟨M2,h1.trans k1,fun h=>k2 (h2 h),k3,fun g' U' C t x hx=>?_⟩;replace hx:look ((i,(reflect nm vr s y).1)::(cT nm vr l (reflect nm vr s y).2).1) t=some x:=hx;rw [dM] at hx;split at hx
   ·rename_i he;subst he;simp only [aF] at hx;subst hx;exact h4 g' U' (C.mono k1) _ (hE _ _ hv)
   exact k4 g' U' C t x hx
  simp at e
theorem CO:∀ (l:List (Nat×lu)) {r:Type} (y:vA l r) (id:Nat) (o:Option dD),look (fc nm vr l y).1 id=some o→∃ p∈l,id=nm p.1∧o.isSome=true
 | [],r,y,id,o,h=>by simp [fc,look] at h
 | (i,s)::l,r,y,id,o,h=>by
  replace h:look ((nm i,some (nY nm vr s y).1)::(fc nm vr l (nY nm vr s y).2).1) id=some o:=h;rw [dM] at h;split at h
  ·rename_i he;simp only [aF] at h;exact ⟨(i,s),by simp,he.symm,by rw [← h]; rfl⟩
  obtain ⟨p,h1,h2⟩:=CO l _ id o h;exact ⟨p,by simp [h1],h2⟩
theorem LP:∀ (l:List (Nat×cx)) {r:Type} (y:tM l r) (t:Nat),(∀ p∈l,p.1≠t)→look (cT nm vr l y).1 t=none
 | [],r,y,t,h=>rfl
 | (i,s)::l,r,y,t,h=>by show look ((i,(reflect nm vr s y).1)::(cT nm vr l (reflect nm vr s y).2).1) t=none;rw [dM,if_neg (h (i,s) (by simp))];exact LP l _ t (fun p hp=>h p (by simp [hp]))
theorem EP (hO:fq g w U st):∀ (l:List (Nat×lu)) {r:Type} (M:Mp) (f:Mp→Option r) (y:vA l r),qX st l M f=some y→
  ∃ M',Sub M M'∧(lz M→lz M')∧f M'=some (fc nm vr l y).2∧(∀ p∈l,∃ a d,look M' p.1=some (a,d)∧(a=cO∨st.obj a≠none))∧
   ∀ g' U',Cons st nm vr M' g g' U'→∀ id o,look (fc nm vr l y).1 id=some (some o)→U' (id / 1024)∧fo g' w U' id o
 | [],r,M,f,y,e=>⟨M,.refl _,fun h=>h,e,by simp,fun g' U' C id o h=>by simp [fc,look] at h⟩
 | (i,s)::l,r,M,f,y,e=>by
  replace e:(match look M i with
   | some a=>(match aM a.1 cO with
    | true=>QE s (qX st l M f)
    | false=>(match st.obj a.1 with
     | some o=>B2 st s M a.2 o (fun M=>qX st l M f)
     | none=>none))
   | none=>(match kP M i (i*1024) 0,st.obj (i*1024) with
    | some M,some o=>B2 st s M 0 o (fun M=>qX st l M f)
    | _,_=>none))=some y:=e
  have go:∀ (M0:Mp) (a d:Nat) (o:dD),look M0 i=some (a,d)→a≠cO→st.obj a=some o→B2 st s M0 d o (fun M=>qX st l M f)=some y→
    ∃ M',Sub M0 M'∧(lz M0→lz M')∧f M'=some (fc nm vr ((i,s)::l) y).2∧(∀ p∈(i,s)::l,∃ a d,look M' p.1=some (a,d)∧(a=cO∨st.obj a≠none))∧
     ∀ g' U',Cons st nm vr M' g g' U'→∀ id o,look (fc nm vr ((i,s)::l) y).1 id=some (some o)→U' (id / 1024)∧fo g' w U' id o:=by
   intro M0 a d o hM aA bD e;obtain ⟨M1,h1,h2,h3,h4⟩:=aaA (nm:=nm) (vr:=vr) hO bD aA s M0 _ y hM e;obtain ⟨M2,k1,k2,k3,k4,k5⟩:=EP hO l M1 f _ h3;refine ⟨M2,h1.trans k1,fun h=>k2 (h2 h),k3,?_,fun g' U' C id o' h=>?_⟩
   ·intro p hp;rcases fZ.1 hp with rfl | hp
    ·exact ⟨a,d,k1 _ _ (h1 _ _ hM),.inr (by rw [bD]; simp)⟩
    exact k4 p hp
   replace h:look ((nm i,some (nY nm vr s y).1)::(fc nm vr l (nY nm vr s y).2).1) id=some (some o'):=h;rw [dM] at h;split at h
   ·rename_i he;subst he;simp only [aF] at h;subst h;exact ⟨(C.name _ _ _ (k1 _ _ (h1 _ _ hM))).1,h4 g' U' (C.mono k1)⟩
   exact k5 g' U' C id o' h
  split at e
  ·rename_i ad hM;obtain ⟨aid,d⟩:=ad;simp only at e;split at e
   ·rename_i hn;obtain rfl:=bm hn;cases s with
    | cells ro l'=>exact absurd (show none=some _ from e) (by simp)
    | row own t=>
     cases hz:qX st l M f with
     | none=>rw [hz] at e; exact absurd (show none=some _ from e) (by simp)
     | some z=>
      rw [hz] at e;replace e:some (([]:List t.T),z)=some y:=e;obtain rfl:=aW e;obtain ⟨M2,k1,k2,k3,k4,k5⟩:=EP hO l M f z hz;refine ⟨M2,k1,k2,k3,?_,fun g' U' C id o' h=>?_⟩
      ·intro p hp;rcases fZ.1 hp with rfl | hp
       ·exact ⟨_,_,k1 _ _ hM,.inl rfl⟩
       exact k4 p hp
      replace h:look ((nm i,some (.row own t vr ([]:List t.T)))::(fc nm vr l z).1) id=some (some o'):=h;rw [dM] at h;split at h
      ·rename_i he;subst he;simp only [aF] at h;subst h;obtain ⟨c1,c2⟩:=C.name _ _ _ (k1 _ _ hM);refine ⟨c1,C.u0,C.uv,?_⟩;unfold eN;rw [c2];exact ⟨rfl,cj _,fun _=>rfl,fun b o hb=>by simp [ef,dX] at hb⟩
      exact k5 g' U' C id o' h
   rename_i hn;have aA:aid≠cO:=fun h=>by subst h; simp at hn
   split at e
   ·rename_i o bD;exact go M aid d o hM aA bD e
   simp at e
  rename_i hM;cases hb:kP M i (i*1024) 0 with
  | none=>rw [hb] at e; exact absurd (show none=some _ from e) (by simp)
  | some M0=>cases bD:st.obj (i*1024) with
   | none=>rw [hb,bD] at e; exact absurd (show none=some _ from e) (by simp)
   | some o=>
    rw [hb,bD] at e;obtain ⟨b1,b2,b3,b4⟩:=yh hb;obtain ⟨M2,k1,k2,k3⟩:=go M0 _ 0 o b2 b3 bD e;exact ⟨M2,b1.trans k1,fun h=>k2 (b4 h),k3⟩
structure Fit (la:LA) (st:St) (h:List Nat) (M:Mp):Prop where
 inj:lz M
 par:∀ k a d,look M k=some (a,d)→k<1000→k<19∧a=k*1024∧d=0
 mem:∀ k a d,look M k=some (a,d)→∃ q∈la.aX,q.1=k
 held:∀ k a d,look M k=some (a,d)→a∉h
 ex:∀ k a d,look M k=some (a,d)→a=cO∨st.obj a≠none
 all:∀ p∈la.aX,∃ a d,look M p.1=some (a,d)
theorem any_beq {l:List Nat} {a:Nat} : l.any (aM a)=true↔a∈l:=by
 rw [wb];constructor
 ·rintro ⟨x,h1,h2⟩; rw [bm h2]; exact h1
 intro h; exact ⟨a,h,by simp⟩
theorem aaC (hO:fq g w U st) (hE:∀ t v,look st.env t=some v→aV g w U v (a.eval (.tmp t))) {la:LA} {head:St} {y:la.LT} (e:la.read head st=some y) :
  ∃ M,Fit la st (la.held head) M∧∀ g' U',Cons st nm vr M g g' U'→
   (∀ t v,look (cT nm vr la.cy y).1 t=some v→aV g' w U' v (a.eval (.tmp t)))∧
   (∀ id o,look (fc nm vr la.aX (cT nm vr la.cy y).2).1 id=some (some o)→U' (id / 1024)∧fo g' w U' id o):=by
 obtain ⟨M1,h1,h2,h3,h4⟩:=Ig (nm:=nm) (vr:=vr) hO hE la.cy [] _ y e;obtain ⟨M2,k1,k2,k3,k4,k5⟩:=EP (nm:=nm) (vr:=vr) hO la.aX M1 _ _ h3;unfold LA.fit at k3;split at k3
 ·rename_i hf;have hf:=gp.1 hf;have i0:lz []:=fun _ _ _ _ _ h=>by simp [look] at h
  refine ⟨M2,⟨k2 (h2 i0),fun k a d hk ax=>?_,fun k a d hk=>?_,fun k a d hk=>?_,fun k a d hk=>?_,fun p hp=>?_⟩,fun g' U' C=>⟨h4 g' U' (C.mono k1),k5 g' U' C⟩⟩
  ·have:=hf _ (ky hk);simp only [aw] at this;have h1:=this.1.1;have hb:cL k 1000=true:=by simpa using ax
   rw [hb] at h1;simp only [aw,rj] at h1;refine ⟨?_,h1.1.2,h1.2⟩;have:=h1.1.1;simpa [dJ] using this
  ·have:=hf _ (ky hk);simp only [aw] at this;obtain ⟨q,h1,h2⟩:=wb.1 this.1.2;exact ⟨q,h1,bm h2⟩
  ·have:=hf _ (ky hk);simp only [aw] at this;have h1:=this.2;intro hm;rw [any_beq.2 hm] at h1;simp at h1
  ·have:=hf _ (ky hk);simp only [aw] at this;obtain ⟨q,h1,h2⟩:=wb.1 this.1.2;obtain ⟨a',d',h3,h4⟩:=k4 q h1;rw [bm h2,hk] at h3;simp only [aF,bE] at h3;rw [h3.1]; exact h4
  obtain ⟨a',d',h3,h4⟩:=k4 p hp;exact ⟨a',d',h3⟩
 simp at k3
theorem AY (nx k:Nat):ck nx k / 1024=if k<1000 then k else nx+(k-1000):=by
 unfold ck;by_cases h:k<1000
 ·have:cL k 1000=true:=by simpa using h
  rw [this,if_pos h]; simp only; exact LO _ (by omega)
 have:cL k 1000=false:=by rw [← Bool.not_eq_true]; intro hh; exact h (by simpa using hh)
 rw [this,if_neg h]; simp only; exact LO _ (by omega)
theorem LQ {nx k:Nat} (h:k<1000):ck nx k=k*1024:=by
 unfold ck;have:cL k 1000=true:=by simpa using h
 rw [this]
theorem Sb {nx k l:Nat} (hn:20≤nx) (hk:k<1000→k<19) (hl:l<1000→l<19) (h:ck nx k=ck nx l):k=l:=by
 have e:ck nx k / 1024=ck nx l / 1024:=by rw [h]
 rw [AY,AY] at e;split at e<;>split at e<;>omega
open Classical in
noncomputable def mN (st:St) (nx:Nat) (M:Mp) (g:Gh):Gh where
 hd id ver p:=if h:ver=0∧∃ q:Nat×Nat×Nat,look M q.1=some q.2∧id=ck nx q.1 then
   (if p=[] then ef g h.2.choose.2.1 h.2.choose.2.2 else if h.2.choose.2.2=0 then g.hd h.2.choose.2.1 (qn st h.2.choose.2.1) p else dX)
  else g.hd id ver p
 lab b o:=match g.lab b o with
  | none=>none
  | some (id,p)=>if h:∃ k d,look M k=some (id,d)∧id≠cO then some (ck nx h.choose,p) else some (id,p)
section
variable {M:Mp} {la:LA} {h:List Nat}
theorem LR (F:Fit la st h M) (hn:20≤nx) {k a d:Nat} (hk:look M k=some (a,d)) (p:Path) :
  (mN st nx M g).hd (ck nx k) 0 p=if p=[] then ef g a d else if d=0 then g.hd a (qn st a) p else dX:=by
 have hex:(0:Nat)=0∧∃ q:Nat×Nat×Nat,look M q.1=some q.2∧ck nx k=ck nx q.1:=⟨rfl,(k,a,d),hk,rfl⟩
 simp only [mN,dif_pos hex];have hs:=hex.2.choose_spec;have e:hex.2.choose=(k,a,d):=by generalize hex.2.choose=q at hs;obtain ⟨k',a',d'⟩:=q;have e:=Sb hn (fun hl=>(F.par _ _ _ hk hl).1) (fun hl=>(F.par _ _ _ hs.1 hl).1) hs.2;subst e;have h1:=hs.1;simp only [hk,aF] at h1;rw [h1]
 rw [e]
theorem Sc {id ver:Nat} (aA:∀ k a d,look M k=some (a,d)→id≠ck nx k) (p:Path):(mN st nx M g).hd id ver p=g.hd id ver p:=by simp only [mN];rw [dif_neg];rintro ⟨-,⟨k,a,d⟩,h1,h2⟩;exact aA k a d h1 h2
theorem Sd {b o:Nat} (hl:g.lab b o=none):(mN st nx M g).lab b o=none:=by simp [mN,hl]
theorem aaD (F:Fit la st h M) {k a d b o:Nat} {p:Path} (hk:look M k=some (a,d)) (aA:a≠cO) (hl:g.lab b o=some (a,p)):(mN st nx M g).lab b o=some (ck nx k,p):=by
 have hex:∃ k d,look M k=some (a,d)∧a≠cO:=⟨k,d,hk,aA⟩
 simp only [mN,hl,dif_pos hex];obtain ⟨d',h1,h2⟩:=hex.choose_spec;rw [F.inj _ _ _ _ _ h1 hk aA]
theorem Se {b o id:Nat} {p:Path} (hl:g.lab b o=some (id,p)) (qj:∀ k d,look M k=some (id,d)→id=cO):(mN st nx M g).lab b o=some (id,p):=by simp only [mN,hl];rw [dif_neg];rintro ⟨k,d,h1,h2⟩;exact h2 (qj k d h1)
theorem Sf {b o:Nat} {id:Nat} {p:Path} (hl:(mN st nx M g).lab b o=some (id,p)) :
  g.lab b o=some (id,p)∨∃ k a d,look M k=some (a,d)∧a≠cO∧g.lab b o=some (a,p)∧id=ck nx k:=by
 simp only [mN] at hl;split at hl
 ·simp at hl
 rename_i az _ he;split at hl
 ·rename_i hex;simp only [aF,bE] at hl;obtain ⟨d,h1,h2⟩:=hex.choose_spec;exact .inr ⟨_,az,d,h1,h2,by rw [he,hl.2],hl.1.symm⟩
 exact .inl (by rw [he]; exact hl)
theorem aaE (F:Fit la st h M) (hn:20≤nx) {U':Nat→Prop} (h0:U' 0) (hU:∀ k a d,look M k=some (a,d)→U' (ck nx k / 1024)):Cons st (ck nx) 0 M g (mN st nx M g) U':=
 ⟨fun k a d hk=>⟨hU k a d hk,by rw [LR F hn hk,if_pos rfl]⟩,h0,h0,fun b o hl=>Sd hl,fun k a d b o p hk aA hl=>aaD F hk aA hl,
  fun k a d q hk hq=>by rw [LR F hn hk,if_neg hq]⟩
end
end
end Go.Am
namespace Go.Am
open Go
section
variable {g0 g g':Gh} {w0 w:World} {U0 U U':Nat→Prop}
theorem Ih {id ver:Nat} (h0:∀ p,g'.hd id 0 p=g.hd id 0 p) (h1:∀ p,g'.hd id ver p=g.hd id ver p):∀ (q pre:Path),j7 g id ver pre q→j7 g' id ver pre q
 | [],_,_=>trivial
 | (i,j)::q,pre,h=>by
  refine ⟨?_,Ih h0 h1 q _ h.2⟩;have:g'.hd id (j6 pre ver) pre=g.hd id (j6 pre ver) pre:=by cases pre with | nil=>exact h0 _ | cons=>exact h1 _
  rw [this];exact h.1
mutual
theorem Ii (eS:∀ s,U0 s→U' s) (jc:∀ b o,g.lab b o=none→g'.lab b o=none):∀ (v:ag),(∀ id∈v.ids,∀ ver p,U0 (id / 1024)→U0 ver→g'.hd id ver p=g.hd id ver p)→
  ∀ x0 x,aV g0 w0 U0 v x0→aV g w U v x→aV g' w U' v x
 | .undef,_,_,_,_,_=>trivial
 | .int _ _,_,_,_,_,h=>h
 | .bool _,_,_,_,_,h=>h
 | .str _,_,_,_,_,h=>h
 | .err _,_,_,_,_,h=>h
 | .agg cs,hi,_,_,h0,h=>let ⟨l0,_,r0⟩:=h0; let ⟨l,e,r⟩:=h; ⟨l,e,Ij eS jc cs hi l0 l r0 r⟩
 | .gN cs,hi,_,_,h0,h=>let ⟨l0,_,r0⟩:=h0; let ⟨l,e,r⟩:=h; ⟨l,e,Ij eS jc cs hi l0 l r0 r⟩
 | .nil,_,_,_,_,h=>h
 | .sh t _,_,_,_,_,h=>ix (gb (fun b o hl v hv=>⟨hv,jc b o hl⟩) t) h
 | .cZ t _,_,_,_,_,h=>⟨ix (gb (fun b o hl v hv=>⟨hv,jc b o hl⟩) t) h.1,h.2⟩
 | .ga t x _,_,_,_,_,h=>let ⟨b,o,e,r⟩:=h; ⟨b,o,e,gb (fun b o hl v hv=>⟨hv,jc b o hl⟩) t x b o r⟩
 | .own id ver p _,hi,_,_,h0,h=>by obtain ⟨a1,a2,a3,-⟩:=h0;obtain ⟨h1,h2,h0,hp,h3,h4⟩:=h;have e0:=fun p=>hi id (by simp [ag.ids]) 0 p a1 a3;have e1:=fun p=>hi id (by simp [ag.ids]) ver p a1 a2;exact ⟨eS _ a1,eS _ a2,eS _ a3,Ih e0 e1 _ _ hp,h3,by rw [e1]; exact h4⟩
 | .fK id ver p t off len,hi,_,_,h0,h=>by obtain ⟨a1,a2,a3,-⟩:=h0;obtain ⟨h1,h2,h0,hp,h3,h4⟩:=h;have e0:=fun p=>hi id (by simp [ag.ids]) 0 p a1 a3;have e1:=fun p=>hi id (by simp [ag.ids]) ver p a1 a2;exact ⟨eS _ a1,eS _ a2,eS _ a3,Ih e0 e1 _ _ hp,h3,by rw [e1]; exact h4⟩
 | .fb id ver p t i j,hi,_,_,h0,h=>by obtain ⟨a1,a2,a3,-⟩:=h0;obtain ⟨h1,h2,h0,hp,h3,h4⟩:=h;have e0:=fun p=>hi id (by simp [ag.ids]) 0 p a1 a3;have e1:=fun p=>hi id (by simp [ag.ids]) ver p a1 a2;exact ⟨eS _ a1,eS _ a2,eS _ a3,Ih e0 e1 _ _ hp,h3,by rw [e1]; exact h4⟩
 | .bn id j,hi,_,_,h0,h=>by obtain ⟨a1,a3,-⟩:=h0;obtain ⟨h1,h2,h3⟩:=h;exact ⟨eS _ a1,eS _ a3,by rw [hi id (by simp [ag.ids]) 0 _ a1 a3]; exact h3⟩
 | .fB id off len sz,hi,_,_,h0,h=>by obtain ⟨a1,a3,-⟩:=h0;obtain ⟨h1,h2,h3⟩:=h;exact ⟨eS _ a1,eS _ a3,by rw [hi id (by simp [ag.ids]) 0 _ a1 a3]; exact h3⟩
 | .fn _ cs,hi,_,_,h0,h=>let ⟨l0,_,r0⟩:=h0; let ⟨l,e,r⟩:=h; ⟨l,e,Ij eS jc cs hi l0 l r0 r⟩
 | .so,_,_,_,_,h=>h
 | .tL,_,_,_,_,h=>h
theorem Ij (eS:∀ s,U0 s→U' s) (jc:∀ b o,g.lab b o=none→g'.lab b o=none):∀ (vs:List ag),(∀ id∈ag.ids.ie vs,∀ ver p,U0 (id / 1024)→U0 ver→g'.hd id ver p=g.hd id ver p)→
  ∀ l0 l,cu g0 w0 U0 vs l0→cu g w U vs l→cu g' w U' vs l
 | [],_,_,_,_,h=>h
 | v::vs,hi,_,_,h0,h=>by obtain ⟨x0,r0,-,a0,b0⟩:=h0;obtain ⟨x,r,e,a,b⟩:=h;exact ⟨x,r,e,Ii eS jc v (fun id h=>hi id (by simp [ag.ids.ie,h])) x0 x a0 a,Ij eS jc vs (fun id h=>hi id (by simp [ag.ids.ie,h])) r0 r b0 b⟩
end
theorem aaF (eS:∀ s,U0 s→U' s) (jc:∀ b o,g.lab b o=none→g'.lab b o=none) {id:Nat} (hu:U0 (id / 1024)) (dA:∀ ver p,U0 ver→g'.hd id ver p=g.hd id ver p)
  (cW:∀ b o p,g.lab b o=some (id,p)→g'.lab b o=some (id,p)) {ob:dD} (hb:∀ t vr xs i j,ob≠.nV t vr xs i j)
  (hi:∀ ro cs,ob = .cells ro cs→∀ id∈ag.ids.ie cs,∀ ver p,U0 (id / 1024)→U0 ver→g'.hd id ver p=g.hd id ver p)
  (h0:fo g0 w0 U0 id ob) (h:fo g w U id ob):fo g' w U' id ob:=by
 cases ob with
 | cells ro cs=>
  obtain ⟨a0,b0,o0,hh0,ud⟩:=h0;obtain ⟨a1,b,o,hh,hc⟩:=h;refine ⟨eS _ a0,b,o,by rw [dA _ _ a0]; exact hh,fun k hk=>?_⟩;obtain ⟨-,-,v0,-,r0⟩:=ud k hk;obtain ⟨c1,c2,v,c3,r⟩:=hc k hk;refine ⟨cW _ _ _ c1,c2,v,c3,Ii eS jc _ (fun az hid=>hi ro cs rfl az ?_) v0 v r0 r⟩;clear hc ud hi c1 c2 c3 r r0;induction cs generalizing k with
  | nil=>simp at hk
  | cons c cs ih=>
   cases k with
   | zero=>simp only [R_] at hid; simp [ag.ids.ie,hid]
   | succ k=>
    simp only [EO] at hid;simp only [ag.ids.ie,eh];refine .inr ?_;have cr:k<cs.length:=by simpa using hk
    exact Sg cs k cr hid
 | row own t vr xs=>
  exact ⟨eS _ h0.1,eS _ h0.2.1,Ic (dA _ _ h0.1) (fun q _=>dA _ _ h0.2.1) cW jc h.2.2⟩
 | nV t vr xs i j=>exact absurd rfl (hb t vr xs i j)
 where Sg:∀ (cs:List ag) (k:Nat) (hk:k<cs.length) {id:Nat},id∈cs[k].ids→id∈ag.ids.ie cs
 | [],k,hk,_,h=>by simp at hk
 | c::cs,0,hk,_,h=>by simp only [R_] at h; simp [ag.ids.ie,h]
 | c::cs,k+1,hk,_,h=>by simp only [EO] at h;simp only [ag.ids.ie,eh];exact .inr (Sg cs k (by simpa using hk) h)
end
structure Ext (g:Gh) (U:Nat→Prop) (st:St) (g':Gh) (U':Nat→Prop) (st':St):Prop where
 sub:∀ s,U s→U' s
 nxt:st.nxt≤st'.nxt
 env:∃ l,st'.et=l++st.et∧∀ t,t∉l→look st'.env t=none∨look st'.env t=look st.env t
 obj:∃ l,st'.ht=l++st.ht∧∀ id,id∉l→st'.obj id=none∨(st'.obj id=st.obj id∧∀ ver p,U (id / 1024)→U ver→g'.hd id ver p=g.hd id ver p)
 par:∀ n,n / 1024<19→U (n / 1024)→g'.hd n 0 []=g.hd n 0 []
theorem Ext.refl (g:Gh) (U:Nat→Prop) (st:St):Ext g U st g U st:=
 ⟨fun _ h=>h,cj _,⟨[],rfl,fun _ _=>.inr rfl⟩,⟨[],rfl,fun _ _=>.inr ⟨rfl,fun _ _ _ _=>rfl⟩⟩,fun _ _ _=>rfl⟩
theorem Ext.trans {g1 g2 g3:Gh} {U1 U2 U3:Nat→Prop} {s1 s2 s3:St} (h:Ext g1 U1 s1 g2 U2 s2) (h':Ext g2 U2 s2 g3 U3 s3):Ext g1 U1 s1 g3 U3 s3:=by
 obtain ⟨l,e1,e2⟩:=h.env;obtain ⟨l',e3,e4⟩:=h'.env;obtain ⟨m,o1,o2⟩:=h.obj;obtain ⟨m',o3,o4⟩:=h'.obj;refine ⟨fun s hs=>h'.sub s (h.sub s hs),Nat.le_trans h.nxt h'.nxt,⟨l'++l,by rw [e3,e1,lZ],fun t ht=>?_⟩,⟨m'++m,by rw [o3,o1,lZ],fun id hid=>?_⟩,
  fun i h1 h2=>by rw [h'.par i h1 (h.sub _ h2),h.par i h1 h2]⟩
 ·simp only [eh,not_or] at ht;rcases e4 t ht.1 with h1 | h1
  ·exact .inl h1
  rcases e2 t ht.2 with h2 | h2
  ·exact .inl (by rw [h1,h2])
  exact .inr (by rw [h1,h2])
 simp only [eh,not_or] at hid;rcases o4 id hid.1 with h1 | ⟨h1,h3⟩
 ·exact .inl h1
 rcases o2 id hid.2 with h2 | ⟨h2,h4⟩
 ·exact .inl (by rw [h1,h2])
 exact .inr ⟨by rw [h1,h2],fun ver p a1 a2=>by rw [h3 ver p (h.sub _ a1) (h.sub _ a2),h4 ver p a1 a2]⟩
theorem ER {α:Type} : ∀ {l:List (Nat×α)} {k:Nat},k∉l.map (·.1)→look l k=none
 | [],_,_=>rfl
 | (a,b)::l,k,h=>by simp only [List.map_cons,fZ,not_or] at h;rw [dM,if_neg (fun e=>h.1 e.symm)];exact ER h.2
theorem Ext.put {g g':Gh} {U U':Nat→Prop} {st:St} {w w':World} {e:cG} {v:Value} (d:Option Nat) (Q:dL g w U st.nxt e v w' g' U') (jJ:U 0):Ext g U st g' U' (st.put d e):=by
 refine ⟨Q.iZ.sub,Nat.le_succ _,⟨match d with | some x=>[x] | none=>[],by cases d<;>rfl,fun t ht=>?_⟩,⟨e.aX.map (·.1),rfl,fun id hid=>.inr ⟨?_,fun ver p a1 a2=>Q.iZ.hd _ _ _ a1 a2⟩⟩,
  fun i h1 h2=>Q.iZ.hd _ _ _ h2 jJ⟩
 ·cases d with
  | none=>exact .inr rfl
  | some x=>
   simp only [List.mem_singleton] at ht;refine .inr ?_;simp only [St.put];rw [dM,if_neg (fun e=>ht e.symm)]
 unfold St.obj St.put;simp only [iK,ER hid]
theorem Ext.AX {g:Gh} {U:Nat→Prop} {st:St} {d:Nat} {x:ag} : Ext g U st g U (st.put (some d) ⟨x,[]⟩):=by refine ⟨fun _ h=>h,Nat.le_succ _,⟨[d],rfl,fun t ht=>?_⟩,⟨[],rfl,fun id hid=>.inr ⟨rfl,fun _ _ _ _=>rfl⟩⟩,fun _ _ _=>rfl⟩;simp only [List.mem_singleton] at ht;refine .inr ?_;simp only [St.put];rw [dM,if_neg (fun e=>ht e.symm)]
structure yi (la:LA) (g0:Gh) (U0:Nat→Prop) (st0:St) (g:Gh) (st:St):Prop where
 env:∀ i∈la.iv,∀ v,look st0.env i=some v→look st.env i=some v
 obj:∀ id∈la.held st0,∀ o,st0.obj id=some o→st.obj id=some o
 ES:∀ id∈la.held st0,∀ ver p,U0 (id / 1024)→U0 ver→g.hd id ver p=g0.hd id ver p
 par:∀ n,n / 1024<19→U0 (n / 1024)→g.hd n 0 []=g0.hd n 0 []
theorem yi.refl (la:LA) (g:Gh) (U:Nat→Prop) (st:St):yi la g U st g st:=⟨fun _ _ _ h=>h,fun _ _ _ h=>h,fun _ _ _ _ _ _=>rfl,fun _ _ _=>rfl⟩
theorem LS {names:List Nat} : ∀ (l m:List Nat),front names l.length (l++m)=true→∀ i∈names,i∉l
 | [],m,h,i,hi=>by simp
 | x::l,m,h,i,hi=>by simp only [aQ,List.cons_append,front,aw] at h;simp only [fZ,not_or];refine ⟨fun e=>?_,LS l m h.2 i hi⟩;subst e;have:=h.1;rw [any_beq.2 hi] at this;simp at this
theorem yi.of {la:LA} {g0 g1 g:Gh} {U0 U1 U:Nat→Prop} {st0 head st:St} (E1:Ext g0 U0 st0 g1 U1 head) (E2:Ext g1 U1 head g U st)
  (he:∀ i∈la.iv,look head.env i=none∨look head.env i=look st0.env i)
  (ho:∀ id∈la.held st0,head.obj id=none∨(head.obj id=st0.obj id∧∀ ver p,U0 (id / 1024)→U0 ver→g1.hd id ver p=g0.hd id ver p))
  (hh:la.held head=la.held st0) (K:la.kept head st=true):yi la g0 U0 st0 g st:=by
 unfold LA.kept at K;simp only [aw] at K;obtain ⟨⟨⟨k1,k2⟩,k3⟩,k4⟩:=K;obtain ⟨l,e1,e2⟩:=E2.env;obtain ⟨m,o1,o2⟩:=E2.obj;have n1:st.et.length-head.et.length=l.length:=by rw [e1]; simp
 have n2:st.ht.length-head.ht.length=m.length:=by rw [o1]; simp
 rw [n1,e1] at k1;rw [n2,o1,hh] at k2;rw [hh] at k4;have f1:=LS _ _ k1;have f2:=LS _ _ k2;refine ⟨fun i hi v hv=>?_,fun id hid o bD=>?_,fun id hid ver p u1 u2=>?_,fun i h1 h2=>by rw [E2.par i h1 (E1.sub _ h2),E1.par i h1 h2]⟩
 ·have hs:=gp.1 k3 i hi;rcases e2 i (f1 i hi) with h1 | h1
  ·rw [h1] at hs; simp at hs
  rcases he i hi with h2 | h2
  ·rw [h1,h2] at hs; simp at hs
  rw [h1,h2,hv]
 ·have hs:=gp.1 k4 id hid;rcases o2 id (f2 id hid) with h1 | ⟨h1,h3⟩
  ·rw [h1] at hs; simp at hs
  rcases ho id hid with h2 | ⟨h2,h4⟩
  ·rw [h1,h2] at hs; simp at hs
  rw [h1,h2,bD]
 have hs:=gp.1 k4 id hid;rcases o2 id (f2 id hid) with h1 | ⟨h1,h3⟩
 ·rw [h1] at hs; simp at hs
 rcases ho id hid with h2 | ⟨h2,h4⟩
 ·rw [h1,h2] at hs; simp at hs
 rw [h3 ver p (E1.sub _ u1) (E1.sub _ u2),h4 ver p u1 u2]
end Go.Am
namespace Go.Am
open Go
theorem CP {st:St} : ∀ (l:List Nat) (t:Nat),look (iY st l) t=if t∈l then look st.env t else none
 | [],t=>by simp [iY,look]
 | i::l,t=>by
  simp only [iY];cases h:look st.env i with
  | none=>
   simp only;rw [CP l t];by_cases ht:t=i
   ·subst ht; simp [h]
   simp [ht]
  | some v=>
   simp only;rw [dM,CP l t];by_cases ht:i=t
   ·subst ht; simp [h]
   rw [if_neg ht];have oi:¬ t=i:=fun e=>ht e.symm;simp [oi]
theorem AZ {st:St} : ∀ (l:List Nat) (id:Nat),(match look (vB st l) id with | some (some o)=>some o | _=>none)=if id∈l then st.obj id else none
 | [],id=>by simp [vB,look]
 | i::l,id=>by
  simp only [vB];have ih:=AZ (st:=st) l id;cases h:st.obj i with
  | none=>
   simp only;rw [ih];by_cases ht:id=i
   ·subst ht; simp [h]
   simp [ht]
  | some v=>
   simp only;rw [dM];by_cases ht:i=id
   ·subst ht; simp [h]
   rw [if_neg ht,ih];have oi:¬ id=i:=fun e=>ht e.symm;simp [oi]
theorem aaG {l:List (Nat×ag)} {t:Nat} {v:ag} (h:(t,v)∈l):∀ id∈v.ids,id∈tN l:=by
 induction l with
 | nil=>simp at h
 | cons a l ih=>
  intro id hid;obtain ⟨k,u⟩:=a;simp only [tN,eh];rcases fZ.1 h with e | e
  ·simp only [bE] at e; obtain ⟨rfl,rfl⟩:=e; exact .inl hid
  exact .inr (ih e id hid)
theorem aaH {st:St} {l:List Nat} {t:Nat} {v:ag} (ht:t∈l) (h:look st.env t=some v):(t,v)∈iY st l:=by
 induction l with
 | nil=>simp at ht
 | cons a l ih=>
  simp only [iY];rcases fZ.1 ht with e | e
  ·subst e; rw [h]; simp
  cases h':look st.env a with
  | none=>exact ih e
  | some x=>exact jO _ (ih e)
theorem aaI {st:St} {l:List Nat} {id:Nat} {ro:List Bool} {cs:List ag} (hid:id∈l) (h:st.obj id=some (.cells ro cs)):∀ x∈ag.ids.ie cs,x∈mE st l:=by
 induction l with
 | nil=>simp at hid
 | cons a l ih=>
  intro x hx;simp only [mE,eh];rcases fZ.1 hid with e | e
  ·subst e; rw [h]; exact .inl hx
  exact .inr (ih e x hx)
theorem LU {st st':St} : ∀ (l:List Nat),(∀ i∈l,st'.obj i=st.obj i)→mE st' l=mE st l
 | [],_=>rfl
 | i::l,h=>by simp only [mE,h i (by simp),LU l (fun j hj=>h j (by simp [hj]))]
theorem Si {st st':St} : ∀ (l:List Nat),(∀ i∈l,look st'.env i=look st.env i)→iY st' l=iY st l
 | [],_=>rfl
 | i::l,h=>by simp only [iY,h i (by simp),Si l (fun j hj=>h j (by simp [hj]))]
structure we (la:LA) (st:St):Prop where
 new:∀ p∈la.aX,ck st.nxt p.1∉la.held st
 lt:∀ p∈la.aX,p.1<1000+la.aX.length
 iv:∀ i∈la.iv,∀ p∈la.cy,p.1≠i
 wg:∀ i∈mE st (la.held st),i∈la.held st
 nV:∀ i∈la.held st,∀ t vr xs a b,st.obj i≠some (.nV t vr xs a b)
theorem Ik {la:LA} {st:St} (h:la.apart st=true):we la st:=by
 unfold LA.apart at h;simp only [aw] at h;obtain ⟨⟨⟨⟨⟨h1,h2⟩,h3⟩,h4⟩,h5⟩,h6⟩:=h;refine ⟨fun p hp hm=>?_,fun p hp=>?_,fun i hi p hp e=>?_,fun i hi=>?_,fun i hi t vr xs a b e=>?_⟩
 ·have:=gp.1 h2 p hp;rw [any_beq.2 hm] at this;simp at this
 ·have:=gp.1 h3 p hp;simpa [dJ] using this
 ·have:=gp.1 h4 i hi;have hx:(la.cy.any fun p=>aM p.1 i)=true:=wb.2 ⟨p,hp,by rw [e]; simp⟩;rw [hx] at this;simp at this
 ·exact any_beq.1 (gp.1 h5 i hi)
 have:=gp.1 h6 i hi;rw [e] at this;simp at this
section
variable {w0:World} {F:bW} {N:Nat} {g0 g g':Gh} {w w1:World} {U0 U U':Nat→Prop} {st0 head st:St} {a a0:Act} {la:LA}
theorem LV (x:la.LT) (t:Nat):look (la.mk' st0 x).env t=match look (cT (ck st0.nxt) 0 la.cy x).1 t with | some v=>some v | none=>if t∈la.iv then look st0.env t else none:=by show look ((cT (ck st0.nxt) 0 la.cy x).1++iY st0 la.iv) t=_;rw [iK,CP];cases look (cT (ck st0.nxt) 0 la.cy x).1 t<;>rfl
theorem Il (x:la.LT) (id:Nat):(la.mk' st0 x).obj id=match look (fc (ck st0.nxt) 0 la.aX (cT (ck st0.nxt) 0 la.cy x).2).1 id with
  | some o=>o
  | none=>if id∈la.held st0 then st0.obj id else none:=by
 show (match look ((fc (ck st0.nxt) 0 la.aX (cT (ck st0.nxt) 0 la.cy x).2).1++vB st0 (la.held st0)) id with | some (some o)=>some o | _=>none)=_;rw [iK,← AZ];cases h:look (fc (ck st0.nxt) 0 la.aX (cT (ck st0.nxt) 0 la.cy x).2).1 id with
 | none=>rfl
 | some o=>cases o<;>rfl
theorem Sj (A:we la st0) (x:la.LT) {i:Nat} (hi:i∈la.iv):look (la.mk' st0 x).env i=look st0.env i:=by rw [LV,LP _ _ _ (fun p hp=>A.iv i hi p hp)];simp [hi]
theorem Sk (A:we la st0) (x:la.LT) {id:Nat} (hid:id∈la.held st0):(la.mk' st0 x).obj id=st0.obj id:=by
 rw [Il];cases h:look (fc (ck st0.nxt) 0 la.aX (cT (ck st0.nxt) 0 la.cy x).2).1 id with
 | none=>simp [hid]
 | some o=>
  obtain ⟨p,hp,e,-⟩:=CO _ _ _ _ h;exact absurd (e▸hid) (A.new p hp)
theorem Sl (A:we la st0) (x:la.LT):la.held (la.mk' st0 x)=la.held st0:=by
 have e1:iY (la.mk' st0 x) la.iv=iY st0 la.iv:=Si _ (fun i hi=>Sj A x hi);have eS:∀ i,i∈tN (iY st0 la.iv)++la.Al.map (· * 1024)→i∈la.held st0:=by intro i hi;unfold LA.held;exact kO _ (kO _ hi)
 have e2:=LU (st:=st0) (st':=la.mk' st0 x) (tN (iY st0 la.iv)++la.Al.map (· * 1024)) (fun i hi=>Sk A x (eS i hi));have aaJ:∀ i,i∈(tN (iY st0 la.iv)++la.Al.map (· * 1024))++mE st0 (tN (iY st0 la.iv)++la.Al.map (· * 1024))→i∈la.held st0:=by intro i hi;unfold LA.held;exact kO _ hi
 have e3:=LU (st:=st0) (st':=la.mk' st0 x) ((tN (iY st0 la.iv)++la.Al.map (· * 1024))++mE st0 (tN (iY st0 la.iv)++la.Al.map (· * 1024))) (fun i hi=>Sk A x (aaJ i hi));unfold LA.held;simp only [e1,e2,e3]
theorem ET (R0:Rel w0 F N g0 U0 st0 a0 w1) (A:we la st0) (R:Rel w0 F N g U st a w) (K:yi la g0 U0 st0 g st) (hh:la.held head=la.held st0) {y:la.LT} (e:la.read head st=some y) :
  ∃ g' U',Rel w0 F N g' U' (la.mk' st0 y) a w∧Ext g0 U0 st0 g' U' (la.mk' st0 y):=by
 obtain ⟨M,FT,hr⟩:=aaC (nm:=ck st0.nxt) (vr:=0) R.heap R.env e;rw [hh] at FT;have hn:20≤st0.nxt:=by have:=R0.used 19 R0.AD; omega
 let U':Nat→Prop:=fun s=>U0 s∨∃ k a d,look M k=some (a,d)∧s=ck st0.nxt k / 1024
 have C:Cons st (ck st0.nxt) 0 M g (mN st st0.nxt M g) U':=aaE FT hn (.inl R0.u0) (fun k a d hk=>.inr ⟨k,a,d,hk,rfl⟩);obtain ⟨hS,hOb⟩:=hr _ U' C;have eS:∀ s,U0 s→U' s:=fun s h=>.inl h;have jc:∀ b o,g.lab b o=none→(mN st st0.nxt M g).lab b o=none:=fun b o h=>Sd h;have aaK:∀ k a d,look M k=some (a,d)→ck st0.nxt k∉la.held st0:=by intro k a d hk;obtain ⟨q,h1,h2⟩:=FT.mem k a d hk;rw [← h2]; exact A.new q h1
 have Im:∀ id∈la.held st0,∀ ver p,U0 (id / 1024)→U0 ver→(mN st st0.nxt M g).hd id ver p=g.hd id ver p:=by intro id hid ver p _ _;exact Sc (fun k a d hk e=>aaK k a d hk (e▸hid)) p
 have hdiv:∀ k a d,look M k=some (a,d)→ck st0.nxt k / 1024<st0.nxt+la.aX.length:=by
  intro k a d hk;obtain ⟨q,h1,h2⟩:=FT.mem k a d hk;have:=A.lt q h1;rw [AY];split
  ·rename_i ax; have:=(FT.par k a d hk ax).1; omega
  omega
 have aaL:∀ k a d,look M k=some (a,d)→ck st0.nxt k / 1024≠19:=by
  intro k a d hk;rw [AY];split
  ·rename_i ax; have:=(FT.par k a d hk ax).1; omega
  omega
 refine ⟨mN st st0.nxt M g,U',⟨fun t v h=>?_,fun id ob h=>?_,fun s h=>?_,fun b o q h=>?_,fun b o id p hb h=>?_,fun b o id p hf jJ=>?_,R.fr,R.defers,R.size,.inl R0.u0,fun s hs=>.inl (R0.nr s hs),fun id h=>?_⟩,
  ⟨eS,Nat.le_add_right _ _,⟨la.cy.map (·.1),rfl,fun t ht=>?_⟩,⟨la.aX.map (fun p=>ck st0.nxt p.1),rfl,fun id hid=>?_⟩,fun i h1 h2=>?_⟩⟩
 ·rw [LV] at h;cases hs:look (cT (ck st0.nxt) 0 la.cy y).1 t with
  | some v'=>
   rw [hs] at h;simp only [aF] at h;subst h;exact hS t _ hs
  | none=>
   rw [hs] at h;simp only at h;split at h
   ·rename_i hk;have h1:=K.env t hk v h;refine Ii eS jc v (fun id hid=>Im id ?_) _ _ (R0.env t v h) (R.env t v h1);unfold LA.held;refine kO _ (kO _ (kO _ (aaG (aaH hk h) id hid)))
   simp at h
 ·rw [Il] at h;cases hs:look (fc (ck st0.nxt) 0 la.aX (cT (ck st0.nxt) 0 la.cy y).2).1 id with
  | some uh=>
   rw [hs] at h;simp only at h;subst h;exact hOb id ob hs
  | none=>
   rw [hs] at h;simp only at h;split at h
   ·rename_i hid;obtain ⟨u0,r0⟩:=R0.heap id ob h;obtain ⟨-,r1⟩:=R.heap id ob (K.obj id hid ob h);refine ⟨eS _ u0,aaF eS jc u0 (fun ver p hv=>Im id hid ver p u0 hv) (fun b o p hl=>Se hl (fun k d hk=>?_)) (fun t vr xs i j e=>A.nV id hid t vr xs i j (by rw [h,e]))
     (fun ro cs e az aaM ver p h1 h2=>Im az (A.wg az (aaI hid (by rw [h,e]) az aaM)) ver p h1 h2) r0 r1⟩
    exact absurd hid (FT.held k id d hk)
   simp at h
 ·show s<st0.nxt+la.aX.length;rcases h with h | ⟨k,a,d,hk,rfl⟩
  ·have:=R0.used s h; omega
  exact hdiv k a d hk
 ·obtain ⟨id,p⟩:=q;rcases Sf h with h | ⟨k,a,d,hk,aA,h,-⟩
  ·exact R.b9 _ _ _ h
  exact R.b9 _ _ _ h
 ·rcases Sf h with h | ⟨k,a,d,hk,aA,h,-⟩
  ·exact R.cB b o id p hb h
  refine .inr ((R.cB b o a p hb h).resolve_left (fun hh=>?_));exact R.nf a ((FT.ex k a d hk).resolve_left aA) hh.1
 ·refine Se (R.n9 b o id p hf jJ) (fun k d hk=>?_);rcases FT.ex k id d hk with hx | hx
  ·exact hx
  exact absurd jJ (R.nf id hx)
 ·rw [Il] at h;cases hs:look (fc (ck st0.nxt) 0 la.aX (cT (ck st0.nxt) 0 la.cy y).2).1 id with
  | some uh=>
   obtain ⟨p,hp,e,-⟩:=CO _ _ _ _ hs;obtain ⟨a',d',hk⟩:=FT.all p hp;rw [e]; exact aaL _ _ _ hk
  | none=>
   rw [hs] at h;simp only at h;split at h
   ·exact R0.nf id h
   exact absurd rfl h
 ·rw [LV,LP _ _ _ (fun p hp e=>ht (kb.2 ⟨p,hp,e⟩))];simp only;split
  ·exact .inr rfl
  exact .inl rfl
 ·rw [Il];cases hs:look (fc (ck st0.nxt) 0 la.aX (cT (ck st0.nxt) 0 la.cy y).2).1 id with
  | some uh=>
   obtain ⟨p,hp,e,-⟩:=CO _ _ _ _ hs;exact absurd (kb.2 ⟨p,hp,e.symm⟩) hid
  | none=>
   simp only;split
   ·rename_i hm;exact .inr ⟨rfl,fun ver p u1 u2=>by rw [Im id hm ver p u1 u2,K.ES id hm ver p u1 u2]⟩
   exact .inl rfl
 by_cases hk:∃ k a d,look M k=some (a,d)∧i=ck st0.nxt k
 ·obtain ⟨k,a',d',hk,rfl⟩:=hk;have LW:k<1000:=by rw [AY] at h1;split at h1<;>omega
  obtain ⟨p1,p2,p3⟩:=FT.par k a' d' hk LW;have:=LR (g:=g) (st:=st) FT hn hk [];rw [if_pos rfl] at this;rw [this,p2,p3,LQ LW];have aA:k*1024≠cO:=by unfold cO; omega
  simp only [ef,aA,if_false,if_true];rw [LQ LW] at h1 h2;exact K.par _ h1 h2
 rw [Sc,K.par i h1 h2];intro k a' d' cr e;exact hk ⟨k,a',d',cr,e⟩
end
end Go.Am
namespace Go.Am
open Go
section
variable {P:Program} {c:ba} {w0:World} {F:bW} {N:Nat} {g g':Gh} {w w':World} {U U':Nat→Prop} {st:St} {a:Act}
theorem Io (H:yg P c) (hc:fY P c) (hG:Gl P F w0) {ops:Array Oper} (hN:∀ o∈ops.toList,∀ x,o.dst=some x→x<N) {ρ:Type} {r:ρ} {Q:Exit→Act→World→Prop} : ∀ (l:List Oper) (st:St) (a:Act) (w:World) (g:Gh) (U:Nat→Prop) (k:St→Option ρ),
  (∀ o∈l,o∈ops.toList)→Rel w0 F N g U st a w→Av c ops.toList l st k=some r→
  (∀ st' a' w' g' U',Rel w0 F N g' U' st' a' w'→Ext g U st g' U' st'→k st'=some r→Q .normal a' w')→wpList P ops Q l a w
 | [],st,a,w,g,U,k,hl,R,e,hQ=>hQ st a w g U R (.refl _ _ _) e
 | o::l,st,a,w,g,U,k,hl,R,e,hQ=>by
  have hd:=hN o (hl o (by simp));have kT:∀ o∈l,o∈ops.toList:=fun o' h=>hl o' (by simp [h]);have run:∀ {eF:St},Rel w0 F N g U eF a w→Ext g U st g U eF→eE c eF eF.nxt o.op (fun e=>Av c ops.toList l (eF.put o.dst e) k)=some r→o.wp P a w (wpList P ops Q l) Q:=by intro eF R E e;obtain ⟨bq,h1,h2⟩:=H (R.Ia hc hG) R.fresh e;exact h2 _ _ (fun v w' g' U' hp=>Io H hc hG hN l _ _ _ g' U' k kT (R.put hd hp) h1 (fun st' a' w' ov oy R' E'=>hQ st' a' w' ov oy R' ((E.trans (.put _ hp R.u0)).trans E')))
  have skip:∀ {eF:St},Rel w0 F N g U eF a w→Ext g U st g U eF→Av c ops.toList l (eF.put o.dst ⟨.gN [],[]⟩) k=some r→wpList P ops Q l (a.put o.dst undef) w:=
   fun R E e=>Io H hc hG hN l _ _ _ g U k kT (R.skip hd) e (fun st' a' w' ov oy R' E'=>hQ st' a' w' ov oy R' ((E.trans (.put (w:=w) (w':=w) (v:=undef) (e:=⟨.gN [],[]⟩) _ (.same (x:=.gN []) R.b9 ⟨[],rfl,rfl⟩) R.u0)).trans E'))
  simp only [Av] at e;simp only [wpList];cases hg:o.guard with
  | none=>
   rw [hg] at e;have hw:nC o (yielded ops a.tmps)=true:=by simp [nC,hg]
   rw [if_pos hw];exact .inl (run R (.refl _ _ _) e)
  | some gw=>
   obtain ⟨gd,want⟩:=gw;rw [hg] at e;simp only at e;split at e
   ·simp at e
   rename_i d pv;split at e
   ·rename_i b hb;have hv:a.eval (.tmp d) = .bool b:=by have:=(R.Ia hc hG).ev (.tmp d);rw [hb] at this; exact this
    have hy:yielded ops a.tmps gd=some b:=R5 pv hv;have hw:nC o (yielded ops a.tmps)=(b==want):=by simp [nC,hg,hy]
    rw [hw];cases b with
    | true=>
     have R':=R.AX (d:=d) (x:=.bool true) hv;simp only [br] at e;cases want with
     | true=>exact .inl (run R' .AX e)
     | false=>exact skip R' .AX e
    | false=>
     have R':=R.AX (d:=d) (x:=.bool false) hv;simp only [br] at e;cases want with
     | true=>exact skip R' .AX e
     | false=>exact .inl (run R' .AX e)
   ·rename_i hb;have hv:a.eval (.tmp d)=undef:=by have:=(R.Ia hc hG).ev (.tmp d);rw [hb] at this;obtain ⟨l,h1,h2⟩:=this;obtain rfl:=h2;exact h1
    have hy:yielded ops a.tmps gd=none:=R6 pv hv;have hw:nC o (yielded ops a.tmps)=false:=by simp [nC,hg,hy]
    rw [hw];exact skip R (.refl _ _ _) e
   simp at e
end
def Ex.to:Ex→Exit
 | .normal=>.normal
 | .ret=>.ret
 | .exit id=>.exit id
def A_ (P:Program) (c:ba):Prop:=∀ {ρ:Type} {r:ρ} {w0:World} {F:bW} {N:Nat} (id:Nat) (ops:Array Oper) (draw:Bool) (st:St) (a:Act) (w:World) (g:Gh) (U:Nat→Prop)
 (k:St→Option ρ) (Q:Exit→Act→World→Prop),(∀ o∈ops.toList,∀ x,o.dst=some x→x<N)→Gl P F w0→Rel w0 F N g U st a w→Ck c ops draw st k=some r→
 (∀ st' a' w' g' U',Rel w0 F N g' U' st' a' w'→Ext g U st g' U' st'→k st'=some r→Q .normal a' w')→(Code.region id ops draw).wp P Q a w
section
variable {P:Program} {c:ba} {w0:World} {F:bW} {N n:Nat}
abbrev Ip (w0:World) (F:bW) (N:Nat) (g:Gh) (U:Nat→Prop) (st:St) {ρ:Type} (k:Ex→St→Option ρ) (r:ρ) (Q:Exit→Act→World→Prop):Prop:=
 ∀ ex st' a' w' g' U',Rel w0 F N g' U' st' a' w'→Ext g U st g' U' st'→k ex st'=some r→Q ex.to a' w'
theorem LX {la:LA} {g0 g:Gh} {U0 U:Nat→Prop} {st0 st:St} (E:Ext g0 U0 st0 g U st) (K:la.kept st0 st=true):yi la g0 U0 st0 g st:=
 .of (.refl _ _ _) E (fun _ _=>.inr rfl) (fun _ _=>.inr ⟨rfl,fun _ _ _ _=>rfl⟩) rfl K
theorem Sm {g:Gh} {U:Nat→Prop} {st:St} {a:Act} {w:World} (R:Rel w0 F N g U st a w) {x:Operand} {t:Bool} (h:st.ev x = .bool t):a.eval x = .bool t:=by have:=Hy (g:=g) (w:=w) (U:=U) R.env x;rw [h] at this;exact this
theorem LY {α ρ:Type} {m:Option (Sum ρ α)} {f:α→Option ρ} {r:ρ} (h:cut m f=some r):m=some (.inl r)∨∃ y,m=some (.inr y)∧f y=some r:=by
 unfold cut at h;cases m with
 | none=>simp at h
 | some s=>cases s with
  | inl r'=>simp at h; subst h; exact .inl rfl
  | inr y=>exact .inr ⟨y,rfl,h⟩
theorem oz (HR:A_ P c) (hG:Gl P F w0):∀ (code:Code) (an:iw) (ρ:Type) (r:ρ) (st:St) (k:Ex→St→Option ρ) (Q:Exit→Act→World→Prop) (a:Act) (w:World) (g:Gh) (U:Nat→Prop),
  gS N code=true→Rel w0 F N g U st a w→gR c n code an ρ st k=some r→Ip w0 F N g U st k r Q→code.wp P Q a w
 | .skip,an,ρ,r,st,k,Q,a,w,g,U,hd,R,e,hQ=>wp_skip (hQ .normal st a w g U R (.refl _ _ _) e)
 | .exit id,an,ρ,r,st,k,Q,a,w,g,U,hd,R,e,hQ=>wp_exit (hQ (.exit id) st a w g U R (.refl _ _ _) e)
 | .ret,an,ρ,r,st,k,Q,a,w,g,U,hd,R,e,hQ=>wp_ret (hQ .ret st a w g U R (.refl _ _ _) e)
 | .region id ops draw,an,ρ,r,st,k,Q,a,w,g,U,hd,R,e,hQ=>by
  have pv:∀ o∈ops.toList,∀ x,o.dst=some x→x<N:=fun o ho x hx=>by have:=gp.1 (show ops.toList.all (fun o=>match o.dst with | some d=>cL d N | none=>true)=true from hd) o ho;rw [hx] at this;simpa [dJ] using this
  have plain:Ck c ops draw st (k .normal)=some r→(Code.region id ops draw).wp P Q a w:=fun e=>
   HR id ops draw st a w g U (k .normal) Q pv hG R e (fun st' a' w' g' U' R' E' e'=>hQ .normal st' a' w' g' U' R' E' e')
  cases an with
  | leaf=>exact plain e
  | two _ _=>exact plain e
  | one _=>exact plain e
  | loop _ _=>exact plain e
  | Cl _ _ _=>exact plain e
  | Ay _ _=>exact plain e
  | cut la fR=>
   cases hA:la.apart st with
   | false=>
    have e:(match la.apart st with | true=>_ | false=>none)=some r:=e;rw [hA] at e;exact absurd e (by simp)
   | true=>
    have e:(match la.apart st with | true=>_ | false=>none)=some r:=e;rw [hA] at e;have A:=Ik hA
    let kk:St→Option (Sum ρ la.LT):=fun st'=>match la.kept st st',la.read st st' with | true,some y=>some (.inr y) | _,_=>none
    have e:cut (Ck c ops draw st kk) (fun y=>k .normal (la.mk' st y))=some r:=e;have fin:∀ s:Sum ρ la.LT,Ck c ops draw st kk=some s→(∀ y,s = .inr y→k .normal (la.mk' st y)=some r)→(s = .inl r∨∃ y,s = .inr y)→(Code.region id ops draw).wp P Q a w:=by
     intro s es hs _;refine HR id ops draw st a w g U kk Q pv hG R es (fun st' a' w' g' U' R' E' e'=>?_);have e':(match la.kept st st',la.read st st' with | true,some y=>some (.inr y) | _,_=>none)=some s:=e';split at e'
     ·rename_i y hk hr;obtain ⟨ov,oy,sK,sL⟩:=ET R A R' (LX E' hk) rfl hr;exact hQ .normal _ a' w' ov oy sK sL (hs y (aW e').symm)
     simp at e'
    rcases LY e with h | ⟨y,h,hy⟩
    ·exact fin _ h (fun y hy=>absurd hy (by simp)) (.inl rfl)
    exact fin _ h (fun y' hy'=>by obtain rfl:=Sum.inr.inj hy'; exact hy) (.inr ⟨y,rfl⟩)
 | .seq x y,an,ρ,r,st,k,Q,a,w,g,U,hd,R,e,hQ=>by
  have hd:(gS N x&&gS N y)=true:=hd;rw [aw] at hd;refine wp_seq (oz HR hG x an.fst ρ r st _ _ a w g U hd.1 R e (fun ex st' a' w' g' U' R' E' e'=>?_));cases ex with
  | normal=>exact oz HR hG y an.snd ρ r st' k Q a' w' g' U' hd.2 R' e' (fun ex aaN a'' w'' ov oy sK sL e''=>hQ ex aaN a'' w'' ov oy sK (E'.trans sL) e'')
  | ret=>exact hQ .ret st' a' w' g' U' R' E' e'
  | exit j=>exact hQ (.exit j) st' a' w' g' U' R' E' e'
 | .scope x,an,ρ,r,st,k,Q,a,w,g,U,hd,R,e,hQ=>by
  refine wp_scope_straight (oz HR hG x an.fst ρ r st _ _ a w g U hd R e (fun ex st' a' w' g' U' R' E' e'=>?_));cases ex with
  | normal=>exact hQ .normal st' a' w' g' U' R' E' e'
  | ret=>exact hQ .ret st' a' w' g' U' R' E' e'
  | exit j=>exact hQ (.exit j) st' a' w' g' U' R' E' e'
 | .cond x p q,an,ρ,r,st,k,Q,a,w,g,U,hd,R,e,hQ=>by
  have hd:(gS N p&&gS N q)=true:=hd;rw [aw] at hd;have plain:(match st.ev x with | .bool t=>br t (gR c n p an.fst ρ st k) (gR c n q an.snd ρ st k) | _=>none)=some r→(Code.cond x p q).wp P Q a w:=by
   intro e;split at e
   ·rename_i t ht;refine wp_cond (Sm R ht) ?_;cases t with
    | true=>exact oz HR hG p an.fst ρ r st k Q a w g U hd.1 R e hQ
    | false=>exact oz HR hG q an.snd ρ r st k Q a w g U hd.2 R e hQ
   simp at e
  cases an with
  | leaf=>exact plain e
  | two _ _=>exact plain e
  | one _=>exact plain e
  | loop _ _=>exact plain e
  | Cl _ _ _=>exact plain e
  | Ay _ _=>exact plain e
  | cut la fR=>
   cases hx:st.ev x with
   | bool t=>
    cases hA:la.apart st with
    | false=>
     have e:(match st.ev x,la.apart st with | .bool t,true=>_ | _,_=>none)=some r:=e;rw [hx,hA] at e;exact absurd e (by simp)
    | true=>
     have e:(match st.ev x,la.apart st with | .bool t,true=>_ | _,_=>none)=some r:=e;rw [hx,hA] at e;have A:=Ik hA
     let kk:Ex→St→Option (Sum ρ la.LT):=fun e st'=>match e with
      | .normal=>(match la.kept st st',la.read st st' with | true,some y=>some (.inr y) | _,_=>none)
      | e=>(match k e st' with | some r=>some (.inl r) | none=>none)
     have e:cut (br t (gR c n p fR.fst (Sum ρ la.LT) st kk) (gR c n q fR.snd (Sum ρ la.LT) st kk)) (fun y=>k .normal (la.mk' st y))=some r:=e;have go:∀ s:Sum ρ la.LT,(s = .inl r∨∃ y,s = .inr y∧k .normal (la.mk' st y)=some r)→Ip w0 F N g U st kk s Q:=by
      intro s hs ex st' a' w' g' U' R' E' e';cases ex with
      | normal=>
       have e':(match la.kept st st',la.read st st' with | true,some y=>some (.inr y) | _,_=>none)=some s:=e';split at e'
       ·rename_i y hk hr;obtain rfl:=aW e';rcases hs with hs | ⟨y',hs,hy⟩
        ·exact absurd hs (by simp)
        obtain rfl:=Sum.inr.inj hs;obtain ⟨ov,oy,sK,sL⟩:=ET R A R' (LX E' hk) rfl hr;exact hQ .normal _ a' w' ov oy sK sL hy
       simp at e'
      | ret=>
       have e':(match k .ret st' with | some r=>some (.inl r) | none=>none)=some s:=e';split at e'
       ·rename_i r' hr;obtain rfl:=aW e';rcases hs with hs | ⟨y',hs,hy⟩
        ·obtain rfl:=Sum.inl.inj hs;exact hQ .ret st' a' w' g' U' R' E' hr
        exact absurd hs (by simp)
       simp at e'
      | exit j=>
       have e':(match k (.exit j) st' with | some r=>some (.inl r) | none=>none)=some s:=e';split at e'
       ·rename_i r' hr;obtain rfl:=aW e';rcases hs with hs | ⟨y',hs,hy⟩
        ·obtain rfl:=Sum.inl.inj hs;exact hQ (.exit j) st' a' w' g' U' R' E' hr
        exact absurd hs (by simp)
       simp at e'
     have go2:∀ s:Sum ρ la.LT,br t (gR c n p fR.fst (Sum ρ la.LT) st kk) (gR c n q fR.snd (Sum ρ la.LT) st kk)=some s→(s = .inl r∨∃ y,s = .inr y∧k .normal (la.mk' st y)=some r)→
       (Code.cond x p q).wp P Q a w:=by
      intro s es hs;refine wp_cond (Sm R hx) ?_;cases t with
      | true=>exact oz HR hG p fR.fst _ s st kk Q a w g U hd.1 R es (go s hs)
      | false=>exact oz HR hG q fR.snd _ s st kk Q a w g U hd.2 R es (go s hs)
     rcases LY e with h | ⟨y,h,hy⟩
     ·exact go2 _ h (.inl rfl)
     exact go2 _ h (.inr ⟨y,rfl,hy⟩)
   | _=>
    have e:(match st.ev x,la.apart st with | .bool t,true=>_ | _,_=>none)=some r:=e;rw [hx] at e;exact absurd e (by simp)
 | .block id b,an,ρ,r,st,k,Q,a,w,g,U,hd,R,e,hQ=>by
  have plain:gR c n b an.fst ρ st (fun e st=>match e with | .exit j=>(match aM j id with | true=>k .normal st | false=>k (.exit j) st) | e=>k e st)=some r→(Code.block id b).wp P Q a w:=by
   intro e;refine wp_block (oz HR hG b an.fst ρ r st _ _ a w g U hd R e (fun ex st' a' w' g' U' R' E' e'=>?_));cases ex with
   | normal=>exact hQ .normal st' a' w' g' U' R' E' e'
   | ret=>exact hQ .ret st' a' w' g' U' R' E' e'
   | exit j=>
    have e':(match aM j id with | true=>k .normal st' | false=>k (.exit j) st')=some r:=e';show (if j=id then Q .normal a' w' else Q (.exit j) a' w');split at e'
    ·rename_i hj;rw [if_pos (bm hj)];exact hQ .normal st' a' w' g' U' R' E' e'
    rename_i hj;rw [if_neg (fun h=>by subst h; simp at hj)];exact hQ (.exit j) st' a' w' g' U' R' E' e'
  cases an with
  | leaf=>exact plain e
  | two _ _=>exact plain e
  | one _=>exact plain e
  | loop _ _=>exact plain e
  | Cl _ _ _=>exact plain e
  | Ay _ _=>exact plain e
  | cut la fR=>
   cases hA:la.apart st with
   | false=>
    have e:(match la.apart st with | true=>_ | false=>none)=some r:=e;rw [hA] at e;exact absurd e (by simp)
   | true=>
    have e:(match la.apart st with | true=>_ | false=>none)=some r:=e;rw [hA] at e;have A:=Ik hA
    let kk:Ex→St→Option (Sum ρ la.LT):=fun e st'=>
     match (match e with | .normal=>true | .exit j=>aM j id | .ret=>false) with
     | true=>(match la.kept st st',la.read st st' with | true,some y=>some (.inr y) | _,_=>none)
     | false=>(match k e st' with | some r=>some (.inl r) | none=>none)
    have e:cut (gR c n b fR (Sum ρ la.LT) st kk) (fun y=>k .normal (la.mk' st y))=some r:=e;have go:∀ s:Sum ρ la.LT,(s = .inl r∨∃ y,s = .inr y∧k .normal (la.mk' st y)=some r)→Ip w0 F N g U st kk s (Exit.inBlock id Q):=by
     intro s hs ex st' a' w' g' U' R' E' e';have norm:(match la.kept st st',la.read st st' with | true,some y=>some (.inr y) | _,_=>none)=some s→Q .normal a' w':=by
      intro e';split at e'
      ·rename_i y hk hr;obtain rfl:=aW e';rcases hs with hs | ⟨y',hs,hy⟩
       ·exact absurd hs (by simp)
       obtain rfl:=Sum.inr.inj hs;obtain ⟨ov,oy,sK,sL⟩:=ET R A R' (LX E' hk) rfl hr;exact hQ .normal _ a' w' ov oy sK sL hy
      simp at e'
     have HZ:∀ ex,(match k ex st' with | some r=>some (.inl r) | none=>none)=some s→Q ex.to a' w':=by
      intro ex e';split at e'
      ·rename_i r' hr;obtain rfl:=aW e';rcases hs with hs | ⟨y',hs,hy⟩
       ·obtain rfl:=Sum.inl.inj hs;exact hQ ex st' a' w' g' U' R' E' hr
       exact absurd hs (by simp)
      simp at e'
     cases ex with
     | normal=>exact norm e'
     | ret=>exact HZ .ret e'
     | exit j=>
      show (if j=id then Q .normal a' w' else Q (.exit j) a' w');cases hj:aM j id with
      | true=>
       rw [if_pos (bm hj)];have e':(match aM j id with | true=>(match la.kept st st',la.read st st' with | true,some y=>some (.inr y) | _,_=>none) | false=>(match k (.exit j) st' with | some r=>some (.inl r) | none=>none))=some s:=e';rw [hj] at e';exact norm e'
      | false=>
       rw [if_neg (fun h=>by subst h; simp at hj)];have e':(match aM j id with | true=>(match la.kept st st',la.read st st' with | true,some y=>some (.inr y) | _,_=>none) | false=>(match k (.exit j) st' with | some r=>some (.inl r) | none=>none))=some s:=e';rw [hj] at e';exact HZ (.exit j) e'
    rcases LY e with h | ⟨y,h,hy⟩
    ·exact wp_block (oz HR hG b fR _ _ st kk _ a w g U hd R h (go _ (.inl rfl)))
    exact wp_block (oz HR hG b fR _ _ st kk _ a w g U hd R h (go _ (.inr ⟨y,rfl,hy⟩)))
 | .loop b,an,ρ,r,st,k,Q,a,w,g,U,hd,R,e,hQ=>by
  have Sn:∀ (la:LA) (fR:iw) (st:St) (a:Act) (w:World) (g:Gh) (U:Nat→Prop),Rel w0 F N g U st a w→
    (match la.apart st,la.read st st with
     | true,some x=>iter n (fun ih x=>gR c n b fR ρ (la.mk' st x) fun e st'=>match e with
      | .normal=>(match la.kept (la.mk' st x) st',la.read (la.mk' st x) st' with | true,some y=>ih y | _,_=>none)
      | e=>k e st') x
     | _,_=>none)=some r→
    Ip w0 F N g U st k r Q→Code.rounds P b Q n a w:=by
   intro la fR st a w g U R e hQ;cases hA:la.apart st with
   | false=>
    have e:(match la.apart st,la.read st st with | true,some x=>_ | _,_=>none)=some r:=e;rw [hA] at e;exact absurd e (by simp)
   | true=>cases hx:la.read st st with
    | none=>
     have e:(match la.apart st,la.read st st with | true,some x=>_ | _,_=>none)=some r:=e;rw [hA,hx] at e;exact absurd e (by simp)
    | some x=>
     have e:(match la.apart st,la.read st st with | true,some x=>_ | _,_=>none)=some r:=e;rw [hA,hx] at e;have A:=Ik hA
     let step:(la.LT→Option ρ)→la.LT→Option ρ:=fun ih x=>gR c n b fR ρ (la.mk' st x) fun e st'=>match e with
      | .normal=>(match la.kept (la.mk' st x) st',la.read (la.mk' st x) st' with | true,some y=>ih y | _,_=>none)
      | e=>k e st'
     have e:iter n step x=some r:=e;have key:∀ (m:Nat) (x:la.LT) (a1:Act) (w1:World) (g1:Gh) (U1:Nat→Prop),Rel w0 F N g1 U1 (la.mk' st x) a1 w1→Ext g U st g1 U1 (la.mk' st x)→iter m step x=some r→Code.rounds P b Q m a1 w1:=by
      intro m;induction m with
      | zero=>intro x a1 w1 g1 U1 R1 E1 e; exact absurd (show none=some r from e) (by simp)
      | succ m ih=>
       intro x a1 w1 g1 U1 R1 E1 e;have e:step (iter m step) x=some r:=e;rw [rounds_succ];refine oz HR hG b fR ρ r (la.mk' st x) _ _ a1 w1 g1 U1 hd R1 e (fun ex st' a' w' g' U' R' E' e'=>?_);cases ex with
       | ret=>exact hQ .ret st' a' w' g' U' R' (E1.trans E') e'
       | exit j=>exact hQ (.exit j) st' a' w' g' U' R' (E1.trans E') e'
       | normal=>
        have e':(match la.kept (la.mk' st x) st',la.read (la.mk' st x) st' with | true,some y=>iter m step y | _,_=>none)=some r:=e';split at e'
        ·rename_i y hk hr;have K:yi la g U st g' st':=.of E1 E' (fun i hi=>.inr (Sj A x hi)) (fun id hid=>by
          obtain ⟨l,e1,e2⟩:=E1.obj;have hl:l=la.aX.map (fun p=>ck st.nxt p.1):=by have:la.aX.map (fun p=>ck st.nxt p.1)++st.ht=l++st.ht:=e1;exact (List.append_cancel_right this).symm
          refine e2 id (fun hm=>?_);rw [hl] at hm;obtain ⟨p,hp,he⟩:=kb.1 hm;exact A.new p hp (he▸hid)) (Sl A x) hk
         obtain ⟨ov,oy,sK,sL⟩:=ET R A R' K (Sl A x) hr;exact ih y a' w' ov oy sK sL e'
        simp at e'
     obtain ⟨ov,oy,sK,sL⟩:=ET R A R (yi.refl la g U st) rfl hx;exact key n x a w ov oy sK sL e
  cases an with
  | leaf=>exact absurd (show none=some r from e) (by simp)
  | two _ _=>exact absurd (show none=some r from e) (by simp)
  | one _=>exact absurd (show none=some r from e) (by simp)
  | cut _ _=>exact absurd (show none=some r from e) (by simp)
  | Ay m fR=>
   let step:(St→Option ρ)→St→Option ρ:=fun ih st=>gR c n b fR ρ st fun e st'=>match e with
    | .normal=>ih st'
    | e=>k e st'
   have e:iter m step st=some r:=e;have key:∀ (m:Nat) (eF:St) (a1:Act) (w1:World) (g1:Gh) (U1:Nat→Prop),Rel w0 F N g1 U1 eF a1 w1→Ext g U st g1 U1 eF→iter m step eF=some r→Code.rounds P b Q m a1 w1:=by
    intro m;induction m with
    | zero=>intro eF a1 w1 g1 U1 R1 E1 e; exact absurd (show none=some r from e) (by simp)
    | succ m ih=>
     intro eF a1 w1 g1 U1 R1 E1 e;have e:step (iter m step) eF=some r:=e;rw [rounds_succ];refine oz HR hG b fR ρ r eF _ _ a1 w1 g1 U1 hd R1 e (fun ex st' a' w' g' U' R' E' e'=>?_);cases ex with
     | ret=>exact hQ .ret st' a' w' g' U' R' (E1.trans E') e'
     | exit j=>exact hQ (.exit j) st' a' w' g' U' R' (E1.trans E') e'
     | normal=>exact ih st' a' w' g' U' R' (E1.trans E') e'
   exact wp_loop_rounds m (key m st a w g U R (.refl _ _ _) e)
  | loop la fR=>exact wp_loop_rounds n (Sn la fR st a w g U R e hQ)
  | Cl p la fR=>
   refine wp_loop_rounds (n+1) ?_;rw [rounds_succ];refine oz HR hG b p ρ r st _ _ a w g U hd R e (fun ex st' a' w' g' U' R' E' e'=>?_);cases ex with
   | ret=>exact hQ .ret st' a' w' g' U' R' E' e'
   | exit j=>exact hQ (.exit j) st' a' w' g' U' R' E' e'
   | normal=>exact Sn la fR st' a' w' g' U' R' e' (fun ex st2 a2 w2 g2 U2 R2 E2 e2=>hQ ex st2 a2 w2 g2 U2 R2 (E'.trans E2) e2)
 | .label _,an,ρ,r,st,k,Q,a,w,g,U,hd,R,e,hQ=>absurd (show none=some r from e) (by simp)
 | .goto _,an,ρ,r,st,k,Q,a,w,g,U,hd,R,e,hQ=>absurd (show none=some r from e) (by simp)
end
end Go.Am
namespace Go.Am
open Go
section
variable {g:Gh} {L:bW} {w:World} {U:Nat→Prop} {sr:St}
theorem aaO (hO:fq g w U sr) (hL:∀ b o,g.lab b o=none→L b o=none) (hD:∀ id,sr.obj id≠none→∀ b o p,g.lab b o=some (id,p)→L b o=none)
  {x:ag} {vx:Value} (hx:aV g w U x vx) {u:Ty} {xs:List u.T} (e:sr.list x=some ⟨u,xs⟩):gT u.size (Sh L w u) xs vx:=by
 have row:∀ {own:Bool} {id hv vr:Nat} {p:Path} {ys:List u.T} {b o:Nat},sr.obj id≠none→eN g w own id hv vr u cP p ys→(g.hd id hv p).addr=some (b,o)→
   ∀ k (hk:k<ys.length),Sh L w u ys[k] b (o+k*u.size):=by
  intro own id hv vr p ys b o bD R ha k hk;obtain ⟨r1,r2,r3,r4⟩:=R;obtain ⟨r5,r6⟩:=r4 b o ha;refine AJ hL (hD id bD) u p k 0 _ b _ (fun d hd=>?_) (r6 k hk);have hle:(k+1)*u.size≤(g.hd id hv p).cap*u.size:=fa _ (by omega);rw [cY] at hle;obtain ⟨a1,-,-⟩:=r5 (k*u.size+d) (by omega);exact ⟨_,by rw [bL]; exact a1⟩
 unfold St.list at e;split at e
 ·simp only [aF] at e;obtain ⟨rfl,e⟩:=Sigma.mk.inj e;obtain rfl:=eq_of_heq e;exact ix (gb (fun b o hl v hv=>⟨hv,hL b o hl⟩) _) hx
 ·simp only [aF] at e;obtain ⟨rfl,e⟩:=Sigma.mk.inj e;obtain rfl:=eq_of_heq e;exact ix (gb (fun b o hl v hv=>⟨hv,hL b o hl⟩) _) hx.1
 ·rename_i id ver p tt;obtain ⟨h1,h2,h3,h4,h5,rfl⟩:=hx;obtain ⟨own,t,vr,qf,bD,-,R,-⟩:=AG hO h5 h4 e;have hR:=R;obtain ⟨r1,r2,r3,r4⟩:=hR;refine ⟨_,_,_,rfl,r1,r2,fun hn=>r3 (by simpa using hn),fun aA=>?_⟩;have hlen:0<xs.length:=jA.2 aA;cases ha:(g.hd id ver p).addr with
  | none=>have:=r3 ha; omega
  | some q=>
   obtain ⟨b,o⟩:=q;exact ⟨b,o,by simp,row (by rw [bD]; simp) R ha⟩
 ·rename_i id ver p tt off len;split at e
  ·rename_i ys hr;split at e
   ·rename_i hb;obtain rfl:=Ty.eq_of_beq hb;simp only [aF] at e;obtain ⟨rfl,e⟩:=Sigma.mk.inj e;obtain rfl:=eq_of_heq e;obtain ⟨h1,h2,h3,h4,h5,a,cp,rfl,h6,h7,h8,h9,AH⟩:=hx;obtain ⟨own,t,vr,qf,bD,-,R,-⟩:=AG hO h5 h4 hr;have hR:=R;obtain ⟨r1,r2,r3,r4⟩:=hR;have hlen:((ys.drop off).take len).length=len:=by simp; omega
    refine ⟨a,len,cp,rfl,hlen.symm,h7,fun hn=>?_,fun aA=>?_⟩
    ·rcases mM cp with h | h
     ·exact h
     obtain ⟨b,o,-,kr⟩:=h9 h;rw [kr] at hn; simp at hn
    have fw:0<((ys.drop off).take len).length:=jA.2 aA;obtain ⟨b,o,ha,rfl⟩:=h9 (by omega);refine ⟨b,o+off*tt.size,rfl,fun k hk=>?_⟩;have:=row (by rw [bD]; simp) R ha (off+k) (by omega);simp only [List.getElem_take,List.getElem_drop];rw [bL,← cY];exact this
   simp at e
  simp at e
 simp at e
theorem So (hO:fq g w U sr) (hL:∀ b o,g.lab b o=none→L b o=none) (hD:∀ id,sr.obj id≠none→∀ b o p,g.lab b o=some (id,p)→L b o=none):∀ d:Nat,
  (∀ (t:Ty) (cs:List ag) (x:t.T) (rest:List ag) (f:Nat→Option Value) (q:Path) (i j:Nat),gk g w U cs f→iX sr d t cs=some (x,rest)→
   t.size≤cs.length∧rest=cs.drop t.size∧cQ g L w false ca t q i j x f)∧
  (∀ (t:Ty) (n:Nat) (cs:List ag) (xs:List t.T) (f:Nat→Option Value) (q:Path) (i:Nat),gk g w U cs f→B0 sr d t n cs=some xs→
   n*t.size≤cs.length∧xs.length=n∧∀ k (h:k<xs.length),cQ g L w false ca t q (i+k) 0 xs[k] (fun d=>f (k*t.size+d))):=by
 intro d;induction d with
 | zero=>
  refine ⟨?_,?_⟩
  ·intro t cs x rest f q i j hv e; cases t<;>simp [iX] at e
  intro t n cs xs f q i hv e; simp [B0] at e
 | succ d ih=>
  obtain ⟨AK,xT⟩:=ih;refine ⟨?_,?_⟩
  ·intro t cs x rest f q i j hv e;cases t with
   | pair a b=>
    simp only [iX] at e;split at e
    ·rename_i y _ e1;split at e
     ·rename_i z _ e2;simp only [aF,bE] at e;obtain ⟨rfl,rfl⟩:=e;obtain ⟨h1,rfl,h2⟩:=AK a cs y _ f q i j hv e1;obtain ⟨h3,rfl,h4⟩:=AK b _ z _ _ q i (j+a.size) (hv.drop a.size) e2;simp only [List.length_drop] at h3;refine ⟨by simp [Ty.size]; omega,by simp [Ty.size,List.drop_drop],h2,h4⟩
     simp at e
    simp at e
   | int k=>
    cases cs with
    | nil=>simp [iX] at e
    | cons c cs=>
     obtain ⟨v,h1,h2⟩:=hv.head;cases c<;>simp only [iX] at e<;>try (exact absurd (show none=some _ from e) (by simp))
     split at e
     ·rename_i hk;obtain rfl:=o7 hk;simp only [aF,bE] at e;obtain ⟨rfl,rfl⟩:=e;obtain rfl:=h2;exact ⟨by simp [Ty.size],by simp [Ty.size],h1⟩
     simp at e
   | bool=>
    cases cs with
    | nil=>simp [iX] at e
    | cons c cs=>
     obtain ⟨v,h1,h2⟩:=hv.head;cases c<;>simp only [iX] at e<;>try (exact absurd (show none=some _ from e) (by simp))
     simp only [aF,bE] at e;obtain ⟨rfl,rfl⟩:=e;obtain rfl:=h2;exact ⟨by simp [Ty.size],by simp [Ty.size],h1⟩
   | str=>
    cases cs with
    | nil=>simp [iX] at e
    | cons c cs=>
     obtain ⟨v,h1,h2⟩:=hv.head;cases c<;>simp only [iX] at e<;>try (exact absurd (show none=some _ from e) (by simp))
     simp only [aF,bE] at e;obtain ⟨rfl,rfl⟩:=e;obtain rfl:=h2;exact ⟨by simp [Ty.size],by simp [Ty.size],h1⟩
   | err=>
    cases cs with
    | nil=>simp [iX] at e
    | cons c cs=>
     obtain ⟨v,h1,h2⟩:=hv.head;cases c<;>simp only [iX] at e<;>try (exact absurd (show none=some _ from e) (by simp))
     simp only [aF,bE] at e;obtain ⟨rfl,rfl⟩:=e;exact ⟨by simp [Ty.size],by simp [Ty.size],v,h1,h2⟩
   | sl t=>
    cases cs with
    | nil=>simp [iX] at e
    | cons c cs=>
     obtain ⟨v,h1,h2⟩:=hv.head;have lst:(match sr.list c with | some ⟨u,xs⟩=>(match Ty.cast (.sl u) (.sl t) xs with | some ys=>some (ys,cs) | none=>none) | none=>none)=some (x,rest)→
       (Ty.sl t).size≤(c::cs).length∧rest=(c::cs).drop (Ty.sl t).size∧cQ g L w false ca (.sl t) q i j x f:=by
      intro e;split at e
      ·rename_i u xs hl;split at e
       ·rename_i ys hz;simp only [aF,bE] at e;obtain ⟨rfl,rfl⟩:=e;obtain ⟨rfl,hz⟩:=nz hz;obtain rfl:=eq_of_heq hz;exact ⟨by simp [Ty.size],by simp [Ty.size],v,h1,aaO hO hL hD h2 hl⟩
       simp at e
      simp at e
     cases c with
     | nil=>
      simp only [iX,aF,bE] at e;obtain ⟨rfl,rfl⟩:=e;obtain rfl:=h2;exact ⟨by simp [Ty.size],by simp [Ty.size],_,h1,none,0,0,rfl,rfl,cj _,fun _=>rfl,fun h=>absurd rfl h⟩
     | fB id off len sz=>
      simp only [iX] at e;split at e
      ·rename_i eg ho;split at e
       ·rename_i hq;simp only [aw,rj] at hq;obtain ⟨rf,ka⟩:=hq;subst rf;have ka:=gh ka;split at e
        ·rename_i xs hN;simp only [aF,bE] at e;have e1:xs=x:=congrArg Prod.fst e;have e2:cs=rest:=congrArg Prod.snd e;subst e1;subst e2;obtain ⟨b',o',dA,cW,oc⟩:=xS hO ho;obtain ⟨-,-,a,c,rfl,AL,kq,b,o,cD,ha⟩:=h2;rw [dA] at cD kq;simp only [aF,bE] at cD kq;obtain ⟨rfl,rfl⟩:=cD;obtain ⟨-,n1,n2⟩:=xT t len _ xs _ [] 0 (oc.drop (off*t.size)) hN;refine ⟨by simp [Ty.size],by simp [Ty.size],_,h1,a,len,c,rfl,n1.symm,AL,fun hn=>?_,fun aA=>?_⟩
         ·rcases mM c with h | h
          ·exact h
          rw [ha (.inl h)] at hn; simp at hn
         have fw:0<xs.length:=jA.2 aA;refine ⟨b',o'+off*t.size,ha (.inl (by omega)),fun k hk=>?_⟩;refine Cs (g:=g) (σ:=ca) t [] k 0 _ b' _ (fun d hd=>?_) ?_
         ·have ax:off*t.size+(k*t.size+d)<eg.length:=by have:(k+1)*t.size≤len*t.size:=fa _ (by omega);rw [cY] at this ka;omega
          have:=cW _ ax;rw [show o'+off*t.size+k*t.size+d=o'+(off*t.size+(k*t.size+d)) by omega];exact hD id (by rw [ho]; simp) _ _ _ this.1
         have:=n2 k hk;rw [Nat.zero_add] at this;exact i_ t [] k 0 _ _ _ (fun d hd=>by rw [show o'+off*t.size+k*t.size+d=o'+(off*t.size+(k*t.size+d)) by omega]) this
        simp at e
       simp at e
      simp at e
     | _=>exact lst e
   | bQ t=>
    cases cs with
    | nil=>simp [iX] at e
    | cons c cs=>
     obtain ⟨v,h1,h2⟩:=hv.head;cases c<;>simp only [iX] at e<;>try (exact absurd (show none=some _ from e) (by simp))
     ·simp only [aF,bE] at e;obtain ⟨rfl,rfl⟩:=e;obtain rfl:=h2;exact ⟨by simp [Ty.size],by simp [Ty.size],_,h1,⟨none,0,0,rfl,rfl,cj _,fun _=>rfl,fun h=>absurd rfl h⟩,fun _=>⟨0,0,rfl⟩,fun _=>rfl⟩
     split at e
     ·rename_i o hz;simp only [aF,bE] at e;obtain ⟨rfl,rfl⟩:=e;obtain ⟨he,hz⟩:=cast_eq hz;injection he with he;subst he;obtain rfl:=eq_of_heq hz;exact ⟨by simp [Ty.size],by simp [Ty.size],_,h1,ix (gb (fun b o hl v hv=>⟨hv,hL b o hl⟩) _) h2.1,h2.2⟩
     simp at e
  intro t n cs xs f q i hv e;cases n with
  | zero=>
   simp only [B0,aF] at e;subst e;exact ⟨by simp,rfl,fun k hk=>by simp at hk⟩
  | succ n=>
   simp only [B0] at e;split at e
   ·rename_i x r1 e1;split at e
    ·rename_i ys e2;simp only [aF] at e;subst e;obtain ⟨b1,rfl,b2⟩:=AK t cs x r1 f q i 0 hv e1;obtain ⟨c1,c2,c3⟩:=xT t n _ ys _ q (i+1) (hv.drop t.size) e2;simp only [List.length_drop] at c1;refine ⟨by rw [cY]; omega,by simp [c2],fun k hk=>?_⟩;cases k with
     | zero=>simpa using b2
     | succ k=>
      have:=c3 k (by simpa using hk);refine i_ t q _ 0 _ _ _ (fun m hm=>?_) (by
       have e3:i+1+k=i+(k+1):=by omega
       rw [e3] at this; exact this)
      congr 1; rw [cY]; omega
    simp at e
   simp at e
end
end Go.Am
namespace Go.Am
open Go
section
variable {P:Program} {c:ba} {g:Gh} {L:bW} {w:World} {U:Nat→Prop} {st:St} {a:Act}
def CQ (tmps:Array Value):ResultVar→Sem Value
 | .tmp t=>pure (tmps.getD t undef)
 | .cell a t=>do loadVar t (← asAddr (tmps.getD a undef))
theorem Iq (hc:fY P c) (hO:fq g w U st) (hE:∀ t v,look st.env t=some v→aV g w U v (a.eval (.tmp t))):∀ (l:List ResultVar) (vs:List ag),vK st (fun t=>((c.ti t).agg,(c.ti t).size)) l=some vs→
  ∃ bI,(l.mapM (CQ a.tmps)).run P w = .ok bI w∧cu g w U vs bI
 | [],vs,e=>by simp only [vK,aF] at e;subst e;exact ⟨[],by simp,rfl⟩
 | .tmp t::l,vs,e=>by
  simp only [vK] at e;split at e
  ·rename_i LZ hv;simp only [aF] at e;subst e;obtain ⟨bI,h1,h2⟩:=Iq hc hO hE l LZ hv;refine ⟨a.tmps.getD t undef::bI,?_,_,_,rfl,Hy hE (.tmp t),h2⟩;simp [List.mapM_cons,CQ,h1]
  simp at e
 | .cell t ty::l,vs,e=>by
  simp only [vK] at e;split at e
  ·rename_i j LZ ue hv;split at e
   ·rename_i v hp;simp only [aF] at e;subst e;split at hp
    ·rename_i hs;obtain ⟨bI,h1,h2⟩:=Iq hc hO hE l LZ hv;have hx:=Hy hE (.tmp t);obtain ⟨v',h3,h4⟩:=Q0 hc hO hx (by simpa [dJ] using hs) ue hp;refine ⟨v'::bI,?_,_,_,rfl,h4,h2⟩;obtain ⟨b,o,hb,-⟩:=Q_ hO hx ue;have cD:a.tmps.getD t undef = .pointer (some (ad b (o+j))):=hb;rw [hb] at h3;have h5:(loadVar ty (ad b (o+j))).run P w = .ok v' w:=by simpa [Instr.loadAt,Instr.sureAddr] using h3
     simp [List.mapM_cons,CQ,cD,asAddr,h5,h1]
    simp at hp
   simp at e
  simp at e
def CR (t:Ty) (v:Value) (f:Nat→Option Value):Prop:=match t with
 | .pair _ _=>∃ l:List Value,v = .agg l.toArray∧l.length=t.size∧f=fun k=>l[k]?
 | _=>f 0=some v
theorem L_ (t:Ty) {v:ag} {vx:Value} (h:aV g w U v vx):∃ f,gk g w U (o8 t v) f∧((o8 t v).length=t.size→CR t vx f):=by
 have one:∀ x:ag,aV g w U x vx→gk g w U [x] (fun k=>if k=0 then some vx else none):=by
  intro x hx k hk;have:k=0:=by simpa using hk
  subst this;exact ⟨vx,by simp,hx⟩
 cases t with
 | pair a b=>
  have bB:2≤(Ty.pair a b).size:=by have:=a.size_pos; have:=b.size_pos; simp [Ty.size]; omega
  cases v with
  | agg cs=>
   obtain ⟨l,rfl,hr⟩:=h;have wh:=mI hr;refine ⟨fun k=>l[k]?,fun k hk=>lU hr k hk,fun hl=>⟨l,rfl,?_,rfl⟩⟩;rw [wh]; exact hl
  | _=>exact ⟨_,one _ h,fun hl=>by simp only [o8,ag.cells,List.length_singleton] at hl; omega⟩
 | _=>exact ⟨fun k=>if k=0 then some vx else none,one v h,fun _=>by simp [CR]⟩
theorem EU {t:Ty} {vx:Value} {f:Nat→Option Value} {cs:List ag} (hf:CR t vx f) (hl:cs.length=t.size) (h:gk g w U cs f):aV g w U (shut t cs) vx:=by
 cases t with
 | pair a b=>
  obtain ⟨l,rfl,wh,rfl⟩:=hf;refine ⟨l,rfl,vN (by rw [wh,hl]) (fun k h1 h2=>?_)⟩;obtain ⟨v,h3,h4⟩:=h k h1;obtain ⟨h5,h6⟩:=dV.1 h3;rw [h6];exact h4
 | _=>
  obtain ⟨v,rfl⟩:∃ v,cs=[v]:=by simp only [Ty.size] at hl;exact List.length_eq_one_iff.1 hl
  obtain ⟨x,h1,h2⟩:=h 0 (by simp);have:x=vx:=aW (h1.symm.trans hf);subst this;exact h2
def RK.own:RK→Bool | .sh _=>false | _=>true
def ui (st:St):List RK→List ag→List Nat
 | r::rs,v::vs=>(match r.own with | true=>[] | false=>match Hs st r v with | some (_,u)=>u | none=>[])++ui st rs vs
 | _,_=>[]
def EV (g:Gh) (L:bW) (w:World) (σs:Nat→Src):Nat→(rs:List RK)→(bI:List Value)→(os:List Ty)→bZ (RK.bw rs++os)→bZ os→Prop
 | _,[],bI,_,z,zo=>bI=[]∧z=zo
 | k,r::rs,bI,os,z,zo=>∃ v sM,bI=v::sM∧(∃ f,CR r.ty v f∧cQ g L w r.own (σs k) r.ty [] 0 0 z.1 f)∧EV g L w σs (k+1) rs sM os z.2 zo
theorem Sp {σs Sq:Nat→Src} : ∀ (rs:List RK) (k:Nat) (bI:List Value) (os:List Ty) (z:bZ (RK.bw rs++os)) (zo:bZ os),(∀ m,k≤m→Sq m=σs m)→EV g L w σs k rs bI os z zo→EV g L w Sq k rs bI os z zo
 | [],k,bI,os,z,zo,h,hf=>hf
 | r::rs,k,bI,os,z,zo,h,hf=>by obtain ⟨v,sM,e,h1,h2⟩:=hf;exact ⟨v,sM,e,by rw [h k (cj _)]; exact h1,Sp rs (k+1) sM os z.2 zo (fun m hm=>h m (by omega)) h2⟩
theorem aaP (hO:fq g w U st) (hL:∀ b o,g.lab b o=none→L b o=none) {r:RK} (hr:r.jF=true) {v:ag} {vx:Value} (hv:aV g w U v vx) {x:r.ty.T} {u:List Nat} (e:Hs st r v=some (x,u))
  (gD:r.own=false→∀ id∈u,∀ b o p,g.lab b o=some (id,p)→L b o=none) :
  (∀ id∈u,st.obj id≠none)∧∃ σ,Tk u σ∧(∃ f,CR r.ty vx f∧cQ g L w r.own σ r.ty [] 0 0 x f)∧(r.own=false→σ=ca):=by
 have main:∀ (own:Bool) (t:Ty) (x:t.T),(match take st own 50 t (o8 t v) with | some (x,[],u)=>some (x,u) | _=>none)=some (x,u)→
   (own=false→∀ id∈u,∀ b o p,g.lab b o=some (id,p)→L b o=none)→
   (∀ id∈u,st.obj id≠none)∧∃ σ,Tk u σ∧(∃ f,CR t vx f∧cQ g L w own σ t [] 0 0 x f):=by
  intro own t x e gD;split at e
  ·rename_i x' u' ht;simp only [aF,bE] at e;obtain ⟨rfl,rfl⟩:=e;obtain ⟨f,h2,h1⟩:=L_ t hv;obtain ⟨h3,h4,h5,σ,T⟩:=(Ct (L:=L) hO hL own 50).1 t (o8 t v) x' [] u' f [] 0 0 h2 ht gD;refine ⟨h3,σ,T.tk,f,h1 ?_,T.ow⟩;have:=congrArg List.length h5;simp at this; omega
  simp at e
 cases r with
 | val t=>
  obtain ⟨h1,σ,h2,h3⟩:=main true t x (by cases t<;>exact e) (fun h=>by simp at h);exact ⟨h1,σ,h2,h3,fun h=>by simp [RK.own] at h⟩
 | sh t=>
  obtain ⟨h1,σ,h2,f,h3,h4⟩:=main false t x (by cases t<;>exact e) (fun _=>gD rfl);exact ⟨h1,ca,.none,⟨f,h3,L1 t _ _ _ _ _ h4⟩,fun _=>rfl⟩
 | ptr t ms=>simp [RK.jF] at hr
 where L1 {g:Gh} {L:bW} {w:World} {σ τ:Src} : ∀ (t:Ty) (q:Path) (i j:Nat) (x:t.T) (f:Nat→Option Value),cQ g L w false σ t q i j x f→cQ g L w false τ t q i j x f
 | .int _,_,_,_,_,_,h=>h
 | .bool,_,_,_,_,_,h=>h
 | .str,_,_,_,_,_,h=>h
 | .err,_,_,_,_,_,h=>h
 | .bQ _,_,_,_,_,_,h=>h
 | .sl _,_,_,_,_,_,h=>h
 | .pair s t,q,i,j,x,f,h=>⟨L1 s q i j x.1 f h.1,L1 t q i (j+s.size) x.2 _ h.2⟩
theorem Sr (hO:fq g w U st) (hL:∀ b o,g.lab b o=none→L b o=none):∀ (rs:List RK) (k:Nat) (vs:List ag) (bI:List Value) (os:List Ty) (yo:Option (bZ os×List Nat)) (z:bZ (RK.bw rs++os)) (uu:List Nat),
  rs.all RK.jF=true→cu g w U vs bI→Ht st rs vs os yo=some (z,uu)→(∀ id∈ui st rs vs,∀ b o p,g.lab b o=some (id,p)→L b o=none)→
  ∃ zo uo uR σs,yo=some (zo,uo)∧uu=uR++uo∧EV g L w σs k rs bI os z zo∧(∀ m,m<k∨k+rs.length≤m→σs m=ca)∧(∀ m s id p h,σs m s=some (id,p,h)→id∈uR)∧
   (∀ id∈ui st rs vs,id∈uR)∧(∀ id∈uR,st.obj id≠none)∧
   (uR.Nodup→(∀ m s m' s' id p h h',σs m s=some (id,p,h)→σs m' s'=some (id,p,h')→m=m'∧s=s')∧∀ m s id p h,σs m s=some (id,p,h)→id∉ui st rs vs)
 | [],k,vs,bI,os,yo,z,uu,he,hv,e,gD=>by
  cases vs with
  | cons v vs=>exact absurd (show none=some _ from e) (by simp)
  | nil=>
   replace e:yo=some (z,uu):=e;refine ⟨z,uu,[],fun _=>ca,e,rfl,⟨hv,rfl⟩,fun _ _=>rfl,fun m s id p h hs=>by simp [ca] at hs,fun id h=>by simp [ui] at h,fun id h=>by simp at h,
    fun _=>⟨fun m s m' s' id p h h' hs=>by simp [ca] at hs,fun m s id p h hs=>by simp [ca] at hs⟩⟩
 | r::rs,k,vs,bI,os,yo,z,uu,he,hv,e,gD=>by
  cases vs with
  | nil=>exact absurd (show none=some _ from e) (by simp)
  | cons v vs=>
   simp only [List.all_cons,aw] at he;obtain ⟨vx,sM,rfl,mJ,yj⟩:=hv;replace e:(match Hs st r v,Ht st rs vs os yo with | some (x,u),some (z,w)=>some ((x,z),u++w) | _,_=>none)=some (z,uu):=e;split at e
   ·rename_i x u z' uu' e1 e2;simp only [aF,bE] at e;obtain ⟨rfl,rfl⟩:=e;have LJ:r.own=false→∀ id∈u,∀ b o p,g.lab b o=some (id,p)→L b o=none:=by intro ho id hid;refine gD id ?_;simp only [ui,ho,e1,eh];exact .inl hid
    obtain ⟨h1,σ,h2,h3,h4⟩:=aaP hO hL he.1 mJ e1 LJ;obtain ⟨zo,uo,uR,σs,k1,rfl,k3,k4,k5,k6,k7,k8⟩:=Sr hO hL rs (k+1) vs sM os yo z' uu' he.2 yj e2 (fun id hid=>gD id (by simp only [ui,eh]; exact .inr hid));have hk:σs k=ca:=k4 k (.inl (by omega));refine ⟨zo,uo,u++uR,fun m=>if m=k then σ else σs m,k1,by rw [lZ],⟨vx,sM,rfl,by simpa using h3,Sp rs (k+1) _ _ _ _ (fun m hm=>if_neg (by omega)) k3⟩,fun m hm=>?_,fun m s id p h hs=>?_,fun id hid=>?_,fun id hid=>?_,fun hn=>?_⟩
    ·have hmk:m≠k:=by simp only [aQ] at hm; omega
     simp only [hmk,if_false];exact k4 m (by simp only [aQ] at hm; omega)
    ·simp only at hs;split at hs
     ·exact kO _ (h2.ids _ _ _ _ hs)
     exact sn _ (k5 _ _ _ _ _ hs)
    ·simp only [ui,eh] at hid;rcases hid with hid | hid
     ·cases ho:r.own with
      | true=>rw [ho] at hid; simp at hid
      | false=>
       rw [ho,e1] at hid;exact kO _ hid
     exact sn _ (k6 id hid)
    ·rcases eh.1 hid with hid | hid
     ·exact h1 id hid
     exact k7 id hid
    obtain ⟨n1,n2,n3⟩:=List.nodup_append.1 hn;obtain ⟨j1,j2⟩:=k8 n2;refine ⟨fun m s m' s' id p h h' hs l7=>?_,fun m s id p h hs hid=>?_⟩
    ·simp only at hs l7;split at hs<;>split at l7
     ·rename_i a1 a2;exact ⟨by rw [a1,a2],h2.inj n1 _ _ _ _ _ _ hs l7⟩
     ·exact absurd rfl (n3 _ (h2.ids _ _ _ _ hs) _ (k5 _ _ _ _ _ l7))
     ·exact absurd rfl (n3 _ (h2.ids _ _ _ _ l7) _ (k5 _ _ _ _ _ hs))
     exact j1 _ _ _ _ _ _ _ _ hs l7
    simp only [ui,eh] at hid;simp only at hs;split at hs
    ·rcases hid with hid | hid
     ·cases ho:r.own with
      | true=>rw [ho] at hid; simp at hid
      | false=>rw [h4 ho] at hs; simp [ca] at hs
     exact absurd rfl (n3 _ (h2.ids _ _ _ _ hs) _ (k6 id hid))
    rcases hid with hid | hid
    ·cases ho:r.own with
     | true=>rw [ho] at hid; simp at hid
     | false=>
      rw [ho,e1] at hid;exact absurd rfl (n3 _ hid _ (k5 _ _ _ _ _ hs))
    exact j2 _ _ _ _ _ hs hid
   simp at e
end
end Go.Am
namespace Go.Am
open Go
section
variable {g g':Gh} {L:bW} {w:World} {U U':Nat→Prop} {st:St}
theorem Ir {own:Bool} {σ:Src} {a:Nat×Nat} : ∀ (t:Ty) (q:Path) (i j:Nat) (x:t.T) (f:Nat→Option Value),cQ g L w own σ t (a::q) i j x f→cQ g L w own (fun s=>σ (a::s)) t q i j x f
 | .int _,_,_,_,_,_,h=>h
 | .bool,_,_,_,_,_,h=>h
 | .str,_,_,_,_,_,h=>h
 | .err,_,_,_,_,_,h=>h
 | .bQ _,_,_,_,_,_,h=>h
 | .pair s t,q,i,j,x,f,h=>⟨Ir s q i j x.1 f h.1,Ir t q i (j+s.size) x.2 _ h.2⟩
 | .sl t,q,i,j,xs,f,h=>by
  cases own with
  | false=>exact h
  | true=>
   rcases h with ⟨id,p,hh,h1,h2,h3⟩ | ⟨h1,h2,h3⟩
   ·refine .inl ⟨id,p,hh,h1,h2,?_⟩;obtain ⟨r1,r2,r3,r4⟩:=h3;refine ⟨r1,r2,r3,fun b o hb=>?_⟩;obtain ⟨r5,r6⟩:=r4 b o hb;exact ⟨r5,fun k hk=>Ir t _ k 0 _ _ (r6 k hk)⟩
   exact .inr ⟨h1,h2,h3⟩
theorem gk.app {as bs:List ag} {f:Nat→Option Value} (h:gk g w U as f) (h':gk g w U bs (fun k=>f (as.length+k))):gk g w U (as++bs) f:=by
 intro k hk;by_cases ax:k<as.length
 ·rw [List.getElem_append_left ax]; exact h k ax
 have rh:k-as.length<bs.length:=by simp at hk; omega
 rw [List.getElem_append_right (by omega)];have:∃ v,f (as.length+(k-as.length))=some v∧aV g w U bs[k-as.length] v:=h' (k-as.length) rh;rw [show as.length+(k-as.length)=k by omega] at this;exact this
theorem EW (hL : ∀ b o, L b o = none → g'.lab b o = none) {σ : Src} : ∀ (t : Ty) (q : Path) (i j' j : Nat) (x : t.T) (f : Nat → Option Value), cQ g L w false σ t q i j' x f → gk g' w U' (flat mC t x j) f
  | .int _, q, i, j', j, x, f, h => fun k hk => by have : k = 0 := by simpa [flat] using hk
                                                   subst this; exact ⟨_, h, rfl⟩
  | .bool, q, i, j', j, x, f, h => fun k hk => by have : k = 0 := by simpa [flat] using hk
                                                  subst this; exact ⟨_, h, rfl⟩
  | .str, q, i, j', j, x, f, h => fun k hk => by have : k = 0 := by simpa [flat] using hk
                                                 subst this; exact ⟨_, h, rfl⟩
  | .err, q, i, j', j, x, f, h => fun k hk => by have : k = 0 := by simpa [flat] using hk
                                                 subst this; obtain ⟨v, h1, h2⟩ := h; exact ⟨_, h1, h2⟩
  | .bQ t, q, i, j', j, x, f, h => fun k hk => by
    have : k = 0 := by simpa [flat] using hk
    subst this;obtain ⟨v, h1, h2, h3⟩ := h;exact ⟨v, h1, ix (gb (fun b o hl v hv => ⟨hv, hL b o hl⟩) t) h2, h3⟩
  | .sl t, q, i, j', j, x, f, h => fun k hk => by
    have : k = 0 := by simpa [flat] using hk
    subst this;obtain ⟨v, h1, h2⟩ := h;exact ⟨v, h1, ix (gb (fun b o hl v hv => ⟨hv, hL b o hl⟩) t) h2⟩
  | .pair s t, q, i, j', j, x, f, h => by
    refine gk.app (EW hL s q i j' j x.1 f h.1) ?_;rw [j8];exact EW hL t q i (j' + s.size) (j + s.size) x.2 _ h.2
theorem L2 {base site : Nat} {σ : Src} (hL : ∀ b o, L b o = none → g'.lab b o = none) (h0 : U' 0) (hs : U' site)
    (dA : ∀ j ver s, j < 32 → g'.hd (base + j) ver s = match σ ((0, j) :: s) with | some (_, _, h) => h | none => dX) (hU : ∀ j, j < 32 → U' ((base + j) / 1024))
    (cW : ∀ j s id p h b o, j < 32 → σ ((0, j) :: s) = some (id, p, h) → g.lab b o = some (id, p) → g'.lab b o = some (base + j, s)) :
    ∀ (t : Ty) (j : Nat) (x : t.T) (f : Nat → Option Value), j + t.size ≤ 32 → cQ g L w true σ t [] 0 j x f →
      gk g' w U' (flat (vD base) t x j) f ∧ ∀ id o, look (fL base site t x j) id = some (some o) → (∃ k, j ≤ k ∧ k < j + t.size ∧ id = base + k) ∧ fo g' w U' id o
  | .int _, j, x, f, hj, h => ⟨fun k hk => by have : k = 0 := by simpa [flat] using hk
                                              subst this; exact ⟨_, h, rfl⟩, fun id o h => by simp [fL, look] at h⟩
  | .bool, j, x, f, hj, h => ⟨fun k hk => by have : k = 0 := by simpa [flat] using hk
                                             subst this; exact ⟨_, h, rfl⟩, fun id o h => by simp [fL, look] at h⟩
  | .str, j, x, f, hj, h => ⟨fun k hk => by have : k = 0 := by simpa [flat] using hk
                                            subst this; exact ⟨_, h, rfl⟩, fun id o h => by simp [fL, look] at h⟩
  | .err, j, x, f, hj, h => ⟨fun k hk => by have : k = 0 := by simpa [flat] using hk
                                            subst this; obtain ⟨v, h1, h2⟩ := h; exact ⟨_, h1, h2⟩, fun id o h => by simp [fL, look] at h⟩
  | .bQ t, j, x, f, hj, h => ⟨fun k hk => by
    have : k = 0 := by simpa [flat] using hk
    subst this
    obtain ⟨v, h1, h2, h3⟩ := h
    exact ⟨v, h1, ix (gb (fun b o hl v hv => ⟨hv, hL b o hl⟩) t) h2, h3⟩, fun id o h => by simp [fL, look] at h⟩
  | .pair s t, j, x, f, hj, h => by
    simp only [Ty.size] at hj
    have := s.size_pos
    have := t.size_pos
    obtain ⟨a1, a2⟩ := L2 hL h0 hs dA hU cW s j x.1 f (by omega) h.1
    obtain ⟨b1, b2⟩ := L2 hL h0 hs dA hU cW t (j + s.size) x.2 _ (by omega) h.2
    refine ⟨gk.app a1 (by rw [j8]; exact b1), fun id o hl => ?_⟩
    replace hl : look (fL base site s x.1 j ++ fL base site t x.2 (j + s.size)) id = some (some o) := hl
    rw [iK] at hl
    cases hq : look (fL base site s x.1 j) id with
    | some y =>
      rw [hq] at hl
      simp only [aF] at hl
      subst hl
      obtain ⟨⟨k, k1, k2, k3⟩, k4⟩ := a2 id o hq
      exact ⟨⟨k, k1, by simp only [Ty.size]; omega, k3⟩, k4⟩
    | none =>
      rw [hq] at hl
      obtain ⟨⟨k, k1, k2, k3⟩, k4⟩ := b2 id o hl
      exact ⟨⟨k, by omega, by simp only [Ty.size]; omega, k3⟩, k4⟩
  | .sl u, j, xs, f, hj, h => by
    simp only [Ty.size] at hj
    have wi : j < 32 := by omega
    refine ⟨fun k hk => ?_, fun id o hl => ?_⟩
    · have : k = 0 := by simpa [flat] using hk
      subst this
      show ∃ v, f 0 = some v ∧ aV g' w U' (.own (base + j) 0 [] u) v
      rcases h with ⟨id, p, hh, h1, h2, h3⟩ | ⟨h1, h2, h3⟩
      · exact ⟨_, h2, hU j wi, h0, h0, trivial, fun _ => rfl, by rw [dA j 0 [] wi, show σ [(0, j)] = _ from h1]⟩
      · exact ⟨_, h2, hU j wi, h0, h0, trivial, fun _ => rfl, by rw [dA j 0 [] wi, show σ [(0, j)] = _ from h1]; rfl⟩
    · replace hl : look [(base + j, some (dD.row true u site xs))] id = some (some o) := hl
      rw [dM] at hl
      split at hl
      · rename_i he
        subst he
        simp only [aF] at hl
        subst hl
        refine ⟨⟨j, cj _, by simp [Ty.size], rfl⟩, h0, hs, ?_⟩
        unfold eN
        rw [dA j 0 [] wi]
        rcases h with ⟨id, p, hh, h1, h2, h3⟩ | ⟨h1, h2, h3⟩
        · have h1 : σ [(0, j)] = some (id, p, hh) := h1
          rw [h1]
          obtain ⟨r1, r2, r3, r4⟩ := h3
          refine ⟨r1, r2, r3, fun b o hb => ?_⟩
          obtain ⟨r5, r6⟩ := r4 b o hb
          have R : Ren g L w g' w (fun s => σ ((0, j) :: s)) (base + j) site := by
            refine ⟨fun q id p h hq => ?_, fun q hq hn => ?_, fun q id p h b o hq hl => ⟨cW j q id p h b o wi hq hl, rfl, rfl⟩, fun b o hl v hv => ⟨hv, hL b o hl⟩⟩
            · rw [dA j site q wi]
              rw [show σ ((0, j) :: q) = _ from hq]
            · rw [dA j site q wi]
              rw [show σ ((0, j) :: q) = _ from hn]
          refine ⟨fun k hk => ?_, fun k hk => ?_⟩
          · obtain ⟨c1, c2, c3⟩ := r5 k hk
            exact ⟨cW j [] id p hh b _ wi h1 c1, c2, c3⟩
          · exact AI R u [] k 0 _ _ b _ (fun d hd => rfl) (Ir u [] k 0 _ _ (r6 k hk))
        · have h1 : σ [(0, j)] = none := h1
          rw [h1]
          subst h3
          exact ⟨rfl, cj _, fun _ => rfl, fun b o hb => by simp [dX] at hb⟩
      · simp [look] at hl
end
def gE:Nat→Prop:=fun s=>s<20
structure aaQ (g:Gh) (w:World) (ps:List PK) (x:iH ps) (args:List Value):Prop where
 bI:cu g w gE ((entry 0 ps x).1.map (·.2)) args
 aX:∀ id o,look (entry 0 ps x).2 id=some (some o)→fo g w gE id o
 b9:∀ b o q,g.lab b o=some q→b<w.heap.size
def EX (g:Gh) (w:World) (base:Nat):(t:Ty)→Nat→{os:List Ty}→bZ (t.gP os)→(bZ os→Prop)→Prop
 | .pair a b,j,os,y,K=>EX g w base a j (os:=b.gP os) y (fun y=>EX g w base b (j+a.size) (os:=os) y K)
 | .sl u,j,_,y,K=>(∃ V,eN g w true (base+j) 0 V u cP [] y.1)∧K y.2
 | .int _,_,_,y,K=>K y
 | .bool,_,_,y,K=>K y
 | .str,_,_,y,K=>K y
 | .err,_,_,y,K=>K y
 | .bQ _,_,_,y,K=>K y
def yl (g:Gh) (w:World):Nat→(ps:List PK)→bZ (PK.outs ps)→Prop
 | _,[],_=>True
 | i,.io t::ps,y=>EX g w (i*1024) t 0 y (fun y=>yl g w (i+1) ps y)
 | _,.jC _ _::_,_=>False
 | i,.val _::ps,y=>yl g w (i+1) ps y
 | i,.fQ _::ps,y=>yl g w (i+1) ps y
 | i,.jD _ _::ps,y=>yl g w (i+1) ps y
structure ym (g:Gh) (w:World) (site:Nat) (m:au) (y:bZ (RK.bw m.rs++PK.outs m.ps)) (v:Value) (g':Gh) (w':World):Prop where
 val:aV g' w' (U' gE site) (match (gi site 0 m.rs (PK.outs m.ps) y).1 with | [v]=>v | vs=>.gN vs) v
 aX:∀ id o,look (gi site 0 m.rs (PK.outs m.ps) y).2.1 id=some (some o)→id / 1024=site∧fo g' w' (U' gE site) id o
 outs:yl g' w' 0 m.ps (gi site 0 m.rs (PK.outs m.ps) y).2.2
 par:∀ n,n / 1024<19→g'.hd n 0 []=g.hd n 0 []
 shr:∀ b o,g.lab b o=none→∀ v,w.cell? (ad b o)=some v→w'.cell? (ad b o)=some v∧g'.lab b o=none
 n9:∀ b o id p,g.lab b o=some (id,p)→id / 1024=19→g'.lab b o=some (id,p)
 b9:∀ b o q,g'.lab b o=some q→b<w'.heap.size
 cB:∀ b o q,b<w.heap.size→g'.lab b o=some q→g.lab b o≠none
 fr:Fr (tW g) w w'
def Sound (P:Program) (f:FuncId) (m:au):Prop:=
 ∀ (x:iH m.ps) (y:bZ (RK.bw m.rs++PK.outs m.ps)),m.m x=some y→xM m.ps m.rs=true→∀ (site:Nat),20≤site→∀ (g:Gh) (w:World) (args:List Value),aaQ g w m.ps x args→Gl P g.lab w→
  Calls P f args.toArray w fun e w'=>∃ v g',e = .returned v∧ym g w site m y v g' w'
end Go.Am
