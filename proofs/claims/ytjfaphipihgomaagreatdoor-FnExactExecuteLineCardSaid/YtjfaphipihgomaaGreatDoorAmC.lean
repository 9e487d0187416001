/- The abstract machine is right: operations, states made anew, code, results. No condition. -/
import Derived.Test.YtjfaphipihgomaaGreatDoorAmB
import Derived.LoopN
import Derived.Scope
set_option linter.unusedVariables false
set_option linter.unusedSimpArgs false
open Array renaming ext' → s7, getD_eq_getD_getElem? → oG, getElem?_toList → s4
open Bool renaming and_eq_true → aB
open Go.Region renaming wanted → nQ
open List renaming all_eq_true → iy, any_eq_true → y8, append_assoc → nR, getElem?_eq_some_iff → eE, getElem_cons_succ → FI, getElem_cons_zero → Tf, length_cons → bh, length_pos_iff → kX, mem_append → eF, mem_append_left → lH, mem_append_right → wb, mem_cons → gC, mem_cons_of_mem → kD, mem_map → kE
open Nat renaming add_assoc → cg, add_mul → dH, beq → aT, beq_eq → td, blt → cS, blt_eq → eH, eq_of_beq_eq_true → bB, eq_zero_or_pos → oK, le_of_ble_eq_true → gz, le_refl → cx, mul_div_cancel → RN, mul_le_mul_right → fk
open Option renaming map_none → I5
open Option.some renaming inj → aZ, injEq → aN
open Prod.mk renaming injEq → bS
namespace Go.Am
open Go
section
variable {P:Program} {c:bd} {g:Gh} {L:b9} {w w':World} {U:Nat→Prop} {sr:St} {a:Act} {site:Nat} {o:Oper} {ρ:Type} {r:ρ} {k:cK→Option ρ} {σ:Src}
theorem nN.ok (S:dC P c g w U sr a) {x:ah} {s:Sem Value} (h:Ok P g w U x s) (he:execOp a.eval o=(do pure (.value (← s)):Sem Next)):nN P g w U site o a ⟨x,[]⟩:=by obtain ⟨v,h1,h2⟩:=h;exact .val S (by simp_all) h2
theorem nN.post {e:cK} {s:Sem Value} {v:Value} {w':World} {g':Gh} {U':Nat→Prop} (h:s.run P w = .ok v w') (hp:dP g w U site e v w' g' U') (he:execOp a.eval o=(do pure (.value (← s)):Sem Next)):nN P g w U site o a e:=
 .of (by simp_all) hp
theorem aa1 (hc:gb P c) {s d:Nat} {k1 k2 kl:IntKind} {n:Int} {v:Value} (h1:(c.ti s).kind = .int k1) (h2:(c.ti d).kind = .int k2) (hx:aV g w U (.int kl n) v) :
  Ok P g w U (.int k2 (oN k2 n)) (convert s d v):=by
 obtain rfl:=hx;refine ⟨_,?_,by rw [← Fj]; rfl⟩;simp [convert,run_underlying (IC hc h1),run_underlying (IC hc h2),Conv.intToInt]
theorem aa2 (hc:gb P c) {s d:Nat} {x:List UInt8} {v:Value} (h1:(c.ti s).kind = .str) (h2:(c.ti d).kind = .str) (hx:aV g w U (.str x) v) :
  Ok P g w U (.str x) (convert s d v):=by
 obtain rfl:=hx;refine ⟨_,?_,rfl⟩;simp [convert,run_underlying (Dn hc h1),run_underlying (Dn hc h2)]
theorem aa3 {ty:Nat} {kk:IntKind} {x y:Int} {ts:Array TypeId} : Ok P g w U (.int kk (max x y)) (Builtin.max_ ts ty #[.int kk x,.int kk y]):=by refine ⟨_,?_,rfl⟩;simp [Builtin.max_,Builtin.max2];omega
theorem aa4 {ty:Nat} {kk:IntKind} {x y:Int} {ts:Array TypeId} : Ok P g w U (.int kk (min x y)) (Builtin.min_ ts ty #[.int kk x,.int kk y]):=by refine ⟨_,?_,rfl⟩;simp [Builtin.min_,Builtin.min2];omega
theorem foldl_push:∀ (ns:List Int) (acc:ByteArray),ns.foldl (fun r n=>r.push (UInt8.ofNat n.toNat)) acc=⟨acc.data++(ns.map fun n=>UInt8.ofNat n.toNat).toArray⟩
 | [],acc=>by simp_all
 | n::ns,acc=>by rw [List.foldl_cons,foldl_push ns];simp_all
theorem aa5 (S:dC P c g w U sr a) {s d:Nat} {x:ah} {xs:List Int} {u:List Nat} {v:Value} (h1:(c.ti s).kind = .slice) (h2:(c.ti d).kind = .str) (h3:(c.ti (c.ti s).elem).kind = .int .u8) (hx:aV g w U x v)
  (e:sr.tail true (.int .u8) x=some (xs,u)):Ok P g w U (.str (xs.map fun n=>UInt8.ofNat n.toNat)) (convert s d v):=by
 obtain ⟨-,σ,⟨xa,xc,rfl,DG⟩,-,-⟩:=DB (L:=g.lab) (t:=.int .u8) S.bb (fun _ _ h=>h) hx 0 (fun hf=>by grind) e;refine ⟨_,?_,rfl⟩;rw [run_convert_bytes_string w s d (c.ti s).elem _ _ _ (tx S.bm h1) (IC S.bm h3) (Dn S.bm h2)];cases xa with
 | none=>
  have hl:xs.length=0:=by
   rcases oK xs.length with h | h
   ·exact h
   obtain ⟨_,_,h,-⟩:=DG h; simp at h
  have:xs=[]:=List.eq_nil_of_length_eq_zero hl;subst this;simp [Conv.bytesToString];rfl
 | some q=>
  have IB:(loadCells q xs.length).run P w = .ok (xs.map (Value.int .u8)).toArray w:=by
   have:=run_loadCells_list (P:=P) w q (xs.map (Value.int .u8)) (fun j v hj=>?_)
   ·grind
   simp only [List.getElem?_map] at hj;obtain ⟨n,h4,rfl⟩:=Option.map_eq_some_iff.1 hj;obtain ⟨h5,rfl⟩:=eE.1 h4;obtain ⟨b,o,h6,h7⟩:=DG (Nat.lt_of_le_of_lt (Nat.zero_le _) h5);simp only [aN] at h6;subst h6;have h8:w.cell? (ad b (o+j*1+0))=some (.int .u8 xs[j]):=h7 j h5;rw [Addr.add_lit]
   grind
  refine Eq.trans (run_bytesToString w q xs.length xc xs IB) ?_;rw [foldl_push];simp
end
end Go.Am
namespace Go.Am
open Go
section
variable {P:Program} {c:bd} {g:Gh} {L:b9} {w w':World} {U:Nat→Prop} {sr:St} {a:Act} {site:Nat} {o:Oper} {ρ:Type} {r:ρ} {k:cK→Option ρ} {σ:Src}
theorem aa6 {x:ah} {v:Value} (h:aV g w U x v):aV g w U x.RY v:=by cases x<;>first | exact h | exact h.1
def I6:Op→Bool
 | .call ⟨.value _,_,_⟩=>true
 | _=>false
theorem aa7 (S:dC P c g w U sr a) (hs:¬ U site) (we:I6 o.op=false) (e:eI c sr site o.op k=some r):∃ bu,k bu=some r∧nN P g w U site o a bu:=by
 cases aP:o.op with
 | move x=>rw [aP] at e; exact ⟨_,e,.val S (by simp [execOp,aP]) (S.ev x)⟩
 | assign x=>rw [aP] at e; exact ⟨_,e,.val S (by simp [execOp,aP]) (S.ev x)⟩
 | pick q x y=>
  rw [aP] at e;simp only [eI] at e;split at e
  ·rename_i t hq;have rR:=S.ev q;rw [hq] at rR;cases t with
   | true=>exact ⟨_,e,.val S (v:=a.eval x) (by simp [execOp,aP,show a.eval q = .bool true from rR,asBool]) (S.ev x)⟩
   | false=>exact ⟨_,e,.val S (v:=a.eval y) (by simp [execOp,aP,show a.eval q = .bool false from rR,asBool]) (S.ev y)⟩
  grind
 | alloc t=>
  rw [aP] at e;simp only [eI] at e;split at e
  ·rename_i ht;obtain ⟨v,w',g',U',h1,h2⟩:=aah S hs (by simpa [eH] using ht);exact ⟨_,e,.post h1 h2 (by simp [execOp,aP])⟩
  grind
 | box t x=>
  rw [aP] at e;simp only [eI] at e;split at e
  ·rename_i ht;obtain ⟨v,w',g',U',h1,h2⟩:=aai (t:=t) S hs (S.ev x) ht;exact ⟨_,e,.post h1 h2 (by simp [execOp,aP])⟩
  grind
 | build t parts=>
  rw [aP] at e;simp only [eI] at e;split at e
  ·rename_i cs h;split at h
   ·rename_i hk hf;exact ⟨_,e,.ok S (aaj S hk hf h) (by simp only [execOp,aP])⟩
   grind
  grind
 | buildSlice t len parts=>
  rw [aP] at e;simp only [eI] at e;split at e
  ·grind
  rename_i h;split at h
  ·rename_i hk hf;rw [aB] at hf;split at e
   ·rename_i cs kY;obtain ⟨v,w',g',U',h1,h2⟩:=aam S hs hk (by simp_all) (gz hf.2) kY;exact ⟨_,e,.post h1 h2 (by simp only [execOp,aP])⟩
   grind
  grind
 | load t x=>
  rw [aP] at e;simp only [eI] at e;split at e
  ·rename_i cs j h;split at h
   ·rename_i ht;split at e
    ·rename_i z hz;exact ⟨_,e,.ok S (Sl S.bm S.bb (S.ev x) (by simp_all) h hz) (by simp only [execOp,aP])⟩
    grind
   grind
  grind
 | store t x y=>
  rw [aP] at e;simp only [eI] at e;split at e
  ·grind
  rename_i ht;obtain ⟨bu,h1,w',g',U',h2,h3⟩:=aaR S hs (by simp_all) (S.ev x) (S.ev y) e;exact ⟨_,h1,.skip (by simp [execOp,aP,h2]) h3⟩
 | nilCheck x=>
  rw [aP] at e;simp only [eI] at e;have hx:=S.ev x;split at e
  ·rename_i id j hq;rw [hq] at hx;refine ⟨_,e,.val S (v:=a.eval x) ?_ hx⟩;obtain ⟨-,-,b,o',-,hv⟩:=hx;simp [execOp,aP,hv]
  ·rename_i id _ _ t i j hq;rw [hq] at hx;refine ⟨_,e,.val S (v:=a.eval x) ?_ hx⟩;obtain ⟨-,-,-,-,-,-,b,o',-,hv⟩:=hx;simp [execOp,aP,hv]
  ·rename_i t z j hq;rw [hq] at hx;refine ⟨_,e,.val S (v:=a.eval x) ?_ hx⟩;obtain ⟨b,o',hv,-⟩:=hx;simp [execOp,aP,hv]
  grind
 | unOp op t x=>
  rw [aP] at e;simp only [eI] at e;have hx:=S.ev x;split at e
  ·rename_i b hq;rw [hq] at hx;exact ⟨_,e,.ok S (x:=.bool (!b)) (s:=Op.unary .not (a.eval x)) ⟨.bool (!b),by rw [show a.eval x=_ from hx]; rfl,rfl⟩ (by simp only [execOp,aP])⟩
  ·rename_i kk n hq;rw [hq] at hx;exact ⟨_,e,.ok S (x:=.int kk (oN kk (0-n))) (s:=Op.unary .neg (a.eval x)) ⟨.int kk (oN kk (0-n)),by rw [show a.eval x=_ from hx]; simp [Op.unary,Op.intArith,Fj],rfl⟩ (by simp only [execOp,aP])⟩
  grind
 | convert s d x=>
  rw [aP] at e;simp only [eI] at e;have hx:=S.ev x;split at e
  ·rename_i kl n h1 h2 hq;rw [hq] at hx;exact ⟨_,e,.ok S (aa1 S.bm h1 h2 hx) (by simp only [execOp,aP])⟩
  ·rename_i z h1 h2 hq;rw [hq] at hx;exact ⟨_,e,.ok S (aa2 S.bm h1 h2 hx) (by simp only [execOp,aP])⟩
  ·rename_i y h1 h2;split at e
   ·rename_i u h3 h4;exact ⟨_,e,.ok S (aa5 S h1 h2 h3 hx h4) (by simp only [execOp,aP])⟩
   grind
  grind
 | makeFunc f first caps=>
  rw [aP] at e;cases f with
  | func f=>
   simp only [eI] at e;split at e
   ·rename_i hf;have hf:first = #[]:=by simpa using hf
    subst hf;have hl:∀ l:List Operand,cz g w U (l.map sr.ev) (l.map a.eval):=by
     intro l;induction l with
     | nil=>rfl
     | cons x l ih=>exact ⟨_,_,rfl,S.ev x,ih⟩
    exact ⟨_,e,.ok S (s:=Instr.makeFunc (.func f) ((#[]:Array Operand).map a.eval) (caps.map a.eval)) ⟨_,rfl,caps.toList.map a.eval,by simp; apply s7; simp,hl _⟩ (by simp only [execOp,aP])⟩
   grind
  | _=>simp [eI] at e
 | makeSlice t l cp=>
  rw [aP] at e;simp only [eI] at e;have hl:=S.ev l;have hc:=S.ev cp;split at e
  ·rename_i kl n kc m s6 kI;rw [s6] at hl;rw [kI] at hc;split at e
   ·rename_i j3 hk hty k_;unfold ab at e;split at e
    ·rename_i hb;obtain ⟨rfl,h1,h2⟩:=hb;obtain ⟨v,w',g',U',h3,h4⟩:=aar (ow:=!(c.nB.any (aT site))) (kl:=kl) (kc:=kc) S hs hk hty (gz k_) ⟨h1,h2⟩;refine ⟨_,e,.post (s:=Instr.makeSlice t (a.eval l) (a.eval cp)) ?_ h4 (by simp only [execOp,aP])⟩;rw [show a.eval l=_ from hl,show a.eval cp=_ from hc];exact h3
    grind
   grind
  grind
 | slice t x lo hi mx=>
  rw [aP] at e;cases mx with
  | some m=>simp [eI] at e
  | none=>
   simp only [eI] at e;split at e
   ·rename_i hk;split at e
    ·grind
    rename_i bF;split at e
    ·obtain ⟨bu,h1,v',w',g',U',h2,h3⟩:=Te S hs hk (by simp_all) (S.ev x) e;exact ⟨_,h1,.post h2 h3 (by simp only [execOp,aP,I5])⟩
    split at e
    ·obtain ⟨bu,h1,v',w',g',U',h2,h3⟩:=Te S hs hk (by simp_all) (S.ev x) e;exact ⟨_,h1,.post h2 h3 (by simp only [execOp,aP,I5])⟩
    obtain ⟨z,h1,h2⟩:=Ss S hk (by simp_all) (S.ev x) e;exact ⟨_,h1,.ok S h2 (by simp only [execOp,aP,I5])⟩
   ·rename_i hk;split at e
    ·rename_i z hq;have hx:=S.ev x;rw [hq] at hx;obtain ⟨z,h1,h2⟩:=Z2 S hk hx e;exact ⟨_,h1,.ok S h2 (by simp only [execOp,aP,I5])⟩
    grind
   grind
 | extract x i=>
  rw [aP] at e;simp only [eI] at e;have hx:=S.ev x;split at e
  ·rename_i hq;rw [hq] at hx;split at e
   ·rename_i z hz;exact ⟨_,e,.ok S (Z5 hx hz) (by simp only [execOp,aP])⟩
   grind
  grind
 | index t x i=>
  rw [aP] at e;simp only [eI] at e;have hx:=S.ev x;have hi:=S.ev i;split at e
  ·rename_i z kk n s6 kI hk;rw [s6] at hx;rw [kI] at hi;unfold ab at e;split at e
   ·rename_i hb;refine ⟨_,e,.ok S (s:=Instr.index t (a.eval x) (a.eval i)) ?_ (by simp only [execOp,aP])⟩;rw [show a.eval i=_ from hi];exact Z4 S.bm hk hx hb
   grind
  grind
 | indexAddr t x i=>
  rw [aP] at e;simp only [eI] at e;have hi:=S.ev i;split at e
  ·rename_i kk n kI hk bF;rw [kI] at hi;have e:rL (c.ti (c.ti t).elem).size sr (sr.ev x) n (fun v=>k ⟨v,[]⟩)=some r:=by
    cases hf:c.nB.any (aT (site+2000000)) with
    | true=>simp only [hf] at e; exact Sn e
    | false=>grind
   obtain ⟨z,h1,h2⟩:=ZZ (z:=.undef) (kk:=kk) S hk (by simp_all) (S.ev x) e;refine ⟨_,h1,.ok S (s:=Instr.indexAt t (a.eval x) (a.eval i)) ?_ (by simp only [execOp,aP])⟩;rw [show a.eval i=_ from hi];exact h2
  grind
 | fieldAddr t x f=>
  rw [aP] at e;simp only [eI] at e;split at e
  ·rename_i off ft hk hf;cases hb:cS 0 (c.ti ft).size with
   | false=>grind
   | true=>
    rw [hb] at e;have bF:0<(c.ti ft).size:=by simpa [eH] using hb
    cases hm:E0 (sr.ev x) off with
    | undef=>grind
    | _=>
     rw [hm] at e;exact ⟨_,e,.ok S (ZW S.bm hk hf bF (S.ev x) hm (by simp)) (by simp only [execOp,aP])⟩
  grind
 | field t x f=>
  rw [aP] at e;simp only [eI] at e;have hx:=S.ev x;split at e
  ·rename_i cs off ft hq hk hf;rw [hq] at hx;split at e
   ·rename_i z hz;split at hz
    ·rename_i bF;exact ⟨_,e,.ok S (ZY S.bm hk hf (by simp_all) hx hz) (by simp only [execOp,aP])⟩
    grind
   grind
  grind
 | binOp op t x y q=>
  rw [aP] at e;simp only [eI] at e;have hx:=S.ev x;have hy:=S.ev y;split at e
  ·rename_i s6 kI;rw [s6] at hx;rw [kI] at hy;split at e
   ·rename_i e' h1 h2;rw [aB] at h1;have h3:=Sw (op:=.eql) (X:=x) (Y:=y) S.bm h1.1 (bB h1.2) hx hy h2;exact ⟨_,e,.ok S (x:=.bool e') ⟨_,h3.1,rfl⟩ (by simp only [execOp,aP])⟩
   ·rename_i e' h1 h2;rw [aB] at h1;have h3:=Sw (op:=.eql) (X:=x) (Y:=y) S.bm h1.1 (bB h1.2) hx hy h2;exact ⟨_,e,.ok S (x:=.bool (!e')) ⟨_,h3.2,rfl⟩ (by simp only [execOp,aP])⟩
   grind
  split at e
  ·grind
  rename_i hk;have hT:nM P t (c.ti t):=oS S.bm (.inr (by intro h; rw [h] at hk; simp [R3] at hk));obtain ⟨d,h1,h2,-⟩:=hT.desc;obtain ⟨z,v,h3,h4,h5⟩:=ZT (P:=P) (X:=x) (Y:=y) (w:=w) h1 (by
   grind) (fun hc=>by
   grind) hx hy e
  exact ⟨_,h3,.ok S ⟨v,h4,h5⟩ (by simp only [execOp,aP])⟩
 | call cl=>
  rw [aP] at e;obtain ⟨callee,args,ts⟩:=cl;cases callee with
  | value f=>rw [aP] at we; simp [I6] at we
  | invoke x n=>simp [eI] at e
  | builtin b=>
   cases b<;>try (simp [eI] at e; done)
   case append=>
    simp only [eI] at e;split at e
    ·rename_i s x t u ha ht;split at e
     ·rename_i hk Tg hb;obtain rfl:=bB Tg;rw [aB] at hb;have ha:args = #[s,x]:=by apply s7; simpa using ha
      have ht:ts = #[t,t]:=by apply s7; simpa using ht
      subst ha ht;split at e
      ·obtain ⟨bu,h1,v',w',g',U',h2,h3⟩:=aaZ (ty:=o.type) (site:=site) S hk (gz hb.1) (S.ev s) (S.ev x) e;refine ⟨_,h1,.of ?_ h3⟩;simp [execOp,aP,resolve,invoke,builtin,h2]
      split at e
      ·obtain ⟨bu,h1,v',w',g',U',h2,h3⟩:=aa_ (ty:=o.type) S hs hk (gz hb.1) (S.ev s) (aa6 (S.ev x)) e;refine ⟨_,h1,.of ?_ h3⟩;simp [execOp,aP,resolve,invoke,builtin,h2]
      obtain ⟨bu,h1,v',w',g',U',h2,h3⟩:=aaG (ty:=o.type) S hs hk (gz hb.1) (S.ev s) (S.ev x) e;refine ⟨_,h1,.of ?_ h3⟩;simp [execOp,aP,resolve,invoke,builtin,h2]
     ·rename_i hk Tg hb;rw [aB] at hb;have ha:args = #[s,x]:=by apply s7; simpa using ha
      have ht:ts = #[t,u]:=by apply s7; simpa using ht
      subst ha ht;split at e
      ·rename_i hu;unfold E4 at e;split at e
       ·rename_i kk n j3 I7 za Mb;unfold ab at e;split at e
        ·rename_i hn;have h3:=S.ev s;have h4:=S.ev x;rw [I7] at h3;rw [za] at h4;obtain ⟨v',w',g',U',h5,h6⟩:=aaX (ty:=o.type) (kk:=kk) S hs hk hu Mb (gz hb.1) hn;refine ⟨_,e,.of ?_ h6⟩;simp [execOp,aP,resolve,invoke,builtin,show a.eval s=_ from h3,show a.eval x=_ from h4,h5]
        grind
       grind
      grind
     grind
    grind
   case len=>
    simp only [eI] at e;split at e
    ·rename_i x t ha ht;have ha:args = #[x]:=by apply s7; simpa using ha
     have ht:ts = #[t]:=by apply s7; simpa using ht
     subst ha ht;have hx:=S.ev x;split at e
     ·rename_i s hk hq;rw [hq] at hx;refine ⟨_,e,.val S (v:=.int .i64 (s.length:Int)) ?_ rfl⟩;have hx:a.eval x = .string ⟨s.toArray⟩:=hx;simp [execOp,aP,resolve,invoke,builtin,Builtin.len_,run_underlying (Dn S.bm hk),hx,goInt];rfl
     ·grind
     ·rename_i hk _;split at e
      ·rename_i n hn;rcases Sp S hx hn with ⟨s,h1,-⟩ | ⟨b,l,cp,h1,rfl,-⟩
       ·grind
       refine ⟨_,e,.val S (v:=.int .i64 (l:Int)) ?_ rfl⟩;simp [execOp,aP,resolve,invoke,builtin,Builtin.len_,run_underlying (tx S.bm hk),h1,goInt]
      grind
     grind
    grind
   case cap=>
    simp only [eI] at e;split at e
    ·rename_i x t ha ht;have ha:args = #[x]:=by apply s7; simpa using ha
     have ht:ts = #[t]:=by apply s7; simpa using ht
     subst ha ht;have hx:=S.ev x;split at e
     ·rename_i hk hq;rw [hq] at hx;refine ⟨_,e,.val S (v:=.int .i64 0) ?_ rfl⟩;have hx:a.eval x = .slice none 0 0:=hx;simp [execOp,aP,resolve,invoke,builtin,Builtin.cap_,run_underlying (tx S.bm hk),hx,goInt]
     grind
    grind
   case copy=>
    simp only [eI] at e;split at e
    ·rename_i d x t u ha ht;split at e
     ·rename_i hk hb;have ha:args = #[d,x]:=by apply s7; simpa using ha
      have ht:ts = #[t,u]:=by apply s7; simpa using ht
      subst ha ht;obtain ⟨bu,h1,v',w',h2,h3⟩:=aaW (ty:=o.type) S hk (by simp_all) (ts:=#[t,u]) rfl (S.ev d) (S.ev x) e;refine ⟨_,h1,.of ?_ h3⟩;simp [execOp,aP,resolve,invoke,builtin,h2]
     grind
    grind
   case max=>
    simp only [eI] at e;split at e
    ·rename_i kk x kl y hq;split at e
     ·rename_i lL;obtain rfl:=pQ lL;have p8:∃ s t,args = #[s,t]∧sr.ev s = .int kk x∧sr.ev t = .int kk y:=by
       obtain ⟨l⟩:=args;simp only at hq;rcases l with _ | ⟨s,_ | ⟨t,_ | ⟨u,l⟩⟩⟩<;>simp at hq
       exact ⟨s,t,rfl,hq.1,hq.2⟩
      obtain ⟨s,t,rfl,h1,h2⟩:=p8;have h3:=S.ev s;have h4:=S.ev t;rw [h1] at h3;rw [h2] at h4;obtain ⟨v,h5,h6⟩:=aa3 (P:=P) (g:=g) (w:=w) (U:=U) (ty:=o.type) (kk:=kk) (x:=x) (y:=y) (ts:=ts);refine ⟨_,e,.val S (v:=v) ?_ h6⟩;simp [execOp,aP,resolve,invoke,builtin,show a.eval s=_ from h3,show a.eval t=_ from h4,h5]
     grind
    grind
   case min=>
    simp only [eI] at e;split at e
    ·rename_i kk x kl y hq;split at e
     ·rename_i lL;obtain rfl:=pQ lL;have p8:∃ s t,args = #[s,t]∧sr.ev s = .int kk x∧sr.ev t = .int kk y:=by
       obtain ⟨l⟩:=args;simp only at hq;rcases l with _ | ⟨s,_ | ⟨t,_ | ⟨u,l⟩⟩⟩<;>simp at hq
       exact ⟨s,t,rfl,hq.1,hq.2⟩
      obtain ⟨s,t,rfl,h1,h2⟩:=p8;have h3:=S.ev s;have h4:=S.ev t;rw [h1] at h3;rw [h2] at h4;obtain ⟨v,h5,h6⟩:=aa4 (P:=P) (g:=g) (w:=w) (U:=U) (ty:=o.type) (kk:=kk) (x:=x) (y:=y) (ts:=ts);refine ⟨_,e,.val S (v:=v) ?_ h6⟩;simp [execOp,aP,resolve,invoke,builtin,show a.eval s=_ from h3,show a.eval t=_ from h4,h5]
     grind
    grind
 | _=>(rw [aP] at e; simp [eI] at e)
end
end Go.Am
namespace Go.Am
open Go
theorem Fr.trans' {F F':Nat→Nat→Prop} {w1 w2 w3:World} (h:Fr F w1 w2) (h':Fr F' w2 w3) (hF:∀ b o,b<w1.heap.size→F' b o→F b o):Fr F w1 w3:=by
 refine ⟨h'.os.trans h.os,h'.tape.trans h.tape,h'.output.trans h.output,Nat.le_trans h.size h'.size,fun k c e f hk=>?_,fun k hk hn=>?_,fun k b hb hn=>h'.kind k b (h.kind k b hb hn) hn⟩
 ·have aF:k<w1.heap.size:=by
   rcases Nat.lt_or_ge k w1.heap.size with hh | hh
   ·exact hh
   grind
  obtain ⟨c1,h1,h2,h3⟩:=h.cells k c e f hk;obtain ⟨c2,h4,h5,h6⟩:=h'.cells k c1 e f h1
  grind
 rw [h'.block k (Nat.lt_of_lt_of_le hk h.size) (fun o ho=>hn o (hF k o hk ho)),h.block k hk hn]
theorem iU {α:Type} : ∀ (l m:List (Nat×α)) (n:Nat),look (l++m) n=match look l n with | some x=>some x | none=>look m n
 | [],m,n=>rfl
 | (k,v)::l,m,n=>by
  simp only [List.cons_append,look];split
  ·rfl
  exact iU l m n
section
variable {P:Program} {c:bd} {w0:World} {F:b9} {N:Nat} {g g':Gh} {w w':World} {U U':Nat→Prop} {st:St} {a:Act}
theorem Rel.I8 (R:Rel w0 F N g U st a w) (hc:gb P c) (hG:Gl P F w0):dC P c g w U st a:=⟨hc,R.env,R.heap,R.cm,R.u0,R.nL,R.nf,R.gl hG⟩
theorem Rel.fresh (R:Rel w0 F N g U st a w):¬ U st.nxt:=fun h=>Nat.lt_irrefl _ (R.used _ h)
theorem wR {a:Act} {d:Option Nat} {v:Value} {t:Nat} (hd:∀ x,d=some x→x<a.tmps.size):(a.put d v).eval (.tmp t)=if d=some t then v else a.eval (.tmp t):=by
 cases d with
 | none=>simp [Act.put]
 | some d=>
  have:=hd d rfl;by_cases h:d=t
  ·subst h;simp [Act.put,Act.eval,this]
  rw [if_neg (by grind)];exact Act.eval_put (dst:=some d) (x:=.tmp t) (fun x hx=>by grind)
theorem Rel.put (R:Rel w0 F N g U st a w) {e:cK} {v:Value} {dst:Option Nat} (hd:∀ x,dst=some x→x<N) (Q:dP g w U st.nxt e v w' g' U') :
  Rel w0 F N g' U' (st.put dst e) (a.put dst v) w':=by
 have h_:∀ x,dst=some x→x<a.tmps.size:=by rw [R.size]; exact hd
 refine ⟨fun t x h=>?_,fun id ob h=>?_,fun s h=>?_,Q.cm,fun b o id p hb h=>?_,fun b o id p hf jX=>?_,?_,?_,?_,Q.jg.sub _ R.u0,fun s hs=>Q.jg.sub _ (R.nL s hs),fun id h=>?_⟩
 ·rw [wR h_];cases dst with
  | none=>exact Q.jg.u5 _ _ (R.env t x h)
  | some d=>
   simp only [St.put] at h;rw [dQ] at h;by_cases mI:d=t
   ·subst mI;simp only [if_true,aN] at h ⊢;subst h; exact Q.val
   rw [if_neg mI] at h;rw [if_neg (by grind)];exact Q.jg.u5 _ _ (R.env t x h)
 ·unfold St.obj St.put at h;simp only [iU] at h;cases hl:look e.bb id with
  | some vg=>
   rw [hl] at h;cases vg with
   | none=>grind
   | some vg=>
    simp only [aN] at h;subst h;exact Q.bb id _ hl
  | none=>
   rw [hl] at h;have h:st.obj id=some ob:=h;obtain ⟨h1,h2⟩:=R.heap id ob h;exact ⟨Q.jg.sub _ h1,Iw Q.jg (by grind) h1 ob h2⟩
 ·show s<st.nxt+1;rcases Q.used s h with h | h
  ·have:=R.used s h; omega
  omega
 ·have dh:b<w.heap.size:=Nat.lt_of_lt_of_le hb R.fr.size;have aG:=Q.cI b o _ dh h;cases hl:g.lab b o with
  | none=>grind
  | some q=>
   obtain ⟨aE,p'⟩:=q;cases ht:(look e.bb aE).isSome with
   | true=>
    rcases R.cI b o aE p' hb hl with h2 | h2
    ·exact absurd h2.1 (Q.nf aE ht)
    grind
   | false=>
    have:=(Q.jg.own b o aE p' hl (by grind)).1;rw [this] at h;simp only [aN,bS] at h;obtain ⟨rfl,rfl⟩:=h;exact R.cI b o aE p' hb hl
 ·have hl:=R.oQ b o id p hf jX;refine (Q.jg.own b o id p hl (fun ht=>Q.nf id ht jX)).1
 ·refine R.fr.trans' Q.fr (fun b o hb h=>?_);obtain ⟨id,p,hl,hn⟩:=h;rcases R.cI b o id p hb hl with h2 | h2
  ·omega
  omega
 ·cases dst<;>exact R.defers
 ·cases dst<;>simp [Act.put,R.size]
 unfold St.obj St.put at h;simp only [iU] at h;cases hl:look e.bb id with
 | some vg=>exact Q.nf id (by grind)
 | none=>rw [hl] at h; exact R.nf id h
end
end Go.Am
namespace Go.Am
open Go
section
variable {P:Program} {c:bd} {w0:World} {F:b9} {N:Nat} {g g':Gh} {w w':World} {U U':Nat→Prop} {st:St} {a:Act}
def zb (P:Program) (c:bd):Prop:=∀ {ρ:Type} {r:ρ} {k:cK→Option ρ} {g:Gh} {w:World} {U:Nat→Prop} {sr:St} {a:Act} {site:Nat} {o:Oper},
 dC P c g w U sr a→¬ U site→eI c sr site o.op k=some r→∃ bu,k bu=some r∧nN P g w U site o a bu
theorem Rel.BP (R:Rel w0 F N g U st a w) {d:Nat} {x:ah} (h:aV g w U x (a.eval (.tmp d))):Rel w0 F N g U (st.put (some d) ⟨x,[]⟩) a w:=by
 refine ⟨fun t y hy=>?_,R.heap,fun s hs=>?_,R.cm,R.cI,R.oQ,R.fr,R.defers,R.size,R.u0,R.nL,R.nf⟩
 ·simp only [St.put] at hy;rw [dQ] at hy;split at hy
  ·grind
  exact R.env t y hy
 have:=R.used s hs;show s<st.nxt+1;omega
theorem Rel.skip (R:Rel w0 F N g U st a w) {dst:Option Nat} (hd:∀ x,dst=some x→x<N):Rel w0 F N g U (st.put dst ⟨.gX [],[]⟩) (a.put dst undef) w:=
 R.put hd (.same R.cm ⟨[],rfl,rfl⟩)
theorem Th {ops:Array Oper} {tmps:Array Value} {gd d:Nat} {b:Bool} (h:uY ops.toList gd=some d) (hv:tmps.getD d undef = .bool b):yielded ops tmps gd=some b:=by
 unfold uY at h;unfold yielded;rw [s4] at h;cases e:ops[gd]? with
 | none=>grind
 | some o=>
  rw [e] at h;simp only at h;have hs:tmps[d]? = some (.bool b):=by
   rw [oG] at hv;cases e2:tmps[d]? with
   | none=>rw [e2] at hv; simp [undef] at hv
   | some x=>grind
  grind
theorem Ti {ops:Array Oper} {tmps:Array Value} {gd d:Nat} (h:uY ops.toList gd=some d) (hv:tmps.getD d undef=undef):yielded ops tmps gd=none:=by
 unfold uY at h;unfold yielded;rw [s4] at h;cases e:ops[gd]? with
 | none=>rfl
 | some o=>
  rw [e] at h;simp only at h;rw [oG] at hv;cases e2:tmps[d]? with
  | none=>grind
  | some x=>
   rw [e2] at hv;simp only [Option.getD_some] at hv;subst hv;simp [h,e2,undef]
end
end Go.Am
namespace Go.Am
open Go
def Sub (M M':Mp):Prop:=∀ k v,look M k=some v→look M' k=some v
def lN (M:Mp):Prop:=∀ k1 k2 a d1 d2,look M k1=some (a,d1)→look M k2=some (a,d2)→a≠db→k1=k2
theorem Sub.refl (M:Mp):Sub M M:=fun _ _ h=>h
theorem Sub.trans {A B C:Mp} (h:Sub A B) (h':Sub B C):Sub A C:=fun k v e=>h' k v (h k v e)
theorem kJ {α:Type} : ∀ {l:List (Nat×α)} {k:Nat} {v:α},look l k=some v→(k,v)∈l
 | (a,b)::l,k,v,h=>by
  rw [dQ] at h;split at h
  ·grind
  exact kD _ (kJ h)
theorem zc {M M':Mp} {cy aid d:Nat} (h:lD M cy aid d=some M'):Sub M M'∧look M' cy=some (aid,d)∧aid≠db∧(lN M→lN M'):=by
 unfold lD at h;split at h
 ·rename_i hl;split at h
  ·rename_i hb;simp only [aB,Nat.beq_eq_true_eq,Bool.not_eq_true',td] at hb;obtain rfl:=aZ h;obtain ⟨⟨h1,h2⟩,h3⟩:=hb;refine ⟨.refl _,by grind,fun e=>?_,fun h=>h⟩;simp_all
  grind
 rename_i hl;split at h
 ·grind
 rename_i hb;obtain rfl:=aZ h;simp only [Bool.or_eq_false_iff] at hb;obtain ⟨h1,h2⟩:=hb;have aG:aid≠db:=fun e=>by simp_all
 have tc:∀ k d',look M k≠some (aid,d'):=by intro k d' hk;have:=List.any_eq_false.1 h1 _ (kJ hk);simp at this
 refine ⟨fun k v hk=>?_,by rw [dQ,if_pos rfl],aG,fun hi k1 k2 a d1 d2 e1 e2 hn=>?_⟩
 ·rw [dQ,if_neg]
  ·exact hk
  grind
 rw [dQ] at e1 e2;split at e1<;>split at e2
 ·omega
 ·grind
 ·grind
 exact hi _ _ _ _ _ e1 e2 hn
theorem aa8 {M:Mp} {cy:Nat} (h:look M cy=none):Sub M ((cy,db,0)::M)∧(lN M→lN ((cy,db,0)::M)):=by
 refine ⟨fun k v hk=>?_,fun hi k1 k2 a d1 d2 e1 e2 hn=>?_⟩
 ·rw [dQ,if_neg]
  ·exact hk
  grind
 rw [dQ] at e1 e2;split at e1<;>split at e2
 ·omega
 ·grind
 ·grind
 exact hi _ _ _ _ _ e1 e2 hn
def ei (g:Gh) (aid d:Nat):Hd:=if aid=db then eh else if d=0 then g.hd aid 0 [] else ⟨(g.hd aid 0 []).addr,(g.hd aid 0 []).len / d,(g.hd aid 0 []).len / d⟩
def qZ (st:St) (id:Nat):Nat:=match st.obj id with | some (.row _ _ vr _)=>vr | _=>0
structure Cons (st:St) (nm:Nat→Nat) (vr:Nat) (M:Mp) (g g':Gh) (U':Nat→Prop):Prop where
 name:∀ k aid d,look M k=some (aid,d)→U' (nm k / 1024)∧g'.hd (nm k) 0 []=ei g aid d
 u0:U' 0
 uv:U' vr
 sh:∀ b o,g.lab b o=none→g'.lab b o=none
 lab:∀ k aid d b o p,look M k=some (aid,d)→aid≠db→g.lab b o=some (aid,p)→g'.lab b o=some (nm k,p)
 q_:∀ k aid d q,look M k=some (aid,d)→q≠[]→g'.hd (nm k) vr q=if d=0 then g.hd aid (qZ st aid) q else eh
theorem Cons.mono {st:St} {nm:Nat→Nat} {vr:Nat} {M M':Mp} {g g':Gh} {U':Nat→Prop} (h:Sub M M') (c:Cons st nm vr M' g g' U'):Cons st nm vr M g g' U':=
 ⟨fun k aid d e=>c.name k aid d (h _ _ e),c.u0,c.uv,c.sh,fun k aid d b o p e=>c.lab k aid d b o p (h _ _ e),fun k aid d q e=>c.q_ k aid d q (h _ _ e)⟩
section
variable {g g':Gh} {w:World} {U U':Nat→Prop} {st:St} {nm:Nat→Nat} {vr:Nat}
theorem Cons.Tj {M:Mp} (C:Cons st nm vr M g g' U') {t:Ty} {xs:List t.T} {v:Value} (h:hZ t.size (Sh g.lab w t) xs v):hZ t.size (Sh g'.lab w t) xs v:=
 iI (gq (fun b o hl v hv=>⟨hv,C.sh b o hl⟩) t) h
theorem cast_eq {a b:Ty} {x:a.T} {y:b.T} (h:Ty.cast a b x=some y):a=b∧HEq x y:=by
 unfold Ty.cast at h
 grind
theorem Tl {a b:ah} (h:CY a b=true) {x:Value} (hx:aV g w U b x):aV g' w U' a x:=by
 unfold CY at h;split at h
 ·trivial
 ·exact hx
 ·exact hx
 ·exact hx
 ·obtain rfl:=bB h;obtain ⟨l,rfl,hl⟩:=hx;exact ⟨l,rfl,hl⟩
 grind
section
variable {st:St} {r:Type} {M:Mp} {v:ah} {f:Mp→Option r}
theorem aa9 (k:IntKind):reify st (.int k) M v f=(match v with | .int l n=>(match nI k l with | true=>(match f M with | some r=>some (n,r) | none=>none) | false=>none) | _=>none):=by cases v<;>rfl
theorem aba:reify st .bool M v f=(match v with | .bool b=>(match f M with | some r=>some (b,r) | none=>none) | _=>none):=by cases v<;>rfl
theorem abb:reify st .str M v f=(match v with | .str b=>(match f M with | some r=>some (b,r) | none=>none) | _=>none):=by cases v<;>rfl
theorem abc:reify st .err M v f=(match v with | .err b=>(match f M with | some r=>some (b,r) | none=>none) | _=>none):=by cases v<;>rfl
theorem abd (t:Ty):reify st (.sh t) M v f=(match v with
  | .sh u xs=>(match Ty.cast (.sl u) (.sl t) xs with | some ys=>(match f M with | some r=>some (ys,r) | none=>none) | none=>none)
  | .nil=>(match f M with | some r=>some (([]:List t.T),r) | none=>none)
  | _=>none):=by cases v<;>rfl
theorem abe (t:Ty):reify st (.dn t) M v f=(match v with | .dn u o=>(match Ty.cast (.bW u) (.bW t) o with | some o=>(match f M with | some r=>some (o,r) | none=>none) | none=>none) | _=>none):=by cases v<;>rfl
theorem abf (cy:Nat) (t:Ty):reify st (.own cy t) M v f=(match v with
  | .own aid _ [] _=>(match lD M cy aid 0 with | some M=>f M | none=>none)
  | .fJ aid 0 len sz=>(match st.obj aid with
   | some (.cells _ cs)=>(match aT sz t.size&&aT (len*sz) cs.length with
    | true=>(match lD M cy aid t.size with | some M=>f M | none=>none)
    | false=>none)
   | _=>none)
  | .nil=>(match look M cy with | none=>f ((cy,db,0)::M) | some _=>none)
  | _=>none):=by cases v<;>rfl
theorem abg (cy:Nat) (t:Ty):reify st (.fS cy t) M v f=(match v with
  | .fS aid _ [] u off len=>(match Ty.beq t u,lD M cy aid 0 with
   | true,some M=>(match f M with | some r=>some (off,len,r) | none=>none)
   | _,_=>none)
  | .own aid _ [] u=>(match st.obj aid with
   | some (.row _ t' _ xs)=>(match Ty.beq t u&&Ty.beq t t',lD M cy aid 0 with
    | true,some M=>(match f M with | some r=>some (0,xs.length,r) | none=>none)
    | _,_=>none)
   | _=>none)
  | _=>none):=by cases v<;>rfl
theorem abh (cy j:Nat):reify st (.bt cy j) M v f=(match v with | .bt aid l=>(match aT j l,lD M cy aid 0 with | true,some M=>f M | _,_=>none) | _=>none):=by cases v<;>rfl
theorem abi (cy : Nat) (t : Ty) (j : Nat) : reify st (.fl cy t j) M v f = (match v with
    | .fl aid _ [] u i l => (match aT j l && Ty.beq t u, lD M cy aid 0 with
      | true, some M => (match f M with | some r => some (i, r) | none => none)
      | _, _ => none)
    | _ => none) := by cases v <;> try rfl
                       rename_i p _ _ _; cases p <;> rfl
theorem abj (t:Ty) (j:Nat):reify st (.gp t j) M v f=(match v with | .gp u x l=>(match aT j l with | true=>(match Ty.cast u t x with | some x=>(match f M with | some r=>some (x,r) | none=>none) | none=>none) | false=>none) | _=>none):=by cases v<;>rfl
theorem abk (l:List cF):reify st (.agg l) M v f=(match v with | .agg cs=>tr st l M cs f | _=>none):=by cases v<;>rfl
theorem abl (cy:Nat) (t:Ty) (j:Nat) (u:Ty):reify st (.nJ cy t j u) M v f=(match v with
  | .own aid ver [(i,j')] u'=>(match st.obj aid with
   | some (.row true t' vr _)=>(match aT j j'&&Ty.beq u u'&&aT ver vr&&Ty.beq t t',lD M cy aid 0 with
    | true,some M=>(match f M with | some r=>some (i,r) | none=>none)
    | _,_=>none)
   | _=>none)
  | _=>none):=rfl
theorem abm (g:FuncId) (l:List cF):reify st (.fn g l) M v f=(match v with | .fn g' cs=>(match aT g g' with | true=>tr st l M cs f | false=>none) | _=>none):=rfl
theorem abn (c:ah):reify st (.mc c) M v f=(match CY c v with | true=>f M | false=>none):=by cases v<;>rfl
theorem abo {vs:List ah} : tr st [] M vs f=(match vs with | []=>f M | _=>none):=by cases vs<;>rfl
theorem abp {s:cF} {l:List cF} {vs:List ah} : tr st (s::l) M vs f=(match vs with | v::vs=>reify st s M v (fun M=>tr st l M vs f) | []=>none):=by cases vs<;>rfl
end
def DK (st:St) (g:Gh) (w:World) (U:Nat→Prop) (nm:Nat→Nat) (vr:Nat) {r:Type} (M:Mp) (f:Mp→Option r) (z:r) (rel:Gh→(Nat→Prop)→Prop):Prop:=
 ∃ M',Sub M M'∧(lN M→lN M')∧f M'=some z∧∀ g' U',Cons st nm vr M' g g' U'→rel g' U'
theorem DK.same {r:Type} {M:Mp} {f:Mp→Option r} {z:r} {rel:Gh→(Nat→Prop)→Prop} (h:f M=some z) (hr:∀ g' U',Cons st nm vr M g g' U'→rel g' U'):DK st g w U nm vr M f z rel:=
 ⟨M,.refl _,fun h=>h,h,hr⟩
mutual
theorem Tm (hO:fA g w U st):∀ (s:cF) {r:Type} (M:Mp) (v:ah) (f:Mp→Option r) (y:s.LT r),reify st s M v f=some y→
  DK st g w U nm vr M f (reflect nm vr s y).2 (fun g' U'=>∀ x,aV g w U v x→aV g' w U' (reflect nm vr s y).1 x)
 | .int k,r,M,v,f,y,e=>by
  rw [aa9] at e;cases v<;>try grind
  all_goals try dsimp only at e
  split at e
  ·rename_i hk;split at e
   ·rename_i z hz;obtain rfl:=aZ e;exact .same hz (fun g' U' C x hx=>by obtain rfl:=pQ hk; exact hx)
   grind
  grind
 | .bool,r,M,v,f,y,e=>by
  rw [aba] at e;cases v<;>try grind
  all_goals try dsimp only at e
  split at e
  ·rename_i z hz;obtain rfl:=aZ e;exact .same hz (fun g' U' C x hx=>hx)
  grind
 | .str,r,M,v,f,y,e=>by
  rw [abb] at e;cases v<;>try grind
  all_goals try dsimp only at e
  split at e
  ·rename_i z hz;obtain rfl:=aZ e;exact .same hz (fun g' U' C x hx=>hx)
  grind
 | .err,r,M,v,f,y,e=>by
  rw [abc] at e;cases v<;>try grind
  all_goals try dsimp only at e
  split at e
  ·rename_i z hz;obtain rfl:=aZ e;exact .same hz (fun g' U' C x hx=>hx)
  grind
 | .sh t,r,M,v,f,y,e=>by
  rw [abd] at e;cases v<;>try grind
  all_goals try dsimp only at e
  ·split at e
   ·rename_i z hz;obtain rfl:=aZ e;exact .same hz (fun g' U' C x hx=>by obtain rfl:=hx;exact ⟨none,0,0,rfl,rfl,cx _,fun _=>rfl,fun h=>absurd rfl h⟩)
   grind
  rename_i u xs;split at e
  ·rename_i ys hc;split at e
   ·rename_i z hz;obtain rfl:=aZ e;obtain ⟨he,hh⟩:=nO hc;subst he;obtain rfl:=eq_of_heq hh;exact .same hz (fun g' U' C x hx=>C.Tj hx)
   grind
  grind
 | .dn t,r,M,v,f,y,e=>by
  rw [abe] at e;cases v<;>try grind
  all_goals try dsimp only at e
  rename_i u xs;split at e
  ·rename_i ys hc;split at e
   ·rename_i z hz;obtain rfl:=aZ e;obtain ⟨he,hh⟩:=cast_eq hc;injection he with he;subst he;obtain rfl:=eq_of_heq hh;exact .same hz (fun g' U' C x hx=>⟨C.Tj hx.1,hx.2⟩)
   grind
  grind
 | .own cy t,r,M,v,f,y,e=>by
  rw [abf] at e;cases v<;>try grind
  all_goals try dsimp only at e
  ·
   split at e
   ·rename_i hl;obtain ⟨h1,h2⟩:=aa8 hl;refine ⟨_,h1,h2,e,fun g' U' C x hx=>?_⟩;obtain rfl:=hx;obtain ⟨c1,c2⟩:=C.name cy db 0 (by rw [dQ,if_pos rfl]);exact ⟨c1,C.u0,C.u0,trivial,fun _=>rfl,by rw [c2]; rfl⟩
   grind
  ·rename_i aid ver p u;cases p with
   | cons a p=>grind
   | nil=>
    simp only at e;split at e
    ·rename_i M1 hb;obtain ⟨h1,h2,h3,h4⟩:=zc hb;refine ⟨_,h1,h4,e,fun g' U' C x hx=>?_⟩;obtain ⟨u1,u2,u3,-,hv,rfl⟩:=hx;obtain rfl:=hv rfl;obtain ⟨c1,c2⟩:=C.name cy aid 0 h2;exact ⟨c1,C.u0,C.u0,trivial,fun _=>rfl,by rw [c2]; simp [ei,h3]⟩
    grind
  rename_i aid off len _;cases off with
  | succ n=>grind
  | zero=>
   simp only at e;split at e
   ·rename_i cs ho;split at e
    ·rename_i hq;simp only [aB,td] at hq;obtain ⟨s6,kI⟩:=hq;subst s6;split at e
     ·rename_i M1 hb;obtain ⟨h1,h2,h3,h4⟩:=zc hb;refine ⟨_,h1,h4,e,fun g' U' C x hx=>?_⟩;obtain ⟨u1,u2,a,c,rfl,BD,kY,b,o,dh,ha⟩:=hx;obtain ⟨c1,c2⟩:=C.name cy aid _ h2;obtain ⟨-,-,b2,o2,dN,-⟩:=hO aid _ ho;have hp:=t.size_pos;have hlen:(g.hd aid 0 []).len=cs.length:=by rw [dN]
      have hc:c=len:=by rw [hlen,← kI] at kY;have:=Nat.eq_of_mul_eq_mul_right hp kY;omega
      refine ⟨c1,C.u0,C.u0,trivial,fun _=>rfl,?_⟩;have hdiv:(g.hd aid 0 []).len / t.size=len:=by rw [hlen,← kI]; exact RN _ hp
      rw [c2];simp only [ei,h3,if_false,show t.size≠0 by omega,hdiv,Hd.val,dh,ha (.inr rfl),hc];simp
     grind
    grind
   grind
 | .fS cy t,r,M,v,f,y,e=>by
  rw [abg] at e;cases v<;>try grind
  all_goals try dsimp only at e
  ·rename_i aid ver p u;cases p with
   | cons a p=>grind
   | nil=>
    simp only at e;split at e
    ·rename_i own t' vr xs ho;split at e
     ·rename_i M1 hk hb;split at e
      ·rename_i z hz;obtain rfl:=aZ e;rw [aB] at hk;obtain ⟨tb,lM⟩:=hk;obtain rfl:=Ty.eq_of_beq tb;obtain rfl:=Ty.eq_of_beq lM;obtain ⟨h1,h2,h3,h4⟩:=zc hb;refine ⟨_,h1,h4,hz,fun g' U' C x hx=>?_⟩;obtain ⟨u1,u2,u3,-,hv,rfl⟩:=hx;obtain rfl:=hv rfl;obtain ⟨c1,c2⟩:=C.name cy aid 0 h2;obtain ⟨-,-,-,r1,r2,r3,-⟩:=hO aid _ ho;refine ⟨c1,C.u0,C.u0,trivial,fun _=>rfl,?_⟩;rw [c2.trans (show _=g.hd aid 0 [] by simp [ei,h3])];dsimp only;refine ⟨_,_,by rw [Hd.val,r1],by omega,by omega,by omega,fun fG=>?_,_,rfl⟩;cases ha:(g.hd aid 0 []).addr with
       | none=>grind
       | some q=>grind
      grind
     grind
    grind
  rename_i aid ver p u off len;cases p with
  | cons a p=>grind
  | nil=>
   simp only at e;split at e
   ·rename_i M1 hk hb;split at e
    ·rename_i z hz;obtain rfl:=aZ e;obtain rfl:=Ty.eq_of_beq hk;obtain ⟨h1,h2,h3,h4⟩:=zc hb;refine ⟨_,h1,h4,hz,fun g' U' C x hx=>?_⟩;obtain ⟨u1,u2,u3,-,hv,hx⟩:=hx;obtain rfl:=hv rfl;obtain ⟨c1,c2⟩:=C.name cy aid 0 h2;refine ⟨c1,C.u0,C.u0,trivial,fun _=>rfl,?_⟩;rw [c2];simpa [ei,h3] using hx
    grind
   grind
 | .bt cy j,r,M,v,f,y,e=>by
  rw [abh] at e;cases v<;>try grind
  all_goals try dsimp only at e
  rename_i aid l;split at e
  ·rename_i M1 hk hb;obtain rfl:=bB hk;obtain ⟨h1,h2,h3,h4⟩:=zc hb;refine ⟨_,h1,h4,e,fun g' U' C x hx=>?_⟩;obtain ⟨u1,u2,hx⟩:=hx;obtain ⟨c1,c2⟩:=C.name cy aid 0 h2;refine ⟨c1,C.u0,?_⟩;rw [c2];simpa [ei,h3] using hx
  grind
 | .fl cy t j,r,M,v,f,y,e=>by
  rw [abi] at e;cases v<;>try grind
  all_goals try dsimp only at e
  rename_i aid ver p u i l;cases p with
  | cons a p=>grind
  | nil=>
   simp only at e;split at e
   ·rename_i M1 hk hb;split at e
    ·rename_i z hz;obtain rfl:=aZ e;simp only [aB] at hk;obtain rfl:=Ty.eq_of_beq hk.2;obtain rfl:=bB hk.1;obtain ⟨h1,h2,h3,h4⟩:=zc hb;refine ⟨_,h1,h4,hz,fun g' U' C x hx=>?_⟩;obtain ⟨u1,u2,u3,-,hv,hx⟩:=hx;obtain rfl:=hv rfl;obtain ⟨c1,c2⟩:=C.name cy aid 0 h2;refine ⟨c1,C.u0,C.u0,trivial,fun _=>rfl,?_⟩;rw [c2];simpa [ei,h3] using hx
    grind
   grind
 | .gp t j,r,M,v,f,y,e=>by
  rw [abj] at e;cases v<;>try grind
  all_goals try dsimp only at e
  rename_i u _ l;split at e
  ·rename_i hk;split at e
   ·rename_i hc;split at e
    ·rename_i z hz;obtain rfl:=aZ e;obtain rfl:=bB hk;obtain ⟨he,hh⟩:=cast_eq hc;subst he;obtain rfl:=eq_of_heq hh;exact .same hz (fun g' U' C x hx=>by obtain ⟨b,o,rfl,h⟩:=hx;exact ⟨b,o,rfl,gq (fun b o hl v hv=>⟨hv,C.sh b o hl⟩) u _ b o h⟩)
    grind
   grind
  grind
 | .agg l,r,M,v,f,y,e=>by
  rw [abk] at e;cases v<;>try grind
  all_goals try dsimp only at e
  rename_i cs;obtain ⟨M',h1,h2,h3,h4⟩:=I9 hO l M cs f y e;refine ⟨M',h1,h2,h3,fun g' U' C x hx=>?_⟩;obtain ⟨vs,rfl,fj⟩:=hx;exact ⟨vs,rfl,h4 g' U' C vs fj⟩
 | .nJ cy t j u,r,M,v,f,y,e=>by
  rw [abl] at e;split at e
  ·rename_i aid ver i _ _;split at e
   ·rename_i t' _ xs ho;split at e
    ·rename_i M1 hq hb;simp only [aB,td] at hq;obtain ⟨⟨⟨hj,hu⟩,hv⟩,ht⟩:=hq;subst hj;subst hv;split at e
     ·rename_i z hz;obtain rfl:=aZ e;obtain ⟨h1,h2,h3,h4⟩:=zc hb;refine ⟨_,h1,h4,hz,fun g' U' C x hx=>?_⟩;obtain ⟨u1,u2,u3,cU,-,rfl⟩:=hx;obtain ⟨c1,c2⟩:=C.name cy aid 0 h2;have c3:=C.q_ cy aid 0 [(i,j)] h2 (by simp);have hvo:qZ st aid=ver:=by simp [qZ,ho]
      refine ⟨c1,C.uv,C.u0,⟨?_,trivial⟩,fun h=>by grind,?_⟩
      ·have:i<(g.hd aid 0 []).len:=cU.1;show i<(g'.hd (nm cy) 0 []).len;rw [c2];simpa [ei,h3] using this
      grind
     grind
    grind
   grind
  grind
 | .fn g0 l,r,M,v,f,y,e=>by
  rw [abm] at e;split at e
  ·rename_i cs;split at e
   ·rename_i hb;obtain rfl:=bB hb;obtain ⟨M',h1,h2,h3,h4⟩:=I9 hO l M cs f y e;refine ⟨M',h1,h2,h3,fun g' U' C x hx=>?_⟩;obtain ⟨vs,rfl,fj⟩:=hx;exact ⟨vs,rfl,h4 g' U' C vs fj⟩
   grind
  grind
 | .mc c,r,M,v,f,y,e=>by
  rw [abn] at e;split at e
  ·rename_i hk;exact .same e (fun g' U' C x hx=>Tl hk hx)
  grind
theorem I9 (hO:fA g w U st):∀ (l:List cF) {r:Type} (M:Mp) (vs:List ah) (f:Mp→Option r) (y:cF.yM l r),tr st l M vs f=some y→
  DK st g w U nm vr M f (pE nm vr l y).2 (fun g' U'=>∀ xs,cz g w U vs xs→cz g' w U' (pE nm vr l y).1 xs)
 | [],r,M,vs,f,y,e=>by
  rw [abo] at e;cases vs<;>try (exact absurd (show none=some _ from e) (by simp))
  exact .same e (fun g' U' C x hx=>hx)
 | s::l,r,M,vs,f,y,e=>by
  rw [abp] at e;cases vs with
  | nil=>grind
  | cons v vs=>
   simp only at e;obtain ⟨M1,h1,h2,h3,h4⟩:=Tm hO s M v _ y e;obtain ⟨M2,k1,k2,k3,k4⟩:=I9 hO l M1 vs f _ h3;refine ⟨M2,h1.trans k1,fun h=>k2 (h2 h),k3,fun g' U' C x hx=>?_⟩;obtain ⟨a,b,rfl,ha,hb⟩:=hx;exact ⟨a,b,rfl,h4 g' U' (C.mono k1) a ha,k4 g' U' C b hb⟩
end
theorem Ja {own:Bool} {aid cy vr V:Nat} {t:Ty} {xs:List t.T} (h0:g'.hd cy 0 []=g.hd aid 0 []) (h1:∀ q,q≠[]→g'.hd cy V q=g.hd aid vr q)
  (h2:∀ b o p,g.lab b o=some (aid,p)→g'.lab b o=some (cy,p)) (h3:∀ b o,g.lab b o=none→g'.lab b o=none)
  (h:eZ g w own aid 0 vr t de [] xs):eZ g' w own cy 0 V t de [] xs:=by
 have R:Ren g g.lab w g' w (fun q=>if q=[] then none else some (aid,q,g.hd aid vr q)) cy V:=by
  refine ⟨fun q id p h hq=>?_,fun q hq hn=>?_,fun q id p h b o hq hl=>?_,fun b o hl v hv=>⟨hv,h3 b o hl⟩⟩
  ·grind
  ·grind
  grind
 unfold eZ at h ⊢;rw [h0];obtain ⟨r1,r2,r3,r4⟩:=h;refine ⟨r1,r2,r3,fun b o hb=>?_⟩;obtain ⟨r5,r6⟩:=r4 b o hb;refine ⟨fun k hk=>?_,fun k hk=>?_⟩
 ·grind
 exact Bz R t [] k 0 _ _ b _ (fun _ _=>rfl) (pW (fun _ _ h=>h) t [] [] k 0 k 0 _ b _ (fun _ d s hd=>by simp) (r6 k hk))
theorem abq (hO:fA g w U st) {k aid d:Nat} {o:dL} (bQ:st.obj aid=some o) (aG:aid≠db):∀ (s:lI) {r:Type} (M:Mp) (f:Mp→Option r) (y:s.LT r),look M k=some (aid,d)→
  CZ st s M d o f=some y→DK st g w U nm vr M f (oO nm vr s y).2 (fun g' U'=>fy g' w U' (nm k) (oO nm vr s y).1):=by
 intro s r M f y hM e;obtain ⟨-,hR⟩:=hO aid o bQ;cases s with
 | row own t=>
  cases o with
  | row o u vr xs=>
   replace e:(match LQ own o&&aT d 0 with
    | true=>(match Ty.cast (.sl u) (.sl t) xs with | some ys=>(match f M with | some r=>some (ys,r) | none=>none) | none=>none)
    | false=>none)=some y:=e
   split at e
   ·rename_i hk;simp only [aB,td] at hk;obtain ⟨hk,rfl⟩:=hk;have ho:own=o:=by cases own<;>cases o<;>first | rfl | simp [LQ] at hk
    subst ho;split at e
    ·rename_i ys hc;split at e
     ·rename_i z hz;obtain rfl:=aZ e;obtain ⟨he,hh⟩:=nO hc;subst he;obtain rfl:=eq_of_heq hh;refine ⟨M,.refl _,fun h=>h,hz,fun g' U' C=>⟨C.u0,C.uv,Ja (aid:=aid) (vr:=vr) ?_ ?_ (fun b o p hl=>C.lab _ _ _ _ _ _ hM aG hl) C.sh hR.2.2⟩⟩
      ·rw [(C.name _ _ _ hM).2]; simp [ei,aG]
      intro q hq;rw [C.q_ _ _ _ _ hM hq]; simp [qZ,bQ]
     grind
    grind
   grind
  | cells ro cs=>
   replace e:(match aT d t.size with
    | true=>(match takeN st own 50 t (cs.length / t.size) cs with | some (xs,[])=>(match f M with | some r=>some (xs,r) | none=>none) | _=>none)
    | false=>none)=some y:=e
   split at e
   ·rename_i hk;obtain rfl:=bB hk;split at e
    ·rename_i xs ht;split at e
     ·rename_i z hz;obtain rfl:=aZ e;obtain ⟨u0,b,o,dN,jM⟩:=hR;refine ⟨M,.refl _,fun h=>h,hz,fun g' U' C=>⟨C.u0,C.uv,?_⟩⟩;have hv:gB g w U cs (fun k=>w.cell? (ad b (o+k))):=fun k hk=>by grind
      obtain ⟨-,fx,σ,T⟩:=(Dr hO (L:=g.lab) (fun _ _ h=>h) own 50).2 t _ cs xs [] _ [] 0 hv ht (fun _ id hi=>by grind);have fQ:∀ q,σ q=none:=fun q=>by
       cases h:σ q with
       | none=>rfl
       | some x=>obtain ⟨id,p,h'⟩:=x; exact absurd (T.tk.ids _ _ _ _ h) (by simp)
      have hp:=t.size_pos;have abr:g'.hd (nm k) 0 []=⟨some (b,o),xs.length,xs.length⟩:=by rw [(C.name _ _ _ hM).2];simp only [ei,aG,if_false,show t.size≠0 by omega,dN,T.len]
      have R:Ren g g.lab w g' w σ (nm k) vr:=by
       refine ⟨fun q id p h hq=>?_,fun q hq hn=>?_,fun q id p h b o hq hl=>?_,fun b o hl v hv=>⟨hv,C.sh b o hl⟩⟩
       ·grind
       ·rw [C.q_ _ _ _ _ hM hq,if_neg (by omega)]
       grind
      unfold eZ;rw [abr];refine ⟨rfl,cx _,by simp,fun b' o' hb=>?_⟩;simp only [aN,bS] at hb;obtain ⟨rfl,rfl⟩:=hb;refine ⟨fun m hm=>?_,fun m hm=>?_⟩
      ·have hm:m<cs.length:=by rw [fx,← T.len]; exact hm
       obtain ⟨h1,h2,v,h3,-⟩:=jM m hm;exact ⟨C.lab _ _ _ _ _ _ hM aG h1,by grind,h2⟩
      have:=T.ow m hm;rw [Nat.zero_add] at this;exact Bz R t [] m 0 _ _ b _ (fun d hd=>by grind) this
     grind
    grind
   grind
  | oM t vr xs i j=>exact absurd (show none=some _ from e) (by simp)
 | cells ro l=>
  cases o with
  | cells ro' cs=>
   replace e:(match aT d 0 with | true=>tr st l M cs f | false=>none)=some y:=e;split at e
   ·rename_i hk;obtain rfl:=bB hk;obtain ⟨M',h1,h2,h3,h4⟩:=I9 (nm:=nm) (vr:=vr) hO l M cs f y e;refine ⟨M',h1,h2,h3,fun g' U' C=>⟨C.u0,?_⟩⟩;obtain ⟨u0,b,o,dN,jM⟩:=hR;have Tn:=h1 _ _ hM;have fj:cz g w U cs ((List.range cs.length).map fun k=>(w.cell? (ad b (o+k))).getD undef):=by refine wE (by simp) (fun k hk cO=>?_);obtain ⟨-,-,v,h5,h6⟩:=jM k hk;simp [h5]; exact h6
    have Jb:=h4 g' U' C _ fj;have hlen:=mU Jb;simp only [List.length_map,List.length_range] at hlen;refine ⟨b,o,?_,fun k hk=>?_⟩
    ·rw [(C.name _ _ _ Tn).2];simp only [ei,aG,if_false,if_true,dN,hlen]
    have cO:k<cs.length:=by rw [hlen]; exact hk
    obtain ⟨h5,h6,v,h7,h8⟩:=jM k cO;refine ⟨C.lab _ _ _ _ _ _ Tn aG h5,h6,v,h7,?_⟩;obtain ⟨x,hx,hr⟩:=mi Jb k hk
    grind
   grind
  | row o u vr xs=>exact absurd (show none=some _ from e) (by simp)
  | oM t vr xs i j=>exact absurd (show none=some _ from e) (by simp)
end
end Go.Am
namespace Go.Am
open Go
section
variable {g g':Gh} {w:World} {U U':Nat→Prop} {st:St} {nm:Nat→Nat} {vr nx:Nat} {a:Act}
theorem Jc (hO:fA g w U st) (hE:∀ t v,look st.env t=some v→aV g w U v (a.eval (.tmp t))):∀ (l:List (Nat×cF)) {r:Type} (M:Mp) (f:Mp→Option r) (y:uT l r),C_ st l M f=some y→
  DK st g w U nm vr M f (dj nm vr l y).2 (fun g' U'=>∀ t v,look (dj nm vr l y).1 t=some v→aV g' w U' v (a.eval (.tmp t)))
 | [],r,M,f,y,e=>.same e (fun g' U' C t v h=>by simp [dj,look] at h)
 | (i,s)::l,r,M,f,y,e=>by
  replace e:(match look st.env i with | some v=>reify st s M v (fun M=>C_ st l M f) | none=>none)=some y:=e;split at e
  ·rename_i v hv;obtain ⟨M1,h1,h2,h3,h4⟩:=Tm (nm:=nm) (vr:=vr) hO s M v _ y e;obtain ⟨M2,k1,k2,k3,k4⟩:=Jc hO hE l M1 f _ h3;refine ⟨M2,h1.trans k1,fun h=>k2 (h2 h),k3,fun g' U' C t x hx=>?_⟩;replace hx:look ((i,(reflect nm vr s y).1)::(dj nm vr l (reflect nm vr s y).2).1) t=some x:=hx;rw [dQ] at hx;split at hx
   ·rename_i he;subst he;simp only [aN] at hx;subst hx;exact h4 g' U' (C.mono k1) _ (hE _ _ hv)
   grind
  grind
theorem DL:∀ (l:List (Nat×lI)) {r:Type} (y:wk l r) (id:Nat) (o:Option dL),look (fm nm vr l y).1 id=some o→∃ p∈l,id=nm p.1∧o.isSome=true
 | [],r,y,id,o,h=>by simp [fm,look] at h
 | (i,s)::l,r,y,id,o,h=>by
  replace h:look ((nm i,some (oO nm vr s y).1)::(fm nm vr l (oO nm vr s y).2).1) id=some o:=h;rw [dQ] at h;split at h
  ·rename_i he;simp only [aN] at h;exact ⟨(i,s),by simp,he.symm,by grind⟩
  obtain ⟨p,h1,h2⟩:=DL l _ id o h
  grind
theorem MM:∀ (l:List (Nat×cF)) {r:Type} (y:uT l r) (t:Nat),(∀ p∈l,p.1≠t)→look (dj nm vr l y).1 t=none
 | [],r,y,t,h=>rfl
 | (i,s)::l,r,y,t,h=>by show look ((i,(reflect nm vr s y).1)::(dj nm vr l (reflect nm vr s y).2).1) t=none;rw [dQ,if_neg (h (i,s) (by simp))];exact MM l _ t (fun p hp=>h p (by grind))
theorem FJ (hO:fA g w U st):∀ (l:List (Nat×lI)) {r:Type} (M:Mp) (f:Mp→Option r) (y:wk l r),rU st l M f=some y→
  ∃ M',Sub M M'∧(lN M→lN M')∧f M'=some (fm nm vr l y).2∧(∀ p∈l,∃ a d,look M' p.1=some (a,d)∧(a=db∨st.obj a≠none))∧
   ∀ g' U',Cons st nm vr M' g g' U'→∀ id o,look (fm nm vr l y).1 id=some (some o)→U' (id / 1024)∧fy g' w U' id o
 | [],r,M,f,y,e=>⟨M,.refl _,fun h=>h,e,by simp,fun g' U' C id o h=>by simp [fm,look] at h⟩
 | (i,s)::l,r,M,f,y,e=>by
  replace e:(match look M i with
   | some a=>(match aT a.1 db with
    | true=>RV s (rU st l M f)
    | false=>(match st.obj a.1 with
     | some o=>CZ st s M a.2 o (fun M=>rU st l M f)
     | none=>none))
   | none=>(match lD M i (i*1024) 0,st.obj (i*1024) with
    | some M,some o=>CZ st s M 0 o (fun M=>rU st l M f)
    | _,_=>none))=some y:=e
  have go:∀ (M0:Mp) (a d:Nat) (o:dL),look M0 i=some (a,d)→a≠db→st.obj a=some o→CZ st s M0 d o (fun M=>rU st l M f)=some y→
    ∃ M',Sub M0 M'∧(lN M0→lN M')∧f M'=some (fm nm vr ((i,s)::l) y).2∧(∀ p∈(i,s)::l,∃ a d,look M' p.1=some (a,d)∧(a=db∨st.obj a≠none))∧
     ∀ g' U',Cons st nm vr M' g g' U'→∀ id o,look (fm nm vr ((i,s)::l) y).1 id=some (some o)→U' (id / 1024)∧fy g' w U' id o:=by
   intro M0 a d o hM aG bQ e;obtain ⟨M1,h1,h2,h3,h4⟩:=abq (nm:=nm) (vr:=vr) hO bQ aG s M0 _ y hM e;obtain ⟨M2,k1,k2,k3,k4,k5⟩:=FJ hO l M1 f _ h3;refine ⟨M2,h1.trans k1,fun h=>k2 (h2 h),k3,?_,fun g' U' C id o' h=>?_⟩
   ·intro p hp;rcases gC.1 hp with rfl | hp
    ·exact ⟨a,d,k1 _ _ (h1 _ _ hM),.inr (by grind)⟩
    grind
   replace h:look ((nm i,some (oO nm vr s y).1)::(fm nm vr l (oO nm vr s y).2).1) id=some (some o'):=h;rw [dQ] at h;split at h
   ·rename_i he;subst he;simp only [aN] at h;subst h;exact ⟨(C.name _ _ _ (k1 _ _ (h1 _ _ hM))).1,h4 g' U' (C.mono k1)⟩
   grind
  split at e
  ·rename_i ad hM;obtain ⟨aid,d⟩:=ad;simp only at e;split at e
   ·rename_i hn;obtain rfl:=bB hn;cases s with
    | cells ro l'=>exact absurd (show none=some _ from e) (by simp)
    | row own t=>
     cases hz:rU st l M f with
     | none=>rw [hz] at e; exact absurd (show none=some _ from e) (by simp)
     | some z=>
      rw [hz] at e;replace e:some (([]:List t.T),z)=some y:=e;obtain rfl:=aZ e;obtain ⟨M2,k1,k2,k3,k4,k5⟩:=FJ hO l M f z hz;refine ⟨M2,k1,k2,k3,?_,fun g' U' C id o' h=>?_⟩
      ·intro p hp;rcases gC.1 hp with rfl | hp
       ·exact ⟨_,_,k1 _ _ hM,.inl rfl⟩
       grind
      replace h:look ((nm i,some (.row own t vr ([]:List t.T)))::(fm nm vr l z).1) id=some (some o'):=h;rw [dQ] at h;split at h
      ·rename_i he;subst he;simp only [aN] at h;subst h;obtain ⟨c1,c2⟩:=C.name _ _ _ (k1 _ _ hM);refine ⟨c1,C.u0,C.uv,?_⟩;unfold eZ;rw [c2];exact ⟨rfl,cx _,fun _=>rfl,fun b o hb=>by simp [ei,eh] at hb⟩
      grind
   rename_i hn;have aG:aid≠db:=fun h=>by simp_all
   grind
  rename_i hM;cases hb:lD M i (i*1024) 0 with
  | none=>grind
  | some M0=>cases bQ:st.obj (i*1024) with
   | none=>grind
   | some o=>
    rw [hb,bQ] at e;obtain ⟨b1,b2,b3,b4⟩:=zc hb;obtain ⟨M2,k1,k2,k3⟩:=go M0 _ 0 o b2 b3 bQ e;exact ⟨M2,b1.trans k1,fun h=>k2 (b4 h),k3⟩
structure Fit (la:LA) (st:St) (h:List Nat) (M:Mp):Prop where
 inj:lN M
 par:∀ k a d,look M k=some (a,d)→k<1000→k<19∧a=k*1024∧d=0
 mem:∀ k a d,look M k=some (a,d)→∃ q∈la.bb,q.1=k
 held:∀ k a d,look M k=some (a,d)→a∉h
 ex:∀ k a d,look M k=some (a,d)→a=db∨st.obj a≠none
 all:∀ p∈la.bb,∃ a d,look M p.1=some (a,d)
theorem any_beq {l:List Nat} {a:Nat} : l.any (aT a)=true↔a∈l:=by simp_all
theorem abt (hO:fA g w U st) (hE:∀ t v,look st.env t=some v→aV g w U v (a.eval (.tmp t))) {la:LA} {head:St} {y:la.LT} (e:la.read head st=some y) :
  ∃ M,Fit la st (la.held head) M∧∀ g' U',Cons st nm vr M g g' U'→
   (∀ t v,look (dj nm vr la.cH y).1 t=some v→aV g' w U' v (a.eval (.tmp t)))∧
   (∀ id o,look (fm nm vr la.bb (dj nm vr la.cH y).2).1 id=some (some o)→U' (id / 1024)∧fy g' w U' id o):=by
 obtain ⟨M1,h1,h2,h3,h4⟩:=Jc (nm:=nm) (vr:=vr) hO hE la.cH [] _ y e;obtain ⟨M2,k1,k2,k3,k4,k5⟩:=FJ (nm:=nm) (vr:=vr) hO la.bb M1 _ _ h3;unfold LA.fit at k3;split at k3
 ·rename_i hf;have hf:=iy.1 hf;have i0:lN []:=fun _ _ _ _ _ h=>by simp [look] at h
  refine ⟨M2,⟨k2 (h2 i0),fun k a d hk aF=>?_,fun k a d hk=>?_,fun k a d hk=>?_,fun k a d hk=>?_,fun p hp=>?_⟩,fun g' U' C=>⟨h4 g' U' (C.mono k1),k5 g' U' C⟩⟩
  ·have:=hf _ (kJ hk);simp only [aB] at this;have h1:=this.1.1;have hb:cS k 1000=true:=by simpa using aF
   simp_all
  ·have:=hf _ (kJ hk);simp_all
  ·have:=hf _ (kJ hk);simp only [aB] at this;have h1:=this.2;intro hm;rw [any_beq.2 hm] at h1
   grind
  ·have:=hf _ (kJ hk);simp only [aB] at this;obtain ⟨q,h1,h2⟩:=y8.1 this.1.2;obtain ⟨a',d',h3,h4⟩:=k4 q h1;simp_all
  grind
 grind
theorem BQ (nx k:Nat):cu nx k / 1024=if k<1000 then k else nx+(k-1000):=by
 unfold cu;by_cases h:k<1000
 ·have:cS k 1000=true:=by simpa using h
  grind
 have:cS k 1000=false:=by rw [← Bool.not_eq_true]; intro hh; exact h (by simp_all)
 grind
theorem MN {nx k:Nat} (h:k<1000):cu nx k=k*1024:=by
 unfold cu;have:cS k 1000=true:=by simpa using h
 grind
theorem To {nx k l:Nat} (hn:20≤nx) (hk:k<1000→k<19) (hl:l<1000→l<19) (h:cu nx k=cu nx l):k=l:=by
 have e:cu nx k / 1024=cu nx l / 1024:=by rw [h]
 rw [BQ,BQ] at e
 grind
open Classical in
noncomputable def mY (st:St) (nx:Nat) (M:Mp) (g:Gh):Gh where
 hd id ver p:=if h:ver=0∧∃ q:Nat×Nat×Nat,look M q.1=some q.2∧id=cu nx q.1 then
   (if p=[] then ei g h.2.choose.2.1 h.2.choose.2.2 else if h.2.choose.2.2=0 then g.hd h.2.choose.2.1 (qZ st h.2.choose.2.1) p else eh)
  else g.hd id ver p
 lab b o:=match g.lab b o with
  | none=>none
  | some (id,p)=>if h:∃ k d,look M k=some (id,d)∧id≠db then some (cu nx h.choose,p) else some (id,p)
section
variable {M:Mp} {la:LA} {h:List Nat}
theorem MO (F:Fit la st h M) (hn:20≤nx) {k a d:Nat} (hk:look M k=some (a,d)) (p:Path) :
  (mY st nx M g).hd (cu nx k) 0 p=if p=[] then ei g a d else if d=0 then g.hd a (qZ st a) p else eh:=by
 have hex:(0:Nat)=0∧∃ q:Nat×Nat×Nat,look M q.1=some q.2∧cu nx k=cu nx q.1:=⟨rfl,(k,a,d),hk,rfl⟩
 simp only [mY,dif_pos hex];have hs:=hex.2.choose_spec;have e:hex.2.choose=(k,a,d):=by generalize hex.2.choose=q at hs;obtain ⟨k',a',d'⟩:=q;have e:=To hn (fun hl=>(F.par _ _ _ hk hl).1) (fun hl=>(F.par _ _ _ hs.1 hl).1) hs.2;subst e;have h1:=hs.1;simp only [hk,aN] at h1;rw [h1]
 rw [e]
theorem Tp {id ver:Nat} (aG:∀ k a d,look M k=some (a,d)→id≠cu nx k) (p:Path):(mY st nx M g).hd id ver p=g.hd id ver p:=by
 simp only [mY]
 grind
theorem Tq {b o:Nat} (hl:g.lab b o=none):(mY st nx M g).lab b o=none:=by simp [mY,hl]
theorem abu (F:Fit la st h M) {k a d b o:Nat} {p:Path} (hk:look M k=some (a,d)) (aG:a≠db) (hl:g.lab b o=some (a,p)):(mY st nx M g).lab b o=some (cu nx k,p):=by
 have hex:∃ k d,look M k=some (a,d)∧a≠db:=⟨k,d,hk,aG⟩
 simp only [mY,hl,dif_pos hex];obtain ⟨d',h1,h2⟩:=hex.choose_spec;rw [F.inj _ _ _ _ _ h1 hk aG]
theorem Tr {b o id:Nat} {p:Path} (hl:g.lab b o=some (id,p)) (tc:∀ k d,look M k=some (id,d)→id=db):(mY st nx M g).lab b o=some (id,p):=by
 simp only [mY,hl]
 grind
theorem Ts {b o:Nat} {id:Nat} {p:Path} (hl:(mY st nx M g).lab b o=some (id,p)) :
  g.lab b o=some (id,p)∨∃ k a d,look M k=some (a,d)∧a≠db∧g.lab b o=some (a,p)∧id=cu nx k:=by
 simp only [mY] at hl;split at hl
 ·grind
 rename_i he;split at hl
 ·grind
 grind
theorem abv (F:Fit la st h M) (hn:20≤nx) {U':Nat→Prop} (h0:U' 0) (hU:∀ k a d,look M k=some (a,d)→U' (cu nx k / 1024)):Cons st (cu nx) 0 M g (mY st nx M g) U':=
 ⟨fun k a d hk=>⟨hU k a d hk,by rw [MO F hn hk,if_pos rfl]⟩,h0,h0,fun b o hl=>Tq hl,fun k a d b o p hk aG hl=>abu F hk aG hl,
  fun k a d q hk hq=>by rw [MO F hn hk,if_neg hq]⟩
end
end
end Go.Am
namespace Go.Am
open Go
section
variable {g0 g g':Gh} {w0 w:World} {U0 U U':Nat→Prop}
theorem Jd {id ver:Nat} (h0:∀ p,g'.hd id 0 p=g.hd id 0 p) (h1:∀ p,g'.hd id ver p=g.hd id ver p):∀ (q pre:Path),kp g id ver pre q→kp g' id ver pre q
 | [],_,_=>trivial
 | (i,j)::q,pre,h=>by
  refine ⟨?_,Jd h0 h1 q _ h.2⟩;have:g'.hd id (ko pre ver) pre=g.hd id (ko pre ver) pre:=by cases pre with | nil=>exact h0 _ | cons=>exact h1 _
  rw [this];exact h.1
mutual
theorem Je (e_:∀ s,U0 s→U' s) (ji:∀ b o,g.lab b o=none→g'.lab b o=none):∀ (v:ah),(∀ id∈v.ids,∀ ver p,U0 (id / 1024)→U0 ver→g'.hd id ver p=g.hd id ver p)→
  ∀ x0 x,aV g0 w0 U0 v x0→aV g w U v x→aV g' w U' v x
 | .undef,_,_,_,_,_=>trivial
 | .int _ _,_,_,_,_,h=>h
 | .bool _,_,_,_,_,h=>h
 | .str _,_,_,_,_,h=>h
 | .err _,_,_,_,_,h=>h
 | .agg cs,hi,_,_,h0,h=>let ⟨l0,_,r0⟩:=h0; let ⟨l,e,r⟩:=h; ⟨l,e,Jf e_ ji cs hi l0 l r0 r⟩
 | .gX cs,hi,_,_,h0,h=>let ⟨l0,_,r0⟩:=h0; let ⟨l,e,r⟩:=h; ⟨l,e,Jf e_ ji cs hi l0 l r0 r⟩
 | .nil,_,_,_,_,h=>h
 | .sh t _,_,_,_,_,h=>iI (gq (fun b o hl v hv=>⟨hv,ji b o hl⟩) t) h
 | .dn t _,_,_,_,_,h=>⟨iI (gq (fun b o hl v hv=>⟨hv,ji b o hl⟩) t) h.1,h.2⟩
 | .gp t x _,_,_,_,_,h=>let ⟨b,o,e,r⟩:=h; ⟨b,o,e,gq (fun b o hl v hv=>⟨hv,ji b o hl⟩) t x b o r⟩
 | .own id ver p _,hi,_,_,h0,h=>by obtain ⟨a1,a2,a3,-⟩:=h0;obtain ⟨h1,h2,h0,hp,h3,h4⟩:=h;have e0:=fun p=>hi id (by simp [ah.ids]) 0 p a1 a3;have e1:=fun p=>hi id (by simp [ah.ids]) ver p a1 a2;exact ⟨e_ _ a1,e_ _ a2,e_ _ a3,Jd e0 e1 _ _ hp,h3,by grind⟩
 | .fS id ver p t off len,hi,_,_,h0,h=>by obtain ⟨a1,a2,a3,-⟩:=h0;obtain ⟨h1,h2,h0,hp,h3,h4⟩:=h;have e0:=fun p=>hi id (by simp [ah.ids]) 0 p a1 a3;have e1:=fun p=>hi id (by simp [ah.ids]) ver p a1 a2;exact ⟨e_ _ a1,e_ _ a2,e_ _ a3,Jd e0 e1 _ _ hp,h3,by grind⟩
 | .fl id ver p t i j,hi,_,_,h0,h=>by obtain ⟨a1,a2,a3,-⟩:=h0;obtain ⟨h1,h2,h0,hp,h3,h4⟩:=h;have e0:=fun p=>hi id (by simp [ah.ids]) 0 p a1 a3;have e1:=fun p=>hi id (by simp [ah.ids]) ver p a1 a2;exact ⟨e_ _ a1,e_ _ a2,e_ _ a3,Jd e0 e1 _ _ hp,h3,by grind⟩
 | .bt id j,hi,_,_,h0,h=>by obtain ⟨a1,a3,-⟩:=h0;obtain ⟨h1,h2,h3⟩:=h;exact ⟨e_ _ a1,e_ _ a3,by rw [hi id (by simp [ah.ids]) 0 _ a1 a3]; exact h3⟩
 | .fJ id off len sz,hi,_,_,h0,h=>by obtain ⟨a1,a3,-⟩:=h0;obtain ⟨h1,h2,h3⟩:=h;exact ⟨e_ _ a1,e_ _ a3,by rw [hi id (by simp [ah.ids]) 0 _ a1 a3]; exact h3⟩
 | .fn _ cs,hi,_,_,h0,h=>let ⟨l0,_,r0⟩:=h0; let ⟨l,e,r⟩:=h; ⟨l,e,Jf e_ ji cs hi l0 l r0 r⟩
 | .tj,_,_,_,_,h=>h
 | .uS,_,_,_,_,h=>h
theorem Jf (e_:∀ s,U0 s→U' s) (ji:∀ b o,g.lab b o=none→g'.lab b o=none):∀ (vs:List ah),(∀ id∈ah.ids.iz vs,∀ ver p,U0 (id / 1024)→U0 ver→g'.hd id ver p=g.hd id ver p)→
  ∀ l0 l,cz g0 w0 U0 vs l0→cz g w U vs l→cz g' w U' vs l
 | [],_,_,_,_,h=>h
 | v::vs,hi,_,_,h0,h=>by obtain ⟨x0,r0,-,a0,b0⟩:=h0;obtain ⟨x,r,e,a,b⟩:=h;exact ⟨x,r,e,Je e_ ji v (fun id h=>hi id (by simp [ah.ids.iz,h])) x0 x a0 a,Jf e_ ji vs (fun id h=>hi id (by simp [ah.ids.iz,h])) r0 r b0 b⟩
end
theorem abw (e_:∀ s,U0 s→U' s) (ji:∀ b o,g.lab b o=none→g'.lab b o=none) {id:Nat} (hu:U0 (id / 1024)) (dN:∀ ver p,U0 ver→g'.hd id ver p=g.hd id ver p)
  (dr:∀ b o p,g.lab b o=some (id,p)→g'.lab b o=some (id,p)) {ob:dL} (hb:∀ t vr xs i j,ob≠.oM t vr xs i j)
  (hi:∀ ro cs,ob = .cells ro cs→∀ id∈ah.ids.iz cs,∀ ver p,U0 (id / 1024)→U0 ver→g'.hd id ver p=g.hd id ver p)
  (h0:fy g0 w0 U0 id ob) (h:fy g w U id ob):fy g' w U' id ob:=by
 cases ob with
 | cells ro cs=>
  obtain ⟨a0,b0,o0,hh0,yB⟩:=h0;obtain ⟨a1,b,o,hh,hc⟩:=h;refine ⟨e_ _ a0,b,o,by rw [dN _ _ a0]; exact hh,fun k hk=>?_⟩;obtain ⟨-,-,v0,-,r0⟩:=yB k hk;obtain ⟨c1,c2,v,c3,r⟩:=hc k hk;refine ⟨dr _ _ _ c1,c2,v,c3,Je e_ ji _ (fun aE hid=>hi ro cs rfl aE ?_) v0 v r0 r⟩;clear hc yB hi c1 c2 c3 r r0;induction cs generalizing k with
  | nil=>simp at hk
  | cons c cs ih=>
   cases k with
   | zero=>simp only [Tf] at hid; simp [ah.ids.iz,hid]
   | succ k=>
    simp only [FI] at hid;simp only [ah.ids.iz,eF];refine .inr ?_;have cO:k<cs.length:=by simpa using hk
    exact Tt cs k cO hid
 | row own t vr xs=>
  exact ⟨e_ _ h0.1,e_ _ h0.2.1,Ja (dN _ _ h0.1) (fun q _=>dN _ _ h0.2.1) dr ji h.2.2⟩
 | oM t vr xs i j=>exact absurd rfl (hb t vr xs i j)
 where Tt:∀ (cs:List ah) (k:Nat) (hk:k<cs.length) {id:Nat},id∈cs[k].ids→id∈ah.ids.iz cs
 | [],k,hk,_,h=>by simp at hk
 | c::cs,0,hk,_,h=>by simp only [Tf] at h; simp [ah.ids.iz,h]
 | c::cs,k+1,hk,_,h=>by simp only [FI] at h;simp only [ah.ids.iz,eF];exact .inr (Tt cs k (by simpa using hk) h)
end
structure Ext (g:Gh) (U:Nat→Prop) (st:St) (g':Gh) (U':Nat→Prop) (st':St):Prop where
 sub:∀ s,U s→U' s
 nxt:st.nxt≤st'.nxt
 env:∃ l,st'.et=l++st.et∧∀ t,t∉l→look st'.env t=none∨look st'.env t=look st.env t
 obj:∃ l,st'.ht=l++st.ht∧∀ id,id∉l→st'.obj id=none∨(st'.obj id=st.obj id∧∀ ver p,U (id / 1024)→U ver→g'.hd id ver p=g.hd id ver p)
 par:∀ n,n / 1024<19→U (n / 1024)→g'.hd n 0 []=g.hd n 0 []
theorem Ext.refl (g:Gh) (U:Nat→Prop) (st:St):Ext g U st g U st:=
 ⟨fun _ h=>h,cx _,⟨[],rfl,fun _ _=>.inr rfl⟩,⟨[],rfl,fun _ _=>.inr ⟨rfl,fun _ _ _ _=>rfl⟩⟩,fun _ _ _=>rfl⟩
theorem Ext.trans {g1 g2 g3:Gh} {U1 U2 U3:Nat→Prop} {s1 s2 s3:St} (h:Ext g1 U1 s1 g2 U2 s2) (h':Ext g2 U2 s2 g3 U3 s3):Ext g1 U1 s1 g3 U3 s3:=by
 obtain ⟨l,e1,e2⟩:=h.env;obtain ⟨l',e3,e4⟩:=h'.env;obtain ⟨m,o1,o2⟩:=h.obj;obtain ⟨m',o3,o4⟩:=h'.obj;refine ⟨fun s hs=>h'.sub s (h.sub s hs),Nat.le_trans h.nxt h'.nxt,⟨l'++l,by grind,fun t ht=>?_⟩,⟨m'++m,by grind,fun id hid=>?_⟩,
  fun i h1 h2=>by rw [h'.par i h1 (h.sub _ h2),h.par i h1 h2]⟩
 ·grind
 simp only [eF,not_or] at hid;rcases o4 id hid.1 with h1 | ⟨h1,h3⟩
 ·grind
 rcases o2 id hid.2 with h2 | ⟨h2,h4⟩
 ·grind
 exact .inr ⟨by grind,fun ver p a1 a2=>by rw [h3 ver p (h.sub _ a1) (h.sub _ a2),h4 ver p a1 a2]⟩
theorem FK {α:Type} : ∀ {l:List (Nat×α)} {k:Nat},k∉l.map (·.1)→look l k=none
 | [],_,_=>rfl
 | (a,b)::l,k,h=>by simp only [List.map_cons,gC,not_or] at h;rw [dQ,if_neg (fun e=>h.1 e.symm)];exact FK h.2
theorem Ext.put {g g':Gh} {U U':Nat→Prop} {st:St} {w w':World} {e:cK} {v:Value} (d:Option Nat) (Q:dP g w U st.nxt e v w' g' U') (jX:U 0):Ext g U st g' U' (st.put d e):=by
 refine ⟨Q.jg.sub,Nat.le_succ _,⟨match d with | some x=>[x] | none=>[],by cases d<;>rfl,fun t ht=>?_⟩,⟨e.bb.map (·.1),rfl,fun id hid=>.inr ⟨?_,fun ver p a1 a2=>Q.jg.hd _ _ _ a1 a2⟩⟩,
  fun i h1 h2=>Q.jg.hd _ _ _ h2 jX⟩
 ·cases d with
  | none=>exact .inr rfl
  | some x=>
   simp only [List.mem_singleton] at ht;refine .inr ?_;simp only [St.put];rw [dQ,if_neg (fun e=>ht e.symm)]
 unfold St.obj St.put;simp only [iU,FK hid]
theorem Ext.BP {g:Gh} {U:Nat→Prop} {st:St} {d:Nat} {x:ah} : Ext g U st g U (st.put (some d) ⟨x,[]⟩):=by refine ⟨fun _ h=>h,Nat.le_succ _,⟨[d],rfl,fun t ht=>?_⟩,⟨[],rfl,fun id hid=>.inr ⟨rfl,fun _ _ _ _=>rfl⟩⟩,fun _ _ _=>rfl⟩;simp only [List.mem_singleton] at ht;refine .inr ?_;simp only [St.put];rw [dQ,if_neg (fun e=>ht e.symm)]
structure zd (la:LA) (g0:Gh) (U0:Nat→Prop) (st0:St) (g:Gh) (st:St):Prop where
 env:∀ i∈la.iG,∀ v,look st0.env i=some v→look st.env i=some v
 obj:∀ id∈la.held st0,∀ o,st0.obj id=some o→st.obj id=some o
 FL:∀ id∈la.held st0,∀ ver p,U0 (id / 1024)→U0 ver→g.hd id ver p=g0.hd id ver p
 par:∀ n,n / 1024<19→U0 (n / 1024)→g.hd n 0 []=g0.hd n 0 []
theorem zd.refl (la:LA) (g:Gh) (U:Nat→Prop) (st:St):zd la g U st g st:=⟨fun _ _ _ h=>h,fun _ _ _ h=>h,fun _ _ _ _ _ _=>rfl,fun _ _ _=>rfl⟩
theorem MP {names:List Nat} : ∀ (l m:List Nat),front names l.length (l++m)=true→∀ i∈names,i∉l
 | [],m,h,i,hi=>by simp
 | x::l,m,h,i,hi=>by
  simp only [bh,List.cons_append,front,aB] at h;simp only [gC,not_or];refine ⟨fun e=>?_,MP l m h.2 i hi⟩;subst e;have:=h.1;rw [any_beq.2 hi] at this
  grind
theorem zd.of {la:LA} {g0 g1 g:Gh} {U0 U1 U:Nat→Prop} {st0 head st:St} (E1:Ext g0 U0 st0 g1 U1 head) (E2:Ext g1 U1 head g U st)
  (he:∀ i∈la.iG,look head.env i=none∨look head.env i=look st0.env i)
  (ho:∀ id∈la.held st0,head.obj id=none∨(head.obj id=st0.obj id∧∀ ver p,U0 (id / 1024)→U0 ver→g1.hd id ver p=g0.hd id ver p))
  (hh:la.held head=la.held st0) (K:la.kept head st=true):zd la g0 U0 st0 g st:=by
 unfold LA.kept at K;simp only [aB] at K;obtain ⟨⟨⟨k1,k2⟩,k3⟩,k4⟩:=K;obtain ⟨l,e1,e2⟩:=E2.env;obtain ⟨m,o1,o2⟩:=E2.obj;have n1:st.et.length-head.et.length=l.length:=by rw [e1]; simp
 have n2:st.ht.length-head.ht.length=m.length:=by rw [o1]; simp
 rw [n1,e1] at k1;rw [n2,o1,hh] at k2;rw [hh] at k4;have f1:=MP _ _ k1;have f2:=MP _ _ k2;refine ⟨fun i hi v hv=>?_,fun id hid o bQ=>?_,fun id hid ver p u1 u2=>?_,fun i h1 h2=>by rw [E2.par i h1 (E1.sub _ h2),E1.par i h1 h2]⟩
 ·grind
 ·grind
 have hs:=iy.1 k4 id hid;rcases o2 id (f2 id hid) with h1 | ⟨h1,h3⟩
 ·grind
 rcases ho id hid with h2 | ⟨h2,h4⟩
 ·grind
 rw [h3 ver p (E1.sub _ u1) (E1.sub _ u2),h4 ver p u1 u2]
end Go.Am
namespace Go.Am
open Go
theorem DM {st:St} : ∀ (l:List Nat) (t:Nat),look (jf st l) t=if t∈l then look st.env t else none
 | [],t=>by simp [jf,look]
 | i::l,t=>by
  simp only [jf];cases h:look st.env i with
  | none=>
   simp only;rw [DM l t]
   grind
  | some v=>
   simp only;rw [dQ,DM l t]
   grind
theorem BR {st:St} : ∀ (l:List Nat) (id:Nat),(match look (wm st l) id with | some (some o)=>some o | _=>none)=if id∈l then st.obj id else none
 | [],id=>by simp [wm,look]
 | i::l,id=>by
  simp only [wm];have ih:=BR (st:=st) l id;cases h:st.obj i with
  | none=>
   grind
  | some v=>
   simp only;rw [dQ]
   grind
theorem abx {l:List (Nat×ah)} {t:Nat} {v:ah} (h:(t,v)∈l):∀ id∈v.ids,id∈uU l:=by
 induction l with
 | nil=>grind
 | cons a l ih=>
  intro id hid;obtain ⟨k,u⟩:=a;simp only [uU,eF]
  grind
theorem aby {st:St} {l:List Nat} {t:Nat} {v:ah} (ht:t∈l) (h:look st.env t=some v):(t,v)∈jf st l:=by
 induction l with
 | nil=>grind
 | cons a l ih=>
  simp only [jf]
  grind
theorem abz {st:St} {l:List Nat} {id:Nat} {ro:List Bool} {cs:List ah} (hid:id∈l) (h:st.obj id=some (.cells ro cs)):∀ x∈ah.ids.iz cs,x∈mR st l:=by
 induction l with
 | nil=>grind
 | cons a l ih=>
  intro x hx;simp only [mR,eF]
  grind
theorem MQ {st st':St} : ∀ (l:List Nat),(∀ i∈l,st'.obj i=st.obj i)→mR st' l=mR st l
 | [],_=>rfl
 | i::l,h=>by simp only [mR,h i (by simp),MQ l (fun j hj=>h j (by grind))]
theorem Tu {st st':St} : ∀ (l:List Nat),(∀ i∈l,look st'.env i=look st.env i)→jf st' l=jf st l
 | [],_=>rfl
 | i::l,h=>by simp only [jf,h i (by simp),Tu l (fun j hj=>h j (by grind))]
structure wS (la:LA) (st:St):Prop where
 new:∀ p∈la.bb,cu st.nxt p.1∉la.held st
 lt:∀ p∈la.bb,p.1<1000+la.bb.length
 iG:∀ i∈la.iG,∀ p∈la.cH,p.1≠i
 wT:∀ i∈mR st (la.held st),i∈la.held st
 oM:∀ i∈la.held st,∀ t vr xs a b,st.obj i≠some (.oM t vr xs a b)
theorem Jg {la:LA} {st:St} (h:la.apart st=true):wS la st:=by
 unfold LA.apart at h;simp only [aB] at h;obtain ⟨⟨⟨⟨⟨h1,h2⟩,h3⟩,h4⟩,h5⟩,h6⟩:=h;refine ⟨fun p hp hm=>?_,fun p hp=>?_,fun i hi p hp e=>?_,fun i hi=>?_,fun i hi t vr xs a b e=>?_⟩
 ·have:=iy.1 h2 p hp;rw [any_beq.2 hm] at this
  grind
 ·have:=iy.1 h3 p hp;simp_all
 ·have:=iy.1 h4 i hi;have hx:(la.cH.any fun p=>aT p.1 i)=true:=y8.2 ⟨p,hp,by simp_all⟩
  grind
 ·simp_all
 grind
section
variable {w0:World} {F:b9} {N:Nat} {g0 g g':Gh} {w w1:World} {U0 U U':Nat→Prop} {st0 head st:St} {a a0:Act} {la:LA}
theorem MR (x:la.LT) (t:Nat):look (la.mk' st0 x).env t=match look (dj (cu st0.nxt) 0 la.cH x).1 t with | some v=>some v | none=>if t∈la.iG then look st0.env t else none:=by
 show look ((dj (cu st0.nxt) 0 la.cH x).1++jf st0 la.iG) t=_;rw [iU,DM]
 grind
theorem Jh (x:la.LT) (id:Nat):(la.mk' st0 x).obj id=match look (fm (cu st0.nxt) 0 la.bb (dj (cu st0.nxt) 0 la.cH x).2).1 id with
  | some o=>o
  | none=>if id∈la.held st0 then st0.obj id else none:=by
 show (match look ((fm (cu st0.nxt) 0 la.bb (dj (cu st0.nxt) 0 la.cH x).2).1++wm st0 (la.held st0)) id with | some (some o)=>some o | _=>none)=_;rw [iU,← BR];cases h:look (fm (cu st0.nxt) 0 la.bb (dj (cu st0.nxt) 0 la.cH x).2).1 id with
 | none=>rfl
 | some o=>cases o<;>rfl
theorem Tv (A:wS la st0) (x:la.LT) {i:Nat} (hi:i∈la.iG):look (la.mk' st0 x).env i=look st0.env i:=by
 rw [MR,MM _ _ _ (fun p hp=>A.iG i hi p hp)]
 grind
theorem Tw (A:wS la st0) (x:la.LT) {id:Nat} (hid:id∈la.held st0):(la.mk' st0 x).obj id=st0.obj id:=by
 rw [Jh];cases h:look (fm (cu st0.nxt) 0 la.bb (dj (cu st0.nxt) 0 la.cH x).2).1 id with
 | none=>grind
 | some o=>
  obtain ⟨p,hp,e,-⟩:=DL _ _ _ _ h;exact absurd (e▸hid) (A.new p hp)
theorem Tx (A:wS la st0) (x:la.LT):la.held (la.mk' st0 x)=la.held st0:=by
 have e1:jf (la.mk' st0 x) la.iG=jf st0 la.iG:=Tu _ (fun i hi=>Tv A x hi);have e_:∀ i,i∈uU (jf st0 la.iG)++la.Bg.map (· * 1024)→i∈la.held st0:=by intro i hi;unfold LA.held;exact lH _ (lH _ hi)
 have e2:=MQ (st:=st0) (st':=la.mk' st0 x) (uU (jf st0 la.iG)++la.Bg.map (· * 1024)) (fun i hi=>Tw A x (e_ i hi));have abA:∀ i,i∈(uU (jf st0 la.iG)++la.Bg.map (· * 1024))++mR st0 (uU (jf st0 la.iG)++la.Bg.map (· * 1024))→i∈la.held st0:=by intro i hi;unfold LA.held;exact lH _ hi
 have e3:=MQ (st:=st0) (st':=la.mk' st0 x) ((uU (jf st0 la.iG)++la.Bg.map (· * 1024))++mR st0 (uU (jf st0 la.iG)++la.Bg.map (· * 1024))) (fun i hi=>Tw A x (abA i hi));unfold LA.held
 grind
theorem FM (R0:Rel w0 F N g0 U0 st0 a0 w1) (A:wS la st0) (R:Rel w0 F N g U st a w) (K:zd la g0 U0 st0 g st) (hh:la.held head=la.held st0) {y:la.LT} (e:la.read head st=some y) :
  ∃ g' U',Rel w0 F N g' U' (la.mk' st0 y) a w∧Ext g0 U0 st0 g' U' (la.mk' st0 y):=by
 obtain ⟨M,FT,hr⟩:=abt (nm:=cu st0.nxt) (vr:=0) R.heap R.env e;rw [hh] at FT;have hn:20≤st0.nxt:=by have:=R0.used 19 R0.Bu; omega
 let U':Nat→Prop:=fun s=>U0 s∨∃ k a d,look M k=some (a,d)∧s=cu st0.nxt k / 1024
 have C:Cons st (cu st0.nxt) 0 M g (mY st st0.nxt M g) U':=abv FT hn (.inl R0.u0) (fun k a d hk=>.inr ⟨k,a,d,hk,rfl⟩);obtain ⟨hS,hOb⟩:=hr _ U' C;have e_:∀ s,U0 s→U' s:=fun s h=>.inl h;have ji:∀ b o,g.lab b o=none→(mY st st0.nxt M g).lab b o=none:=fun b o h=>Tq h;have abB:∀ k a d,look M k=some (a,d)→cu st0.nxt k∉la.held st0:=by intro k a d hk;obtain ⟨q,h1,h2⟩:=FT.mem k a d hk;rw [← h2]; exact A.new q h1
 have Ji:∀ id∈la.held st0,∀ ver p,U0 (id / 1024)→U0 ver→(mY st st0.nxt M g).hd id ver p=g.hd id ver p:=by intro id hid ver p _ _;exact Tp (fun k a d hk e=>abB k a d hk (e▸hid)) p
 have hdiv:∀ k a d,look M k=some (a,d)→cu st0.nxt k / 1024<st0.nxt+la.bb.length:=by
  intro k a d hk;obtain ⟨q,h1,h2⟩:=FT.mem k a d hk;have:=A.lt q h1;rw [BQ];split
  ·rename_i aF; have:=(FT.par k a d hk aF).1; omega
  omega
 have ah8:∀ k a d,look M k=some (a,d)→cu st0.nxt k / 1024≠19:=by
  intro k a d hk;rw [BQ];split
  ·rename_i aF; have:=(FT.par k a d hk aF).1; omega
  omega
 refine ⟨mY st st0.nxt M g,U',⟨fun t v h=>?_,fun id ob h=>?_,fun s h=>?_,fun b o q h=>?_,fun b o id p hb h=>?_,fun b o id p hf jX=>?_,R.fr,R.defers,R.size,.inl R0.u0,fun s hs=>.inl (R0.nL s hs),fun id h=>?_⟩,
  ⟨e_,Nat.le_add_right _ _,⟨la.cH.map (·.1),rfl,fun t ht=>?_⟩,⟨la.bb.map (fun p=>cu st0.nxt p.1),rfl,fun id hid=>?_⟩,fun i h1 h2=>?_⟩⟩
 ·rw [MR] at h;cases hs:look (dj (cu st0.nxt) 0 la.cH y).1 t with
  | some v'=>
   grind
  | none=>
   rw [hs] at h;simp only at h;split at h
   ·rename_i hk;have h1:=K.env t hk v h;refine Je e_ ji v (fun id hid=>Ji id ?_) _ _ (R0.env t v h) (R.env t v h1);unfold LA.held;refine lH _ (lH _ (lH _ (abx (aby hk h) id hid)))
   grind
 ·rw [Jh] at h;cases hs:look (fm (cu st0.nxt) 0 la.bb (dj (cu st0.nxt) 0 la.cH y).2).1 id with
  | some vg=>
   grind
  | none=>
   rw [hs] at h;simp only at h;split at h
   ·rename_i hid;obtain ⟨u0,r0⟩:=R0.heap id ob h;obtain ⟨-,r1⟩:=R.heap id ob (K.obj id hid ob h);refine ⟨e_ _ u0,abw e_ ji u0 (fun ver p hv=>Ji id hid ver p u0 hv) (fun b o p hl=>Tr hl (fun k d hk=>?_)) (fun t vr xs i j e=>A.oM id hid t vr xs i j (by grind))
     (fun ro cs e aE abC ver p h1 h2=>Ji aE (A.wT aE (abz hid (by rw [h,e]) aE abC)) ver p h1 h2) r0 r1⟩
    exact absurd hid (FT.held k id d hk)
   grind
 ·show s<st0.nxt+la.bb.length;rcases h with h | ⟨k,a,d,hk,rfl⟩
  ·have:=R0.used s h; omega
  grind
 ·obtain ⟨id,p⟩:=q;rcases Ts h with h | ⟨k,a,d,hk,aG,h,-⟩
  ·exact R.cm _ _ _ h
  exact R.cm _ _ _ h
 ·rcases Ts h with h | ⟨k,a,d,hk,aG,h,-⟩
  ·exact R.cI b o id p hb h
  refine .inr ((R.cI b o a p hb h).resolve_left (fun hh=>?_));exact R.nf a ((FT.ex k a d hk).resolve_left aG) hh.1
 ·refine Tr (R.oQ b o id p hf jX) (fun k d hk=>?_);rcases FT.ex k id d hk with hx | hx
  ·exact hx
  exact absurd jX (R.nf id hx)
 ·rw [Jh] at h;cases hs:look (fm (cu st0.nxt) 0 la.bb (dj (cu st0.nxt) 0 la.cH y).2).1 id with
  | some vg=>
   obtain ⟨p,hp,e,-⟩:=DL _ _ _ _ hs;obtain ⟨a',d',hk⟩:=FT.all p hp
   grind
  | none=>
   rw [hs] at h;simp only at h;split at h
   ·exact R0.nf id h
   grind
 ·rw [MR,MM _ _ _ (fun p hp e=>ht (kE.2 ⟨p,hp,e⟩))]
  grind
 ·rw [Jh];cases hs:look (fm (cu st0.nxt) 0 la.bb (dj (cu st0.nxt) 0 la.cH y).2).1 id with
  | some vg=>
   obtain ⟨p,hp,e,-⟩:=DL _ _ _ _ hs
   grind
  | none=>
   simp only;split
   ·rename_i hm;exact .inr ⟨rfl,fun ver p u1 u2=>by rw [Ji id hm ver p u1 u2,K.FL id hm ver p u1 u2]⟩
   grind
 by_cases hk:∃ k a d,look M k=some (a,d)∧i=cu st0.nxt k
 ·obtain ⟨k,a',d',hk,rfl⟩:=hk;have MS:k<1000:=by rw [BQ] at h1;split at h1<;>omega
  obtain ⟨p1,p2,p3⟩:=FT.par k a' d' hk MS;have:=MO (g:=g) (st:=st) FT hn hk [];rw [if_pos rfl] at this;rw [this,p2,p3,MN MS];have aG:k*1024≠db:=by unfold db; omega
  simp only [ei,aG,if_false,if_true];rw [MN MS] at h1 h2;exact K.par _ h1 h2
 rw [Tp,K.par i h1 h2]
 grind
end
end Go.Am
namespace Go.Am
open Go
section
variable {P:Program} {c:bd} {w0:World} {F:b9} {N:Nat} {g g':Gh} {w w':World} {U U':Nat→Prop} {st:St} {a:Act}
theorem Jj (H:zb P c) (hc:gb P c) (hG:Gl P F w0) {ops:Array Oper} (hN:∀ o∈ops.toList,∀ x,o.dst=some x→x<N) {ρ:Type} {r:ρ} {Q:Exit→Act→World→Prop} : ∀ (l:List Oper) (st:St) (a:Act) (w:World) (g:Gh) (U:Nat→Prop) (k:St→Option ρ),
  (∀ o∈l,o∈ops.toList)→Rel w0 F N g U st a w→Bo c ops.toList l st k=some r→
  (∀ st' a' w' g' U',Rel w0 F N g' U' st' a' w'→Ext g U st g' U' st'→k st'=some r→Q .normal a' w')→wpList P ops Q l a w
 | [],st,a,w,g,U,k,hl,R,e,hQ=>hQ st a w g U R (.refl _ _ _) e
 | o::l,st,a,w,g,U,k,hl,R,e,hQ=>by
  have hd:=hN o (hl o (by simp));have jW:∀ o∈l,o∈ops.toList:=fun o' h=>hl o' (by simp [h]);have run:∀ {eJ:St},Rel w0 F N g U eJ a w→Ext g U st g U eJ→eI c eJ eJ.nxt o.op (fun e=>Bo c ops.toList l (eJ.put o.dst e) k)=some r→o.wp P a w (wpList P ops Q l) Q:=by intro eJ R E e;obtain ⟨bu,h1,h2⟩:=H (R.I8 hc hG) R.fresh e;exact h2 _ _ (fun v w' g' U' hp=>Jj H hc hG hN l _ _ _ g' U' k jW (R.put hd hp) h1 (fun st' a' w' pK pL R' E'=>hQ st' a' w' pK pL R' ((E.trans (.put _ hp R.u0)).trans E')))
  have skip:∀ {eJ:St},Rel w0 F N g U eJ a w→Ext g U st g U eJ→Bo c ops.toList l (eJ.put o.dst ⟨.gX [],[]⟩) k=some r→wpList P ops Q l (a.put o.dst undef) w:=
   fun R E e=>Jj H hc hG hN l _ _ _ g U k jW (R.skip hd) e (fun st' a' w' pK pL R' E'=>hQ st' a' w' pK pL R' ((E.trans (.put (w:=w) (w':=w) (v:=undef) (e:=⟨.gX [],[]⟩) _ (.same (x:=.gX []) R.cm ⟨[],rfl,rfl⟩) R.u0)).trans E'))
  simp only [Bo] at e;simp only [wpList];cases hg:o.guard with
  | none=>
   rw [hg] at e;have hw:nQ o (yielded ops a.tmps)=true:=by simp [nQ,hg]
   rw [if_pos hw];exact .inl (run R (.refl _ _ _) e)
  | some gw=>
   obtain ⟨gd,want⟩:=gw;rw [hg] at e;simp only at e;split at e
   ·grind
   rename_i d p9;split at e
   ·rename_i b hb;have hv:a.eval (.tmp d) = .bool b:=by have:=(R.I8 hc hG).ev (.tmp d);rw [hb] at this; exact this
    have hy:yielded ops a.tmps gd=some b:=Th p9 hv;have hw:nQ o (yielded ops a.tmps)=(b==want):=by simp [nQ,hg,hy]
    rw [hw];cases b with
    | true=>
     have R':=R.BP (d:=d) (x:=.bool true) hv;simp only [br] at e;cases want with
     | true=>exact .inl (run R' .BP e)
     | false=>exact skip R' .BP e
    | false=>
     have R':=R.BP (d:=d) (x:=.bool false) hv;simp only [br] at e;cases want with
     | true=>exact skip R' .BP e
     | false=>exact .inl (run R' .BP e)
   ·rename_i hb;have hv:a.eval (.tmp d)=undef:=by have:=(R.I8 hc hG).ev (.tmp d);rw [hb] at this;obtain ⟨l,h1,h2⟩:=this;obtain rfl:=h2;exact h1
    have hy:yielded ops a.tmps gd=none:=Ti p9 hv;have hw:nQ o (yielded ops a.tmps)=false:=by simp [nQ,hg,hy]
    rw [hw];exact skip R (.refl _ _ _) e
   grind
end
def Ex.to:Ex→Exit
 | .normal=>.normal
 | .ret=>.ret
 | .exit id=>.exit id
def BS (P:Program) (c:bd):Prop:=∀ {ρ:Type} {r:ρ} {w0:World} {F:b9} {N:Nat} (id:Nat) (ops:Array Oper) (draw:Bool) (st:St) (a:Act) (w:World) (g:Gh) (U:Nat→Prop)
 (k:St→Option ρ) (Q:Exit→Act→World→Prop),(∀ o∈ops.toList,∀ x,o.dst=some x→x<N)→Gl P F w0→Rel w0 F N g U st a w→Dh c ops draw st k=some r→
 (∀ st' a' w' g' U',Rel w0 F N g' U' st' a' w'→Ext g U st g' U' st'→k st'=some r→Q .normal a' w')→(Code.region id ops draw).wp P Q a w
section
variable {P:Program} {c:bd} {w0:World} {F:b9} {N n:Nat}
abbrev Jk (w0:World) (F:b9) (N:Nat) (g:Gh) (U:Nat→Prop) (st:St) {ρ:Type} (k:Ex→St→Option ρ) (r:ρ) (Q:Exit→Act→World→Prop):Prop:=
 ∀ ex st' a' w' g' U',Rel w0 F N g' U' st' a' w'→Ext g U st g' U' st'→k ex st'=some r→Q ex.to a' w'
theorem MU {la:LA} {g0 g:Gh} {U0 U:Nat→Prop} {st0 st:St} (E:Ext g0 U0 st0 g U st) (K:la.kept st0 st=true):zd la g0 U0 st0 g st:=
 .of (.refl _ _ _) E (fun _ _=>.inr rfl) (fun _ _=>.inr ⟨rfl,fun _ _ _ _=>rfl⟩) rfl K
theorem Tz {g:Gh} {U:Nat→Prop} {st:St} {a:Act} {w:World} (R:Rel w0 F N g U st a w) {x:Operand} {t:Bool} (h:st.ev x = .bool t):a.eval x = .bool t:=by have:=Ix (g:=g) (w:=w) (U:=U) R.env x;rw [h] at this;exact this
theorem MV {α ρ:Type} {m:Option (Sum ρ α)} {f:α→Option ρ} {r:ρ} (h:cut m f=some r):m=some (.inl r)∨∃ y,m=some (.inr y)∧f y=some r:=by
 unfold cut at h;cases m with
 | none=>grind
 | some s=>grind
theorem oV (HR:BS P c) (hG:Gl P F w0):∀ (code:Code) (an:iH) (ρ:Type) (r:ρ) (st:St) (k:Ex→St→Option ρ) (Q:Exit→Act→World→Prop) (a:Act) (w:World) (g:Gh) (U:Nat→Prop),
  hY N code=true→Rel w0 F N g U st a w→g_ c n code an ρ st k=some r→Jk w0 F N g U st k r Q→code.wp P Q a w
 | .skip,an,ρ,r,st,k,Q,a,w,g,U,hd,R,e,hQ=>wp_skip (hQ .normal st a w g U R (.refl _ _ _) e)
 | .exit id,an,ρ,r,st,k,Q,a,w,g,U,hd,R,e,hQ=>wp_exit (hQ (.exit id) st a w g U R (.refl _ _ _) e)
 | .ret,an,ρ,r,st,k,Q,a,w,g,U,hd,R,e,hQ=>wp_ret (hQ .ret st a w g U R (.refl _ _ _) e)
 | .region id ops draw,an,ρ,r,st,k,Q,a,w,g,U,hd,R,e,hQ=>by
  have p9:∀ o∈ops.toList,∀ x,o.dst=some x→x<N:=fun o ho x hx=>by have:=iy.1 (show ops.toList.all (fun o=>match o.dst with | some d=>cS d N | none=>true)=true from hd) o ho;simp_all
  have plain:Dh c ops draw st (k .normal)=some r→(Code.region id ops draw).wp P Q a w:=fun e=>
   HR id ops draw st a w g U (k .normal) Q p9 hG R e (fun st' a' w' g' U' R' E' e'=>hQ .normal st' a' w' g' U' R' E' e')
  cases an with
  | leaf=>exact plain e
  | two _ _=>exact plain e
  | one _=>exact plain e
  | loop _ _=>exact plain e
  | Di _ _ _=>exact plain e
  | Br _ _=>exact plain e
  | cut la fY=>
   cases hA:la.apart st with
   | false=>
    have e:(match la.apart st with | true=>_ | false=>none)=some r:=e
    grind
   | true=>
    have e:(match la.apart st with | true=>_ | false=>none)=some r:=e;rw [hA] at e;have A:=Jg hA
    let kk:St→Option (Sum ρ la.LT):=fun st'=>match la.kept st st',la.read st st' with | true,some y=>some (.inr y) | _,_=>none
    have e:cut (Dh c ops draw st kk) (fun y=>k .normal (la.mk' st y))=some r:=e;have fin:∀ s:Sum ρ la.LT,Dh c ops draw st kk=some s→(∀ y,s = .inr y→k .normal (la.mk' st y)=some r)→(s = .inl r∨∃ y,s = .inr y)→(Code.region id ops draw).wp P Q a w:=by
     intro s es hs _;refine HR id ops draw st a w g U kk Q p9 hG R es (fun st' a' w' g' U' R' E' e'=>?_);have e':(match la.kept st st',la.read st st' with | true,some y=>some (.inr y) | _,_=>none)=some s:=e';split at e'
     ·rename_i y hk hr;obtain ⟨pK,pL,uN,uO⟩:=FM R A R' (MU E' hk) rfl hr;exact hQ .normal _ a' w' pK pL uN uO (hs y (aZ e').symm)
     grind
    rcases MV e with h | ⟨y,h,hy⟩
    ·grind
    simp_all
 | .seq x y,an,ρ,r,st,k,Q,a,w,g,U,hd,R,e,hQ=>by
  have hd:(hY N x&&hY N y)=true:=hd;rw [aB] at hd;refine wp_seq (oV HR hG x an.fst ρ r st _ _ a w g U hd.1 R e (fun ex st' a' w' g' U' R' E' e'=>?_));cases ex with
  | normal=>exact oV HR hG y an.snd ρ r st' k Q a' w' g' U' hd.2 R' e' (fun ex abD a'' w'' pK pL uN uO e''=>hQ ex abD a'' w'' pK pL uN (E'.trans uO) e'')
  | ret=>exact hQ .ret st' a' w' g' U' R' E' e'
  | exit j=>exact hQ (.exit j) st' a' w' g' U' R' E' e'
 | .scope x,an,ρ,r,st,k,Q,a,w,g,U,hd,R,e,hQ=>by
  refine wp_scope_straight (oV HR hG x an.fst ρ r st _ _ a w g U hd R e (fun ex st' a' w' g' U' R' E' e'=>?_));cases ex with
  | normal=>exact hQ .normal st' a' w' g' U' R' E' e'
  | ret=>exact hQ .ret st' a' w' g' U' R' E' e'
  | exit j=>exact hQ (.exit j) st' a' w' g' U' R' E' e'
 | .cond x p q,an,ρ,r,st,k,Q,a,w,g,U,hd,R,e,hQ=>by
  have hd:(hY N p&&hY N q)=true:=hd;rw [aB] at hd;have plain:(match st.ev x with | .bool t=>br t (g_ c n p an.fst ρ st k) (g_ c n q an.snd ρ st k) | _=>none)=some r→(Code.cond x p q).wp P Q a w:=by
   intro e;split at e
   ·rename_i t ht;refine wp_cond (Tz R ht) ?_;cases t with
    | true=>exact oV HR hG p an.fst ρ r st k Q a w g U hd.1 R e hQ
    | false=>exact oV HR hG q an.snd ρ r st k Q a w g U hd.2 R e hQ
   grind
  cases an with
  | leaf=>exact plain e
  | two _ _=>exact plain e
  | one _=>exact plain e
  | loop _ _=>exact plain e
  | Di _ _ _=>exact plain e
  | Br _ _=>exact plain e
  | cut la fY=>
   cases hx:st.ev x with
   | bool t=>
    cases hA:la.apart st with
    | false=>
     have e:(match st.ev x,la.apart st with | .bool t,true=>_ | _,_=>none)=some r:=e
     grind
    | true=>
     have e:(match st.ev x,la.apart st with | .bool t,true=>_ | _,_=>none)=some r:=e;rw [hx,hA] at e;have A:=Jg hA
     let kk:Ex→St→Option (Sum ρ la.LT):=fun e st'=>match e with
      | .normal=>(match la.kept st st',la.read st st' with | true,some y=>some (.inr y) | _,_=>none)
      | e=>(match k e st' with | some r=>some (.inl r) | none=>none)
     have e:cut (br t (g_ c n p fY.fst (Sum ρ la.LT) st kk) (g_ c n q fY.snd (Sum ρ la.LT) st kk)) (fun y=>k .normal (la.mk' st y))=some r:=e;have go:∀ s:Sum ρ la.LT,(s = .inl r∨∃ y,s = .inr y∧k .normal (la.mk' st y)=some r)→Jk w0 F N g U st kk s Q:=by
      intro s hs ex st' a' w' g' U' R' E' e';cases ex with
      | normal=>
       have e':(match la.kept st st',la.read st st' with | true,some y=>some (.inr y) | _,_=>none)=some s:=e';split at e'
       ·rename_i y hk hr;obtain rfl:=aZ e';rcases hs with hs | ⟨y',hs,hy⟩
        ·grind
        obtain rfl:=Sum.inr.inj hs;obtain ⟨pK,pL,uN,uO⟩:=FM R A R' (MU E' hk) rfl hr
        grind
       grind
      | ret=>
       grind
      | exit j=>
       grind
     have go2:∀ s:Sum ρ la.LT,br t (g_ c n p fY.fst (Sum ρ la.LT) st kk) (g_ c n q fY.snd (Sum ρ la.LT) st kk)=some s→(s = .inl r∨∃ y,s = .inr y∧k .normal (la.mk' st y)=some r)→
       (Code.cond x p q).wp P Q a w:=by
      intro s es hs;refine wp_cond (Tz R hx) ?_;cases t with
      | true=>exact oV HR hG p fY.fst _ s st kk Q a w g U hd.1 R es (go s hs)
      | false=>exact oV HR hG q fY.snd _ s st kk Q a w g U hd.2 R es (go s hs)
     rcases MV e with h | ⟨y,h,hy⟩
     ·grind
     grind
   | _=>
    have e:(match st.ev x,la.apart st with | .bool t,true=>_ | _,_=>none)=some r:=e
    grind
 | .block id b,an,ρ,r,st,k,Q,a,w,g,U,hd,R,e,hQ=>by
  have plain:g_ c n b an.fst ρ st (fun e st=>match e with | .exit j=>(match aT j id with | true=>k .normal st | false=>k (.exit j) st) | e=>k e st)=some r→(Code.block id b).wp P Q a w:=by
   intro e;refine wp_block (oV HR hG b an.fst ρ r st _ _ a w g U hd R e (fun ex st' a' w' g' U' R' E' e'=>?_));cases ex with
   | normal=>exact hQ .normal st' a' w' g' U' R' E' e'
   | ret=>exact hQ .ret st' a' w' g' U' R' E' e'
   | exit j=>
    have e':(match aT j id with | true=>k .normal st' | false=>k (.exit j) st')=some r:=e';show (if j=id then Q .normal a' w' else Q (.exit j) a' w');split at e'
    ·rename_i hj;rw [if_pos (bB hj)];exact hQ .normal st' a' w' g' U' R' E' e'
    rename_i hj;rw [if_neg (fun h=>by simp_all)];exact hQ (.exit j) st' a' w' g' U' R' E' e'
  cases an with
  | leaf=>exact plain e
  | two _ _=>exact plain e
  | one _=>exact plain e
  | loop _ _=>exact plain e
  | Di _ _ _=>exact plain e
  | Br _ _=>exact plain e
  | cut la fY=>
   cases hA:la.apart st with
   | false=>
    have e:(match la.apart st with | true=>_ | false=>none)=some r:=e
    grind
   | true=>
    have e:(match la.apart st with | true=>_ | false=>none)=some r:=e;rw [hA] at e;have A:=Jg hA
    let kk:Ex→St→Option (Sum ρ la.LT):=fun e st'=>
     match (match e with | .normal=>true | .exit j=>aT j id | .ret=>false) with
     | true=>(match la.kept st st',la.read st st' with | true,some y=>some (.inr y) | _,_=>none)
     | false=>(match k e st' with | some r=>some (.inl r) | none=>none)
    have e:cut (g_ c n b fY (Sum ρ la.LT) st kk) (fun y=>k .normal (la.mk' st y))=some r:=e;have go:∀ s:Sum ρ la.LT,(s = .inl r∨∃ y,s = .inr y∧k .normal (la.mk' st y)=some r)→Jk w0 F N g U st kk s (Exit.inBlock id Q):=by
     intro s hs ex st' a' w' g' U' R' E' e';have norm:(match la.kept st st',la.read st st' with | true,some y=>some (.inr y) | _,_=>none)=some s→Q .normal a' w':=by
      intro e';split at e'
      ·rename_i y hk hr;obtain rfl:=aZ e';rcases hs with hs | ⟨y',hs,hy⟩
       ·grind
       obtain rfl:=Sum.inr.inj hs;obtain ⟨pK,pL,uN,uO⟩:=FM R A R' (MU E' hk) rfl hr;exact hQ .normal _ a' w' pK pL uN uO hy
      grind
     have IZ:∀ ex,(match k ex st' with | some r=>some (.inl r) | none=>none)=some s→Q ex.to a' w':=by
      intro ex e';split at e'
      ·grind
      grind
     cases ex with
     | normal=>exact norm e'
     | ret=>exact IZ .ret e'
     | exit j=>
      show (if j=id then Q .normal a' w' else Q (.exit j) a' w');cases hj:aT j id with
      | true=>
       rw [if_pos (bB hj)]
       grind
      | false=>
       rw [if_neg (fun h=>by simp_all)];have e':(match aT j id with | true=>(match la.kept st st',la.read st st' with | true,some y=>some (.inr y) | _,_=>none) | false=>(match k (.exit j) st' with | some r=>some (.inl r) | none=>none))=some s:=e';rw [hj] at e';exact IZ (.exit j) e'
    rcases MV e with h | ⟨y,h,hy⟩
    ·exact wp_block (oV HR hG b fY _ _ st kk _ a w g U hd R h (go _ (.inl rfl)))
    exact wp_block (oV HR hG b fY _ _ st kk _ a w g U hd R h (go _ (.inr ⟨y,rfl,hy⟩)))
 | .loop b,an,ρ,r,st,k,Q,a,w,g,U,hd,R,e,hQ=>by
  have TA:∀ (la:LA) (fY:iH) (st:St) (a:Act) (w:World) (g:Gh) (U:Nat→Prop),Rel w0 F N g U st a w→
    (match la.apart st,la.read st st with
     | true,some x=>iter n (fun ih x=>g_ c n b fY ρ (la.mk' st x) fun e st'=>match e with
      | .normal=>(match la.kept (la.mk' st x) st',la.read (la.mk' st x) st' with | true,some y=>ih y | _,_=>none)
      | e=>k e st') x
     | _,_=>none)=some r→
    Jk w0 F N g U st k r Q→Code.rounds P b Q n a w:=by
   intro la fY st a w g U R e hQ;cases hA:la.apart st with
   | false=>
    grind
   | true=>cases hx:la.read st st with
    | none=>
     grind
    | some x=>
     have e:(match la.apart st,la.read st st with | true,some x=>_ | _,_=>none)=some r:=e;rw [hA,hx] at e;have A:=Jg hA
     let step:(la.LT→Option ρ)→la.LT→Option ρ:=fun ih x=>g_ c n b fY ρ (la.mk' st x) fun e st'=>match e with
      | .normal=>(match la.kept (la.mk' st x) st',la.read (la.mk' st x) st' with | true,some y=>ih y | _,_=>none)
      | e=>k e st'
     have e:iter n step x=some r:=e;have key:∀ (m:Nat) (x:la.LT) (a1:Act) (w1:World) (g1:Gh) (U1:Nat→Prop),Rel w0 F N g1 U1 (la.mk' st x) a1 w1→Ext g U st g1 U1 (la.mk' st x)→iter m step x=some r→Code.rounds P b Q m a1 w1:=by
      intro m;induction m with
      | zero=>intro x a1 w1 g1 U1 R1 E1 e; exact absurd (show none=some r from e) (by simp)
      | succ m ih=>
       intro x a1 w1 g1 U1 R1 E1 e;have e:step (iter m step) x=some r:=e;rw [rounds_succ];refine oV HR hG b fY ρ r (la.mk' st x) _ _ a1 w1 g1 U1 hd R1 e (fun ex st' a' w' g' U' R' E' e'=>?_);cases ex with
       | ret=>exact hQ .ret st' a' w' g' U' R' (E1.trans E') e'
       | exit j=>exact hQ (.exit j) st' a' w' g' U' R' (E1.trans E') e'
       | normal=>
        have e':(match la.kept (la.mk' st x) st',la.read (la.mk' st x) st' with | true,some y=>iter m step y | _,_=>none)=some r:=e';split at e'
        ·rename_i y hk hr;have K:zd la g U st g' st':=.of E1 E' (fun i hi=>.inr (Tv A x hi)) (fun id hid=>by
          obtain ⟨l,e1,e2⟩:=E1.obj;have hl:l=la.bb.map (fun p=>cu st.nxt p.1):=by have:la.bb.map (fun p=>cu st.nxt p.1)++st.ht=l++st.ht:=e1;exact (List.append_cancel_right this).symm
          refine e2 id (fun hm=>?_);rw [hl] at hm;obtain ⟨p,hp,he⟩:=kE.1 hm;exact A.new p hp (he▸hid)) (Tx A x) hk
         obtain ⟨pK,pL,uN,uO⟩:=FM R A R' K (Tx A x) hr;exact ih y a' w' pK pL uN uO e'
        grind
     obtain ⟨pK,pL,uN,uO⟩:=FM R A R (zd.refl la g U st) rfl hx
     grind
  cases an with
  | leaf=>exact absurd (show none=some r from e) (by simp)
  | two _ _=>exact absurd (show none=some r from e) (by simp)
  | one _=>exact absurd (show none=some r from e) (by simp)
  | cut _ _=>exact absurd (show none=some r from e) (by simp)
  | Br m fY=>
   let step:(St→Option ρ)→St→Option ρ:=fun ih st=>g_ c n b fY ρ st fun e st'=>match e with
    | .normal=>ih st'
    | e=>k e st'
   have e:iter m step st=some r:=e;have key:∀ (m:Nat) (eJ:St) (a1:Act) (w1:World) (g1:Gh) (U1:Nat→Prop),Rel w0 F N g1 U1 eJ a1 w1→Ext g U st g1 U1 eJ→iter m step eJ=some r→Code.rounds P b Q m a1 w1:=by
    intro m;induction m with
    | zero=>intro eJ a1 w1 g1 U1 R1 E1 e; exact absurd (show none=some r from e) (by simp)
    | succ m ih=>
     intro eJ a1 w1 g1 U1 R1 E1 e;have e:step (iter m step) eJ=some r:=e;rw [rounds_succ];refine oV HR hG b fY ρ r eJ _ _ a1 w1 g1 U1 hd R1 e (fun ex st' a' w' g' U' R' E' e'=>?_);cases ex with
     | ret=>exact hQ .ret st' a' w' g' U' R' (E1.trans E') e'
     | exit j=>exact hQ (.exit j) st' a' w' g' U' R' (E1.trans E') e'
     | normal=>exact ih st' a' w' g' U' R' (E1.trans E') e'
   exact wp_loop_rounds m (key m st a w g U R (.refl _ _ _) e)
  | loop la fY=>exact wp_loop_rounds n (TA la fY st a w g U R e hQ)
  | Di p la fY=>
   refine wp_loop_rounds (n+1) ?_;rw [rounds_succ];refine oV HR hG b p ρ r st _ _ a w g U hd R e (fun ex st' a' w' g' U' R' E' e'=>?_);cases ex with
   | ret=>exact hQ .ret st' a' w' g' U' R' E' e'
   | exit j=>exact hQ (.exit j) st' a' w' g' U' R' E' e'
   | normal=>exact TA la fY st' a' w' g' U' R' e' (fun ex st2 a2 w2 g2 U2 R2 E2 e2=>hQ ex st2 a2 w2 g2 U2 R2 (E'.trans E2) e2)
 | .label _,an,ρ,r,st,k,Q,a,w,g,U,hd,R,e,hQ=>absurd (show none=some r from e) (by simp)
 | .goto _,an,ρ,r,st,k,Q,a,w,g,U,hd,R,e,hQ=>absurd (show none=some r from e) (by simp)
end
end Go.Am
namespace Go.Am
open Go
section
variable {g:Gh} {L:b9} {w:World} {U:Nat→Prop} {sr:St}
theorem abE (hO:fA g w U sr) (hL:∀ b o,g.lab b o=none→L b o=none) (hD:∀ id,sr.obj id≠none→∀ b o p,g.lab b o=some (id,p)→L b o=none)
  {x:ah} {vx:Value} (hx:aV g w U x vx) {u:Ty} {xs:List u.T} (e:sr.list x=some ⟨u,xs⟩):hZ u.size (Sh L w u) xs vx:=by
 have row:∀ {own:Bool} {id hv vr:Nat} {p:Path} {ys:List u.T} {b o:Nat},sr.obj id≠none→eZ g w own id hv vr u de p ys→(g.hd id hv p).addr=some (b,o)→
   ∀ k (hk:k<ys.length),Sh L w u ys[k] b (o+k*u.size):=by
  intro own id hv vr p ys b o bQ R ha k hk;obtain ⟨r1,r2,r3,r4⟩:=R;obtain ⟨r5,r6⟩:=r4 b o ha;refine BA hL (hD id bQ) u p k 0 _ b _ (fun d hd=>?_) (r6 k hk);have hle:(k+1)*u.size≤(g.hd id hv p).cap*u.size:=fk _ (by omega);rw [dH] at hle;obtain ⟨a1,-,-⟩:=r5 (k*u.size+d) (by omega);exact ⟨_,by rw [cg]; exact a1⟩
 unfold St.list at e;split at e
 ·simp only [aN] at e;obtain ⟨rfl,e⟩:=Sigma.mk.inj e;obtain rfl:=eq_of_heq e;exact iI (gq (fun b o hl v hv=>⟨hv,hL b o hl⟩) _) hx
 ·simp only [aN] at e;obtain ⟨rfl,e⟩:=Sigma.mk.inj e;obtain rfl:=eq_of_heq e;exact iI (gq (fun b o hl v hv=>⟨hv,hL b o hl⟩) _) hx.1
 ·rename_i id ver p tt;obtain ⟨h1,h2,h3,h4,h5,rfl⟩:=hx;obtain ⟨own,t,vr,qJ,bQ,-,R,-⟩:=Bx hO h5 h4 e;have hR:=R;obtain ⟨r1,r2,r3,r4⟩:=hR;refine ⟨_,_,_,rfl,r1,r2,fun hn=>r3 (by simp_all),fun aG=>?_⟩;have hlen:0<xs.length:=kX.2 aG;cases ha:(g.hd id ver p).addr with
  | none=>grind
  | some q=>
   obtain ⟨b,o⟩:=q;exact ⟨b,o,by simp,row (by grind) R ha⟩
 ·rename_i id ver p tt off len;split at e
  ·rename_i ys hr;split at e
   ·rename_i hb;obtain rfl:=Ty.eq_of_beq hb;simp only [aN] at e;obtain ⟨rfl,e⟩:=Sigma.mk.inj e;obtain rfl:=eq_of_heq e;obtain ⟨h1,h2,h3,h4,h5,a,cp,rfl,h6,h7,h8,h9,By⟩:=hx;obtain ⟨own,t,vr,qJ,bQ,-,R,-⟩:=Bx hO h5 h4 hr;have hR:=R;obtain ⟨r1,r2,r3,r4⟩:=hR;have hlen:((ys.drop off).take len).length=len:=by simp; omega
    refine ⟨a,len,cp,rfl,hlen.symm,h7,fun hn=>?_,fun aG=>?_⟩
    ·grind
    have fG:0<((ys.drop off).take len).length:=kX.2 aG;obtain ⟨b,o,ha,rfl⟩:=h9 (by omega);refine ⟨b,o+off*tt.size,rfl,fun k hk=>?_⟩;have:=row (by grind) R ha (off+k) (by omega)
    grind
   grind
  grind
 grind
theorem TB (hO:fA g w U sr) (hL:∀ b o,g.lab b o=none→L b o=none) (hD:∀ id,sr.obj id≠none→∀ b o p,g.lab b o=some (id,p)→L b o=none):∀ d:Nat,
  (∀ (t:Ty) (cs:List ah) (x:t.T) (rest:List ah) (f:Nat→Option Value) (q:Path) (i j:Nat),gB g w U cs f→je sr d t cs=some (x,rest)→
   t.size≤cs.length∧rest=cs.drop t.size∧df g L w false cn t q i j x f)∧
  (∀ (t:Ty) (n:Nat) (cs:List ah) (xs:List t.T) (f:Nat→Option Value) (q:Path) (i:Nat),gB g w U cs f→CX sr d t n cs=some xs→
   n*t.size≤cs.length∧xs.length=n∧∀ k (h:k<xs.length),df g L w false cn t q (i+k) 0 xs[k] (fun d=>f (k*t.size+d))):=by
 intro d;induction d with
 | zero=>
  refine ⟨?_,?_⟩
  ·intro t cs x rest f q i j hv e; cases t<;>simp [je] at e
  intro t n cs xs f q i hv e; simp [CX] at e
 | succ d ih=>
  obtain ⟨BC,yV⟩:=ih;refine ⟨?_,?_⟩
  ·intro t cs x rest f q i j hv e;cases t with
   | pair a b=>
    simp only [je] at e;split at e
    ·rename_i y _ e1;split at e
     ·rename_i z _ e2;simp only [aN,bS] at e;obtain ⟨rfl,rfl⟩:=e;obtain ⟨h1,rfl,h2⟩:=BC a cs y _ f q i j hv e1;obtain ⟨h3,rfl,h4⟩:=BC b _ z _ _ q i (j+a.size) (hv.drop a.size) e2;simp only [List.length_drop] at h3;refine ⟨by simp [Ty.size]; omega,by simp [Ty.size,List.drop_drop],h2,h4⟩
     grind
    grind
   | int k=>
    cases cs with
    | nil=>simp [je] at e
    | cons c cs=>
     obtain ⟨v,h1,h2⟩:=hv.head;cases c<;>simp only [je] at e<;>try grind
     split at e
     ·rename_i hk;obtain rfl:=pQ hk;simp only [aN,bS] at e;obtain ⟨rfl,rfl⟩:=e;obtain rfl:=h2;exact ⟨by simp [Ty.size],by simp [Ty.size],h1⟩
     grind
   | bool=>
    cases cs with
    | nil=>simp [je] at e
    | cons c cs=>
     obtain ⟨v,h1,h2⟩:=hv.head;cases c<;>simp only [je] at e<;>try grind
     simp only [aN,bS] at e;obtain ⟨rfl,rfl⟩:=e;obtain rfl:=h2;exact ⟨by simp [Ty.size],by simp [Ty.size],h1⟩
   | str=>
    cases cs with
    | nil=>simp [je] at e
    | cons c cs=>
     obtain ⟨v,h1,h2⟩:=hv.head;cases c<;>simp only [je] at e<;>try grind
     simp only [aN,bS] at e;obtain ⟨rfl,rfl⟩:=e;obtain rfl:=h2;exact ⟨by simp [Ty.size],by simp [Ty.size],h1⟩
   | err=>
    cases cs with
    | nil=>simp [je] at e
    | cons c cs=>
     obtain ⟨v,h1,h2⟩:=hv.head;cases c<;>simp only [je] at e<;>try grind
     simp only [aN,bS] at e;obtain ⟨rfl,rfl⟩:=e;exact ⟨by simp [Ty.size],by simp [Ty.size],v,h1,h2⟩
   | sl t=>
    cases cs with
    | nil=>simp [je] at e
    | cons c cs=>
     obtain ⟨v,h1,h2⟩:=hv.head;have lst:(match sr.list c with | some ⟨u,xs⟩=>(match Ty.cast (.sl u) (.sl t) xs with | some ys=>some (ys,cs) | none=>none) | none=>none)=some (x,rest)→
       (Ty.sl t).size≤(c::cs).length∧rest=(c::cs).drop (Ty.sl t).size∧df g L w false cn (.sl t) q i j x f:=by
      intro e;split at e
      ·rename_i u xs hl;split at e
       ·rename_i ys hz;simp only [aN,bS] at e;obtain ⟨rfl,rfl⟩:=e;obtain ⟨rfl,hz⟩:=nO hz;obtain rfl:=eq_of_heq hz;exact ⟨by simp [Ty.size],by simp [Ty.size],v,h1,abE hO hL hD h2 hl⟩
       grind
      grind
     cases c with
     | nil=>
      simp only [je,aN,bS] at e;obtain ⟨rfl,rfl⟩:=e;obtain rfl:=h2;exact ⟨by simp [Ty.size],by simp [Ty.size],_,h1,none,0,0,rfl,rfl,cx _,fun _=>rfl,fun h=>absurd rfl h⟩
     | fJ id off len sz=>
      simp only [je] at e;split at e
      ·rename_i eo ho;split at e
       ·rename_i hq;simp only [aB,td] at hq;obtain ⟨s6,kI⟩:=hq;subst s6;have kI:=gz kI;split at e
        ·rename_i xs hN;simp only [aN,bS] at e;have e1:xs=x:=congrArg Prod.fst e;have e2:cs=rest:=congrArg Prod.snd e;subst e1;subst e2;obtain ⟨b',o',dN,dr,oT⟩:=yU hO ho;obtain ⟨-,-,a,c,rfl,BD,kY,b,o,dh,ha⟩:=h2;rw [dN] at dh kY;simp only [aN,bS] at dh kY;obtain ⟨rfl,rfl⟩:=dh;obtain ⟨-,n1,n2⟩:=yV t len _ xs _ [] 0 (oT.drop (off*t.size)) hN;refine ⟨by simp [Ty.size],by simp [Ty.size],_,h1,a,len,c,rfl,n1.symm,BD,fun hn=>?_,fun aG=>?_⟩
         ·grind
         have fG:0<xs.length:=kX.2 aG;refine ⟨b',o'+off*t.size,ha (.inl (by omega)),fun k hk=>?_⟩;refine Dq (g:=g) (σ:=cn) t [] k 0 _ b' _ (fun d hd=>?_) ?_
         ·have aF:off*t.size+(k*t.size+d)<eo.length:=by have:(k+1)*t.size≤len*t.size:=fk _ (by omega);rw [dH] at this kI;omega
          grind
         grind
        grind
       grind
      grind
     | _=>exact lst e
   | bW t=>
    cases cs with
    | nil=>simp [je] at e
    | cons c cs=>
     obtain ⟨v,h1,h2⟩:=hv.head;cases c<;>simp only [je] at e<;>try grind
     ·simp only [aN,bS] at e;obtain ⟨rfl,rfl⟩:=e;obtain rfl:=h2;exact ⟨by simp [Ty.size],by simp [Ty.size],_,h1,⟨none,0,0,rfl,rfl,cx _,fun _=>rfl,fun h=>absurd rfl h⟩,fun _=>⟨0,0,rfl⟩,fun _=>rfl⟩
     split at e
     ·rename_i o hz;simp only [aN,bS] at e;obtain ⟨rfl,rfl⟩:=e;obtain ⟨he,hz⟩:=cast_eq hz;injection he with he;subst he;obtain rfl:=eq_of_heq hz;exact ⟨by simp [Ty.size],by simp [Ty.size],_,h1,iI (gq (fun b o hl v hv=>⟨hv,hL b o hl⟩) _) h2.1,h2.2⟩
     grind
  intro t n cs xs f q i hv e;cases n with
  | zero=>
   simp only [CX,aN] at e
   grind
  | succ n=>
   simp only [CX] at e;split at e
   ·rename_i x r1 e1;split at e
    ·rename_i ys e2;simp only [aN] at e;subst e;obtain ⟨b1,rfl,b2⟩:=BC t cs x r1 f q i 0 hv e1;obtain ⟨c1,c2,c3⟩:=yV t n _ ys _ q (i+1) (hv.drop t.size) e2;simp only [List.length_drop] at c1;refine ⟨by grind,by grind,fun k hk=>?_⟩;cases k with
     | zero=>grind
     | succ k=>
      grind
    grind
   grind
end
end Go.Am
namespace Go.Am
open Go
section
variable {P:Program} {c:bd} {g:Gh} {L:b9} {w:World} {U:Nat→Prop} {st:St} {a:Act}
def DN (tmps:Array Value):ResultVar→Sem Value
 | .tmp t=>pure (tmps.getD t undef)
 | .cell a t=>do loadVar t (← asAddr (tmps.getD a undef))
theorem Jl (hc:gb P c) (hO:fA g w U st) (hE:∀ t v,look st.env t=some v→aV g w U v (a.eval (.tmp t))):∀ (l:List ResultVar) (vs:List ah),wB st (fun t=>((c.ti t).agg,(c.ti t).size)) l=some vs→
  ∃ bG,(l.mapM (DN a.tmps)).run P w = .ok bG w∧cz g w U vs bG
 | [],vs,e=>by simp only [wB,aN] at e;subst e;exact ⟨[],by simp,rfl⟩
 | .tmp t::l,vs,e=>by
  simp only [wB] at e;split at e
  ·rename_i MW hv;simp only [aN] at e;subst e;obtain ⟨bG,h1,h2⟩:=Jl hc hO hE l MW hv;refine ⟨a.tmps.getD t undef::bG,?_,_,_,rfl,Ix hE (.tmp t),h2⟩;simp [List.mapM_cons,DN,h1]
  grind
 | .cell t ty::l,vs,e=>by
  simp only [wB] at e;split at e
  ·rename_i j MW ve hv;split at e
   ·rename_i v hp;simp only [aN] at e;subst e;split at hp
    ·rename_i hs;obtain ⟨bG,h1,h2⟩:=Jl hc hO hE l MW hv;have hx:=Ix hE (.tmp t);obtain ⟨v',h3,h4⟩:=Sl hc hO hx (by simp_all) ve hp;refine ⟨v'::bG,?_,_,_,rfl,h4,h2⟩;obtain ⟨b,o,hb,-⟩:=Sk hO hx ve;have dh:a.tmps.getD t undef = .pointer (some (ad b (o+j))):=hb;rw [hb] at h3;have h5:(loadVar ty (ad b (o+j))).run P w = .ok v' w:=by simpa [Instr.loadAt,Instr.sureAddr] using h3
     simp [List.mapM_cons,DN,dh,asAddr,h5,h1]
    grind
   grind
  grind
def DO (t:Ty) (v:Value) (f:Nat→Option Value):Prop:=match t with
 | .pair _ _=>∃ l:List Value,v = .agg l.toArray∧l.length=t.size∧f=fun k=>l[k]?
 | _=>f 0=some v
theorem MX (t:Ty) {v:ah} {vx:Value} (h:aV g w U v vx):∃ f,gB g w U (pR t v) f∧((pR t v).length=t.size→DO t vx f):=by
 have one:∀ x:ah,aV g w U x vx→gB g w U [x] (fun k=>if k=0 then some vx else none):=by
  intro x hx k hk;have:k=0:=by simpa using hk
  subst this;exact ⟨vx,by simp,hx⟩
 cases t with
 | pair a b=>
  have bF:2≤(Ty.pair a b).size:=by have:=a.size_pos; have:=b.size_pos; simp [Ty.size]; omega
  cases v with
  | agg cs=>
   obtain ⟨l,rfl,hr⟩:=h;have yD:=mU hr;refine ⟨fun k=>l[k]?,fun k hk=>mi hr k hk,fun hl=>⟨l,rfl,?_,rfl⟩⟩;rw [yD]; exact hl
  | _=>exact ⟨_,one _ h,fun hl=>by simp only [pR,ah.cells,List.length_singleton] at hl; omega⟩
 | _=>exact ⟨fun k=>if k=0 then some vx else none,one v h,fun _=>by simp [DO]⟩
theorem FN {t:Ty} {vx:Value} {f:Nat→Option Value} {cs:List ah} (hf:DO t vx f) (hl:cs.length=t.size) (h:gB g w U cs f):aV g w U (shut t cs) vx:=by
 cases t with
 | pair a b=>
  obtain ⟨l,rfl,yD,rfl⟩:=hf;refine ⟨l,rfl,wE (by omega) (fun k h1 h2=>?_)⟩;obtain ⟨v,h3,h4⟩:=h k h1
  grind
 | _=>
  obtain ⟨v,rfl⟩:∃ v,cs=[v]:=by simp only [Ty.size] at hl;exact List.length_eq_one_iff.1 hl
  obtain ⟨x,h1,h2⟩:=h 0 (by simp);have:x=vx:=aZ (h1.symm.trans hf);subst this;exact h2
def RK.own:RK→Bool | .sh _=>false | _=>true
def vh (st:St):List RK→List ah→List Nat
 | r::rs,v::vs=>(match r.own with | true=>[] | false=>match Ir st r v with | some (_,u)=>u | none=>[])++vh st rs vs
 | _,_=>[]
def FO (g:Gh) (L:b9) (w:World) (σs:Nat→Src):Nat→(rs:List RK)→(bG:List Value)→(os:List Ty)→cj (RK.bm rs++os)→cj os→Prop
 | _,[],bG,_,z,zo=>bG=[]∧z=zo
 | k,r::rs,bG,os,z,zo=>∃ v tI,bG=v::tI∧(∃ f,DO r.ty v f∧df g L w r.own (σs k) r.ty [] 0 0 z.1 f)∧FO g L w σs (k+1) rs tI os z.2 zo
theorem TC {σs TD:Nat→Src} : ∀ (rs:List RK) (k:Nat) (bG:List Value) (os:List Ty) (z:cj (RK.bm rs++os)) (zo:cj os),(∀ m,k≤m→TD m=σs m)→FO g L w σs k rs bG os z zo→FO g L w TD k rs bG os z zo
 | [],k,bG,os,z,zo,h,hf=>hf
 | r::rs,k,bG,os,z,zo,h,hf=>by obtain ⟨v,tI,e,h1,h2⟩:=hf;exact ⟨v,tI,e,by grind,TC rs (k+1) tI os z.2 zo (fun m hm=>h m (by omega)) h2⟩
theorem abF (hO:fA g w U st) (hL:∀ b o,g.lab b o=none→L b o=none) {r:RK} (hr:r.jU=true) {v:ah} {vx:Value} (hv:aV g w U v vx) {x:r.ty.T} {u:List Nat} (e:Ir st r v=some (x,u))
  (gJ:r.own=false→∀ id∈u,∀ b o p,g.lab b o=some (id,p)→L b o=none) :
  (∀ id∈u,st.obj id≠none)∧∃ σ,Tk u σ∧(∃ f,DO r.ty vx f∧df g L w r.own σ r.ty [] 0 0 x f)∧(r.own=false→σ=cn):=by
 have main:∀ (own:Bool) (t:Ty) (x:t.T),(match take st own 50 t (pR t v) with | some (x,[],u)=>some (x,u) | _=>none)=some (x,u)→
   (own=false→∀ id∈u,∀ b o p,g.lab b o=some (id,p)→L b o=none)→
   (∀ id∈u,st.obj id≠none)∧∃ σ,Tk u σ∧(∃ f,DO t vx f∧df g L w own σ t [] 0 0 x f):=by
  intro own t x e gJ;split at e
  ·rename_i x' u' ht;simp only [aN,bS] at e;obtain ⟨rfl,rfl⟩:=e;obtain ⟨f,h2,h1⟩:=MX t hv;obtain ⟨h3,h4,h5,σ,T⟩:=(Dr (L:=L) hO hL own 50).1 t (pR t v) x' [] u' f [] 0 0 h2 ht gJ;refine ⟨h3,σ,T.tk,f,h1 ?_,T.ow⟩;have:=congrArg List.length h5;simp at this; omega
  simp at e
 cases r with
 | val t=>
  obtain ⟨h1,σ,h2,h3⟩:=main true t x (by cases t<;>exact e) (fun h=>by simp at h);exact ⟨h1,σ,h2,h3,fun h=>by simp [RK.own] at h⟩
 | sh t=>
  obtain ⟨h1,σ,h2,f,h3,h4⟩:=main false t x (by cases t<;>exact e) (fun _=>gJ rfl);exact ⟨h1,cn,.none,⟨f,h3,MY t _ _ _ _ _ h4⟩,fun _=>rfl⟩
 | ptr t ms=>simp [RK.jU] at hr
 where MY {g:Gh} {L:b9} {w:World} {σ τ:Src} : ∀ (t:Ty) (q:Path) (i j:Nat) (x:t.T) (f:Nat→Option Value),df g L w false σ t q i j x f→df g L w false τ t q i j x f
 | .int _,_,_,_,_,_,h=>h
 | .bool,_,_,_,_,_,h=>h
 | .str,_,_,_,_,_,h=>h
 | .err,_,_,_,_,_,h=>h
 | .bW _,_,_,_,_,_,h=>h
 | .sl _,_,_,_,_,_,h=>h
 | .pair s t,q,i,j,x,f,h=>⟨MY s q i j x.1 f h.1,MY t q i (j+s.size) x.2 _ h.2⟩
theorem TE (hO:fA g w U st) (hL:∀ b o,g.lab b o=none→L b o=none):∀ (rs:List RK) (k:Nat) (vs:List ah) (bG:List Value) (os:List Ty) (yo:Option (cj os×List Nat)) (z:cj (RK.bm rs++os)) (uu:List Nat),
  rs.all RK.jU=true→cz g w U vs bG→Is st rs vs os yo=some (z,uu)→(∀ id∈vh st rs vs,∀ b o p,g.lab b o=some (id,p)→L b o=none)→
  ∃ zo uo uR σs,yo=some (zo,uo)∧uu=uR++uo∧FO g L w σs k rs bG os z zo∧(∀ m,m<k∨k+rs.length≤m→σs m=cn)∧(∀ m s id p h,σs m s=some (id,p,h)→id∈uR)∧
   (∀ id∈vh st rs vs,id∈uR)∧(∀ id∈uR,st.obj id≠none)∧
   (uR.Nodup→(∀ m s m' s' id p h h',σs m s=some (id,p,h)→σs m' s'=some (id,p,h')→m=m'∧s=s')∧∀ m s id p h,σs m s=some (id,p,h)→id∉vh st rs vs)
 | [],k,vs,bG,os,yo,z,uu,he,hv,e,gJ=>by
  cases vs with
  | cons v vs=>exact absurd (show none=some _ from e) (by simp)
  | nil=>
   replace e:yo=some (z,uu):=e;refine ⟨z,uu,[],fun _=>cn,e,rfl,⟨hv,rfl⟩,fun _ _=>rfl,fun m s id p h hs=>by simp [cn] at hs,fun id h=>by simp [vh] at h,fun id h=>by grind,
    fun _=>⟨fun m s m' s' id p h h' hs=>by simp [cn] at hs,fun m s id p h hs=>by simp [cn] at hs⟩⟩
 | r::rs,k,vs,bG,os,yo,z,uu,he,hv,e,gJ=>by
  cases vs with
  | nil=>exact absurd (show none=some _ from e) (by simp)
  | cons v vs=>
   simp only [List.all_cons,aB] at he;obtain ⟨vx,tI,rfl,mV,ze⟩:=hv;replace e:(match Ir st r v,Is st rs vs os yo with | some (x,u),some (z,w)=>some ((x,z),u++w) | _,_=>none)=some (z,uu):=e;split at e
   ·rename_i x u z' uu' e1 e2;simp only [aN,bS] at e;obtain ⟨rfl,rfl⟩:=e;have RM:r.own=false→∀ id∈u,∀ b o p,g.lab b o=some (id,p)→L b o=none:=by intro ho id hid;refine gJ id ?_;simp only [vh,ho,e1,eF];exact .inl hid
    obtain ⟨h1,σ,h2,h3,h4⟩:=abF hO hL he.1 mV e1 RM;obtain ⟨zo,uo,uR,σs,k1,rfl,k3,k4,k5,k6,k7,k8⟩:=TE hO hL rs (k+1) vs tI os yo z' uu' he.2 ze e2 (fun id hid=>gJ id (by simp only [vh,eF]; exact .inr hid));have hk:σs k=cn:=k4 k (.inl (by omega));refine ⟨zo,uo,u++uR,fun m=>if m=k then σ else σs m,k1,by grind,⟨vx,tI,rfl,by grind,TC rs (k+1) _ _ _ _ (fun m hm=>if_neg (by omega)) k3⟩,fun m hm=>?_,fun m s id p h hs=>?_,fun id hid=>?_,fun id hid=>?_,fun hn=>?_⟩
    ·grind
    ·simp only at hs;split at hs
     ·exact lH _ (h2.ids _ _ _ _ hs)
     grind
    ·simp only [vh,eF] at hid
     grind
    ·grind
    obtain ⟨n1,n2,n3⟩:=List.nodup_append.1 hn;obtain ⟨j1,j2⟩:=k8 n2;refine ⟨fun m s m' s' id p h h' hs mZ=>?_,fun m s id p h hs hid=>?_⟩
    ·simp only at hs mZ;split at hs<;>split at mZ
     ·rename_i a2;exact ⟨by omega,h2.inj n1 _ _ _ _ _ _ hs mZ⟩
     ·exact absurd rfl (n3 _ (h2.ids _ _ _ _ hs) _ (k5 _ _ _ _ _ mZ))
     ·exact absurd rfl (n3 _ (h2.ids _ _ _ _ mZ) _ (k5 _ _ _ _ _ hs))
     grind
    simp only [vh,eF] at hid;simp only at hs;split at hs
    ·rcases hid with hid | hid
     ·cases ho:r.own with
      | true=>grind
      | false=>rw [h4 ho] at hs; simp [cn] at hs
     exact absurd rfl (n3 _ (h2.ids _ _ _ _ hs) _ (k6 id hid))
    grind
   grind
end
end Go.Am
namespace Go.Am
open Go
section
variable {g g':Gh} {L:b9} {w:World} {U U':Nat→Prop} {st:St}
theorem Jm {own:Bool} {σ:Src} {a:Nat×Nat} : ∀ (t:Ty) (q:Path) (i j:Nat) (x:t.T) (f:Nat→Option Value),df g L w own σ t (a::q) i j x f→df g L w own (fun s=>σ (a::s)) t q i j x f
 | .int _,_,_,_,_,_,h=>h
 | .bool,_,_,_,_,_,h=>h
 | .str,_,_,_,_,_,h=>h
 | .err,_,_,_,_,_,h=>h
 | .bW _,_,_,_,_,_,h=>h
 | .pair s t,q,i,j,x,f,h=>⟨Jm s q i j x.1 f h.1,Jm t q i (j+s.size) x.2 _ h.2⟩
 | .sl t,q,i,j,xs,f,h=>by
  cases own with
  | false=>exact h
  | true=>
   rcases h with ⟨id,p,hh,h1,h2,h3⟩ | ⟨h1,h2,h3⟩
   ·refine .inl ⟨id,p,hh,h1,h2,?_⟩;obtain ⟨r1,r2,r3,r4⟩:=h3;refine ⟨r1,r2,r3,fun b o hb=>?_⟩;obtain ⟨r5,r6⟩:=r4 b o hb;exact ⟨r5,fun k hk=>Jm t _ k 0 _ _ (r6 k hk)⟩
   exact .inr ⟨h1,h2,h3⟩
theorem gB.app {as bs:List ah} {f:Nat→Option Value} (h:gB g w U as f) (h':gB g w U bs (fun k=>f (as.length+k))):gB g w U (as++bs) f:=by
 intro k hk;by_cases aF:k<as.length
 ·rw [List.getElem_append_left aF]; exact h k aF
 have lM:k-as.length<bs.length:=by simp at hk; omega
 rw [List.getElem_append_right (by omega)];have:∃ v,f (as.length+(k-as.length))=some v∧aV g w U bs[k-as.length] v:=h' (k-as.length) lM
 grind
theorem FP (hL : ∀ b o, L b o = none → g'.lab b o = none) {σ : Src} : ∀ (t : Ty) (q : Path) (i j' j : Nat) (x : t.T) (f : Nat → Option Value), df g L w false σ t q i j' x f → gB g' w U' (flat mO t x j) f
  | .int _, q, i, j', j, x, f, h => fun k hk => by have : k = 0 := by simpa [flat] using hk
                                                   subst this; exact ⟨_, h, rfl⟩
  | .bool, q, i, j', j, x, f, h => fun k hk => by have : k = 0 := by simpa [flat] using hk
                                                  subst this; exact ⟨_, h, rfl⟩
  | .str, q, i, j', j, x, f, h => fun k hk => by have : k = 0 := by simpa [flat] using hk
                                                 subst this; exact ⟨_, h, rfl⟩
  | .err, q, i, j', j, x, f, h => fun k hk => by have : k = 0 := by simpa [flat] using hk
                                                 subst this; obtain ⟨v, h1, h2⟩ := h; exact ⟨_, h1, h2⟩
  | .bW t, q, i, j', j, x, f, h => fun k hk => by
    have : k = 0 := by simpa [flat] using hk
    subst this;obtain ⟨v, h1, h2, h3⟩ := h;exact ⟨v, h1, iI (gq (fun b o hl v hv => ⟨hv, hL b o hl⟩) t) h2, h3⟩
  | .sl t, q, i, j', j, x, f, h => fun k hk => by
    have : k = 0 := by simpa [flat] using hk
    subst this;obtain ⟨v, h1, h2⟩ := h;exact ⟨v, h1, iI (gq (fun b o hl v hv => ⟨hv, hL b o hl⟩) t) h2⟩
  | .pair s t, q, i, j', j, x, f, h => by
    refine gB.app (FP hL s q i j' j x.1 f h.1) ?_;rw [kq];exact FP hL t q i (j' + s.size) (j + s.size) x.2 _ h.2
theorem MZ {base site : Nat} {σ : Src} (hL : ∀ b o, L b o = none → g'.lab b o = none) (h0 : U' 0) (hs : U' site)
    (dN : ∀ j ver s, j < 32 → g'.hd (base + j) ver s = match σ ((0, j) :: s) with | some (_, _, h) => h | none => eh) (hU : ∀ j, j < 32 → U' ((base + j) / 1024))
    (dr : ∀ j s id p h b o, j < 32 → σ ((0, j) :: s) = some (id, p, h) → g.lab b o = some (id, p) → g'.lab b o = some (base + j, s)) :
    ∀ (t : Ty) (j : Nat) (x : t.T) (f : Nat → Option Value), j + t.size ≤ 32 → df g L w true σ t [] 0 j x f →
      gB g' w U' (flat (wq base) t x j) f ∧ ∀ id o, look (fV base site t x j) id = some (some o) → (∃ k, j ≤ k ∧ k < j + t.size ∧ id = base + k) ∧ fy g' w U' id o
  | .int _, j, x, f, hj, h => ⟨fun k hk => by have : k = 0 := by simpa [flat] using hk
                                              subst this; exact ⟨_, h, rfl⟩, fun id o h => by simp [fV, look] at h⟩
  | .bool, j, x, f, hj, h => ⟨fun k hk => by have : k = 0 := by simpa [flat] using hk
                                             subst this; exact ⟨_, h, rfl⟩, fun id o h => by simp [fV, look] at h⟩
  | .str, j, x, f, hj, h => ⟨fun k hk => by have : k = 0 := by simpa [flat] using hk
                                            subst this; exact ⟨_, h, rfl⟩, fun id o h => by simp [fV, look] at h⟩
  | .err, j, x, f, hj, h => ⟨fun k hk => by have : k = 0 := by simpa [flat] using hk
                                            subst this; obtain ⟨v, h1, h2⟩ := h; exact ⟨_, h1, h2⟩, fun id o h => by simp [fV, look] at h⟩
  | .bW t, j, x, f, hj, h => ⟨fun k hk => by
    have : k = 0 := by simpa [flat] using hk
    subst this
    obtain ⟨v, h1, h2, h3⟩ := h
    exact ⟨v, h1, iI (gq (fun b o hl v hv => ⟨hv, hL b o hl⟩) t) h2, h3⟩, fun id o h => by simp [fV, look] at h⟩
  | .pair s t, j, x, f, hj, h => by
    simp only [Ty.size] at hj
    have := s.size_pos
    have := t.size_pos
    obtain ⟨a1, a2⟩ := MZ hL h0 hs dN hU dr s j x.1 f (by omega) h.1
    obtain ⟨b1, b2⟩ := MZ hL h0 hs dN hU dr t (j + s.size) x.2 _ (by omega) h.2
    refine ⟨gB.app a1 (by rw [kq]; exact b1), fun id o hl => ?_⟩
    replace hl : look (fV base site s x.1 j ++ fV base site t x.2 (j + s.size)) id = some (some o) := hl
    rw [iU] at hl
    cases hq : look (fV base site s x.1 j) id with
    | some y =>
      rw [hq] at hl
      simp only [aN] at hl
      subst hl
      obtain ⟨⟨k, k1, k2, k3⟩, k4⟩ := a2 id o hq
      exact ⟨⟨k, k1, by simp only [Ty.size]; omega, k3⟩, k4⟩
    | none =>
      rw [hq] at hl
      obtain ⟨⟨k, k1, k2, k3⟩, k4⟩ := b2 id o hl
      exact ⟨⟨k, by omega, by simp only [Ty.size]; omega, k3⟩, k4⟩
  | .sl u, j, xs, f, hj, h => by
    simp only [Ty.size] at hj
    have A4 : j < 32 := by omega
    refine ⟨fun k hk => ?_, fun id o hl => ?_⟩
    · have : k = 0 := by simpa [flat] using hk
      subst this
      show ∃ v, f 0 = some v ∧ aV g' w U' (.own (base + j) 0 [] u) v
      rcases h with ⟨id, p, hh, h1, h2, h3⟩ | ⟨h1, h2, h3⟩
      · exact ⟨_, h2, hU j A4, h0, h0, trivial, fun _ => rfl, by rw [dN j 0 [] A4, show σ [(0, j)] = _ from h1]⟩
      · exact ⟨_, h2, hU j A4, h0, h0, trivial, fun _ => rfl, by rw [dN j 0 [] A4, show σ [(0, j)] = _ from h1]; rfl⟩
    · replace hl : look [(base + j, some (dL.row true u site xs))] id = some (some o) := hl
      rw [dQ] at hl
      split at hl
      · rename_i he
        subst he
        simp only [aN] at hl
        subst hl
        refine ⟨⟨j, cx _, by simp [Ty.size], rfl⟩, h0, hs, ?_⟩
        unfold eZ
        rw [dN j 0 [] A4]
        rcases h with ⟨id, p, hh, h1, h2, h3⟩ | ⟨h1, h2, h3⟩
        · have h1 : σ [(0, j)] = some (id, p, hh) := h1
          rw [h1]
          obtain ⟨r1, r2, r3, r4⟩ := h3
          refine ⟨r1, r2, r3, fun b o hb => ?_⟩
          obtain ⟨r5, r6⟩ := r4 b o hb
          have R : Ren g L w g' w (fun s => σ ((0, j) :: s)) (base + j) site := by
            refine ⟨fun q id p h hq => ?_, fun q hq hn => ?_, fun q id p h b o hq hl => ⟨dr j q id p h b o A4 hq hl, rfl, rfl⟩, fun b o hl v hv => ⟨hv, hL b o hl⟩⟩
            · rw [dN j site q A4]
              rw [show σ ((0, j) :: q) = _ from hq]
            · rw [dN j site q A4]
              rw [show σ ((0, j) :: q) = _ from hn]
          refine ⟨fun k hk => ?_, fun k hk => ?_⟩
          · obtain ⟨c1, c2, c3⟩ := r5 k hk
            exact ⟨dr j [] id p hh b _ A4 h1 c1, c2, c3⟩
          · exact Bz R u [] k 0 _ _ b _ (fun d hd => rfl) (Jm u [] k 0 _ _ (r6 k hk))
        · have h1 : σ [(0, j)] = none := h1
          rw [h1]
          subst h3
          exact ⟨rfl, cx _, fun _ => rfl, fun b o hb => by simp [eh] at hb⟩
      · simp [look] at hl
end
def gK:Nat→Prop:=fun s=>s<20
structure abG (g:Gh) (w:World) (ps:List PK) (x:iS ps) (args:List Value):Prop where
 bG:cz g w gK ((entry 0 ps x).1.map (·.2)) args
 bb:∀ id o,look (entry 0 ps x).2 id=some (some o)→fy g w gK id o
 cm:∀ b o q,g.lab b o=some q→b<w.heap.size
def FQ (g:Gh) (w:World) (base:Nat):(t:Ty)→Nat→{os:List Ty}→cj (t.gY os)→(cj os→Prop)→Prop
 | .pair a b,j,os,y,K=>FQ g w base a j (os:=b.gY os) y (fun y=>FQ g w base b (j+a.size) (os:=os) y K)
 | .sl u,j,_,y,K=>(∃ V,eZ g w true (base+j) 0 V u de [] y.1)∧K y.2
 | .int _,_,_,y,K=>K y
 | .bool,_,_,y,K=>K y
 | .str,_,_,y,K=>K y
 | .err,_,_,y,K=>K y
 | .bW _,_,_,y,K=>K y
def zf (g:Gh) (w:World):Nat→(ps:List PK)→cj (PK.outs ps)→Prop
 | _,[],_=>True
 | i,.io t::ps,y=>FQ g w (i*1024) t 0 y (fun y=>zf g w (i+1) ps y)
 | _,.jH _ _::_,_=>False
 | i,.val _::ps,y=>zf g w (i+1) ps y
 | i,.fX _::ps,y=>zf g w (i+1) ps y
 | i,.jI _ _::ps,y=>zf g w (i+1) ps y
structure zg (g:Gh) (w:World) (site:Nat) (m:ar) (y:cj (RK.bm m.rs++PK.outs m.ps)) (v:Value) (g':Gh) (w':World):Prop where
 val:aV g' w' (U' gK site) (match (gA site 0 m.rs (PK.outs m.ps) y).1 with | [v]=>v | vs=>.gX vs) v
 bb:∀ id o,look (gA site 0 m.rs (PK.outs m.ps) y).2.1 id=some (some o)→id / 1024=site∧fy g' w' (U' gK site) id o
 outs:zf g' w' 0 m.ps (gA site 0 m.rs (PK.outs m.ps) y).2.2
 par:∀ n,n / 1024<19→g'.hd n 0 []=g.hd n 0 []
 shr:∀ b o,g.lab b o=none→∀ v,w.cell? (ad b o)=some v→w'.cell? (ad b o)=some v∧g'.lab b o=none
 oQ:∀ b o id p,g.lab b o=some (id,p)→id / 1024=19→g'.lab b o=some (id,p)
 cm:∀ b o q,g'.lab b o=some q→b<w'.heap.size
 cI:∀ b o q,b<w.heap.size→g'.lab b o=some q→g.lab b o≠none
 fr:Fr (u6 g) w w'
def Sound (P:Program) (f:FuncId) (m:ar):Prop:=
 ∀ (x:iS m.ps) (y:cj (RK.bm m.rs++PK.outs m.ps)),m.m x=some y→yP m.ps m.rs=true→∀ (site:Nat),20≤site→∀ (g:Gh) (w:World) (args:List Value),abG g w m.ps x args→Gl P g.lab w→
  Calls P f args.toArray w fun e w'=>∃ v g',e = .returned v∧zg g w site m y v g' w'
end Go.Am
