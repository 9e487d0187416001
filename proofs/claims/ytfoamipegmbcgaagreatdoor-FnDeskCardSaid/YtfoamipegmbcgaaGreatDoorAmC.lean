/- The abstract machine is right: operations, states made anew, code, results. No condition. -/
import Derived.Test.YtfoamipegmbcgaaGreatDoorAmB
import Derived.LoopN
import Derived.Scope
set_option linter.unusedVariables false
set_option linter.unusedSimpArgs false
namespace Go.Am
open Go
section
variable {P:Program} {c:Cfg} {g:Gh} {L:Lab} {w w':World} {U:Nat→Prop} {sr:St} {a:Act} {site:Nat} {o:Oper} {ρ:Type} {r:ρ} {k:Eff→Option ρ} {σ:Src}
theorem Does.ok (S:Sit P c g w U sr a) {x:AVal} {s:Sem Value} (h:Ok P g w U x s) (he:execOp a.eval o=(do pure (.value (← s)):Sem Next)):Does P g w U site o a ⟨x,[]⟩:=by
 obtain ⟨v,h1,h2⟩:=h
 exact .val S (by rw [he]; simp [h1]) h2
theorem Does.post {e:Eff} {s:Sem Value} {v:Value} {w':World} {g':Gh} {U':Nat→Prop} (h:s.run P w = .ok v w') (hp:Post g w U site e v w' g' U') (he:execOp a.eval o=(do pure (.value (← s)):Sem Next)):Does P g w U site o a e:=
 .of (by rw [he]; simp [h]) hp
theorem convInt_ok (hc:TysOK P c) {s d:Nat} {k1 k2 kl:IntKind} {n:Int} {v:Value} (h1:(c.ti s).kind = .int k1) (h2:(c.ti d).kind = .int k2) (hx:VRel g w U (.int kl n) v) :
  Ok P g w U (.int k2 (wrapK k2 n)) (convert s d v):=by
 obtain rfl:=hx
 refine ⟨_,?_,by rw [← wrapK_wrap]; rfl⟩
 simp [convert,run_underlying (int_desc hc h1),run_underlying (int_desc hc h2),Conv.intToInt]
theorem convStr_ok (hc:TysOK P c) {s d:Nat} {x:List UInt8} {v:Value} (h1:(c.ti s).kind = .str) (h2:(c.ti d).kind = .str) (hx:VRel g w U (.str x) v) :
  Ok P g w U (.str x) (convert s d v):=by
 obtain rfl:=hx
 refine ⟨_,?_,rfl⟩
 simp [convert,run_underlying (str_desc hc h1),run_underlying (str_desc hc h2)]
theorem max_ok {ty:Nat} {kk:IntKind} {x y:Int} {ts:Array TypeId} : Ok P g w U (.int kk (max x y)) (Builtin.max_ ts ty #[.int kk x,.int kk y]):=by
 refine ⟨_,?_,rfl⟩
 simp [Builtin.max_,Builtin.max2]
 rw [Int.max_def]; split<;>split<;>omega
theorem min_ok {ty:Nat} {kk:IntKind} {x y:Int} {ts:Array TypeId} : Ok P g w U (.int kk (min x y)) (Builtin.min_ ts ty #[.int kk x,.int kk y]):=by
 refine ⟨_,?_,rfl⟩
 simp [Builtin.min_,Builtin.min2]
 rw [Int.min_def]; split<;>split<;>omega
theorem foldl_push:∀ (ns:List Int) (acc:ByteArray),ns.foldl (fun r n=>r.push (UInt8.ofNat n.toNat)) acc=⟨acc.data++(ns.map fun n=>UInt8.ofNat n.toNat).toArray⟩
 | [],acc=>by apply ByteArray.ext; simp
 | n::ns,acc=>by
  rw [List.foldl_cons,foldl_push ns]
  apply ByteArray.ext
  apply Array.ext'
  simp [ByteArray.push]
theorem bytes_ok (S:Sit P c g w U sr a) {s d:Nat} {x:AVal} {xs:List Int} {u:List Nat} {v:Value} (h1:(c.ti s).kind = .slice) (h2:(c.ti d).kind = .str) (h3:(c.ti (c.ti s).elem).kind = .int .u8) (hx:VRel g w U x v)
  (e:sr.tail true (.int .u8) x=some (xs,u)):Ok P g w U (.str (xs.map fun n=>UInt8.ofNat n.toNat)) (convert s d v):=by
 obtain ⟨-,σ,⟨xa,xc,rfl,hxa⟩,-,-⟩:=tail_sound (L:=g.lab) (t:=.int .u8) S.objs (fun _ _ h=>h) hx 0 (fun hf=>by simp at hf) e
 refine ⟨_,?_,rfl⟩
 rw [run_convert_bytes_string w s d (c.ti s).elem _ _ _ (slice_desc S.tys h1) (int_desc S.tys h3) (str_desc S.tys h2)]
 cases xa with
 | none=>
  have hl:xs.length=0:=by
   rcases Nat.eq_zero_or_pos xs.length with h | h
   ·exact h
   ·obtain ⟨_,_,h,-⟩:=hxa h; simp at h
  have:xs=[]:=List.eq_nil_of_length_eq_zero hl
  subst this
  simp [Conv.bytesToString]
  rfl
 | some q=>
  have hload:(loadCells q xs.length).run P w = .ok (xs.map (Value.int .u8)).toArray w:=by
   have:=run_loadCells_list (P:=P) w q (xs.map (Value.int .u8)) (fun j v hj=>?_)
   ·simpa using this
   ·simp only [List.getElem?_map] at hj
    obtain ⟨n,h4,rfl⟩:=Option.map_eq_some_iff.1 hj
    obtain ⟨h5,rfl⟩:=List.getElem?_eq_some_iff.1 h4
    obtain ⟨b,o,h6,h7⟩:=hxa (Nat.lt_of_le_of_lt (Nat.zero_le _) h5)
    simp only [Option.some.injEq] at h6
    subst h6
    have h8:w.cell? (ad b (o+j*1+0))=some (.int .u8 xs[j]):=h7 j h5
    rw [Addr.add_lit]
    simpa using h8
  refine Eq.trans (run_bytesToString w q xs.length xc xs hload) ?_
  rw [foldl_push]
  simp
end
end Go.Am
namespace Go.Am
open Go
section
variable {P:Program} {c:Cfg} {g:Gh} {L:Lab} {w w':World} {U:Nat→Prop} {sr:St} {a:Act} {site:Nat} {o:Oper} {ρ:Type} {r:ρ} {k:Eff→Option ρ} {σ:Src}
theorem unosh_rel {x:AVal} {v:Value} (h:VRel g w U x v):VRel g w U x.unosh v:=by
 cases x<;>first | exact h | exact h.1
def isCall:Op→Bool
 | .call ⟨.value _,_,_⟩=>true
 | _=>false
theorem evOp_sound (S:Sit P c g w U sr a) (hs:¬ U site) (hcall:isCall o.op=false) (e:evOp c sr site o.op k=some r):∃ eff,k eff=some r∧Does P g w U site o a eff:=by
 cases hop:o.op with
 | move x=>rw [hop] at e; exact ⟨_,e,.val S (by simp [execOp,hop]) (S.ev x)⟩
 | assign x=>rw [hop] at e; exact ⟨_,e,.val S (by simp [execOp,hop]) (S.ev x)⟩
 | pick q x y=>
  rw [hop] at e
  simp only [evOp] at e
  split at e
  ·rename_i t hq
   have hq':=S.ev q
   rw [hq] at hq'
   cases t with
   | true=>exact ⟨_,e,.val S (v:=a.eval x) (by simp [execOp,hop,show a.eval q = .bool true from hq',asBool]) (S.ev x)⟩
   | false=>exact ⟨_,e,.val S (v:=a.eval y) (by simp [execOp,hop,show a.eval q = .bool false from hq',asBool]) (S.ev y)⟩
  ·simp at e
 | alloc t=>
  rw [hop] at e
  simp only [evOp] at e
  split at e
  ·rename_i ht
   obtain ⟨v,w',g',U',h1,h2⟩:=alloc_ok S hs (by simpa [Nat.blt_eq] using ht)
   exact ⟨_,e,.post h1 h2 (by simp [execOp,hop])⟩
  ·simp at e
 | box t x=>
  rw [hop] at e
  simp only [evOp] at e
  split at e
  ·rename_i ht
   obtain ⟨v,w',g',U',h1,h2⟩:=box_ok (t:=t) S hs (S.ev x) ht
   exact ⟨_,e,.post h1 h2 (by simp [execOp,hop])⟩
  ·simp at e
 | build t parts=>
  rw [hop] at e
  simp only [evOp] at e
  split at e
  ·rename_i cs h
   split at h
   ·rename_i hk hf
    exact ⟨_,e,.ok S (build_ok S hk hf h) (by simp only [execOp,hop])⟩
   ·simp at h
  ·simp at e
 | buildSlice t len parts=>
  rw [hop] at e
  simp only [evOp] at e
  split at e
  ·simp at e
  ·rename_i h
   split at h
   ·rename_i hk hf
    rw [Bool.and_eq_true] at hf
    split at e
    ·rename_i cs hcs
     obtain ⟨v,w',g',U',h1,h2⟩:=buildSlice_ok S hs hk (by simpa [Nat.blt_eq] using hf.1) (Nat.le_of_ble_eq_true hf.2) hcs
     exact ⟨_,e,.post h1 h2 (by simp only [execOp,hop])⟩
    ·simp at e
   ·simp at h
 | load t x=>
  rw [hop] at e
  simp only [evOp] at e
  split at e
  ·rename_i cs j h
   split at h
   ·rename_i ht
    split at e
    ·rename_i z hz
     exact ⟨_,e,.ok S (load_sound S.tys S.objs (S.ev x) (by simpa [Nat.blt_eq] using ht) h hz) (by simp only [execOp,hop])⟩
    ·simp at e
   ·simp at h
  ·simp at e
 | store t x y=>
  rw [hop] at e
  simp only [evOp] at e
  split at e
  ·simp at e
  ·rename_i ht
   obtain ⟨eff,h1,w',g',U',h2,h3⟩:=store_ok S hs (by simpa [Nat.blt_eq] using ht) (S.ev x) (S.ev y) e
   exact ⟨_,h1,.skip (by simp [execOp,hop,h2]) h3⟩
 | nilCheck x=>
  rw [hop] at e
  simp only [evOp] at e
  have hx:=S.ev x
  split at e
  ·rename_i id j hq
   rw [hq] at hx
   refine ⟨_,e,.val S (v:=a.eval x) ?_ hx⟩
   obtain ⟨-,-,b,o',-,hv⟩:=hx
   simp [execOp,hop,hv]
  ·rename_i id ver p t i j hq
   rw [hq] at hx
   refine ⟨_,e,.val S (v:=a.eval x) ?_ hx⟩
   obtain ⟨-,-,-,-,-,-,b,o',-,hv⟩:=hx
   simp [execOp,hop,hv]
  ·rename_i t z j hq
   rw [hq] at hx
   refine ⟨_,e,.val S (v:=a.eval x) ?_ hx⟩
   obtain ⟨b,o',hv,-⟩:=hx
   simp [execOp,hop,hv]
  ·simp at e
 | unOp op t x=>
  rw [hop] at e
  simp only [evOp] at e
  have hx:=S.ev x
  split at e
  ·rename_i b hq
   rw [hq] at hx
   exact ⟨_,e,.ok S (x:=.bool (!b)) (s:=Op.unary .not (a.eval x)) ⟨.bool (!b),by rw [show a.eval x=_ from hx]; rfl,rfl⟩ (by simp only [execOp,hop])⟩
  ·rename_i kk n hq
   rw [hq] at hx
   exact ⟨_,e,.ok S (x:=.int kk (wrapK kk (0-n))) (s:=Op.unary .neg (a.eval x)) ⟨.int kk (wrapK kk (0-n)),by rw [show a.eval x=_ from hx]; simp [Op.unary,Op.intArith,wrapK_wrap],rfl⟩ (by simp only [execOp,hop])⟩
  ·simp at e
 | convert s d x=>
  rw [hop] at e
  simp only [evOp] at e
  have hx:=S.ev x
  split at e
  ·rename_i k1 k2 kl n h1 h2 hq
   rw [hq] at hx
   exact ⟨_,e,.ok S (convInt_ok S.tys h1 h2 hx) (by simp only [execOp,hop])⟩
  ·rename_i z h1 h2 hq
   rw [hq] at hx
   exact ⟨_,e,.ok S (convStr_ok S.tys h1 h2 hx) (by simp only [execOp,hop])⟩
  ·rename_i y h1 h2
   split at e
   ·rename_i xs u h3 h4
    exact ⟨_,e,.ok S (bytes_ok S h1 h2 h3 hx h4) (by simp only [execOp,hop])⟩
   ·simp at e
  ·simp at e
 | makeFunc f first caps=>
  rw [hop] at e
  cases f with
  | func f=>
   simp only [evOp] at e
   split at e
   ·rename_i hf
    have hf:first = #[]:=by simpa using hf
    subst hf
    have hl:∀ l:List Operand,VRels g w U (l.map sr.ev) (l.map a.eval):=by
     intro l
     induction l with
     | nil=>rfl
     | cons x l ih=>exact ⟨_,_,rfl,S.ev x,ih⟩
    exact ⟨_,e,.ok S (s:=Instr.makeFunc (.func f) ((#[]:Array Operand).map a.eval) (caps.map a.eval)) ⟨_,rfl,caps.toList.map a.eval,by simp; apply Array.ext'; simp,hl _⟩ (by simp only [execOp,hop])⟩
   ·simp at e
  | _=>simp [evOp] at e
 | makeSlice t l cp=>
  rw [hop] at e
  simp only [evOp] at e
  have hl:=S.ev l
  have hc:=S.ev cp
  split at e
  ·rename_i kl n kc m hq1 hq2
   rw [hq1] at hl
   rw [hq2] at hc
   split at e
   ·rename_i ety hk hty hby
    unfold chk at e
    split at e
    ·rename_i hb
     obtain ⟨rfl,h1,h2⟩:=hb
     obtain ⟨v,w',g',U',h3,h4⟩:=makeSlice_ok (ow:=!(c.frz.any (Nat.beq site))) (kl:=kl) (kc:=kc) S hs hk hty (Nat.le_of_ble_eq_true hby) ⟨h1,h2⟩
     refine ⟨_,e,.post (s:=Instr.makeSlice t (a.eval l) (a.eval cp)) ?_ h4 (by simp only [execOp,hop])⟩
     rw [show a.eval l=_ from hl,show a.eval cp=_ from hc]
     exact h3
    ·simp at e
   ·simp at e
  ·simp at e
 | slice t x lo hi mx=>
  rw [hop] at e
  cases mx with
  | some m=>simp [evOp] at e
  | none=>
   simp only [evOp] at e
   split at e
   ·rename_i hk
    split at e
    ·simp at e
    ·rename_i hsz
     split at e
     ·obtain ⟨eff,h1,v',w',g',U',h2,h3⟩:=sliceF_ok S hs hk (by simpa [Nat.blt_eq] using hsz) (S.ev x) e
      exact ⟨_,h1,.post h2 h3 (by simp only [execOp,hop,Option.map_none])⟩
     ·split at e
      ·obtain ⟨eff,h1,v',w',g',U',h2,h3⟩:=sliceF_ok S hs hk (by simpa [Nat.blt_eq] using hsz) (S.ev x) e
       exact ⟨_,h1,.post h2 h3 (by simp only [execOp,hop,Option.map_none])⟩
      ·obtain ⟨z,h1,h2⟩:=slice_ok S hk (by simpa [Nat.blt_eq] using hsz) (S.ev x) e
       exact ⟨_,h1,.ok S h2 (by simp only [execOp,hop,Option.map_none])⟩
   ·rename_i hk
    split at e
    ·rename_i z hq
     have hx:=S.ev x
     rw [hq] at hx
     obtain ⟨z,h1,h2⟩:=sliceStr_ok S hk hx e
     exact ⟨_,h1,.ok S h2 (by simp only [execOp,hop,Option.map_none])⟩
    ·simp at e
   ·simp at e
 | extract x i=>
  rw [hop] at e
  simp only [evOp] at e
  have hx:=S.ev x
  split at e
  ·rename_i vs hq
   rw [hq] at hx
   split at e
   ·rename_i z hz
    exact ⟨_,e,.ok S (extract_ok hx hz) (by simp only [execOp,hop])⟩
   ·simp at e
  ·simp at e
 | index t x i=>
  rw [hop] at e
  simp only [evOp] at e
  have hx:=S.ev x
  have hi:=S.ev i
  split at e
  ·rename_i z kk n hq1 hq2 hk
   rw [hq1] at hx
   rw [hq2] at hi
   unfold chk at e
   split at e
   ·rename_i hb
    refine ⟨_,e,.ok S (s:=Instr.index t (a.eval x) (a.eval i)) ?_ (by simp only [execOp,hop])⟩
    rw [show a.eval i=_ from hi]
    exact index_ok S.tys hk hx hb
   ·simp at e
  ·simp at e
 | indexAddr t x i=>
  rw [hop] at e
  simp only [evOp] at e
  have hi:=S.ev i
  split at e
  ·rename_i kk n hq2 hk hsz
   rw [hq2] at hi
   have e:evIndexAddr (c.ti (c.ti t).elem).size sr (sr.ev x) n (fun v=>k ⟨v,[]⟩)=some r:=by
    cases hf:c.frz.any (Nat.beq (site+2000000)) with
    | true=>simp only [hf] at e; exact idxCases_of e
    | false=>simp only [hf] at e; exact e
   obtain ⟨z,h1,h2⟩:=indexAddr_ok (z:=.undef) (kk:=kk) S hk (by simpa [Nat.blt_eq] using hsz) (S.ev x) e
   refine ⟨_,h1,.ok S (s:=Instr.indexAt t (a.eval x) (a.eval i)) ?_ (by simp only [execOp,hop])⟩
   rw [show a.eval i=_ from hi]
   exact h2
  ·simp at e
 | fieldAddr t x f=>
  rw [hop] at e
  simp only [evOp] at e
  split at e
  ·rename_i off ft hk hf
   cases hb:Nat.blt 0 (c.ti ft).size with
   | false=>rw [hb] at e; simp at e
   | true=>
    rw [hb] at e
    have hsz:0<(c.ti ft).size:=by simpa [Nat.blt_eq] using hb
    cases hm:moveAddr (sr.ev x) off with
    | undef=>rw [hm] at e; simp at e
    | _=>
     rw [hm] at e
     exact ⟨_,e,.ok S (fieldAddr_ok S.tys hk hf hsz (S.ev x) hm (by simp)) (by simp only [execOp,hop])⟩
  ·simp at e
 | field t x f=>
  rw [hop] at e
  simp only [evOp] at e
  have hx:=S.ev x
  split at e
  ·rename_i cs off ft hq hk hf
   rw [hq] at hx
   split at e
   ·rename_i z hz
    split at hz
    ·rename_i hsz
     exact ⟨_,e,.ok S (field_ok S.tys hk hf (by simpa [Nat.blt_eq] using hsz) hx hz) (by simp only [execOp,hop])⟩
    ·simp at hz
   ·simp at e
  ·simp at e
 | binOp op t x y q=>
  rw [hop] at e
  simp only [evOp] at e
  have hx:=S.ev x
  have hy:=S.ev y
  split at e
  ·rename_i as bs hq1 hq2
   rw [hq1] at hx
   rw [hq2] at hy
   split at e
   ·rename_i e' h1 h2
    rw [Bool.and_eq_true] at h1
    have h3:=structEq_ok (op:=.eql) (X:=x) (Y:=y) S.tys h1.1 (Nat.eq_of_beq_eq_true h1.2) hx hy h2
    exact ⟨_,e,.ok S (x:=.bool e') ⟨_,h3.1,rfl⟩ (by simp only [execOp,hop])⟩
   ·rename_i e' h1 h2
    rw [Bool.and_eq_true] at h1
    have h3:=structEq_ok (op:=.eql) (X:=x) (Y:=y) S.tys h1.1 (Nat.eq_of_beq_eq_true h1.2) hx hy h2
    exact ⟨_,e,.ok S (x:=.bool (!e')) ⟨_,h3.2,rfl⟩ (by simp only [execOp,hop])⟩
   ·simp at e
  ·split at e
   ·simp at e
   ·rename_i hk
    have hT:TOK P t (c.ti t):=ti_ok S.tys (.inr (by intro h; rw [h] at hk; simp [isOther] at hk))
    obtain ⟨d,h1,h2,-⟩:=hT.desc
    obtain ⟨z,v,h3,h4,h5⟩:=evBin_sound (P:=P) (X:=x) (Y:=y) (w:=w) h1 (by
     revert h2
     cases (c.ti t).kind<;>intro h2<;>first | exact h2 | trivial | exact ⟨_,h2⟩) (fun hc=>by
     cases y<;>simp at hc
     exact ⟨_,rfl⟩) hx hy e
    exact ⟨_,h3,.ok S ⟨v,h4,h5⟩ (by simp only [execOp,hop])⟩
 | call cl=>
  rw [hop] at e
  obtain ⟨callee,args,ts⟩:=cl
  cases callee with
  | value f=>rw [hop] at hcall; simp [isCall] at hcall
  | invoke x n=>simp [evOp] at e
  | builtin b=>
   cases b<;>try (simp [evOp] at e; done)
   case append=>
    simp only [evOp] at e
    split at e
    ·rename_i s x t u ha ht
     split at e
     ·rename_i hk htu hb
      obtain rfl:=Nat.eq_of_beq_eq_true htu
      rw [Bool.and_eq_true] at hb
      have ha:args = #[s,x]:=by apply Array.ext'; simpa using ha
      have ht:ts = #[t,t]:=by apply Array.ext'; simpa using ht
      subst ha ht
      split at e
      ·obtain ⟨eff,h1,v',w',g',U',h2,h3⟩:=appendF_ok (ty:=o.type) (site:=site) S hk (Nat.le_of_ble_eq_true hb.1) (S.ev s) (S.ev x) e
       refine ⟨_,h1,.of ?_ h3⟩
       simp [execOp,hop,resolve,invoke,builtin,h2]
      ·split at e
       ·obtain ⟨eff,h1,v',w',g',U',h2,h3⟩:=appendN_ok (ty:=o.type) S hs hk (Nat.le_of_ble_eq_true hb.1) (S.ev s) (unosh_rel (S.ev x)) e
        refine ⟨_,h1,.of ?_ h3⟩
        simp [execOp,hop,resolve,invoke,builtin,h2]
       ·obtain ⟨eff,h1,v',w',g',U',h2,h3⟩:=append_ok (ty:=o.type) S hs hk (Nat.le_of_ble_eq_true hb.1) (S.ev s) (S.ev x) e
        refine ⟨_,h1,.of ?_ h3⟩
        simp [execOp,hop,resolve,invoke,builtin,h2]
     ·rename_i hk htu hb
      rw [Bool.and_eq_true] at hb
      have ha:args = #[s,x]:=by apply Array.ext'; simpa using ha
      have ht:ts = #[t,u]:=by apply Array.ext'; simpa using ht
      subst ha ht
      split at e
      ·rename_i kn hu
       unfold evAppendZ at e
       split at e
       ·rename_i kk n ety hs1 hx1 he1
        unfold chk at e
        split at e
        ·rename_i hn
         have h3:=S.ev s
         have h4:=S.ev x
         rw [hs1] at h3
         rw [hx1] at h4
         obtain ⟨v',w',g',U',h5,h6⟩:=appendZ_ok (ty:=o.type) (kk:=kk) S hs hk hu he1 (Nat.le_of_ble_eq_true hb.1) hn
         refine ⟨_,e,.of ?_ h6⟩
         simp [execOp,hop,resolve,invoke,builtin,show a.eval s=_ from h3,show a.eval x=_ from h4,h5]
        ·simp at e
       ·simp at e
      ·simp at e
     ·simp at e
    ·simp at e
   case len=>
    simp only [evOp] at e
    split at e
    ·rename_i x t ha ht
     have ha:args = #[x]:=by apply Array.ext'; simpa using ha
     have ht:ts = #[t]:=by apply Array.ext'; simpa using ht
     subst ha ht
     have hx:=S.ev x
     split at e
     ·rename_i s hk hq
      rw [hq] at hx
      refine ⟨_,e,.val S (v:=.int .i64 (s.length:Int)) ?_ rfl⟩
      have hx:a.eval x = .string ⟨s.toArray⟩:=hx
      simp [execOp,hop,resolve,invoke,builtin,Builtin.len_,run_underlying (str_desc S.tys hk),hx,goInt]
      rfl
     ·simp at e
     ·rename_i hk hne
      split at e
      ·rename_i n hn
       rcases len_ok S hx hn with ⟨s,h1,-⟩ | ⟨b,l,cp,h1,rfl,-⟩
       ·exact (hne s h1).elim
       ·refine ⟨_,e,.val S (v:=.int .i64 (l:Int)) ?_ rfl⟩
        simp [execOp,hop,resolve,invoke,builtin,Builtin.len_,run_underlying (slice_desc S.tys hk),h1,goInt]
      ·simp at e
     ·simp at e
    ·simp at e
   case cap=>
    simp only [evOp] at e
    split at e
    ·rename_i x t ha ht
     have ha:args = #[x]:=by apply Array.ext'; simpa using ha
     have ht:ts = #[t]:=by apply Array.ext'; simpa using ht
     subst ha ht
     have hx:=S.ev x
     split at e
     ·rename_i hk hq
      rw [hq] at hx
      refine ⟨_,e,.val S (v:=.int .i64 0) ?_ rfl⟩
      have hx:a.eval x = .slice none 0 0:=hx
      simp [execOp,hop,resolve,invoke,builtin,Builtin.cap_,run_underlying (slice_desc S.tys hk),hx,goInt]
     ·simp at e
    ·simp at e
   case copy=>
    simp only [evOp] at e
    split at e
    ·rename_i d x t u ha ht
     split at e
     ·rename_i hk hb
      have ha:args = #[d,x]:=by apply Array.ext'; simpa using ha
      have ht:ts = #[t,u]:=by apply Array.ext'; simpa using ht
      subst ha ht
      obtain ⟨eff,h1,v',w',h2,h3⟩:=copy_ok (ty:=o.type) S hk (by simpa [Nat.blt_eq] using hb) (ts:=#[t,u]) rfl (S.ev d) (S.ev x) e
      refine ⟨_,h1,.of ?_ h3⟩
      simp [execOp,hop,resolve,invoke,builtin,h2]
     ·simp at e
    ·simp at e
   case max=>
    simp only [evOp] at e
    split at e
    ·rename_i kk x kl y hq
     split at e
     ·rename_i hkk
      obtain rfl:=ikB_eq hkk
      have hargs:∃ s t,args = #[s,t]∧sr.ev s = .int kk x∧sr.ev t = .int kk y:=by
       obtain ⟨l⟩:=args
       simp only at hq
       rcases l with _ | ⟨s,_ | ⟨t,_ | ⟨u,l⟩⟩⟩<;>simp at hq
       exact ⟨s,t,rfl,hq.1,hq.2⟩
      obtain ⟨s,t,rfl,h1,h2⟩:=hargs
      have h3:=S.ev s
      have h4:=S.ev t
      rw [h1] at h3
      rw [h2] at h4
      obtain ⟨v,h5,h6⟩:=max_ok (P:=P) (g:=g) (w:=w) (U:=U) (ty:=o.type) (kk:=kk) (x:=x) (y:=y) (ts:=ts)
      refine ⟨_,e,.val S (v:=v) ?_ h6⟩
      simp [execOp,hop,resolve,invoke,builtin,show a.eval s=_ from h3,show a.eval t=_ from h4,h5]
     ·simp at e
    ·simp at e
   case min=>
    simp only [evOp] at e
    split at e
    ·rename_i kk x kl y hq
     split at e
     ·rename_i hkk
      obtain rfl:=ikB_eq hkk
      have hargs:∃ s t,args = #[s,t]∧sr.ev s = .int kk x∧sr.ev t = .int kk y:=by
       obtain ⟨l⟩:=args
       simp only at hq
       rcases l with _ | ⟨s,_ | ⟨t,_ | ⟨u,l⟩⟩⟩<;>simp at hq
       exact ⟨s,t,rfl,hq.1,hq.2⟩
      obtain ⟨s,t,rfl,h1,h2⟩:=hargs
      have h3:=S.ev s
      have h4:=S.ev t
      rw [h1] at h3
      rw [h2] at h4
      obtain ⟨v,h5,h6⟩:=min_ok (P:=P) (g:=g) (w:=w) (U:=U) (ty:=o.type) (kk:=kk) (x:=x) (y:=y) (ts:=ts)
      refine ⟨_,e,.val S (v:=v) ?_ h6⟩
      simp [execOp,hop,resolve,invoke,builtin,show a.eval s=_ from h3,show a.eval t=_ from h4,h5]
     ·simp at e
    ·simp at e
 | _=>(rw [hop] at e; simp [evOp] at e)
end
end Go.Am
namespace Go.Am
open Go
theorem Fr.trans' {F F':Nat→Nat→Prop} {w1 w2 w3:World} (h:Fr F w1 w2) (h':Fr F' w2 w3) (hF:∀ b o,b<w1.heap.size→F' b o→F b o):Fr F w1 w3:=by
 refine ⟨h'.os.trans h.os,h'.tape.trans h.tape,h'.output.trans h.output,Nat.le_trans h.size h'.size,fun k c e f hk=>?_,fun k hk hn=>?_,fun k b hb hn=>h'.kind k b (h.kind k b hb hn) hn⟩
 ·have hlt:k<w1.heap.size:=by
   rcases Nat.lt_or_ge k w1.heap.size with hh | hh
   ·exact hh
   ·rw [Array.getElem?_eq_none hh] at hk; simp at hk
  obtain ⟨c1,h1,h2,h3⟩:=h.cells k c e f hk
  obtain ⟨c2,h4,h5,h6⟩:=h'.cells k c1 e f h1
  exact ⟨c2,h4,by rw [h5,h2],fun o ho=>by rw [h6 o (fun hf=>ho (hF k o hlt hf)),h3 o ho]⟩
 ·rw [h'.block k (Nat.lt_of_lt_of_le hk h.size) (fun o ho=>hn o (hF k o hk ho)),h.block k hk hn]
theorem look_app {α:Type} : ∀ (l m:List (Nat×α)) (n:Nat),look (l++m) n=match look l n with | some x=>some x | none=>look m n
 | [],m,n=>rfl
 | (k,v)::l,m,n=>by
  simp only [List.cons_append,look]
  split
  ·rfl
  ·exact look_app l m n
section
variable {P:Program} {c:Cfg} {w0:World} {F:Lab} {N:Nat} {g g':Gh} {w w':World} {U U':Nat→Prop} {st:St} {a:Act}
theorem Rel.sit (R:Rel w0 F N g U st a w) (hc:TysOK P c) (hG:Gl P F w0):Sit P c g w U st a:=⟨hc,R.env,R.heap,R.labs,R.u0,R.u20,R.nf,R.gl hG⟩
theorem Rel.fresh (R:Rel w0 F N g U st a w):¬ U st.nxt:=fun h=>Nat.lt_irrefl _ (R.used _ h)
theorem put_eval {a:Act} {d:Option Nat} {v:Value} {t:Nat} (hd:∀ x,d=some x→x<a.tmps.size):(a.put d v).eval (.tmp t)=if d=some t then v else a.eval (.tmp t):=by
 cases d with
 | none=>simp [Act.put]
 | some d=>
  have:=hd d rfl
  by_cases h:d=t
  ·subst h
   simp [Act.put,Act.eval,this]
  ·rw [if_neg (by simpa using h)]
   exact Act.eval_put (dst:=some d) (x:=.tmp t) (fun x hx=>by simp at hx; subst hx; intro he; simp at he; exact h he.symm)
theorem Rel.put (R:Rel w0 F N g U st a w) {e:Eff} {v:Value} {dst:Option Nat} (hd:∀ x,dst=some x→x<N) (Q:Post g w U st.nxt e v w' g' U') :
  Rel w0 F N g' U' (st.put dst e) (a.put dst v) w':=by
 have hd':∀ x,dst=some x→x<a.tmps.size:=by rw [R.size]; exact hd
 refine ⟨fun t x h=>?_,fun id ob h=>?_,fun s h=>?_,Q.labs,fun b o id p hb h=>?_,fun b o id p hf h19=>?_,?_,?_,?_,Q.stp.sub _ R.u0,fun s hs=>Q.stp.sub _ (R.u20 s hs),fun id h=>?_⟩
 ·rw [put_eval hd']
  cases dst with
  | none=>exact Q.stp.vrel _ _ (R.env t x h)
  | some d=>
   simp only [St.put] at h
   rw [look_cons] at h
   by_cases hdt:d=t
   ·subst hdt
    simp only [if_true,Option.some.injEq] at h ⊢
    subst h; exact Q.val
   ·rw [if_neg hdt] at h
    rw [if_neg (by simpa using hdt)]
    exact Q.stp.vrel _ _ (R.env t x h)
 ·unfold St.obj St.put at h
  simp only [look_app] at h
  cases hl:look e.objs id with
  | some ob'=>
   rw [hl] at h
   cases ob' with
   | none=>simp at h
   | some ob'=>
    simp only [Option.some.injEq] at h
    subst h
    exact Q.objs id _ hl
  | none=>
   rw [hl] at h
   have h:st.obj id=some ob:=h
   obtain ⟨h1,h2⟩:=R.heap id ob h
   exact ⟨Q.stp.sub _ h1,ORel_step Q.stp (by rw [hl]; simp) h1 ob h2⟩
 ·show s<st.nxt+1
  rcases Q.used s h with h | h
  ·have:=R.used s h; omega
  ·omega
 ·have hb':b<w.heap.size:=Nat.lt_of_lt_of_le hb R.fr.size
  have hne:=Q.old b o _ hb' h
  cases hl:g.lab b o with
  | none=>exact absurd hl hne
  | some q=>
   obtain ⟨id',p'⟩:=q
   cases ht:(look e.objs id').isSome with
   | true=>
    rcases R.old b o id' p' hb hl with h2 | h2
    ·exact absurd h2.1 (Q.nf id' ht)
    ·exact .inr h2
   | false=>
    have:=(Q.stp.own b o id' p' hl (by rw [ht]; simp)).1
    rw [this] at h
    simp only [Option.some.injEq,Prod.mk.injEq] at h
    obtain ⟨rfl,rfl⟩:=h
    exact R.old b o id' p' hb hl
 ·have hl:=R.frn b o id p hf h19
  refine (Q.stp.own b o id p hl (fun ht=>Q.nf id ht h19)).1
 ·refine R.fr.trans' Q.fr (fun b o hb h=>?_)
  obtain ⟨id,p,hl,hn⟩:=h
  rcases R.old b o id p hb hl with h2 | h2
  ·exact absurd h2.1 hn
  ·exact h2
 ·cases dst<;>exact R.defers
 ·cases dst<;>simp [Act.put,R.size]
 ·unfold St.obj St.put at h
  simp only [look_app] at h
  cases hl:look e.objs id with
  | some ob'=>exact Q.nf id (by rw [hl]; rfl)
  | none=>rw [hl] at h; exact R.nf id h
end
end Go.Am
namespace Go.Am
open Go
section
variable {P:Program} {c:Cfg} {w0:World} {F:Lab} {N:Nat} {g g':Gh} {w w':World} {U U':Nat→Prop} {st:St} {a:Act}
def OpOK (P:Program) (c:Cfg):Prop:=∀ {ρ:Type} {r:ρ} {k:Eff→Option ρ} {g:Gh} {w:World} {U:Nat→Prop} {sr:St} {a:Act} {site:Nat} {o:Oper},
 Sit P c g w U sr a→¬ U site→evOp c sr site o.op k=some r→∃ eff,k eff=some r∧Does P g w U site o a eff
theorem Rel.know (R:Rel w0 F N g U st a w) {d:Nat} {x:AVal} (h:VRel g w U x (a.eval (.tmp d))):Rel w0 F N g U (st.put (some d) ⟨x,[]⟩) a w:=by
 refine ⟨fun t y hy=>?_,R.heap,fun s hs=>?_,R.labs,R.old,R.frn,R.fr,R.defers,R.size,R.u0,R.u20,R.nf⟩
 ·simp only [St.put] at hy
  rw [look_cons] at hy
  split at hy
  ·rename_i he; subst he; simp at hy; subst hy; exact h
  ·exact R.env t y hy
 ·have:=R.used s hs
  show s<st.nxt+1
  omega
theorem Rel.skip (R:Rel w0 F N g U st a w) {dst:Option Nat} (hd:∀ x,dst=some x→x<N):Rel w0 F N g U (st.put dst ⟨.tup [],[]⟩) (a.put dst undef) w:=
 R.put hd (.same R.labs ⟨[],rfl,rfl⟩)
theorem yielded_of {ops:Array Oper} {tmps:Array Value} {gd d:Nat} {b:Bool} (h:dstOf ops.toList gd=some d) (hv:tmps.getD d undef = .bool b):yielded ops tmps gd=some b:=by
 unfold dstOf at h
 unfold yielded
 rw [Array.getElem?_toList] at h
 cases e:ops[gd]? with
 | none=>rw [e] at h; simp at h
 | some o=>
  rw [e] at h
  simp only at h
  have hs:tmps[d]? = some (.bool b):=by
   rw [Array.getD_eq_getD_getElem?] at hv
   cases e2:tmps[d]? with
   | none=>rw [e2] at hv; simp [undef] at hv
   | some x=>rw [e2] at hv; simp at hv; rw [hv]
  simp [h,hs]
theorem yielded_undef {ops:Array Oper} {tmps:Array Value} {gd d:Nat} (h:dstOf ops.toList gd=some d) (hv:tmps.getD d undef=undef):yielded ops tmps gd=none:=by
 unfold dstOf at h
 unfold yielded
 rw [Array.getElem?_toList] at h
 cases e:ops[gd]? with
 | none=>rfl
 | some o=>
  rw [e] at h
  simp only at h
  rw [Array.getD_eq_getD_getElem?] at hv
  cases e2:tmps[d]? with
  | none=>simp [h,e2]
  | some x=>
   rw [e2] at hv
   simp only [Option.getD_some] at hv
   subst hv
   simp [h,e2,undef]
end
end Go.Am
namespace Go.Am
open Go
def Sub (M M':Mp):Prop:=∀ k v,look M k=some v→look M' k=some v
def InjM (M:Mp):Prop:=∀ k1 k2 a d1 d2,look M k1=some (a,d1)→look M k2=some (a,d2)→a≠nilId→k1=k2
theorem Sub.refl (M:Mp):Sub M M:=fun _ _ h=>h
theorem Sub.trans {A B C:Mp} (h:Sub A B) (h':Sub B C):Sub A C:=fun k v e=>h' k v (h k v e)
theorem look_mem {α:Type} : ∀ {l:List (Nat×α)} {k:Nat} {v:α},look l k=some v→(k,v)∈l
 | (a,b)::l,k,v,h=>by
  rw [look_cons] at h
  split at h
  ·rename_i he; subst he; simp at h; subst h; simp
  ·exact List.mem_cons_of_mem _ (look_mem h)
theorem bindId_ok {M M':Mp} {cid aid d:Nat} (h:bindId M cid aid d=some M'):Sub M M'∧look M' cid=some (aid,d)∧aid≠nilId∧(InjM M→InjM M'):=by
 unfold bindId at h
 split at h
 ·rename_i ad hl
  split at h
  ·rename_i hb
   simp only [Bool.and_eq_true,Nat.beq_eq_true_eq,Bool.not_eq_true',Nat.beq_eq] at hb
   obtain rfl:=Option.some.inj h
   obtain ⟨⟨h1,h2⟩,h3⟩:=hb
   refine ⟨.refl _,by rw [hl,← h1,← h2],fun e=>?_,fun h=>h⟩
   subst e; simp at h3
  ·simp at h
 ·rename_i hl
  split at h
  ·simp at h
  ·rename_i hb
   obtain rfl:=Option.some.inj h
   simp only [Bool.or_eq_false_iff] at hb
   obtain ⟨h1,h2⟩:=hb
   have hne:aid≠nilId:=fun e=>by subst e; simp at h2
   have hno:∀ k d',look M k≠some (aid,d'):=by
    intro k d' hk
    have:=List.any_eq_false.1 h1 _ (look_mem hk)
    simp at this
   refine ⟨fun k v hk=>?_,by rw [look_cons,if_pos rfl],hne,fun hi k1 k2 a d1 d2 e1 e2 hn=>?_⟩
   ·rw [look_cons,if_neg]
    ·exact hk
    ·intro e; subst e; rw [hl] at hk; simp at hk
   ·rw [look_cons] at e1 e2
    split at e1<;>split at e2
    ·rename_i a1 a2; rw [← a1,← a2]
    ·simp at e1; obtain ⟨rfl,rfl⟩:=e1; exact absurd e2 (hno _ _)
    ·simp at e2; obtain ⟨rfl,rfl⟩:=e2; exact absurd e1 (hno _ _)
    ·exact hi _ _ _ _ _ e1 e2 hn
theorem nilId_ok {M:Mp} {cid:Nat} (h:look M cid=none):Sub M ((cid,nilId,0)::M)∧(InjM M→InjM ((cid,nilId,0)::M)):=by
 refine ⟨fun k v hk=>?_,fun hi k1 k2 a d1 d2 e1 e2 hn=>?_⟩
 ·rw [look_cons,if_neg]
  ·exact hk
  ·intro e; subst e; rw [h] at hk; simp at hk
 ·rw [look_cons] at e1 e2
  split at e1<;>split at e2
  ·rename_i a1 a2; rw [← a1,← a2]
  ·simp at e1; exact absurd e1.1.symm hn
  ·simp at e2; exact absurd e2.1.symm hn
  ·exact hi _ _ _ _ _ e1 e2 hn
def hdr (g:Gh) (aid d:Nat):Hd:=if aid=nilId then nilHd else if d=0 then g.hd aid 0 [] else ⟨(g.hd aid 0 []).addr,(g.hd aid 0 []).len / d,(g.hd aid 0 []).len / d⟩
def verOf (st:St) (id:Nat):Nat:=match st.obj id with | some (.row _ _ vr _)=>vr | _=>0
structure Cons (st:St) (nm:Nat→Nat) (vr:Nat) (M:Mp) (g g':Gh) (U':Nat→Prop):Prop where
 name:∀ k aid d,look M k=some (aid,d)→U' (nm k / 1024)∧g'.hd (nm k) 0 []=hdr g aid d
 u0:U' 0
 uv:U' vr
 sh:∀ b o,g.lab b o=none→g'.lab b o=none
 lab:∀ k aid d b o p,look M k=some (aid,d)→aid≠nilId→g.lab b o=some (aid,p)→g'.lab b o=some (nm k,p)
 inn:∀ k aid d q,look M k=some (aid,d)→q≠[]→g'.hd (nm k) vr q=if d=0 then g.hd aid (verOf st aid) q else nilHd
theorem Cons.mono {st:St} {nm:Nat→Nat} {vr:Nat} {M M':Mp} {g g':Gh} {U':Nat→Prop} (h:Sub M M') (c:Cons st nm vr M' g g' U'):Cons st nm vr M g g' U':=
 ⟨fun k aid d e=>c.name k aid d (h _ _ e),c.u0,c.uv,c.sh,fun k aid d b o p e=>c.lab k aid d b o p (h _ _ e),fun k aid d q e=>c.inn k aid d q (h _ _ e)⟩
section
variable {g g':Gh} {w:World} {U U':Nat→Prop} {st:St} {nm:Nat→Nat} {vr:Nat}
theorem Cons.shv {M:Mp} (C:Cons st nm vr M g g' U') {t:Ty} {xs:List t.T} {v:Value} (h:shV t.size (Sh g.lab w t) xs v):shV t.size (Sh g'.lab w t) xs v:=
 shV_mono (Sh_step (fun b o hl v hv=>⟨hv,C.sh b o hl⟩) t) h
theorem cast_eq {a b:Ty} {x:a.T} {y:b.T} (h:Ty.cast a b x=some y):a=b∧HEq x y:=by
 unfold Ty.cast at h
 split at h
 ·rename_i hb
  have e:=Ty.eq_of_beq hb
  subst e
  exact ⟨rfl,heq_of_eq (Option.some.inj h)⟩
 ·simp at h
theorem conB_ok {a b:AVal} (h:conB a b=true) {x:Value} (hx:VRel g w U b x):VRel g' w U' a x:=by
 unfold conB at h
 split at h
 ·trivial
 ·exact hx
 ·exact hx
 ·exact hx
 ·obtain rfl:=Nat.eq_of_beq_eq_true h
  obtain ⟨l,rfl,hl⟩:=hx
  exact ⟨l,rfl,hl⟩
 ·simp at h
section
variable {st:St} {r:Type} {M:Mp} {v:AVal} {f:Mp→Option r}
theorem reify_int (k:IntKind):reify st (.int k) M v f=(match v with | .int l n=>(match ikB k l with | true=>(match f M with | some r=>some (n,r) | none=>none) | false=>none) | _=>none):=by cases v<;>rfl
theorem reify_bool:reify st .bool M v f=(match v with | .bool b=>(match f M with | some r=>some (b,r) | none=>none) | _=>none):=by cases v<;>rfl
theorem reify_str:reify st .str M v f=(match v with | .str b=>(match f M with | some r=>some (b,r) | none=>none) | _=>none):=by cases v<;>rfl
theorem reify_err:reify st .err M v f=(match v with | .err b=>(match f M with | some r=>some (b,r) | none=>none) | _=>none):=by cases v<;>rfl
theorem reify_sh (t:Ty):reify st (.sh t) M v f=(match v with
  | .sh u xs=>(match Ty.cast (.sl u) (.sl t) xs with | some ys=>(match f M with | some r=>some (ys,r) | none=>none) | none=>none)
  | .nil=>(match f M with | some r=>some (([]:List t.T),r) | none=>none)
  | _=>none):=by cases v<;>rfl
theorem reify_osh (t:Ty):reify st (.osh t) M v f=(match v with | .osh u o=>(match Ty.cast (.osl u) (.osl t) o with | some o=>(match f M with | some r=>some (o,r) | none=>none) | none=>none) | _=>none):=by cases v<;>rfl
theorem reify_own (cid:Nat) (t:Ty):reify st (.own cid t) M v f=(match v with
  | .own aid _ [] _=>(match bindId M cid aid 0 with | some M=>f M | none=>none)
  | .csl aid 0 len sz=>(match st.obj aid with
   | some (.cells _ cs)=>(match Nat.beq sz t.size&&Nat.beq (len*sz) cs.length with
    | true=>(match bindId M cid aid t.size with | some M=>f M | none=>none)
    | false=>none)
   | _=>none)
  | .nil=>(match look M cid with | none=>f ((cid,nilId,0)::M) | some _=>none)
  | _=>none):=by cases v<;>rfl
theorem reify_osub (cid:Nat) (t:Ty):reify st (.osub cid t) M v f=(match v with
  | .osub aid _ [] u off len=>(match Ty.beq t u,bindId M cid aid 0 with
   | true,some M=>(match f M with | some r=>some (off,len,r) | none=>none)
   | _,_=>none)
  | .own aid _ [] u=>(match st.obj aid with
   | some (.row _ t' _ xs)=>(match Ty.beq t u&&Ty.beq t t',bindId M cid aid 0 with
    | true,some M=>(match f M with | some r=>some (0,xs.length,r) | none=>none)
    | _,_=>none)
   | _=>none)
  | _=>none):=by cases v<;>rfl
theorem reify_vptr (cid j:Nat):reify st (.vptr cid j) M v f=(match v with | .vptr aid l=>(match Nat.beq j l,bindId M cid aid 0 with | true,some M=>f M | _,_=>none) | _=>none):=by cases v<;>rfl
theorem reify_rptr (cid : Nat) (t : Ty) (j : Nat) : reify st (.rptr cid t j) M v f = (match v with
    | .rptr aid _ [] u i l => (match Nat.beq j l && Ty.beq t u, bindId M cid aid 0 with
      | true, some M => (match f M with | some r => some (i, r) | none => none)
      | _, _ => none)
    | _ => none) := by cases v <;> try rfl
                       rename_i p _ _ _; cases p <;> rfl
theorem reify_sptr (t:Ty) (j:Nat):reify st (.sptr t j) M v f=(match v with | .sptr u x l=>(match Nat.beq j l with | true=>(match Ty.cast u t x with | some x=>(match f M with | some r=>some (x,r) | none=>none) | none=>none) | false=>none) | _=>none):=by cases v<;>rfl
theorem reify_agg (l:List Shp):reify st (.agg l) M v f=(match v with | .agg cs=>reifys st l M cs f | _=>none):=by cases v<;>rfl
theorem reify_ownp (cid:Nat) (t:Ty) (j:Nat) (u:Ty):reify st (.ownp cid t j u) M v f=(match v with
  | .own aid ver [(i,j')] u'=>(match st.obj aid with
   | some (.row true t' vr _)=>(match Nat.beq j j'&&Ty.beq u u'&&Nat.beq ver vr&&Ty.beq t t',bindId M cid aid 0 with
    | true,some M=>(match f M with | some r=>some (i,r) | none=>none)
    | _,_=>none)
   | _=>none)
  | _=>none):=rfl
theorem reify_fn (g:FuncId) (l:List Shp):reify st (.fn g l) M v f=(match v with | .fn g' cs=>(match Nat.beq g g' with | true=>reifys st l M cs f | false=>none) | _=>none):=rfl
theorem reify_con (c:AVal):reify st (.con c) M v f=(match conB c v with | true=>f M | false=>none):=by cases v<;>rfl
theorem reifys_nil {vs:List AVal} : reifys st [] M vs f=(match vs with | []=>f M | _=>none):=by cases vs<;>rfl
theorem reifys_cons {s:Shp} {l:List Shp} {vs:List AVal} : reifys st (s::l) M vs f=(match vs with | v::vs=>reify st s M v (fun M=>reifys st l M vs f) | []=>none):=by cases vs<;>rfl
end
def ReadOK (st:St) (g:Gh) (w:World) (U:Nat→Prop) (nm:Nat→Nat) (vr:Nat) {r:Type} (M:Mp) (f:Mp→Option r) (z:r) (rel:Gh→(Nat→Prop)→Prop):Prop:=
 ∃ M',Sub M M'∧(InjM M→InjM M')∧f M'=some z∧∀ g' U',Cons st nm vr M' g g' U'→rel g' U'
theorem ReadOK.same {r:Type} {M:Mp} {f:Mp→Option r} {z:r} {rel:Gh→(Nat→Prop)→Prop} (h:f M=some z) (hr:∀ g' U',Cons st nm vr M g g' U'→rel g' U'):ReadOK st g w U nm vr M f z rel:=
 ⟨M,.refl _,fun h=>h,h,hr⟩
mutual
theorem reify_ok (hO:Objs g w U st):∀ (s:Shp) {r:Type} (M:Mp) (v:AVal) (f:Mp→Option r) (y:s.LT r),reify st s M v f=some y→
  ReadOK st g w U nm vr M f (reflect nm vr s y).2 (fun g' U'=>∀ x,VRel g w U v x→VRel g' w U' (reflect nm vr s y).1 x)
 | .int k,r,M,v,f,y,e=>by
  rw [reify_int] at e
  cases v<;>try (exact absurd (show none=some _ from e) (by simp))
  all_goals try dsimp only at e
  split at e
  ·rename_i hk
   split at e
   ·rename_i z hz
    obtain rfl:=Option.some.inj e
    exact .same hz (fun g' U' C x hx=>by obtain rfl:=ikB_eq hk; exact hx)
   ·simp at e
  ·simp at e
 | .bool,r,M,v,f,y,e=>by
  rw [reify_bool] at e
  cases v<;>try (exact absurd (show none=some _ from e) (by simp))
  all_goals try dsimp only at e
  split at e
  ·rename_i z hz
   obtain rfl:=Option.some.inj e
   exact .same hz (fun g' U' C x hx=>hx)
  ·simp at e
 | .str,r,M,v,f,y,e=>by
  rw [reify_str] at e
  cases v<;>try (exact absurd (show none=some _ from e) (by simp))
  all_goals try dsimp only at e
  split at e
  ·rename_i z hz
   obtain rfl:=Option.some.inj e
   exact .same hz (fun g' U' C x hx=>hx)
  ·simp at e
 | .err,r,M,v,f,y,e=>by
  rw [reify_err] at e
  cases v<;>try (exact absurd (show none=some _ from e) (by simp))
  all_goals try dsimp only at e
  split at e
  ·rename_i z hz
   obtain rfl:=Option.some.inj e
   exact .same hz (fun g' U' C x hx=>hx)
  ·simp at e
 | .sh t,r,M,v,f,y,e=>by
  rw [reify_sh] at e
  cases v<;>try (exact absurd (show none=some _ from e) (by simp))
  all_goals try dsimp only at e
  ·split at e
   ·rename_i z hz
    obtain rfl:=Option.some.inj e
    exact .same hz (fun g' U' C x hx=>by
     obtain rfl:=hx
     exact ⟨none,0,0,rfl,rfl,Nat.le_refl _,fun _=>rfl,fun h=>absurd rfl h⟩)
   ·simp at e
  ·rename_i u xs
   split at e
   ·rename_i ys hc
    split at e
    ·rename_i z hz
     obtain rfl:=Option.some.inj e
     obtain ⟨he,hh⟩:=cast_sl hc
     subst he
     obtain rfl:=eq_of_heq hh
     exact .same hz (fun g' U' C x hx=>C.shv hx)
    ·simp at e
   ·simp at e
 | .osh t,r,M,v,f,y,e=>by
  rw [reify_osh] at e
  cases v<;>try (exact absurd (show none=some _ from e) (by simp))
  all_goals try dsimp only at e
  rename_i u xs
  split at e
  ·rename_i ys hc
   split at e
   ·rename_i z hz
    obtain rfl:=Option.some.inj e
    obtain ⟨he,hh⟩:=cast_eq hc
    injection he with he
    subst he
    obtain rfl:=eq_of_heq hh
    exact .same hz (fun g' U' C x hx=>⟨C.shv hx.1,hx.2⟩)
   ·simp at e
  ·simp at e
 | .own cid t,r,M,v,f,y,e=>by
  rw [reify_own] at e
  cases v<;>try (exact absurd (show none=some _ from e) (by simp))
  all_goals try dsimp only at e
  ·
   split at e
   ·rename_i hl
    obtain ⟨h1,h2⟩:=nilId_ok hl
    refine ⟨_,h1,h2,e,fun g' U' C x hx=>?_⟩
    obtain rfl:=hx
    obtain ⟨c1,c2⟩:=C.name cid nilId 0 (by rw [look_cons,if_pos rfl])
    exact ⟨c1,C.u0,C.u0,trivial,fun _=>rfl,by rw [c2]; rfl⟩
   ·simp at e
  ·rename_i aid ver p u
   cases p with
   | cons a p=>simp at e
   | nil=>
    simp only at e
    split at e
    ·rename_i M1 hb
     obtain ⟨h1,h2,h3,h4⟩:=bindId_ok hb
     refine ⟨_,h1,h4,e,fun g' U' C x hx=>?_⟩
     obtain ⟨u1,u2,u3,-,hv,rfl⟩:=hx
     obtain rfl:=hv rfl
     obtain ⟨c1,c2⟩:=C.name cid aid 0 h2
     exact ⟨c1,C.u0,C.u0,trivial,fun _=>rfl,by rw [c2]; simp [hdr,h3]⟩
    ·simp at e
  ·rename_i aid off len sz
   cases off with
   | succ n=>simp at e
   | zero=>
    simp only at e
    split at e
    ·rename_i ro cs ho
     split at e
     ·rename_i hq
      simp only [Bool.and_eq_true,Nat.beq_eq] at hq
      obtain ⟨hq1,hq2⟩:=hq
      subst hq1
      split at e
      ·rename_i M1 hb
       obtain ⟨h1,h2,h3,h4⟩:=bindId_ok hb
       refine ⟨_,h1,h4,e,fun g' U' C x hx=>?_⟩
       obtain ⟨u1,u2,a,c,rfl,hlc,hcs,b,o,hb',ha⟩:=hx
       obtain ⟨c1,c2⟩:=C.name cid aid _ h2
       obtain ⟨-,-,b2,o2,hhd,-⟩:=hO aid _ ho
       have hp:=t.size_pos
       have hlen:(g.hd aid 0 []).len=cs.length:=by rw [hhd]
       have hc:c=len:=by
        rw [hlen,← hq2] at hcs
        have:=Nat.eq_of_mul_eq_mul_right hp hcs
        omega
       refine ⟨c1,C.u0,C.u0,trivial,fun _=>rfl,?_⟩
       have hdiv:(g.hd aid 0 []).len / t.size=len:=by rw [hlen,← hq2]; exact Nat.mul_div_cancel _ hp
       rw [c2]
       simp only [hdr,h3,if_false,show t.size≠0 by omega,hdiv,Hd.val,hb',ha (.inr rfl),hc]
       simp
      ·simp at e
     ·simp at e
    ·simp at e
 | .osub cid t,r,M,v,f,y,e=>by
  rw [reify_osub] at e
  cases v<;>try (exact absurd (show none=some _ from e) (by simp))
  all_goals try dsimp only at e
  ·rename_i aid ver p u
   cases p with
   | cons a p=>simp at e
   | nil=>
    simp only at e
    split at e
    ·rename_i own t' vr xs ho
     split at e
     ·rename_i M1 hk hb
      split at e
      ·rename_i z hz
       obtain rfl:=Option.some.inj e
       rw [Bool.and_eq_true] at hk
       obtain ⟨hk1,hk2⟩:=hk
       obtain rfl:=Ty.eq_of_beq hk1
       obtain rfl:=Ty.eq_of_beq hk2
       obtain ⟨h1,h2,h3,h4⟩:=bindId_ok hb
       refine ⟨_,h1,h4,hz,fun g' U' C x hx=>?_⟩
       obtain ⟨u1,u2,u3,-,hv,rfl⟩:=hx
       obtain rfl:=hv rfl
       obtain ⟨c1,c2⟩:=C.name cid aid 0 h2
       obtain ⟨-,-,-,r1,r2,r3,-⟩:=hO aid _ ho
       refine ⟨c1,C.u0,C.u0,trivial,fun _=>rfl,?_⟩
       rw [c2.trans (show _=g.hd aid 0 [] by simp [hdr,h3])]
       dsimp only
       refine ⟨_,_,by rw [Hd.val,r1],by omega,by omega,by omega,fun hpos=>?_,_,rfl⟩
       cases ha:(g.hd aid 0 []).addr with
       | none=>have:=r3 ha; omega
       | some q=>exact ⟨q.1,q.2,rfl,by simp⟩
      ·simp at e
     ·simp at e
    ·simp at e
  ·rename_i aid ver p u off len
   cases p with
   | cons a p=>simp at e
   | nil=>
    simp only at e
    split at e
    ·rename_i M1 hk hb
     split at e
     ·rename_i z hz
      obtain rfl:=Option.some.inj e
      obtain rfl:=Ty.eq_of_beq hk
      obtain ⟨h1,h2,h3,h4⟩:=bindId_ok hb
      refine ⟨_,h1,h4,hz,fun g' U' C x hx=>?_⟩
      obtain ⟨u1,u2,u3,-,hv,hx⟩:=hx
      obtain rfl:=hv rfl
      obtain ⟨c1,c2⟩:=C.name cid aid 0 h2
      refine ⟨c1,C.u0,C.u0,trivial,fun _=>rfl,?_⟩
      rw [c2]
      simpa [hdr,h3] using hx
     ·simp at e
    ·simp at e
 | .vptr cid j,r,M,v,f,y,e=>by
  rw [reify_vptr] at e
  cases v<;>try (exact absurd (show none=some _ from e) (by simp))
  all_goals try dsimp only at e
  rename_i aid l
  split at e
  ·rename_i M1 hk hb
   obtain rfl:=Nat.eq_of_beq_eq_true hk
   obtain ⟨h1,h2,h3,h4⟩:=bindId_ok hb
   refine ⟨_,h1,h4,e,fun g' U' C x hx=>?_⟩
   obtain ⟨u1,u2,hx⟩:=hx
   obtain ⟨c1,c2⟩:=C.name cid aid 0 h2
   refine ⟨c1,C.u0,?_⟩
   rw [c2]
   simpa [hdr,h3] using hx
  ·rename_i hne
   cases hk:Nat.beq j l with
   | false=>rw [hk] at e; exact absurd e (by simp)
   | true=>cases hb:bindId M cid aid 0 with
    | none=>rw [hk,hb] at e; exact absurd e (by simp)
    | some M1=>exact (hne M1 hk hb).elim
 | .rptr cid t j,r,M,v,f,y,e=>by
  rw [reify_rptr] at e
  cases v<;>try (exact absurd (show none=some _ from e) (by simp))
  all_goals try dsimp only at e
  rename_i aid ver p u i l
  cases p with
  | cons a p=>simp at e
  | nil=>
   simp only at e
   split at e
   ·rename_i M1 hk hb
    split at e
    ·rename_i z hz
     obtain rfl:=Option.some.inj e
     simp only [Bool.and_eq_true] at hk
     obtain rfl:=Ty.eq_of_beq hk.2
     obtain rfl:=Nat.eq_of_beq_eq_true hk.1
     obtain ⟨h1,h2,h3,h4⟩:=bindId_ok hb
     refine ⟨_,h1,h4,hz,fun g' U' C x hx=>?_⟩
     obtain ⟨u1,u2,u3,-,hv,hx⟩:=hx
     obtain rfl:=hv rfl
     obtain ⟨c1,c2⟩:=C.name cid aid 0 h2
     refine ⟨c1,C.u0,C.u0,trivial,fun _=>rfl,?_⟩
     rw [c2]
     simpa [hdr,h3] using hx
    ·simp at e
   ·simp at e
 | .sptr t j,r,M,v,f,y,e=>by
  rw [reify_sptr] at e
  cases v<;>try (exact absurd (show none=some _ from e) (by simp))
  all_goals try dsimp only at e
  rename_i u x0 l
  split at e
  ·rename_i hk
   split at e
   ·rename_i x1 hc
    split at e
    ·rename_i z hz
     obtain rfl:=Option.some.inj e
     obtain rfl:=Nat.eq_of_beq_eq_true hk
     obtain ⟨he,hh⟩:=cast_eq hc
     subst he
     obtain rfl:=eq_of_heq hh
     exact .same hz (fun g' U' C x hx=>by
      obtain ⟨b,o,rfl,h⟩:=hx
      exact ⟨b,o,rfl,Sh_step (fun b o hl v hv=>⟨hv,C.sh b o hl⟩) u _ b o h⟩)
    ·simp at e
   ·simp at e
  ·simp at e
 | .agg l,r,M,v,f,y,e=>by
  rw [reify_agg] at e
  cases v<;>try (exact absurd (show none=some _ from e) (by simp))
  all_goals try dsimp only at e
  rename_i cs
  obtain ⟨M',h1,h2,h3,h4⟩:=reifys_ok hO l M cs f y e
  refine ⟨M',h1,h2,h3,fun g' U' C x hx=>?_⟩
  obtain ⟨vs,rfl,hvs⟩:=hx
  exact ⟨vs,rfl,h4 g' U' C vs hvs⟩
 | .ownp cid t j u,r,M,v,f,y,e=>by
  rw [reify_ownp] at e
  split at e
  ·rename_i aid ver i j' u'
   split at e
   ·rename_i t' vr' xs ho
    split at e
    ·rename_i M1 hq hb
     simp only [Bool.and_eq_true,Nat.beq_eq] at hq
     obtain ⟨⟨⟨hj,hu⟩,hv⟩,ht⟩:=hq
     subst hj
     subst hv
     split at e
     ·rename_i z hz
      obtain rfl:=Option.some.inj e
      obtain ⟨h1,h2,h3,h4⟩:=bindId_ok hb
      refine ⟨_,h1,h4,hz,fun g' U' C x hx=>?_⟩
      obtain ⟨u1,u2,u3,hin,-,rfl⟩:=hx
      obtain ⟨c1,c2⟩:=C.name cid aid 0 h2
      have c3:=C.inn cid aid 0 [(i,j)] h2 (by simp)
      have hvo:verOf st aid=ver:=by simp [verOf,ho]
      refine ⟨c1,C.uv,C.u0,⟨?_,trivial⟩,fun h=>by simp at h,?_⟩
      ·have:i<(g.hd aid 0 []).len:=hin.1
       show i<(g'.hd (nm cid) 0 []).len
       rw [c2]
       simpa [hdr,h3] using this
      ·rw [c3,if_pos rfl,hvo]
     ·simp at e
    ·simp at e
   ·simp at e
  ·simp at e
 | .fn g0 l,r,M,v,f,y,e=>by
  rw [reify_fn] at e
  split at e
  ·rename_i g1 cs
   split at e
   ·rename_i hb
    obtain rfl:=Nat.eq_of_beq_eq_true hb
    obtain ⟨M',h1,h2,h3,h4⟩:=reifys_ok hO l M cs f y e
    refine ⟨M',h1,h2,h3,fun g' U' C x hx=>?_⟩
    obtain ⟨vs,rfl,hvs⟩:=hx
    exact ⟨vs,rfl,h4 g' U' C vs hvs⟩
   ·simp at e
  ·simp at e
 | .con c,r,M,v,f,y,e=>by
  rw [reify_con] at e
  split at e
  ·rename_i hk
   exact .same e (fun g' U' C x hx=>conB_ok hk hx)
  ·simp at e
theorem reifys_ok (hO:Objs g w U st):∀ (l:List Shp) {r:Type} (M:Mp) (vs:List AVal) (f:Mp→Option r) (y:Shp.LTs l r),reifys st l M vs f=some y→
  ReadOK st g w U nm vr M f (reflects nm vr l y).2 (fun g' U'=>∀ xs,VRels g w U vs xs→VRels g' w U' (reflects nm vr l y).1 xs)
 | [],r,M,vs,f,y,e=>by
  rw [reifys_nil] at e
  cases vs<;>try (exact absurd (show none=some _ from e) (by simp))
  exact .same e (fun g' U' C x hx=>hx)
 | s::l,r,M,vs,f,y,e=>by
  rw [reifys_cons] at e
  cases vs with
  | nil=>simp at e
  | cons v vs=>
   simp only at e
   obtain ⟨M1,h1,h2,h3,h4⟩:=reify_ok hO s M v _ y e
   obtain ⟨M2,k1,k2,k3,k4⟩:=reifys_ok hO l M1 vs f _ h3
   refine ⟨M2,h1.trans k1,fun h=>k2 (h2 h),k3,fun g' U' C x hx=>?_⟩
   obtain ⟨a,b,rfl,ha,hb⟩:=hx
   exact ⟨a,b,rfl,h4 g' U' (C.mono k1) a ha,k4 g' U' C b hb⟩
end
theorem RowR_ren {own:Bool} {aid cid vr V:Nat} {t:Ty} {xs:List t.T} (h0:g'.hd cid 0 []=g.hd aid 0 []) (h1:∀ q,q≠[]→g'.hd cid V q=g.hd aid vr q)
  (h2:∀ b o p,g.lab b o=some (aid,p)→g'.lab b o=some (cid,p)) (h3:∀ b o,g.lab b o=none→g'.lab b o=none)
  (h:RowR g w own aid 0 vr t noSk [] xs):RowR g' w own cid 0 V t noSk [] xs:=by
 have R:Ren g g.lab w g' w (fun q=>if q=[] then none else some (aid,q,g.hd aid vr q)) cid V:=by
  refine ⟨fun q id p h hq=>?_,fun q hq hn=>?_,fun q id p h b o hq hl=>?_,fun b o hl v hv=>⟨hv,h3 b o hl⟩⟩
  ·by_cases hn:q=[]
   ·simp [hn] at hq
   ·simp only [hn,if_false,Option.some.injEq,Prod.mk.injEq] at hq
    obtain ⟨rfl,rfl,rfl⟩:=hq
    exact h1 _ hn
  ·simp [hq] at hn
  ·by_cases hn:q=[]
   ·simp [hn] at hq
   ·simp only [hn,if_false,Option.some.injEq,Prod.mk.injEq] at hq
    obtain ⟨rfl,rfl,rfl⟩:=hq
    exact ⟨h2 _ _ _ hl,rfl,rfl⟩
 unfold RowR at h ⊢
 rw [h0]
 obtain ⟨r1,r2,r3,r4⟩:=h
 refine ⟨r1,r2,r3,fun b o hb=>?_⟩
 obtain ⟨r5,r6⟩:=r4 b o hb
 refine ⟨fun k hk=>?_,fun k hk=>?_⟩
 ·obtain ⟨a1,a2,a3⟩:=r5 k hk
  exact ⟨h2 _ _ _ a1,a2,a3⟩
 ·exact OwS_own R t [] k 0 _ _ b _ (fun _ _=>rfl) (OwT_src (fun _ _ h=>h) t [] [] k 0 k 0 _ b _ (fun _ d s hd=>by simp) (r6 k hk))
theorem reifyO_ok (hO:Objs g w U st) {k aid d:Nat} {o:AObj} (hob:st.obj aid=some o) (hne:aid≠nilId):∀ (s:OShp) {r:Type} (M:Mp) (f:Mp→Option r) (y:s.LT r),look M k=some (aid,d)→
  reifyO st s M d o f=some y→ReadOK st g w U nm vr M f (reflectO nm vr s y).2 (fun g' U'=>ORel g' w U' (nm k) (reflectO nm vr s y).1):=by
 intro s r M f y hM e
 obtain ⟨-,hR⟩:=hO aid o hob
 cases s with
 | row own t=>
  cases o with
  | row o u vr xs=>
   replace e:(match sameB own o&&Nat.beq d 0 with
    | true=>(match Ty.cast (.sl u) (.sl t) xs with | some ys=>(match f M with | some r=>some (ys,r) | none=>none) | none=>none)
    | false=>none)=some y:=e
   split at e
   ·rename_i hk
    simp only [Bool.and_eq_true,Nat.beq_eq] at hk
    obtain ⟨hk,rfl⟩:=hk
    have ho:own=o:=by cases own<;>cases o<;>first | rfl | simp [sameB] at hk
    subst ho
    split at e
    ·rename_i ys hc
     split at e
     ·rename_i z hz
      obtain rfl:=Option.some.inj e
      obtain ⟨he,hh⟩:=cast_sl hc
      subst he
      obtain rfl:=eq_of_heq hh
      refine ⟨M,.refl _,fun h=>h,hz,fun g' U' C=>⟨C.u0,C.uv,RowR_ren (aid:=aid) (vr:=vr) ?_ ?_ (fun b o p hl=>C.lab _ _ _ _ _ _ hM hne hl) C.sh hR.2.2⟩⟩
      ·rw [(C.name _ _ _ hM).2]; simp [hdr,hne]
      ·intro q hq
       rw [C.inn _ _ _ _ hM hq]; simp [verOf,hob]
     ·simp at e
    ·simp at e
   ·simp at e
  | cells ro cs=>
   replace e:(match Nat.beq d t.size with
    | true=>(match takeN st own 50 t (cs.length / t.size) cs with | some (xs,[])=>(match f M with | some r=>some (xs,r) | none=>none) | _=>none)
    | false=>none)=some y:=e
   split at e
   ·rename_i hk
    obtain rfl:=Nat.eq_of_beq_eq_true hk
    split at e
    ·rename_i xs ht
     split at e
     ·rename_i z hz
      obtain rfl:=Option.some.inj e
      obtain ⟨u0,b,o,hhd,hcells⟩:=hR
      refine ⟨M,.refl _,fun h=>h,hz,fun g' U' C=>⟨C.u0,C.uv,?_⟩⟩
      have hv:Vals g w U cs (fun k=>w.cell? (ad b (o+k))):=fun k hk=>by
       obtain ⟨-,-,v,h1,h2⟩:=hcells k hk
       exact ⟨v,h1,h2⟩
      obtain ⟨-,hcl,σ,T⟩:=(take_sound hO (L:=g.lab) (fun _ _ h=>h) own 50).2 t _ cs xs [] _ [] 0 hv ht (fun _ id hi=>by simp at hi)
      have hσ:∀ q,σ q=none:=fun q=>by
       cases h:σ q with
       | none=>rfl
       | some x=>obtain ⟨id,p,h'⟩:=x; exact absurd (T.tk.ids _ _ _ _ h) (by simp)
      have hp:=t.size_pos
      have hdr':g'.hd (nm k) 0 []=⟨some (b,o),xs.length,xs.length⟩:=by
       rw [(C.name _ _ _ hM).2]
       simp only [hdr,hne,if_false,show t.size≠0 by omega,hhd,T.len]
      have R:Ren g g.lab w g' w σ (nm k) vr:=by
       refine ⟨fun q id p h hq=>?_,fun q hq hn=>?_,fun q id p h b o hq hl=>?_,fun b o hl v hv=>⟨hv,C.sh b o hl⟩⟩
       ·rw [hσ] at hq; simp at hq
       ·rw [C.inn _ _ _ _ hM hq,if_neg (by omega)]
       ·rw [hσ] at hq; simp at hq
      unfold RowR
      rw [hdr']
      refine ⟨rfl,Nat.le_refl _,by simp,fun b' o' hb=>?_⟩
      simp only [Option.some.injEq,Prod.mk.injEq] at hb
      obtain ⟨rfl,rfl⟩:=hb
      refine ⟨fun m hm=>?_,fun m hm=>?_⟩
      ·have hm:m<cs.length:=by rw [hcl,← T.len]; exact hm
       obtain ⟨h1,h2,v,h3,-⟩:=hcells m hm
       exact ⟨C.lab _ _ _ _ _ _ hM hne h1,by rw [h3]; rfl,h2⟩
      ·have:=T.ow m hm
       rw [Nat.zero_add] at this
       exact OwS_own R t [] m 0 _ _ b _ (fun d hd=>by rw [Nat.add_assoc]) this
     ·simp at e
    ·simp at e
   ·simp at e
  | brk t vr xs i j=>exact absurd (show none=some _ from e) (by simp)
 | cells ro l=>
  cases o with
  | cells ro' cs=>
   replace e:(match Nat.beq d 0 with | true=>reifys st l M cs f | false=>none)=some y:=e
   split at e
   ·rename_i hk
    obtain rfl:=Nat.eq_of_beq_eq_true hk
    obtain ⟨M',h1,h2,h3,h4⟩:=reifys_ok (nm:=nm) (vr:=vr) hO l M cs f y e
    refine ⟨M',h1,h2,h3,fun g' U' C=>⟨C.u0,?_⟩⟩
    obtain ⟨u0,b,o,hhd,hcells⟩:=hR
    have hM':=h1 _ _ hM
    have hvs:VRels g w U cs ((List.range cs.length).map fun k=>(w.cell? (ad b (o+k))).getD undef):=by
     refine VRels_of (by simp) (fun k hk hk'=>?_)
     obtain ⟨-,-,v,h5,h6⟩:=hcells k hk
     simp [h5]; exact h6
    have hvs':=h4 g' U' C _ hvs
    have hlen:=VRels_len hvs'
    simp only [List.length_map,List.length_range] at hlen
    refine ⟨b,o,?_,fun k hk=>?_⟩
    ·rw [(C.name _ _ _ hM').2]
     simp only [hdr,hne,if_false,if_true,hhd,hlen]
    ·have hk':k<cs.length:=by rw [hlen]; exact hk
     obtain ⟨h5,h6,v,h7,h8⟩:=hcells k hk'
     refine ⟨C.lab _ _ _ _ _ _ hM' hne h5,h6,v,h7,?_⟩
     obtain ⟨x,hx,hr⟩:=VRels_get hvs' k hk
     simp [hk',h7] at hx
     subst hx
     exact hr
   ·simp at e
  | row o u vr xs=>exact absurd (show none=some _ from e) (by simp)
  | brk t vr xs i j=>exact absurd (show none=some _ from e) (by simp)
end
end Go.Am
namespace Go.Am
open Go
section
variable {g g':Gh} {w:World} {U U':Nat→Prop} {st:St} {nm:Nat→Nat} {vr nx:Nat} {a:Act}
theorem reifySlots_ok (hO:Objs g w U st) (hE:∀ t v,look st.env t=some v→VRel g w U v (a.eval (.tmp t))):∀ (l:List (Nat×Shp)) {r:Type} (M:Mp) (f:Mp→Option r) (y:slotsLT l r),reifySlots st l M f=some y→
  ReadOK st g w U nm vr M f (reflectSlots nm vr l y).2 (fun g' U'=>∀ t v,look (reflectSlots nm vr l y).1 t=some v→VRel g' w U' v (a.eval (.tmp t)))
 | [],r,M,f,y,e=>.same e (fun g' U' C t v h=>by simp [reflectSlots,look] at h)
 | (i,s)::l,r,M,f,y,e=>by
  replace e:(match look st.env i with | some v=>reify st s M v (fun M=>reifySlots st l M f) | none=>none)=some y:=e
  split at e
  ·rename_i v hv
   obtain ⟨M1,h1,h2,h3,h4⟩:=reify_ok (nm:=nm) (vr:=vr) hO s M v _ y e
   obtain ⟨M2,k1,k2,k3,k4⟩:=reifySlots_ok hO hE l M1 f _ h3
   refine ⟨M2,h1.trans k1,fun h=>k2 (h2 h),k3,fun g' U' C t x hx=>?_⟩
   replace hx:look ((i,(reflect nm vr s y).1)::(reflectSlots nm vr l (reflect nm vr s y).2).1) t=some x:=hx
   rw [look_cons] at hx
   split at hx
   ·rename_i he
    subst he
    simp only [Option.some.injEq] at hx
    subst hx
    exact h4 g' U' (C.mono k1) _ (hE _ _ hv)
   ·exact k4 g' U' C t x hx
  ·simp at e
theorem reflectObjs_name:∀ (l:List (Nat×OShp)) {r:Type} (y:objsLT l r) (id:Nat) (o:Option AObj),look (reflectObjs nm vr l y).1 id=some o→∃ p∈l,id=nm p.1∧o.isSome=true
 | [],r,y,id,o,h=>by simp [reflectObjs,look] at h
 | (i,s)::l,r,y,id,o,h=>by
  replace h:look ((nm i,some (reflectO nm vr s y).1)::(reflectObjs nm vr l (reflectO nm vr s y).2).1) id=some o:=h
  rw [look_cons] at h
  split at h
  ·rename_i he
   simp only [Option.some.injEq] at h
   exact ⟨(i,s),by simp,he.symm,by rw [← h]; rfl⟩
  ·obtain ⟨p,h1,h2⟩:=reflectObjs_name l _ id o h
   exact ⟨p,by simp [h1],h2⟩
theorem reflectSlots_name:∀ (l:List (Nat×Shp)) {r:Type} (y:slotsLT l r) (t:Nat),(∀ p∈l,p.1≠t)→look (reflectSlots nm vr l y).1 t=none
 | [],r,y,t,h=>rfl
 | (i,s)::l,r,y,t,h=>by
  show look ((i,(reflect nm vr s y).1)::(reflectSlots nm vr l (reflect nm vr s y).2).1) t=none
  rw [look_cons,if_neg (h (i,s) (by simp))]
  exact reflectSlots_name l _ t (fun p hp=>h p (by simp [hp]))
theorem reifyObjs_ok (hO:Objs g w U st):∀ (l:List (Nat×OShp)) {r:Type} (M:Mp) (f:Mp→Option r) (y:objsLT l r),reifyObjs st l M f=some y→
  ∃ M',Sub M M'∧(InjM M→InjM M')∧f M'=some (reflectObjs nm vr l y).2∧(∀ p∈l,∃ a d,look M' p.1=some (a,d)∧(a=nilId∨st.obj a≠none))∧
   ∀ g' U',Cons st nm vr M' g g' U'→∀ id o,look (reflectObjs nm vr l y).1 id=some (some o)→U' (id / 1024)∧ORel g' w U' id o
 | [],r,M,f,y,e=>⟨M,.refl _,fun h=>h,e,by simp,fun g' U' C id o h=>by simp [reflectObjs,look] at h⟩
 | (i,s)::l,r,M,f,y,e=>by
  replace e:(match look M i with
   | some a=>(match Nat.beq a.1 nilId with
    | true=>reifyN s (reifyObjs st l M f)
    | false=>(match st.obj a.1 with
     | some o=>reifyO st s M a.2 o (fun M=>reifyObjs st l M f)
     | none=>none))
   | none=>(match bindId M i (i*1024) 0,st.obj (i*1024) with
    | some M,some o=>reifyO st s M 0 o (fun M=>reifyObjs st l M f)
    | _,_=>none))=some y:=e
  have go:∀ (M0:Mp) (a d:Nat) (o:AObj),look M0 i=some (a,d)→a≠nilId→st.obj a=some o→reifyO st s M0 d o (fun M=>reifyObjs st l M f)=some y→
    ∃ M',Sub M0 M'∧(InjM M0→InjM M')∧f M'=some (reflectObjs nm vr ((i,s)::l) y).2∧(∀ p∈(i,s)::l,∃ a d,look M' p.1=some (a,d)∧(a=nilId∨st.obj a≠none))∧
     ∀ g' U',Cons st nm vr M' g g' U'→∀ id o,look (reflectObjs nm vr ((i,s)::l) y).1 id=some (some o)→U' (id / 1024)∧ORel g' w U' id o:=by
   intro M0 a d o hM hne hob e
   obtain ⟨M1,h1,h2,h3,h4⟩:=reifyO_ok (nm:=nm) (vr:=vr) hO hob hne s M0 _ y hM e
   obtain ⟨M2,k1,k2,k3,k4,k5⟩:=reifyObjs_ok hO l M1 f _ h3
   refine ⟨M2,h1.trans k1,fun h=>k2 (h2 h),k3,?_,fun g' U' C id o' h=>?_⟩
   ·intro p hp
    rcases List.mem_cons.1 hp with rfl | hp
    ·exact ⟨a,d,k1 _ _ (h1 _ _ hM),.inr (by rw [hob]; simp)⟩
    ·exact k4 p hp
   ·replace h:look ((nm i,some (reflectO nm vr s y).1)::(reflectObjs nm vr l (reflectO nm vr s y).2).1) id=some (some o'):=h
    rw [look_cons] at h
    split at h
    ·rename_i he
     subst he
     simp only [Option.some.injEq] at h
     subst h
     exact ⟨(C.name _ _ _ (k1 _ _ (h1 _ _ hM))).1,h4 g' U' (C.mono k1)⟩
    ·exact k5 g' U' C id o' h
  split at e
  ·rename_i ad hM
   obtain ⟨aid,d⟩:=ad
   simp only at e
   split at e
   ·rename_i hn
    obtain rfl:=Nat.eq_of_beq_eq_true hn
    cases s with
    | cells ro l'=>exact absurd (show none=some _ from e) (by simp)
    | row own t=>
     cases hz:reifyObjs st l M f with
     | none=>rw [hz] at e; exact absurd (show none=some _ from e) (by simp)
     | some z=>
      rw [hz] at e
      replace e:some (([]:List t.T),z)=some y:=e
      obtain rfl:=Option.some.inj e
      obtain ⟨M2,k1,k2,k3,k4,k5⟩:=reifyObjs_ok hO l M f z hz
      refine ⟨M2,k1,k2,k3,?_,fun g' U' C id o' h=>?_⟩
      ·intro p hp
       rcases List.mem_cons.1 hp with rfl | hp
       ·exact ⟨_,_,k1 _ _ hM,.inl rfl⟩
       ·exact k4 p hp
      ·replace h:look ((nm i,some (.row own t vr ([]:List t.T)))::(reflectObjs nm vr l z).1) id=some (some o'):=h
       rw [look_cons] at h
       split at h
       ·rename_i he
        subst he
        simp only [Option.some.injEq] at h
        subst h
        obtain ⟨c1,c2⟩:=C.name _ _ _ (k1 _ _ hM)
        refine ⟨c1,C.u0,C.uv,?_⟩
        unfold RowR
        rw [c2]
        exact ⟨rfl,Nat.le_refl _,fun _=>rfl,fun b o hb=>by simp [hdr,nilHd] at hb⟩
       ·exact k5 g' U' C id o' h
   ·rename_i hn
    have hne:aid≠nilId:=fun h=>by subst h; simp at hn
    split at e
    ·rename_i o hob
     exact go M aid d o hM hne hob e
    ·simp at e
  ·rename_i hM
   cases hb:bindId M i (i*1024) 0 with
   | none=>rw [hb] at e; exact absurd (show none=some _ from e) (by simp)
   | some M0=>cases hob:st.obj (i*1024) with
    | none=>rw [hb,hob] at e; exact absurd (show none=some _ from e) (by simp)
    | some o=>
     rw [hb,hob] at e
     obtain ⟨b1,b2,b3,b4⟩:=bindId_ok hb
     obtain ⟨M2,k1,k2,k3⟩:=go M0 _ 0 o b2 b3 hob e
     exact ⟨M2,b1.trans k1,fun h=>k2 (b4 h),k3⟩
structure Fit (la:LA) (st:St) (h:List Nat) (M:Mp):Prop where
 inj:InjM M
 par:∀ k a d,look M k=some (a,d)→k<1000→k<19∧a=k*1024∧d=0
 mem:∀ k a d,look M k=some (a,d)→∃ q∈la.objs,q.1=k
 held:∀ k a d,look M k=some (a,d)→a∉h
 ex:∀ k a d,look M k=some (a,d)→a=nilId∨st.obj a≠none
 all:∀ p∈la.objs,∃ a d,look M p.1=some (a,d)
theorem any_beq {l:List Nat} {a:Nat} : l.any (Nat.beq a)=true↔a∈l:=by
 rw [List.any_eq_true]
 constructor
 ·rintro ⟨x,h1,h2⟩; rw [Nat.eq_of_beq_eq_true h2]; exact h1
 ·intro h; exact ⟨a,h,by simp⟩
theorem read_ok (hO:Objs g w U st) (hE:∀ t v,look st.env t=some v→VRel g w U v (a.eval (.tmp t))) {la:LA} {head:St} {y:la.LT} (e:la.read head st=some y) :
  ∃ M,Fit la st (la.held head) M∧∀ g' U',Cons st nm vr M g g' U'→
   (∀ t v,look (reflectSlots nm vr la.slots y).1 t=some v→VRel g' w U' v (a.eval (.tmp t)))∧
   (∀ id o,look (reflectObjs nm vr la.objs (reflectSlots nm vr la.slots y).2).1 id=some (some o)→U' (id / 1024)∧ORel g' w U' id o):=by
 obtain ⟨M1,h1,h2,h3,h4⟩:=reifySlots_ok (nm:=nm) (vr:=vr) hO hE la.slots [] _ y e
 obtain ⟨M2,k1,k2,k3,k4,k5⟩:=reifyObjs_ok (nm:=nm) (vr:=vr) hO la.objs M1 _ _ h3
 unfold LA.fit at k3
 split at k3
 ·rename_i hf
  have hf:=List.all_eq_true.1 hf
  have i0:InjM []:=fun _ _ _ _ _ h=>by simp [look] at h
  refine ⟨M2,⟨k2 (h2 i0),fun k a d hk hlt=>?_,fun k a d hk=>?_,fun k a d hk=>?_,fun k a d hk=>?_,fun p hp=>?_⟩,fun g' U' C=>⟨h4 g' U' (C.mono k1),k5 g' U' C⟩⟩
  ·have:=hf _ (look_mem hk)
   simp only [Bool.and_eq_true] at this
   have h1:=this.1.1
   have hb:Nat.blt k 1000=true:=by simpa using hlt
   rw [hb] at h1
   simp only [Bool.and_eq_true,Nat.beq_eq] at h1
   refine ⟨?_,h1.1.2,h1.2⟩
   have:=h1.1.1
   simpa [Nat.blt_eq] using this
  ·have:=hf _ (look_mem hk)
   simp only [Bool.and_eq_true] at this
   obtain ⟨q,h1,h2⟩:=List.any_eq_true.1 this.1.2
   exact ⟨q,h1,Nat.eq_of_beq_eq_true h2⟩
  ·have:=hf _ (look_mem hk)
   simp only [Bool.and_eq_true] at this
   have h1:=this.2
   intro hm
   rw [any_beq.2 hm] at h1
   simp at h1
  ·have:=hf _ (look_mem hk)
   simp only [Bool.and_eq_true] at this
   obtain ⟨q,h1,h2⟩:=List.any_eq_true.1 this.1.2
   obtain ⟨a',d',h3,h4⟩:=k4 q h1
   rw [Nat.eq_of_beq_eq_true h2,hk] at h3
   simp only [Option.some.injEq,Prod.mk.injEq] at h3
   rw [h3.1]; exact h4
  ·obtain ⟨a',d',h3,h4⟩:=k4 p hp
   exact ⟨a',d',h3⟩
 ·simp at k3
theorem cid_div (nx k:Nat):cidOf nx k / 1024=if k<1000 then k else nx+(k-1000):=by
 unfold cidOf
 by_cases h:k<1000
 ·have:Nat.blt k 1000=true:=by simpa using h
  rw [this,if_pos h]; simp only; exact Nat.mul_div_cancel _ (by omega)
 ·have:Nat.blt k 1000=false:=by rw [← Bool.not_eq_true]; intro hh; exact h (by simpa using hh)
  rw [this,if_neg h]; simp only; exact Nat.mul_div_cancel _ (by omega)
theorem cid_par {nx k:Nat} (h:k<1000):cidOf nx k=k*1024:=by
 unfold cidOf
 have:Nat.blt k 1000=true:=by simpa using h
 rw [this]
theorem cid_inj {nx k l:Nat} (hn:20≤nx) (hk:k<1000→k<19) (hl:l<1000→l<19) (h:cidOf nx k=cidOf nx l):k=l:=by
 have e:cidOf nx k / 1024=cidOf nx l / 1024:=by rw [h]
 rw [cid_div,cid_div] at e
 split at e<;>split at e<;>omega
open Classical in
noncomputable def reName (st:St) (nx:Nat) (M:Mp) (g:Gh):Gh where
 hd id ver p:=if h:ver=0∧∃ q:Nat×Nat×Nat,look M q.1=some q.2∧id=cidOf nx q.1 then
   (if p=[] then hdr g h.2.choose.2.1 h.2.choose.2.2 else if h.2.choose.2.2=0 then g.hd h.2.choose.2.1 (verOf st h.2.choose.2.1) p else nilHd)
  else g.hd id ver p
 lab b o:=match g.lab b o with
  | none=>none
  | some (id,p)=>if h:∃ k d,look M k=some (id,d)∧id≠nilId then some (cidOf nx h.choose,p) else some (id,p)
section
variable {M:Mp} {la:LA} {h:List Nat}
theorem reName_hd (F:Fit la st h M) (hn:20≤nx) {k a d:Nat} (hk:look M k=some (a,d)) (p:Path) :
  (reName st nx M g).hd (cidOf nx k) 0 p=if p=[] then hdr g a d else if d=0 then g.hd a (verOf st a) p else nilHd:=by
 have hex:(0:Nat)=0∧∃ q:Nat×Nat×Nat,look M q.1=some q.2∧cidOf nx k=cidOf nx q.1:=⟨rfl,(k,a,d),hk,rfl⟩
 simp only [reName,dif_pos hex]
 have hs:=hex.2.choose_spec
 have e:hex.2.choose=(k,a,d):=by
  generalize hex.2.choose=q at hs
  obtain ⟨k',a',d'⟩:=q
  have e:=cid_inj hn (fun hl=>(F.par _ _ _ hk hl).1) (fun hl=>(F.par _ _ _ hs.1 hl).1) hs.2
  subst e
  have h1:=hs.1
  simp only [hk,Option.some.injEq] at h1
  rw [h1]
 rw [e]
theorem reName_old {id ver:Nat} (hne:∀ k a d,look M k=some (a,d)→id≠cidOf nx k) (p:Path):(reName st nx M g).hd id ver p=g.hd id ver p:=by
 simp only [reName]
 rw [dif_neg]
 rintro ⟨-,⟨k,a,d⟩,h1,h2⟩
 exact hne k a d h1 h2
theorem reName_none {b o:Nat} (hl:g.lab b o=none):(reName st nx M g).lab b o=none:=by simp [reName,hl]
theorem reName_new (F:Fit la st h M) {k a d b o:Nat} {p:Path} (hk:look M k=some (a,d)) (hne:a≠nilId) (hl:g.lab b o=some (a,p)):(reName st nx M g).lab b o=some (cidOf nx k,p):=by
 have hex:∃ k d,look M k=some (a,d)∧a≠nilId:=⟨k,d,hk,hne⟩
 simp only [reName,hl,dif_pos hex]
 obtain ⟨d',h1,h2⟩:=hex.choose_spec
 rw [F.inj _ _ _ _ _ h1 hk hne]
theorem reName_keep {b o id:Nat} {p:Path} (hl:g.lab b o=some (id,p)) (hno:∀ k d,look M k=some (id,d)→id=nilId):(reName st nx M g).lab b o=some (id,p):=by
 simp only [reName,hl]
 rw [dif_neg]
 rintro ⟨k,d,h1,h2⟩
 exact h2 (hno k d h1)
theorem reName_some {b o:Nat} {id:Nat} {p:Path} (hl:(reName st nx M g).lab b o=some (id,p)) :
  g.lab b o=some (id,p)∨∃ k a d,look M k=some (a,d)∧a≠nilId∧g.lab b o=some (a,p)∧id=cidOf nx k:=by
 simp only [reName] at hl
 split at hl
 ·simp at hl
 ·rename_i id' p' he
  split at hl
  ·rename_i hex
   simp only [Option.some.injEq,Prod.mk.injEq] at hl
   obtain ⟨d,h1,h2⟩:=hex.choose_spec
   exact .inr ⟨_,id',d,h1,h2,by rw [he,hl.2],hl.1.symm⟩
  ·exact .inl (by rw [he]; exact hl)
theorem reName_cons (F:Fit la st h M) (hn:20≤nx) {U':Nat→Prop} (h0:U' 0) (hU:∀ k a d,look M k=some (a,d)→U' (cidOf nx k / 1024)):Cons st (cidOf nx) 0 M g (reName st nx M g) U':=
 ⟨fun k a d hk=>⟨hU k a d hk,by rw [reName_hd F hn hk,if_pos rfl]⟩,h0,h0,fun b o hl=>reName_none hl,fun k a d b o p hk hne hl=>reName_new F hk hne hl,
  fun k a d q hk hq=>by rw [reName_hd F hn hk,if_neg hq]⟩
end
end
end Go.Am
namespace Go.Am
open Go
section
variable {g0 g g':Gh} {w0 w:World} {U0 U U':Nat→Prop}
theorem inH_eq {id ver:Nat} (h0:∀ p,g'.hd id 0 p=g.hd id 0 p) (h1:∀ p,g'.hd id ver p=g.hd id ver p):∀ (q pre:Path),inH g id ver pre q→inH g' id ver pre q
 | [],_,_=>trivial
 | (i,j)::q,pre,h=>by
  refine ⟨?_,inH_eq h0 h1 q _ h.2⟩
  have:g'.hd id (vof pre ver) pre=g.hd id (vof pre ver) pre:=by cases pre with | nil=>exact h0 _ | cons=>exact h1 _
  rw [this]
  exact h.1
mutual
theorem VRel_move (hsub:∀ s,U0 s→U' s) (hsh:∀ b o,g.lab b o=none→g'.lab b o=none):∀ (v:AVal),(∀ id∈v.ids,∀ ver p,U0 (id / 1024)→U0 ver→g'.hd id ver p=g.hd id ver p)→
  ∀ x0 x,VRel g0 w0 U0 v x0→VRel g w U v x→VRel g' w U' v x
 | .undef,_,_,_,_,_=>trivial
 | .int _ _,_,_,_,_,h=>h
 | .bool _,_,_,_,_,h=>h
 | .str _,_,_,_,_,h=>h
 | .err _,_,_,_,_,h=>h
 | .agg cs,hi,_,_,h0,h=>let ⟨l0,_,r0⟩:=h0; let ⟨l,e,r⟩:=h; ⟨l,e,VRels_move hsub hsh cs hi l0 l r0 r⟩
 | .tup cs,hi,_,_,h0,h=>let ⟨l0,_,r0⟩:=h0; let ⟨l,e,r⟩:=h; ⟨l,e,VRels_move hsub hsh cs hi l0 l r0 r⟩
 | .nil,_,_,_,_,h=>h
 | .sh t _,_,_,_,_,h=>shV_mono (Sh_step (fun b o hl v hv=>⟨hv,hsh b o hl⟩) t) h
 | .osh t _,_,_,_,_,h=>⟨shV_mono (Sh_step (fun b o hl v hv=>⟨hv,hsh b o hl⟩) t) h.1,h.2⟩
 | .sptr t x _,_,_,_,_,h=>let ⟨b,o,e,r⟩:=h; ⟨b,o,e,Sh_step (fun b o hl v hv=>⟨hv,hsh b o hl⟩) t x b o r⟩
 | .own id ver p _,hi,_,_,h0,h=>by
  obtain ⟨a1,a2,a3,-⟩:=h0
  obtain ⟨h1,h2,h0,hp,h3,h4⟩:=h
  have e0:=fun p=>hi id (by simp [AVal.ids]) 0 p a1 a3
  have e1:=fun p=>hi id (by simp [AVal.ids]) ver p a1 a2
  exact ⟨hsub _ a1,hsub _ a2,hsub _ a3,inH_eq e0 e1 _ _ hp,h3,by rw [e1]; exact h4⟩
 | .osub id ver p t off len,hi,_,_,h0,h=>by
  obtain ⟨a1,a2,a3,-⟩:=h0
  obtain ⟨h1,h2,h0,hp,h3,h4⟩:=h
  have e0:=fun p=>hi id (by simp [AVal.ids]) 0 p a1 a3
  have e1:=fun p=>hi id (by simp [AVal.ids]) ver p a1 a2
  exact ⟨hsub _ a1,hsub _ a2,hsub _ a3,inH_eq e0 e1 _ _ hp,h3,by rw [e1]; exact h4⟩
 | .rptr id ver p t i j,hi,_,_,h0,h=>by
  obtain ⟨a1,a2,a3,-⟩:=h0
  obtain ⟨h1,h2,h0,hp,h3,h4⟩:=h
  have e0:=fun p=>hi id (by simp [AVal.ids]) 0 p a1 a3
  have e1:=fun p=>hi id (by simp [AVal.ids]) ver p a1 a2
  exact ⟨hsub _ a1,hsub _ a2,hsub _ a3,inH_eq e0 e1 _ _ hp,h3,by rw [e1]; exact h4⟩
 | .vptr id j,hi,_,_,h0,h=>by
  obtain ⟨a1,a3,-⟩:=h0
  obtain ⟨h1,h2,h3⟩:=h
  exact ⟨hsub _ a1,hsub _ a3,by rw [hi id (by simp [AVal.ids]) 0 _ a1 a3]; exact h3⟩
 | .csl id off len sz,hi,_,_,h0,h=>by
  obtain ⟨a1,a3,-⟩:=h0
  obtain ⟨h1,h2,h3⟩:=h
  exact ⟨hsub _ a1,hsub _ a3,by rw [hi id (by simp [AVal.ids]) 0 _ a1 a3]; exact h3⟩
 | .fn _ cs,hi,_,_,h0,h=>let ⟨l0,_,r0⟩:=h0; let ⟨l,e,r⟩:=h; ⟨l,e,VRels_move hsub hsh cs hi l0 l r0 r⟩
 | .nilp,_,_,_,_,h=>h
 | .nilfn,_,_,_,_,h=>h
theorem VRels_move (hsub:∀ s,U0 s→U' s) (hsh:∀ b o,g.lab b o=none→g'.lab b o=none):∀ (vs:List AVal),(∀ id∈AVal.ids.goL vs,∀ ver p,U0 (id / 1024)→U0 ver→g'.hd id ver p=g.hd id ver p)→
  ∀ l0 l,VRels g0 w0 U0 vs l0→VRels g w U vs l→VRels g' w U' vs l
 | [],_,_,_,_,h=>h
 | v::vs,hi,_,_,h0,h=>by
  obtain ⟨x0,r0,-,a0,b0⟩:=h0
  obtain ⟨x,r,e,a,b⟩:=h
  exact ⟨x,r,e,VRel_move hsub hsh v (fun id h=>hi id (by simp [AVal.ids.goL,h])) x0 x a0 a,VRels_move hsub hsh vs (fun id h=>hi id (by simp [AVal.ids.goL,h])) r0 r b0 b⟩
end
theorem ORel_move (hsub:∀ s,U0 s→U' s) (hsh:∀ b o,g.lab b o=none→g'.lab b o=none) {id:Nat} (hu:U0 (id / 1024)) (hhd:∀ ver p,U0 ver→g'.hd id ver p=g.hd id ver p)
  (hlab:∀ b o p,g.lab b o=some (id,p)→g'.lab b o=some (id,p)) {ob:AObj} (hb:∀ t vr xs i j,ob≠.brk t vr xs i j)
  (hi:∀ ro cs,ob = .cells ro cs→∀ id∈AVal.ids.goL cs,∀ ver p,U0 (id / 1024)→U0 ver→g'.hd id ver p=g.hd id ver p)
  (h0:ORel g0 w0 U0 id ob) (h:ORel g w U id ob):ORel g' w U' id ob:=by
 cases ob with
 | cells ro cs=>
  obtain ⟨a0,b0,o0,hh0,hc0⟩:=h0
  obtain ⟨a1,b,o,hh,hc⟩:=h
  refine ⟨hsub _ a0,b,o,by rw [hhd _ _ a0]; exact hh,fun k hk=>?_⟩
  obtain ⟨-,-,v0,-,r0⟩:=hc0 k hk
  obtain ⟨c1,c2,v,c3,r⟩:=hc k hk
  refine ⟨hlab _ _ _ c1,c2,v,c3,VRel_move hsub hsh _ (fun id' hid=>hi ro cs rfl id' ?_) v0 v r0 r⟩
  clear hc hc0 hi c1 c2 c3 r r0
  induction cs generalizing k with
  | nil=>simp at hk
  | cons c cs ih=>
   cases k with
   | zero=>simp only [List.getElem_cons_zero] at hid; simp [AVal.ids.goL,hid]
   | succ k=>
    simp only [List.getElem_cons_succ] at hid
    simp only [AVal.ids.goL,List.mem_append]
    refine .inr ?_
    have hk':k<cs.length:=by simpa using hk
    exact go_mem cs k hk' hid
 | row own t vr xs=>
  exact ⟨hsub _ h0.1,hsub _ h0.2.1,RowR_ren (hhd _ _ h0.1) (fun q _=>hhd _ _ h0.2.1) hlab hsh h.2.2⟩
 | brk t vr xs i j=>exact absurd rfl (hb t vr xs i j)
 where go_mem:∀ (cs:List AVal) (k:Nat) (hk:k<cs.length) {id:Nat},id∈cs[k].ids→id∈AVal.ids.goL cs
 | [],k,hk,_,h=>by simp at hk
 | c::cs,0,hk,_,h=>by simp only [List.getElem_cons_zero] at h; simp [AVal.ids.goL,h]
 | c::cs,k+1,hk,_,h=>by
  simp only [List.getElem_cons_succ] at h
  simp only [AVal.ids.goL,List.mem_append]
  exact .inr (go_mem cs k (by simpa using hk) h)
end
structure Ext (g:Gh) (U:Nat→Prop) (st:St) (g':Gh) (U':Nat→Prop) (st':St):Prop where
 sub:∀ s,U s→U' s
 nxt:st.nxt≤st'.nxt
 env:∃ l,st'.et=l++st.et∧∀ t,t∉l→look st'.env t=none∨look st'.env t=look st.env t
 obj:∃ l,st'.ht=l++st.ht∧∀ id,id∉l→st'.obj id=none∨(st'.obj id=st.obj id∧∀ ver p,U (id / 1024)→U ver→g'.hd id ver p=g.hd id ver p)
 par:∀ n,n / 1024<19→U (n / 1024)→g'.hd n 0 []=g.hd n 0 []
theorem Ext.refl (g:Gh) (U:Nat→Prop) (st:St):Ext g U st g U st:=
 ⟨fun _ h=>h,Nat.le_refl _,⟨[],rfl,fun _ _=>.inr rfl⟩,⟨[],rfl,fun _ _=>.inr ⟨rfl,fun _ _ _ _=>rfl⟩⟩,fun _ _ _=>rfl⟩
theorem Ext.trans {g1 g2 g3:Gh} {U1 U2 U3:Nat→Prop} {s1 s2 s3:St} (h:Ext g1 U1 s1 g2 U2 s2) (h':Ext g2 U2 s2 g3 U3 s3):Ext g1 U1 s1 g3 U3 s3:=by
 obtain ⟨l,e1,e2⟩:=h.env
 obtain ⟨l',e3,e4⟩:=h'.env
 obtain ⟨m,o1,o2⟩:=h.obj
 obtain ⟨m',o3,o4⟩:=h'.obj
 refine ⟨fun s hs=>h'.sub s (h.sub s hs),Nat.le_trans h.nxt h'.nxt,⟨l'++l,by rw [e3,e1,List.append_assoc],fun t ht=>?_⟩,⟨m'++m,by rw [o3,o1,List.append_assoc],fun id hid=>?_⟩,
  fun i h1 h2=>by rw [h'.par i h1 (h.sub _ h2),h.par i h1 h2]⟩
 ·simp only [List.mem_append,not_or] at ht
  rcases e4 t ht.1 with h1 | h1
  ·exact .inl h1
  ·rcases e2 t ht.2 with h2 | h2
   ·exact .inl (by rw [h1,h2])
   ·exact .inr (by rw [h1,h2])
 ·simp only [List.mem_append,not_or] at hid
  rcases o4 id hid.1 with h1 | ⟨h1,h3⟩
  ·exact .inl h1
  ·rcases o2 id hid.2 with h2 | ⟨h2,h4⟩
   ·exact .inl (by rw [h1,h2])
   ·exact .inr ⟨by rw [h1,h2],fun ver p a1 a2=>by rw [h3 ver p (h.sub _ a1) (h.sub _ a2),h4 ver p a1 a2]⟩
theorem look_none {α:Type} : ∀ {l:List (Nat×α)} {k:Nat},k∉l.map (·.1)→look l k=none
 | [],_,_=>rfl
 | (a,b)::l,k,h=>by
  simp only [List.map_cons,List.mem_cons,not_or] at h
  rw [look_cons,if_neg (fun e=>h.1 e.symm)]
  exact look_none h.2
theorem Ext.put {g g':Gh} {U U':Nat→Prop} {st:St} {w w':World} {e:Eff} {v:Value} (d:Option Nat) (Q:Post g w U st.nxt e v w' g' U') (h19:U 0):Ext g U st g' U' (st.put d e):=by
 refine ⟨Q.stp.sub,Nat.le_succ _,⟨match d with | some x=>[x] | none=>[],by cases d<;>rfl,fun t ht=>?_⟩,⟨e.objs.map (·.1),rfl,fun id hid=>.inr ⟨?_,fun ver p a1 a2=>Q.stp.hd _ _ _ a1 a2⟩⟩,
  fun i h1 h2=>Q.stp.hd _ _ _ h2 h19⟩
 ·cases d with
  | none=>exact .inr rfl
  | some x=>
   simp only [List.mem_singleton] at ht
   refine .inr ?_
   simp only [St.put]
   rw [look_cons,if_neg (fun e=>ht e.symm)]
 ·unfold St.obj St.put
  simp only [look_app,look_none hid]
theorem Ext.know {g:Gh} {U:Nat→Prop} {st:St} {d:Nat} {x:AVal} : Ext g U st g U (st.put (some d) ⟨x,[]⟩):=by
 refine ⟨fun _ h=>h,Nat.le_succ _,⟨[d],rfl,fun t ht=>?_⟩,⟨[],rfl,fun id hid=>.inr ⟨rfl,fun _ _ _ _=>rfl⟩⟩,fun _ _ _=>rfl⟩
 simp only [List.mem_singleton] at ht
 refine .inr ?_
 simp only [St.put]
 rw [look_cons,if_neg (fun e=>ht e.symm)]
structure KeptS (la:LA) (g0:Gh) (U0:Nat→Prop) (st0:St) (g:Gh) (st:St):Prop where
 env:∀ i∈la.keep,∀ v,look st0.env i=some v→look st.env i=some v
 obj:∀ id∈la.held st0,∀ o,st0.obj id=some o→st.obj id=some o
 hds:∀ id∈la.held st0,∀ ver p,U0 (id / 1024)→U0 ver→g.hd id ver p=g0.hd id ver p
 par:∀ n,n / 1024<19→U0 (n / 1024)→g.hd n 0 []=g0.hd n 0 []
theorem KeptS.refl (la:LA) (g:Gh) (U:Nat→Prop) (st:St):KeptS la g U st g st:=⟨fun _ _ _ h=>h,fun _ _ _ h=>h,fun _ _ _ _ _ _=>rfl,fun _ _ _=>rfl⟩
theorem front_ok {names:List Nat} : ∀ (l m:List Nat),front names l.length (l++m)=true→∀ i∈names,i∉l
 | [],m,h,i,hi=>by simp
 | x::l,m,h,i,hi=>by
  simp only [List.length_cons,List.cons_append,front,Bool.and_eq_true] at h
  simp only [List.mem_cons,not_or]
  refine ⟨fun e=>?_,front_ok l m h.2 i hi⟩
  subst e
  have:=h.1
  rw [any_beq.2 hi] at this
  simp at this
theorem KeptS.of {la:LA} {g0 g1 g:Gh} {U0 U1 U:Nat→Prop} {st0 head st:St} (E1:Ext g0 U0 st0 g1 U1 head) (E2:Ext g1 U1 head g U st)
  (he:∀ i∈la.keep,look head.env i=none∨look head.env i=look st0.env i)
  (ho:∀ id∈la.held st0,head.obj id=none∨(head.obj id=st0.obj id∧∀ ver p,U0 (id / 1024)→U0 ver→g1.hd id ver p=g0.hd id ver p))
  (hh:la.held head=la.held st0) (K:la.kept head st=true):KeptS la g0 U0 st0 g st:=by
 unfold LA.kept at K
 simp only [Bool.and_eq_true] at K
 obtain ⟨⟨⟨k1,k2⟩,k3⟩,k4⟩:=K
 obtain ⟨l,e1,e2⟩:=E2.env
 obtain ⟨m,o1,o2⟩:=E2.obj
 have n1:st.et.length-head.et.length=l.length:=by rw [e1]; simp
 have n2:st.ht.length-head.ht.length=m.length:=by rw [o1]; simp
 rw [n1,e1] at k1
 rw [n2,o1,hh] at k2
 rw [hh] at k4
 have f1:=front_ok _ _ k1
 have f2:=front_ok _ _ k2
 refine ⟨fun i hi v hv=>?_,fun id hid o hob=>?_,fun id hid ver p u1 u2=>?_,fun i h1 h2=>by rw [E2.par i h1 (E1.sub _ h2),E1.par i h1 h2]⟩
 ·have hs:=List.all_eq_true.1 k3 i hi
  rcases e2 i (f1 i hi) with h1 | h1
  ·rw [h1] at hs; simp at hs
  ·rcases he i hi with h2 | h2
   ·rw [h1,h2] at hs; simp at hs
   ·rw [h1,h2,hv]
 ·have hs:=List.all_eq_true.1 k4 id hid
  rcases o2 id (f2 id hid) with h1 | ⟨h1,h3⟩
  ·rw [h1] at hs; simp at hs
  ·rcases ho id hid with h2 | ⟨h2,h4⟩
   ·rw [h1,h2] at hs; simp at hs
   ·rw [h1,h2,hob]
 ·have hs:=List.all_eq_true.1 k4 id hid
  rcases o2 id (f2 id hid) with h1 | ⟨h1,h3⟩
  ·rw [h1] at hs; simp at hs
  ·rcases ho id hid with h2 | ⟨h2,h4⟩
   ·rw [h1,h2] at hs; simp at hs
   ·rw [h3 ver p (E1.sub _ u1) (E1.sub _ u2),h4 ver p u1 u2]
end Go.Am
namespace Go.Am
open Go
theorem look_keepE {st:St} : ∀ (l:List Nat) (t:Nat),look (keepE st l) t=if t∈l then look st.env t else none
 | [],t=>by simp [keepE,look]
 | i::l,t=>by
  simp only [keepE]
  cases h:look st.env i with
  | none=>
   simp only
   rw [look_keepE l t]
   by_cases ht:t=i
   ·subst ht; simp [h]
   ·simp [ht]
  | some v=>
   simp only
   rw [look_cons,look_keepE l t]
   by_cases ht:i=t
   ·subst ht; simp [h]
   ·rw [if_neg ht]
    have hti:¬ t=i:=fun e=>ht e.symm
    simp [hti]
theorem look_keepH {st:St} : ∀ (l:List Nat) (id:Nat),(match look (keepH st l) id with | some (some o)=>some o | _=>none)=if id∈l then st.obj id else none
 | [],id=>by simp [keepH,look]
 | i::l,id=>by
  simp only [keepH]
  have ih:=look_keepH (st:=st) l id
  cases h:st.obj i with
  | none=>
   simp only
   rw [ih]
   by_cases ht:id=i
   ·subst ht; simp [h]
   ·simp [ht]
  | some v=>
   simp only
   rw [look_cons]
   by_cases ht:i=id
   ·subst ht; simp [h]
   ·rw [if_neg ht,ih]
    have hti:¬ id=i:=fun e=>ht e.symm
    simp [hti]
theorem envIds_mem {l:List (Nat×AVal)} {t:Nat} {v:AVal} (h:(t,v)∈l):∀ id∈v.ids,id∈envIds l:=by
 induction l with
 | nil=>simp at h
 | cons a l ih=>
  intro id hid
  obtain ⟨k,u⟩:=a
  simp only [envIds,List.mem_append]
  rcases List.mem_cons.1 h with e | e
  ·simp only [Prod.mk.injEq] at e; obtain ⟨rfl,rfl⟩:=e; exact .inl hid
  ·exact .inr (ih e id hid)
theorem keepE_mem {st:St} {l:List Nat} {t:Nat} {v:AVal} (ht:t∈l) (h:look st.env t=some v):(t,v)∈keepE st l:=by
 induction l with
 | nil=>simp at ht
 | cons a l ih=>
  simp only [keepE]
  rcases List.mem_cons.1 ht with e | e
  ·subst e; rw [h]; simp
  ·cases h':look st.env a with
   | none=>exact ih e
   | some x=>exact List.mem_cons_of_mem _ (ih e)
theorem objIds_mem {st:St} {l:List Nat} {id:Nat} {ro:List Bool} {cs:List AVal} (hid:id∈l) (h:st.obj id=some (.cells ro cs)):∀ x∈AVal.ids.goL cs,x∈objIds st l:=by
 induction l with
 | nil=>simp at hid
 | cons a l ih=>
  intro x hx
  simp only [objIds,List.mem_append]
  rcases List.mem_cons.1 hid with e | e
  ·subst e; rw [h]; exact .inl hx
  ·exact .inr (ih e x hx)
theorem objIds_eq {st st':St} : ∀ (l:List Nat),(∀ i∈l,st'.obj i=st.obj i)→objIds st' l=objIds st l
 | [],_=>rfl
 | i::l,h=>by simp only [objIds,h i (by simp),objIds_eq l (fun j hj=>h j (by simp [hj]))]
theorem keepE_eq {st st':St} : ∀ (l:List Nat),(∀ i∈l,look st'.env i=look st.env i)→keepE st' l=keepE st l
 | [],_=>rfl
 | i::l,h=>by simp only [keepE,h i (by simp),keepE_eq l (fun j hj=>h j (by simp [hj]))]
structure Apart (la:LA) (st:St):Prop where
 new:∀ p∈la.objs,cidOf st.nxt p.1∉la.held st
 lt:∀ p∈la.objs,p.1<1000+la.objs.length
 keep:∀ i∈la.keep,∀ p∈la.slots,p.1≠i
 clos:∀ i∈objIds st (la.held st),i∈la.held st
 brk:∀ i∈la.held st,∀ t vr xs a b,st.obj i≠some (.brk t vr xs a b)
theorem apart_ok {la:LA} {st:St} (h:la.apart st=true):Apart la st:=by
 unfold LA.apart at h
 simp only [Bool.and_eq_true] at h
 obtain ⟨⟨⟨⟨⟨h1,h2⟩,h3⟩,h4⟩,h5⟩,h6⟩:=h
 refine ⟨fun p hp hm=>?_,fun p hp=>?_,fun i hi p hp e=>?_,fun i hi=>?_,fun i hi t vr xs a b e=>?_⟩
 ·have:=List.all_eq_true.1 h2 p hp
  rw [any_beq.2 hm] at this
  simp at this
 ·have:=List.all_eq_true.1 h3 p hp
  simpa [Nat.blt_eq] using this
 ·have:=List.all_eq_true.1 h4 i hi
  have hx:(la.slots.any fun p=>Nat.beq p.1 i)=true:=List.any_eq_true.2 ⟨p,hp,by rw [e]; simp⟩
  rw [hx] at this
  simp at this
 ·exact any_beq.1 (List.all_eq_true.1 h5 i hi)
 ·have:=List.all_eq_true.1 h6 i hi
  rw [e] at this
  simp at this
section
variable {w0:World} {F:Lab} {N:Nat} {g0 g g':Gh} {w w1:World} {U0 U U':Nat→Prop} {st0 head st:St} {a a0:Act} {la:LA}
theorem mk_env (x:la.LT) (t:Nat):look (la.mk' st0 x).env t=match look (reflectSlots (cidOf st0.nxt) 0 la.slots x).1 t with | some v=>some v | none=>if t∈la.keep then look st0.env t else none:=by
 show look ((reflectSlots (cidOf st0.nxt) 0 la.slots x).1++keepE st0 la.keep) t=_
 rw [look_app,look_keepE]
 cases look (reflectSlots (cidOf st0.nxt) 0 la.slots x).1 t<;>rfl
theorem mk_obj (x:la.LT) (id:Nat):(la.mk' st0 x).obj id=match look (reflectObjs (cidOf st0.nxt) 0 la.objs (reflectSlots (cidOf st0.nxt) 0 la.slots x).2).1 id with
  | some o=>o
  | none=>if id∈la.held st0 then st0.obj id else none:=by
 show (match look ((reflectObjs (cidOf st0.nxt) 0 la.objs (reflectSlots (cidOf st0.nxt) 0 la.slots x).2).1++keepH st0 (la.held st0)) id with | some (some o)=>some o | _=>none)=_
 rw [look_app,← look_keepH]
 cases h:look (reflectObjs (cidOf st0.nxt) 0 la.objs (reflectSlots (cidOf st0.nxt) 0 la.slots x).2).1 id with
 | none=>rfl
 | some o=>cases o<;>rfl
theorem mk_env_keep (A:Apart la st0) (x:la.LT) {i:Nat} (hi:i∈la.keep):look (la.mk' st0 x).env i=look st0.env i:=by
 rw [mk_env,reflectSlots_name _ _ _ (fun p hp=>A.keep i hi p hp)]
 simp [hi]
theorem mk_obj_held (A:Apart la st0) (x:la.LT) {id:Nat} (hid:id∈la.held st0):(la.mk' st0 x).obj id=st0.obj id:=by
 rw [mk_obj]
 cases h:look (reflectObjs (cidOf st0.nxt) 0 la.objs (reflectSlots (cidOf st0.nxt) 0 la.slots x).2).1 id with
 | none=>simp [hid]
 | some o=>
  obtain ⟨p,hp,e,-⟩:=reflectObjs_name _ _ _ _ h
  exact absurd (e▸hid) (A.new p hp)
theorem mk_held (A:Apart la st0) (x:la.LT):la.held (la.mk' st0 x)=la.held st0:=by
 have e1:keepE (la.mk' st0 x) la.keep=keepE st0 la.keep:=keepE_eq _ (fun i hi=>mk_env_keep A x hi)
 have hsub:∀ i,i∈envIds (keepE st0 la.keep)++la.keepP.map (· * 1024)→i∈la.held st0:=by
  intro i hi
  unfold LA.held
  exact List.mem_append_left _ (List.mem_append_left _ hi)
 have e2:=objIds_eq (st:=st0) (st':=la.mk' st0 x) (envIds (keepE st0 la.keep)++la.keepP.map (· * 1024)) (fun i hi=>mk_obj_held A x (hsub i hi))
 have hsub2:∀ i,i∈(envIds (keepE st0 la.keep)++la.keepP.map (· * 1024))++objIds st0 (envIds (keepE st0 la.keep)++la.keepP.map (· * 1024))→i∈la.held st0:=by
  intro i hi
  unfold LA.held
  exact List.mem_append_left _ hi
 have e3:=objIds_eq (st:=st0) (st':=la.mk' st0 x) ((envIds (keepE st0 la.keep)++la.keepP.map (· * 1024))++objIds st0 (envIds (keepE st0 la.keep)++la.keepP.map (· * 1024))) (fun i hi=>mk_obj_held A x (hsub2 i hi))
 unfold LA.held
 simp only [e1,e2,e3]
theorem mk_rel (R0:Rel w0 F N g0 U0 st0 a0 w1) (A:Apart la st0) (R:Rel w0 F N g U st a w) (K:KeptS la g0 U0 st0 g st) (hh:la.held head=la.held st0) {y:la.LT} (e:la.read head st=some y) :
  ∃ g' U',Rel w0 F N g' U' (la.mk' st0 y) a w∧Ext g0 U0 st0 g' U' (la.mk' st0 y):=by
 obtain ⟨M,FT,hr⟩:=read_ok (nm:=cidOf st0.nxt) (vr:=0) R.heap R.env e
 rw [hh] at FT
 have hn:20≤st0.nxt:=by have:=R0.used 19 R0.u19; omega
 let U':Nat→Prop:=fun s=>U0 s∨∃ k a d,look M k=some (a,d)∧s=cidOf st0.nxt k / 1024
 have C:Cons st (cidOf st0.nxt) 0 M g (reName st st0.nxt M g) U':=reName_cons FT hn (.inl R0.u0) (fun k a d hk=>.inr ⟨k,a,d,hk,rfl⟩)
 obtain ⟨hS,hOb⟩:=hr _ U' C
 have hsub:∀ s,U0 s→U' s:=fun s h=>.inl h
 have hsh:∀ b o,g.lab b o=none→(reName st st0.nxt M g).lab b o=none:=fun b o h=>reName_none h
 have hcid:∀ k a d,look M k=some (a,d)→cidOf st0.nxt k∉la.held st0:=by
  intro k a d hk
  obtain ⟨q,h1,h2⟩:=FT.mem k a d hk
  rw [← h2]; exact A.new q h1
 have hheld:∀ id∈la.held st0,∀ ver p,U0 (id / 1024)→U0 ver→(reName st st0.nxt M g).hd id ver p=g.hd id ver p:=by
  intro id hid ver p _ _
  exact reName_old (fun k a d hk e=>hcid k a d hk (e▸hid)) p
 have hdiv:∀ k a d,look M k=some (a,d)→cidOf st0.nxt k / 1024<st0.nxt+la.objs.length:=by
  intro k a d hk
  obtain ⟨q,h1,h2⟩:=FT.mem k a d hk
  have:=A.lt q h1
  rw [cid_div]
  split
  ·rename_i hlt; have:=(FT.par k a d hk hlt).1; omega
  ·omega
 have hn19:∀ k a d,look M k=some (a,d)→cidOf st0.nxt k / 1024≠19:=by
  intro k a d hk
  rw [cid_div]
  split
  ·rename_i hlt; have:=(FT.par k a d hk hlt).1; omega
  ·omega
 refine ⟨reName st st0.nxt M g,U',⟨fun t v h=>?_,fun id ob h=>?_,fun s h=>?_,fun b o q h=>?_,fun b o id p hb h=>?_,fun b o id p hf h19=>?_,R.fr,R.defers,R.size,.inl R0.u0,fun s hs=>.inl (R0.u20 s hs),fun id h=>?_⟩,
  ⟨hsub,Nat.le_add_right _ _,⟨la.slots.map (·.1),rfl,fun t ht=>?_⟩,⟨la.objs.map (fun p=>cidOf st0.nxt p.1),rfl,fun id hid=>?_⟩,fun i h1 h2=>?_⟩⟩
 ·rw [mk_env] at h
  cases hs:look (reflectSlots (cidOf st0.nxt) 0 la.slots y).1 t with
  | some v'=>
   rw [hs] at h
   simp only [Option.some.injEq] at h
   subst h
   exact hS t _ hs
  | none=>
   rw [hs] at h
   simp only at h
   split at h
   ·rename_i hk
    have h1:=K.env t hk v h
    refine VRel_move hsub hsh v (fun id hid=>hheld id ?_) _ _ (R0.env t v h) (R.env t v h1)
    unfold LA.held
    refine List.mem_append_left _ (List.mem_append_left _ (List.mem_append_left _ (envIds_mem (keepE_mem hk h) id hid)))
   ·simp at h
 ·rw [mk_obj] at h
  cases hs:look (reflectObjs (cidOf st0.nxt) 0 la.objs (reflectSlots (cidOf st0.nxt) 0 la.slots y).2).1 id with
  | some ob'=>
   rw [hs] at h
   simp only at h
   subst h
   exact hOb id ob hs
  | none=>
   rw [hs] at h
   simp only at h
   split at h
   ·rename_i hid
    obtain ⟨u0,r0⟩:=R0.heap id ob h
    obtain ⟨-,r1⟩:=R.heap id ob (K.obj id hid ob h)
    refine ⟨hsub _ u0,ORel_move hsub hsh u0 (fun ver p hv=>hheld id hid ver p u0 hv) (fun b o p hl=>reName_keep hl (fun k d hk=>?_)) (fun t vr xs i j e=>A.brk id hid t vr xs i j (by rw [h,e]))
     (fun ro cs e id' hid' ver p h1 h2=>hheld id' (A.clos id' (objIds_mem hid (by rw [h,e]) id' hid')) ver p h1 h2) r0 r1⟩
    exact absurd hid (FT.held k id d hk)
   ·simp at h
 ·show s<st0.nxt+la.objs.length
  rcases h with h | ⟨k,a,d,hk,rfl⟩
  ·have:=R0.used s h; omega
  ·exact hdiv k a d hk
 ·obtain ⟨id,p⟩:=q
  rcases reName_some h with h | ⟨k,a,d,hk,hne,h,-⟩
  ·exact R.labs _ _ _ h
  ·exact R.labs _ _ _ h
 ·rcases reName_some h with h | ⟨k,a,d,hk,hne,h,-⟩
  ·exact R.old b o id p hb h
  ·refine .inr ((R.old b o a p hb h).resolve_left (fun hh=>?_))
   exact R.nf a ((FT.ex k a d hk).resolve_left hne) hh.1
 ·refine reName_keep (R.frn b o id p hf h19) (fun k d hk=>?_)
  rcases FT.ex k id d hk with hx | hx
  ·exact hx
  ·exact absurd h19 (R.nf id hx)
 ·rw [mk_obj] at h
  cases hs:look (reflectObjs (cidOf st0.nxt) 0 la.objs (reflectSlots (cidOf st0.nxt) 0 la.slots y).2).1 id with
  | some ob'=>
   obtain ⟨p,hp,e,-⟩:=reflectObjs_name _ _ _ _ hs
   obtain ⟨a',d',hk⟩:=FT.all p hp
   rw [e]; exact hn19 _ _ _ hk
  | none=>
   rw [hs] at h
   simp only at h
   split at h
   ·exact R0.nf id h
   ·exact absurd rfl h
 ·rw [mk_env,reflectSlots_name _ _ _ (fun p hp e=>ht (List.mem_map.2 ⟨p,hp,e⟩))]
  simp only
  split
  ·exact .inr rfl
  ·exact .inl rfl
 ·rw [mk_obj]
  cases hs:look (reflectObjs (cidOf st0.nxt) 0 la.objs (reflectSlots (cidOf st0.nxt) 0 la.slots y).2).1 id with
  | some ob'=>
   obtain ⟨p,hp,e,-⟩:=reflectObjs_name _ _ _ _ hs
   exact absurd (List.mem_map.2 ⟨p,hp,e.symm⟩) hid
  | none=>
   simp only
   split
   ·rename_i hm
    exact .inr ⟨rfl,fun ver p u1 u2=>by rw [hheld id hm ver p u1 u2,K.hds id hm ver p u1 u2]⟩
   ·exact .inl rfl
 ·by_cases hk:∃ k a d,look M k=some (a,d)∧i=cidOf st0.nxt k
  ·obtain ⟨k,a',d',hk,rfl⟩:=hk
   have hk19:k<1000:=by
    rw [cid_div] at h1
    split at h1<;>omega
   obtain ⟨p1,p2,p3⟩:=FT.par k a' d' hk hk19
   have:=reName_hd (g:=g) (st:=st) FT hn hk []
   rw [if_pos rfl] at this
   rw [this,p2,p3,cid_par hk19]
   have hne:k*1024≠nilId:=by unfold nilId; omega
   simp only [hdr,hne,if_false,if_true]
   rw [cid_par hk19] at h1 h2
   exact K.par _ h1 h2
  ·rw [reName_old,K.par i h1 h2]
   intro k a' d' hk' e
   exact hk ⟨k,a',d',hk',e⟩
end
end Go.Am
namespace Go.Am
open Go
section
variable {P:Program} {c:Cfg} {w0:World} {F:Lab} {N:Nat} {g g':Gh} {w w':World} {U U':Nat→Prop} {st:St} {a:Act}
theorem evOps_sound (H:OpOK P c) (hc:TysOK P c) (hG:Gl P F w0) {ops:Array Oper} (hN:∀ o∈ops.toList,∀ x,o.dst=some x→x<N) {ρ:Type} {r:ρ} {Q:Exit→Act→World→Prop} : ∀ (l:List Oper) (st:St) (a:Act) (w:World) (g:Gh) (U:Nat→Prop) (k:St→Option ρ),
  (∀ o∈l,o∈ops.toList)→Rel w0 F N g U st a w→evOps c ops.toList l st k=some r→
  (∀ st' a' w' g' U',Rel w0 F N g' U' st' a' w'→Ext g U st g' U' st'→k st'=some r→Q .normal a' w')→wpList P ops Q l a w
 | [],st,a,w,g,U,k,hl,R,e,hQ=>hQ st a w g U R (.refl _ _ _) e
 | o::l,st,a,w,g,U,k,hl,R,e,hQ=>by
  have hd:=hN o (hl o (by simp))
  have hl':∀ o∈l,o∈ops.toList:=fun o' h=>hl o' (by simp [h])
  have run:∀ {st1:St},Rel w0 F N g U st1 a w→Ext g U st g U st1→evOp c st1 st1.nxt o.op (fun e=>evOps c ops.toList l (st1.put o.dst e) k)=some r→o.wp P a w (wpList P ops Q l) Q:=by
   intro st1 R E e
   obtain ⟨eff,h1,h2⟩:=H (R.sit hc hG) R.fresh e
   exact h2 _ _ (fun v w' g' U' hp=>evOps_sound H hc hG hN l _ _ _ g' U' k hl' (R.put hd hp) h1 (fun st' a' w' g'' U'' R' E'=>hQ st' a' w' g'' U'' R' ((E.trans (.put _ hp R.u0)).trans E')))
  have skip:∀ {st1:St},Rel w0 F N g U st1 a w→Ext g U st g U st1→evOps c ops.toList l (st1.put o.dst ⟨.tup [],[]⟩) k=some r→wpList P ops Q l (a.put o.dst undef) w:=
   fun R E e=>evOps_sound H hc hG hN l _ _ _ g U k hl' (R.skip hd) e (fun st' a' w' g'' U'' R' E'=>hQ st' a' w' g'' U'' R' ((E.trans (.put (w:=w) (w':=w) (v:=undef) (e:=⟨.tup [],[]⟩) _ (.same (x:=.tup []) R.labs ⟨[],rfl,rfl⟩) R.u0)).trans E'))
  simp only [evOps] at e
  simp only [wpList]
  cases hg:o.guard with
  | none=>
   rw [hg] at e
   have hw:Region.wanted o (yielded ops a.tmps)=true:=by simp [Region.wanted,hg]
   rw [if_pos hw]
   exact .inl (run R (.refl _ _ _) e)
  | some gw=>
   obtain ⟨gd,want⟩:=gw
   rw [hg] at e
   simp only at e
   split at e
   ·simp at e
   ·rename_i d hdst
    split at e
    ·rename_i b hb
     have hv:a.eval (.tmp d) = .bool b:=by
      have:=(R.sit hc hG).ev (.tmp d)
      rw [hb] at this; exact this
     have hy:yielded ops a.tmps gd=some b:=yielded_of hdst hv
     have hw:Region.wanted o (yielded ops a.tmps)=(b==want):=by simp [Region.wanted,hg,hy]
     rw [hw]
     cases b with
     | true=>
      have R':=R.know (d:=d) (x:=.bool true) hv
      simp only [br] at e
      cases want with
      | true=>exact .inl (run R' .know e)
      | false=>exact skip R' .know e
     | false=>
      have R':=R.know (d:=d) (x:=.bool false) hv
      simp only [br] at e
      cases want with
      | true=>exact skip R' .know e
      | false=>exact .inl (run R' .know e)
    ·rename_i hb
     have hv:a.eval (.tmp d)=undef:=by
      have:=(R.sit hc hG).ev (.tmp d)
      rw [hb] at this
      obtain ⟨l,h1,h2⟩:=this
      obtain rfl:=h2
      exact h1
     have hy:yielded ops a.tmps gd=none:=yielded_undef hdst hv
     have hw:Region.wanted o (yielded ops a.tmps)=false:=by simp [Region.wanted,hg,hy]
     rw [hw]
     exact skip R (.refl _ _ _) e
    ·simp at e
end
def Ex.to:Ex→Exit
 | .normal=>.normal
 | .ret=>.ret
 | .exit id=>.exit id
def RegOK (P:Program) (c:Cfg):Prop:=∀ {ρ:Type} {r:ρ} {w0:World} {F:Lab} {N:Nat} (id:Nat) (ops:Array Oper) (draw:Bool) (st:St) (a:Act) (w:World) (g:Gh) (U:Nat→Prop)
 (k:St→Option ρ) (Q:Exit→Act→World→Prop),(∀ o∈ops.toList,∀ x,o.dst=some x→x<N)→Gl P F w0→Rel w0 F N g U st a w→evRegion c ops draw st k=some r→
 (∀ st' a' w' g' U',Rel w0 F N g' U' st' a' w'→Ext g U st g' U' st'→k st'=some r→Q .normal a' w')→(Code.region id ops draw).wp P Q a w
section
variable {P:Program} {c:Cfg} {w0:World} {F:Lab} {N n:Nat}
abbrev Aft (w0:World) (F:Lab) (N:Nat) (g:Gh) (U:Nat→Prop) (st:St) {ρ:Type} (k:Ex→St→Option ρ) (r:ρ) (Q:Exit→Act→World→Prop):Prop:=
 ∀ ex st' a' w' g' U',Rel w0 F N g' U' st' a' w'→Ext g U st g' U' st'→k ex st'=some r→Q ex.to a' w'
theorem kept_same {la:LA} {g0 g:Gh} {U0 U:Nat→Prop} {st0 st:St} (E:Ext g0 U0 st0 g U st) (K:la.kept st0 st=true):KeptS la g0 U0 st0 g st:=
 .of (.refl _ _ _) E (fun _ _=>.inr rfl) (fun _ _=>.inr ⟨rfl,fun _ _ _ _=>rfl⟩) rfl K
theorem bool_ev {g:Gh} {U:Nat→Prop} {st:St} {a:Act} {w:World} (R:Rel w0 F N g U st a w) {x:Operand} {t:Bool} (h:st.ev x = .bool t):a.eval x = .bool t:=by
 have:=ev_rel (g:=g) (w:=w) (U:=U) R.env x
 rw [h] at this
 exact this
theorem cut_cases {α ρ:Type} {m:Option (Sum ρ α)} {f:α→Option ρ} {r:ρ} (h:cut m f=some r):m=some (.inl r)∨∃ y,m=some (.inr y)∧f y=some r:=by
 unfold cut at h
 cases m with
 | none=>simp at h
 | some s=>cases s with
  | inl r'=>simp at h; subst h; exact .inl rfl
  | inr y=>exact .inr ⟨y,rfl,h⟩
theorem plainEx_sound (HR:RegOK P c) (hG:Gl P F w0):∀ (code:Code) (an:Ann) (ρ:Type) (r:ρ) (st:St) (k:Ex→St→Option ρ) (Q:Exit→Act→World→Prop) (a:Act) (w:World) (g:Gh) (U:Nat→Prop),
  dstsB N code=true→Rel w0 F N g U st a w→plainEx c n code an ρ st k=some r→Aft w0 F N g U st k r Q→code.wp P Q a w
 | .skip,an,ρ,r,st,k,Q,a,w,g,U,hd,R,e,hQ=>wp_skip (hQ .normal st a w g U R (.refl _ _ _) e)
 | .exit id,an,ρ,r,st,k,Q,a,w,g,U,hd,R,e,hQ=>wp_exit (hQ (.exit id) st a w g U R (.refl _ _ _) e)
 | .ret,an,ρ,r,st,k,Q,a,w,g,U,hd,R,e,hQ=>wp_ret (hQ .ret st a w g U R (.refl _ _ _) e)
 | .region id ops draw,an,ρ,r,st,k,Q,a,w,g,U,hd,R,e,hQ=>by
  have hdst:∀ o∈ops.toList,∀ x,o.dst=some x→x<N:=fun o ho x hx=>by
   have:=List.all_eq_true.1 (show ops.toList.all (fun o=>match o.dst with | some d=>Nat.blt d N | none=>true)=true from hd) o ho
   rw [hx] at this
   simpa [Nat.blt_eq] using this
  have plain:evRegion c ops draw st (k .normal)=some r→(Code.region id ops draw).wp P Q a w:=fun e=>
   HR id ops draw st a w g U (k .normal) Q hdst hG R e (fun st' a' w' g' U' R' E' e'=>hQ .normal st' a' w' g' U' R' E' e')
  cases an with
  | leaf=>exact plain e
  | two _ _=>exact plain e
  | one _=>exact plain e
  | loop _ _=>exact plain e
  | peel _ _ _=>exact plain e
  | unroll _ _=>exact plain e
  | cut la an'=>
   cases hA:la.apart st with
   | false=>
    have e:(match la.apart st with | true=>_ | false=>none)=some r:=e
    rw [hA] at e
    exact absurd e (by simp)
   | true=>
    have e:(match la.apart st with | true=>_ | false=>none)=some r:=e
    rw [hA] at e
    have A:=apart_ok hA
    let kk:St→Option (Sum ρ la.LT):=fun st'=>match la.kept st st',la.read st st' with | true,some y=>some (.inr y) | _,_=>none
    have e:cut (evRegion c ops draw st kk) (fun y=>k .normal (la.mk' st y))=some r:=e
    have fin:∀ s:Sum ρ la.LT,evRegion c ops draw st kk=some s→(∀ y,s = .inr y→k .normal (la.mk' st y)=some r)→(s = .inl r∨∃ y,s = .inr y)→(Code.region id ops draw).wp P Q a w:=by
     intro s es hs _
     refine HR id ops draw st a w g U kk Q hdst hG R es (fun st' a' w' g' U' R' E' e'=>?_)
     have e':(match la.kept st st',la.read st st' with | true,some y=>some (.inr y) | _,_=>none)=some s:=e'
     split at e'
     ·rename_i y hk hr
      obtain ⟨g'',U'',R'',E''⟩:=mk_rel R A R' (kept_same E' hk) rfl hr
      exact hQ .normal _ a' w' g'' U'' R'' E'' (hs y (Option.some.inj e').symm)
     ·simp at e'
    rcases cut_cases e with h | ⟨y,h,hy⟩
    ·exact fin _ h (fun y hy=>absurd hy (by simp)) (.inl rfl)
    ·exact fin _ h (fun y' hy'=>by obtain rfl:=Sum.inr.inj hy'; exact hy) (.inr ⟨y,rfl⟩)
 | .seq x y,an,ρ,r,st,k,Q,a,w,g,U,hd,R,e,hQ=>by
  have hd:(dstsB N x&&dstsB N y)=true:=hd
  rw [Bool.and_eq_true] at hd
  refine wp_seq (plainEx_sound HR hG x an.fst ρ r st _ _ a w g U hd.1 R e (fun ex st' a' w' g' U' R' E' e'=>?_))
  cases ex with
  | normal=>exact plainEx_sound HR hG y an.snd ρ r st' k Q a' w' g' U' hd.2 R' e' (fun ex st'' a'' w'' g'' U'' R'' E'' e''=>hQ ex st'' a'' w'' g'' U'' R'' (E'.trans E'') e'')
  | ret=>exact hQ .ret st' a' w' g' U' R' E' e'
  | exit j=>exact hQ (.exit j) st' a' w' g' U' R' E' e'
 | .scope x,an,ρ,r,st,k,Q,a,w,g,U,hd,R,e,hQ=>by
  refine wp_scope_straight (plainEx_sound HR hG x an.fst ρ r st _ _ a w g U hd R e (fun ex st' a' w' g' U' R' E' e'=>?_))
  cases ex with
  | normal=>exact hQ .normal st' a' w' g' U' R' E' e'
  | ret=>exact hQ .ret st' a' w' g' U' R' E' e'
  | exit j=>exact hQ (.exit j) st' a' w' g' U' R' E' e'
 | .cond x p q,an,ρ,r,st,k,Q,a,w,g,U,hd,R,e,hQ=>by
  have hd:(dstsB N p&&dstsB N q)=true:=hd
  rw [Bool.and_eq_true] at hd
  have plain:(match st.ev x with | .bool t=>br t (plainEx c n p an.fst ρ st k) (plainEx c n q an.snd ρ st k) | _=>none)=some r→(Code.cond x p q).wp P Q a w:=by
   intro e
   split at e
   ·rename_i t ht
    refine wp_cond (bool_ev R ht) ?_
    cases t with
    | true=>exact plainEx_sound HR hG p an.fst ρ r st k Q a w g U hd.1 R e hQ
    | false=>exact plainEx_sound HR hG q an.snd ρ r st k Q a w g U hd.2 R e hQ
   ·simp at e
  cases an with
  | leaf=>exact plain e
  | two _ _=>exact plain e
  | one _=>exact plain e
  | loop _ _=>exact plain e
  | peel _ _ _=>exact plain e
  | unroll _ _=>exact plain e
  | cut la an'=>
   cases hx:st.ev x with
   | bool t=>
    cases hA:la.apart st with
    | false=>
     have e:(match st.ev x,la.apart st with | .bool t,true=>_ | _,_=>none)=some r:=e
     rw [hx,hA] at e
     exact absurd e (by simp)
    | true=>
     have e:(match st.ev x,la.apart st with | .bool t,true=>_ | _,_=>none)=some r:=e
     rw [hx,hA] at e
     have A:=apart_ok hA
     let kk:Ex→St→Option (Sum ρ la.LT):=fun e st'=>match e with
      | .normal=>(match la.kept st st',la.read st st' with | true,some y=>some (.inr y) | _,_=>none)
      | e=>(match k e st' with | some r=>some (.inl r) | none=>none)
     have e:cut (br t (plainEx c n p an'.fst (Sum ρ la.LT) st kk) (plainEx c n q an'.snd (Sum ρ la.LT) st kk)) (fun y=>k .normal (la.mk' st y))=some r:=e
     have go:∀ s:Sum ρ la.LT,(s = .inl r∨∃ y,s = .inr y∧k .normal (la.mk' st y)=some r)→Aft w0 F N g U st kk s Q:=by
      intro s hs ex st' a' w' g' U' R' E' e'
      cases ex with
      | normal=>
       have e':(match la.kept st st',la.read st st' with | true,some y=>some (.inr y) | _,_=>none)=some s:=e'
       split at e'
       ·rename_i y hk hr
        obtain rfl:=Option.some.inj e'
        rcases hs with hs | ⟨y',hs,hy⟩
        ·exact absurd hs (by simp)
        ·obtain rfl:=Sum.inr.inj hs
         obtain ⟨g'',U'',R'',E''⟩:=mk_rel R A R' (kept_same E' hk) rfl hr
         exact hQ .normal _ a' w' g'' U'' R'' E'' hy
       ·simp at e'
      | ret=>
       have e':(match k .ret st' with | some r=>some (.inl r) | none=>none)=some s:=e'
       split at e'
       ·rename_i r' hr
        obtain rfl:=Option.some.inj e'
        rcases hs with hs | ⟨y',hs,hy⟩
        ·obtain rfl:=Sum.inl.inj hs
         exact hQ .ret st' a' w' g' U' R' E' hr
        ·exact absurd hs (by simp)
       ·simp at e'
      | exit j=>
       have e':(match k (.exit j) st' with | some r=>some (.inl r) | none=>none)=some s:=e'
       split at e'
       ·rename_i r' hr
        obtain rfl:=Option.some.inj e'
        rcases hs with hs | ⟨y',hs,hy⟩
        ·obtain rfl:=Sum.inl.inj hs
         exact hQ (.exit j) st' a' w' g' U' R' E' hr
        ·exact absurd hs (by simp)
       ·simp at e'
     have go2:∀ s:Sum ρ la.LT,br t (plainEx c n p an'.fst (Sum ρ la.LT) st kk) (plainEx c n q an'.snd (Sum ρ la.LT) st kk)=some s→(s = .inl r∨∃ y,s = .inr y∧k .normal (la.mk' st y)=some r)→
       (Code.cond x p q).wp P Q a w:=by
      intro s es hs
      refine wp_cond (bool_ev R hx) ?_
      cases t with
      | true=>exact plainEx_sound HR hG p an'.fst _ s st kk Q a w g U hd.1 R es (go s hs)
      | false=>exact plainEx_sound HR hG q an'.snd _ s st kk Q a w g U hd.2 R es (go s hs)
     rcases cut_cases e with h | ⟨y,h,hy⟩
     ·exact go2 _ h (.inl rfl)
     ·exact go2 _ h (.inr ⟨y,rfl,hy⟩)
   | _=>
    have e:(match st.ev x,la.apart st with | .bool t,true=>_ | _,_=>none)=some r:=e
    rw [hx] at e
    exact absurd e (by simp)
 | .block id b,an,ρ,r,st,k,Q,a,w,g,U,hd,R,e,hQ=>by
  have plain:plainEx c n b an.fst ρ st (fun e st=>match e with | .exit j=>(match Nat.beq j id with | true=>k .normal st | false=>k (.exit j) st) | e=>k e st)=some r→(Code.block id b).wp P Q a w:=by
   intro e
   refine wp_block (plainEx_sound HR hG b an.fst ρ r st _ _ a w g U hd R e (fun ex st' a' w' g' U' R' E' e'=>?_))
   cases ex with
   | normal=>exact hQ .normal st' a' w' g' U' R' E' e'
   | ret=>exact hQ .ret st' a' w' g' U' R' E' e'
   | exit j=>
    have e':(match Nat.beq j id with | true=>k .normal st' | false=>k (.exit j) st')=some r:=e'
    show (if j=id then Q .normal a' w' else Q (.exit j) a' w')
    split at e'
    ·rename_i hj
     rw [if_pos (Nat.eq_of_beq_eq_true hj)]
     exact hQ .normal st' a' w' g' U' R' E' e'
    ·rename_i hj
     rw [if_neg (fun h=>by subst h; simp at hj)]
     exact hQ (.exit j) st' a' w' g' U' R' E' e'
  cases an with
  | leaf=>exact plain e
  | two _ _=>exact plain e
  | one _=>exact plain e
  | loop _ _=>exact plain e
  | peel _ _ _=>exact plain e
  | unroll _ _=>exact plain e
  | cut la an'=>
   cases hA:la.apart st with
   | false=>
    have e:(match la.apart st with | true=>_ | false=>none)=some r:=e
    rw [hA] at e
    exact absurd e (by simp)
   | true=>
    have e:(match la.apart st with | true=>_ | false=>none)=some r:=e
    rw [hA] at e
    have A:=apart_ok hA
    let kk:Ex→St→Option (Sum ρ la.LT):=fun e st'=>
     match (match e with | .normal=>true | .exit j=>Nat.beq j id | .ret=>false) with
     | true=>(match la.kept st st',la.read st st' with | true,some y=>some (.inr y) | _,_=>none)
     | false=>(match k e st' with | some r=>some (.inl r) | none=>none)
    have e:cut (plainEx c n b an' (Sum ρ la.LT) st kk) (fun y=>k .normal (la.mk' st y))=some r:=e
    have go:∀ s:Sum ρ la.LT,(s = .inl r∨∃ y,s = .inr y∧k .normal (la.mk' st y)=some r)→Aft w0 F N g U st kk s (Exit.inBlock id Q):=by
     intro s hs ex st' a' w' g' U' R' E' e'
     have norm:(match la.kept st st',la.read st st' with | true,some y=>some (.inr y) | _,_=>none)=some s→Q .normal a' w':=by
      intro e'
      split at e'
      ·rename_i y hk hr
       obtain rfl:=Option.some.inj e'
       rcases hs with hs | ⟨y',hs,hy⟩
       ·exact absurd hs (by simp)
       ·obtain rfl:=Sum.inr.inj hs
        obtain ⟨g'',U'',R'',E''⟩:=mk_rel R A R' (kept_same E' hk) rfl hr
        exact hQ .normal _ a' w' g'' U'' R'' E'' hy
      ·simp at e'
     have oth:∀ ex,(match k ex st' with | some r=>some (.inl r) | none=>none)=some s→Q ex.to a' w':=by
      intro ex e'
      split at e'
      ·rename_i r' hr
       obtain rfl:=Option.some.inj e'
       rcases hs with hs | ⟨y',hs,hy⟩
       ·obtain rfl:=Sum.inl.inj hs
        exact hQ ex st' a' w' g' U' R' E' hr
       ·exact absurd hs (by simp)
      ·simp at e'
     cases ex with
     | normal=>exact norm e'
     | ret=>exact oth .ret e'
     | exit j=>
      show (if j=id then Q .normal a' w' else Q (.exit j) a' w')
      cases hj:Nat.beq j id with
      | true=>
       rw [if_pos (Nat.eq_of_beq_eq_true hj)]
       have e':(match Nat.beq j id with | true=>(match la.kept st st',la.read st st' with | true,some y=>some (.inr y) | _,_=>none) | false=>(match k (.exit j) st' with | some r=>some (.inl r) | none=>none))=some s:=e'
       rw [hj] at e'
       exact norm e'
      | false=>
       rw [if_neg (fun h=>by subst h; simp at hj)]
       have e':(match Nat.beq j id with | true=>(match la.kept st st',la.read st st' with | true,some y=>some (.inr y) | _,_=>none) | false=>(match k (.exit j) st' with | some r=>some (.inl r) | none=>none))=some s:=e'
       rw [hj] at e'
       exact oth (.exit j) e'
    rcases cut_cases e with h | ⟨y,h,hy⟩
    ·exact wp_block (plainEx_sound HR hG b an' _ _ st kk _ a w g U hd R h (go _ (.inl rfl)))
    ·exact wp_block (plainEx_sound HR hG b an' _ _ st kk _ a w g U hd R h (go _ (.inr ⟨y,rfl,hy⟩)))
 | .loop b,an,ρ,r,st,k,Q,a,w,g,U,hd,R,e,hQ=>by
  have loopR:∀ (la:LA) (an':Ann) (st:St) (a:Act) (w:World) (g:Gh) (U:Nat→Prop),Rel w0 F N g U st a w→
    (match la.apart st,la.read st st with
     | true,some x=>iter n (fun ih x=>plainEx c n b an' ρ (la.mk' st x) fun e st'=>match e with
      | .normal=>(match la.kept (la.mk' st x) st',la.read (la.mk' st x) st' with | true,some y=>ih y | _,_=>none)
      | e=>k e st') x
     | _,_=>none)=some r→
    Aft w0 F N g U st k r Q→Code.rounds P b Q n a w:=by
   intro la an' st a w g U R e hQ
   cases hA:la.apart st with
   | false=>
    have e:(match la.apart st,la.read st st with | true,some x=>_ | _,_=>none)=some r:=e
    rw [hA] at e
    exact absurd e (by simp)
   | true=>cases hx:la.read st st with
    | none=>
     have e:(match la.apart st,la.read st st with | true,some x=>_ | _,_=>none)=some r:=e
     rw [hA,hx] at e
     exact absurd e (by simp)
    | some x=>
     have e:(match la.apart st,la.read st st with | true,some x=>_ | _,_=>none)=some r:=e
     rw [hA,hx] at e
     have A:=apart_ok hA
     let step:(la.LT→Option ρ)→la.LT→Option ρ:=fun ih x=>plainEx c n b an' ρ (la.mk' st x) fun e st'=>match e with
      | .normal=>(match la.kept (la.mk' st x) st',la.read (la.mk' st x) st' with | true,some y=>ih y | _,_=>none)
      | e=>k e st'
     have e:iter n step x=some r:=e
     have key:∀ (m:Nat) (x:la.LT) (a1:Act) (w1:World) (g1:Gh) (U1:Nat→Prop),Rel w0 F N g1 U1 (la.mk' st x) a1 w1→Ext g U st g1 U1 (la.mk' st x)→iter m step x=some r→Code.rounds P b Q m a1 w1:=by
      intro m
      induction m with
      | zero=>intro x a1 w1 g1 U1 R1 E1 e; exact absurd (show none=some r from e) (by simp)
      | succ m ih=>
       intro x a1 w1 g1 U1 R1 E1 e
       have e:step (iter m step) x=some r:=e
       rw [rounds_succ]
       refine plainEx_sound HR hG b an' ρ r (la.mk' st x) _ _ a1 w1 g1 U1 hd R1 e (fun ex st' a' w' g' U' R' E' e'=>?_)
       cases ex with
       | ret=>exact hQ .ret st' a' w' g' U' R' (E1.trans E') e'
       | exit j=>exact hQ (.exit j) st' a' w' g' U' R' (E1.trans E') e'
       | normal=>
        have e':(match la.kept (la.mk' st x) st',la.read (la.mk' st x) st' with | true,some y=>iter m step y | _,_=>none)=some r:=e'
        split at e'
        ·rename_i y hk hr
         have K:KeptS la g U st g' st':=.of E1 E' (fun i hi=>.inr (mk_env_keep A x hi)) (fun id hid=>by
          obtain ⟨l,e1,e2⟩:=E1.obj
          have hl:l=la.objs.map (fun p=>cidOf st.nxt p.1):=by
           have:la.objs.map (fun p=>cidOf st.nxt p.1)++st.ht=l++st.ht:=e1
           exact (List.append_cancel_right this).symm
          refine e2 id (fun hm=>?_)
          rw [hl] at hm
          obtain ⟨p,hp,he⟩:=List.mem_map.1 hm
          exact A.new p hp (he▸hid)) (mk_held A x) hk
         obtain ⟨g'',U'',R'',E''⟩:=mk_rel R A R' K (mk_held A x) hr
         exact ih y a' w' g'' U'' R'' E'' e'
        ·simp at e'
     obtain ⟨g'',U'',R'',E''⟩:=mk_rel R A R (KeptS.refl la g U st) rfl hx
     exact key n x a w g'' U'' R'' E'' e
  cases an with
  | leaf=>exact absurd (show none=some r from e) (by simp)
  | two _ _=>exact absurd (show none=some r from e) (by simp)
  | one _=>exact absurd (show none=some r from e) (by simp)
  | cut _ _=>exact absurd (show none=some r from e) (by simp)
  | unroll m an'=>
   let step:(St→Option ρ)→St→Option ρ:=fun ih st=>plainEx c n b an' ρ st fun e st'=>match e with
    | .normal=>ih st'
    | e=>k e st'
   have e:iter m step st=some r:=e
   have key:∀ (m:Nat) (st1:St) (a1:Act) (w1:World) (g1:Gh) (U1:Nat→Prop),Rel w0 F N g1 U1 st1 a1 w1→Ext g U st g1 U1 st1→iter m step st1=some r→Code.rounds P b Q m a1 w1:=by
    intro m
    induction m with
    | zero=>intro st1 a1 w1 g1 U1 R1 E1 e; exact absurd (show none=some r from e) (by simp)
    | succ m ih=>
     intro st1 a1 w1 g1 U1 R1 E1 e
     have e:step (iter m step) st1=some r:=e
     rw [rounds_succ]
     refine plainEx_sound HR hG b an' ρ r st1 _ _ a1 w1 g1 U1 hd R1 e (fun ex st' a' w' g' U' R' E' e'=>?_)
     cases ex with
     | ret=>exact hQ .ret st' a' w' g' U' R' (E1.trans E') e'
     | exit j=>exact hQ (.exit j) st' a' w' g' U' R' (E1.trans E') e'
     | normal=>exact ih st' a' w' g' U' R' (E1.trans E') e'
   exact wp_loop_rounds m (key m st a w g U R (.refl _ _ _) e)
  | loop la an'=>exact wp_loop_rounds n (loopR la an' st a w g U R e hQ)
  | peel p la an'=>
   refine wp_loop_rounds (n+1) ?_
   rw [rounds_succ]
   refine plainEx_sound HR hG b p ρ r st _ _ a w g U hd R e (fun ex st' a' w' g' U' R' E' e'=>?_)
   cases ex with
   | ret=>exact hQ .ret st' a' w' g' U' R' E' e'
   | exit j=>exact hQ (.exit j) st' a' w' g' U' R' E' e'
   | normal=>exact loopR la an' st' a' w' g' U' R' e' (fun ex st2 a2 w2 g2 U2 R2 E2 e2=>hQ ex st2 a2 w2 g2 U2 R2 (E'.trans E2) e2)
 | .label _,an,ρ,r,st,k,Q,a,w,g,U,hd,R,e,hQ=>absurd (show none=some r from e) (by simp)
 | .goto _,an,ρ,r,st,k,Q,a,w,g,U,hd,R,e,hQ=>absurd (show none=some r from e) (by simp)
end
end Go.Am
namespace Go.Am
open Go
section
variable {g:Gh} {L:Lab} {w:World} {U:Nat→Prop} {sr:St}
theorem list_sh (hO:Objs g w U sr) (hL:∀ b o,g.lab b o=none→L b o=none) (hD:∀ id,sr.obj id≠none→∀ b o p,g.lab b o=some (id,p)→L b o=none)
  {x:AVal} {vx:Value} (hx:VRel g w U x vx) {u:Ty} {xs:List u.T} (e:sr.list x=some ⟨u,xs⟩):shV u.size (Sh L w u) xs vx:=by
 have row:∀ {own:Bool} {id hv vr:Nat} {p:Path} {ys:List u.T} {b o:Nat},sr.obj id≠none→RowR g w own id hv vr u noSk p ys→(g.hd id hv p).addr=some (b,o)→
   ∀ k (hk:k<ys.length),Sh L w u ys[k] b (o+k*u.size):=by
  intro own id hv vr p ys b o hob R ha k hk
  obtain ⟨r1,r2,r3,r4⟩:=R
  obtain ⟨r5,r6⟩:=r4 b o ha
  refine OwT_sh hL (hD id hob) u p k 0 _ b _ (fun d hd=>?_) (r6 k hk)
  have hle:(k+1)*u.size≤(g.hd id hv p).cap*u.size:=Nat.mul_le_mul_right _ (by omega)
  rw [Nat.add_mul] at hle
  obtain ⟨a1,-,-⟩:=r5 (k*u.size+d) (by omega)
  exact ⟨_,by rw [Nat.add_assoc]; exact a1⟩
 unfold St.list at e
 split at e
 ·simp only [Option.some.injEq] at e
  obtain ⟨rfl,e⟩:=Sigma.mk.inj e
  obtain rfl:=eq_of_heq e
  exact shV_mono (Sh_step (fun b o hl v hv=>⟨hv,hL b o hl⟩) _) hx
 ·simp only [Option.some.injEq] at e
  obtain ⟨rfl,e⟩:=Sigma.mk.inj e
  obtain rfl:=eq_of_heq e
  exact shV_mono (Sh_step (fun b o hl v hv=>⟨hv,hL b o hl⟩) _) hx.1
 ·rename_i id ver p tt
  obtain ⟨h1,h2,h3,h4,h5,rfl⟩:=hx
  obtain ⟨own,t,vr,xs0,hob,-,R,-⟩:=rowAt_sound hO h5 h4 e
  have hR:=R
  obtain ⟨r1,r2,r3,r4⟩:=hR
  refine ⟨_,_,_,rfl,r1,r2,fun hn=>r3 (by simpa using hn),fun hne=>?_⟩
  have hlen:0<xs.length:=List.length_pos_iff.2 hne
  cases ha:(g.hd id ver p).addr with
  | none=>have:=r3 ha; omega
  | some q=>
   obtain ⟨b,o⟩:=q
   exact ⟨b,o,by simp,row (by rw [hob]; simp) R ha⟩
 ·rename_i id ver p tt off len
  split at e
  ·rename_i u' ys hr
   split at e
   ·rename_i hb
    obtain rfl:=Ty.eq_of_beq hb
    simp only [Option.some.injEq] at e
    obtain ⟨rfl,e⟩:=Sigma.mk.inj e
    obtain rfl:=eq_of_heq e
    obtain ⟨h1,h2,h3,h4,h5,a,cp,rfl,h6,h7,h8,h9,h99⟩:=hx
    obtain ⟨own,t,vr,xs0,hob,-,R,-⟩:=rowAt_sound hO h5 h4 hr
    have hR:=R
    obtain ⟨r1,r2,r3,r4⟩:=hR
    have hlen:((ys.drop off).take len).length=len:=by simp; omega
    refine ⟨a,len,cp,rfl,hlen.symm,h7,fun hn=>?_,fun hne=>?_⟩
    ·rcases Nat.eq_zero_or_pos cp with h | h
     ·exact h
     ·obtain ⟨b,o,-,h10⟩:=h9 h
      rw [h10] at hn; simp at hn
    ·have hpos:0<((ys.drop off).take len).length:=List.length_pos_iff.2 hne
     obtain ⟨b,o,ha,rfl⟩:=h9 (by omega)
     refine ⟨b,o+off*tt.size,rfl,fun k hk=>?_⟩
     have:=row (by rw [hob]; simp) R ha (off+k) (by omega)
     simp only [List.getElem_take,List.getElem_drop]
     rw [Nat.add_assoc,← Nat.add_mul]
     exact this
   ·simp at e
  ·simp at e
 ·simp at e
theorem peek_sound (hO:Objs g w U sr) (hL:∀ b o,g.lab b o=none→L b o=none) (hD:∀ id,sr.obj id≠none→∀ b o p,g.lab b o=some (id,p)→L b o=none):∀ d:Nat,
  (∀ (t:Ty) (cs:List AVal) (x:t.T) (rest:List AVal) (f:Nat→Option Value) (q:Path) (i j:Nat),Vals g w U cs f→peek sr d t cs=some (x,rest)→
   t.size≤cs.length∧rest=cs.drop t.size∧OwS g L w false none1 t q i j x f)∧
  (∀ (t:Ty) (n:Nat) (cs:List AVal) (xs:List t.T) (f:Nat→Option Value) (q:Path) (i:Nat),Vals g w U cs f→peekN sr d t n cs=some xs→
   n*t.size≤cs.length∧xs.length=n∧∀ k (h:k<xs.length),OwS g L w false none1 t q (i+k) 0 xs[k] (fun d=>f (k*t.size+d))):=by
 intro d
 induction d with
 | zero=>
  refine ⟨?_,?_⟩
  ·intro t cs x rest f q i j hv e; cases t<;>simp [peek] at e
  ·intro t n cs xs f q i hv e; simp [peekN] at e
 | succ d ih=>
  obtain ⟨ih1,ih2⟩:=ih
  refine ⟨?_,?_⟩
  ·intro t cs x rest f q i j hv e
   cases t with
   | pair a b=>
    simp only [peek] at e
    split at e
    ·rename_i y rr1 e1
     split at e
     ·rename_i z rr2 e2
      simp only [Option.some.injEq,Prod.mk.injEq] at e
      obtain ⟨rfl,rfl⟩:=e
      obtain ⟨h1,rfl,h2⟩:=ih1 a cs y _ f q i j hv e1
      obtain ⟨h3,rfl,h4⟩:=ih1 b _ z _ _ q i (j+a.size) (hv.drop a.size) e2
      simp only [List.length_drop] at h3
      refine ⟨by simp [Ty.size]; omega,by simp [Ty.size,List.drop_drop],h2,h4⟩
     ·simp at e
    ·simp at e
   | int k=>
    cases cs with
    | nil=>simp [peek] at e
    | cons c cs=>
     obtain ⟨v,h1,h2⟩:=hv.head
     cases c<;>simp only [peek] at e<;>try (exact absurd (show none=some _ from e) (by simp))
     split at e
     ·rename_i hk
      obtain rfl:=ikB_eq hk
      simp only [Option.some.injEq,Prod.mk.injEq] at e
      obtain ⟨rfl,rfl⟩:=e
      obtain rfl:=h2
      exact ⟨by simp [Ty.size],by simp [Ty.size],h1⟩
     ·simp at e
   | bool=>
    cases cs with
    | nil=>simp [peek] at e
    | cons c cs=>
     obtain ⟨v,h1,h2⟩:=hv.head
     cases c<;>simp only [peek] at e<;>try (exact absurd (show none=some _ from e) (by simp))
     simp only [Option.some.injEq,Prod.mk.injEq] at e
     obtain ⟨rfl,rfl⟩:=e
     obtain rfl:=h2
     exact ⟨by simp [Ty.size],by simp [Ty.size],h1⟩
   | str=>
    cases cs with
    | nil=>simp [peek] at e
    | cons c cs=>
     obtain ⟨v,h1,h2⟩:=hv.head
     cases c<;>simp only [peek] at e<;>try (exact absurd (show none=some _ from e) (by simp))
     simp only [Option.some.injEq,Prod.mk.injEq] at e
     obtain ⟨rfl,rfl⟩:=e
     obtain rfl:=h2
     exact ⟨by simp [Ty.size],by simp [Ty.size],h1⟩
   | err=>
    cases cs with
    | nil=>simp [peek] at e
    | cons c cs=>
     obtain ⟨v,h1,h2⟩:=hv.head
     cases c<;>simp only [peek] at e<;>try (exact absurd (show none=some _ from e) (by simp))
     simp only [Option.some.injEq,Prod.mk.injEq] at e
     obtain ⟨rfl,rfl⟩:=e
     exact ⟨by simp [Ty.size],by simp [Ty.size],v,h1,h2⟩
   | sl t=>
    cases cs with
    | nil=>simp [peek] at e
    | cons c cs=>
     obtain ⟨v,h1,h2⟩:=hv.head
     have lst:(match sr.list c with | some ⟨u,xs⟩=>(match Ty.cast (.sl u) (.sl t) xs with | some ys=>some (ys,cs) | none=>none) | none=>none)=some (x,rest)→
       (Ty.sl t).size≤(c::cs).length∧rest=(c::cs).drop (Ty.sl t).size∧OwS g L w false none1 (.sl t) q i j x f:=by
      intro e
      split at e
      ·rename_i u xs hl
       split at e
       ·rename_i ys hz
        simp only [Option.some.injEq,Prod.mk.injEq] at e
        obtain ⟨rfl,rfl⟩:=e
        obtain ⟨rfl,hz⟩:=cast_sl hz
        obtain rfl:=eq_of_heq hz
        exact ⟨by simp [Ty.size],by simp [Ty.size],v,h1,list_sh hO hL hD h2 hl⟩
       ·simp at e
      ·simp at e
     cases c with
     | nil=>
      simp only [peek,Option.some.injEq,Prod.mk.injEq] at e
      obtain ⟨rfl,rfl⟩:=e
      obtain rfl:=h2
      exact ⟨by simp [Ty.size],by simp [Ty.size],_,h1,none,0,0,rfl,rfl,Nat.le_refl _,fun _=>rfl,fun h=>absurd rfl h⟩
     | csl id off len sz=>
      simp only [peek] at e
      split at e
      ·rename_i ro cs' ho
       split at e
       ·rename_i hq
        simp only [Bool.and_eq_true,Nat.beq_eq] at hq
        obtain ⟨hq1,hq2⟩:=hq
        subst hq1
        have hq2:=Nat.le_of_ble_eq_true hq2
        split at e
        ·rename_i xs hN
         simp only [Option.some.injEq,Prod.mk.injEq] at e
         have e1:xs=x:=congrArg Prod.fst e
         have e2:cs=rest:=congrArg Prod.snd e
         subst e1
         subst e2
         obtain ⟨b',o',hhd,hlab,hvals⟩:=obj_cells hO ho
         obtain ⟨-,-,a,c,rfl,hlc,hcs,b,o,hb',ha⟩:=h2
         rw [hhd] at hb' hcs
         simp only [Option.some.injEq,Prod.mk.injEq] at hb' hcs
         obtain ⟨rfl,rfl⟩:=hb'
         obtain ⟨-,n1,n2⟩:=ih2 t len _ xs _ [] 0 (hvals.drop (off*t.size)) hN
         refine ⟨by simp [Ty.size],by simp [Ty.size],_,h1,a,len,c,rfl,n1.symm,hlc,fun hn=>?_,fun hne=>?_⟩
         ·rcases Nat.eq_zero_or_pos c with h | h
          ·exact h
          ·rw [ha (.inl h)] at hn; simp at hn
         ·have hpos:0<xs.length:=List.length_pos_iff.2 hne
          refine ⟨b',o'+off*t.size,ha (.inl (by omega)),fun k hk=>?_⟩
          refine OwS_sh (g:=g) (σ:=none1) t [] k 0 _ b' _ (fun d hd=>?_) ?_
          ·have hlt:off*t.size+(k*t.size+d)<cs'.length:=by
            have:(k+1)*t.size≤len*t.size:=Nat.mul_le_mul_right _ (by omega)
            rw [Nat.add_mul] at this hq2
            omega
           have:=hlab _ hlt
           rw [show o'+off*t.size+k*t.size+d=o'+(off*t.size+(k*t.size+d)) by omega]
           exact hD id (by rw [ho]; simp) _ _ _ this.1
          ·have:=n2 k hk
           rw [Nat.zero_add] at this
           exact OwS_cells t [] k 0 _ _ _ (fun d hd=>by rw [show o'+off*t.size+k*t.size+d=o'+(off*t.size+(k*t.size+d)) by omega]) this
        ·simp at e
       ·simp at e
      ·simp at e
     | _=>exact lst e
   | osl t=>
    cases cs with
    | nil=>simp [peek] at e
    | cons c cs=>
     obtain ⟨v,h1,h2⟩:=hv.head
     cases c<;>simp only [peek] at e<;>try (exact absurd (show none=some _ from e) (by simp))
     ·simp only [Option.some.injEq,Prod.mk.injEq] at e
      obtain ⟨rfl,rfl⟩:=e
      obtain rfl:=h2
      exact ⟨by simp [Ty.size],by simp [Ty.size],_,h1,⟨none,0,0,rfl,rfl,Nat.le_refl _,fun _=>rfl,fun h=>absurd rfl h⟩,fun _=>⟨0,0,rfl⟩,fun _=>rfl⟩
     ·split at e
      ·rename_i o hz
       simp only [Option.some.injEq,Prod.mk.injEq] at e
       obtain ⟨rfl,rfl⟩:=e
       obtain ⟨he,hz⟩:=cast_eq hz
       injection he with he
       subst he
       obtain rfl:=eq_of_heq hz
       exact ⟨by simp [Ty.size],by simp [Ty.size],_,h1,shV_mono (Sh_step (fun b o hl v hv=>⟨hv,hL b o hl⟩) _) h2.1,h2.2⟩
      ·simp at e
  ·intro t n cs xs f q i hv e
   cases n with
   | zero=>
    simp only [peekN,Option.some.injEq] at e
    subst e
    exact ⟨by simp,rfl,fun k hk=>by simp at hk⟩
   | succ n=>
    simp only [peekN] at e
    split at e
    ·rename_i x r1 e1
     split at e
     ·rename_i ys e2
      simp only [Option.some.injEq] at e
      subst e
      obtain ⟨b1,rfl,b2⟩:=ih1 t cs x r1 f q i 0 hv e1
      obtain ⟨c1,c2,c3⟩:=ih2 t n _ ys _ q (i+1) (hv.drop t.size) e2
      simp only [List.length_drop] at c1
      refine ⟨by rw [Nat.add_mul]; omega,by simp [c2],fun k hk=>?_⟩
      cases k with
      | zero=>simpa using b2
      | succ k=>
       have:=c3 k (by simpa using hk)
       refine OwS_cells t q _ 0 _ _ _ (fun m hm=>?_) (by
        have e3:i+1+k=i+(k+1):=by omega
        rw [e3] at this; exact this)
       congr 1; rw [Nat.add_mul]; omega
     ·simp at e
    ·simp at e
end
end Go.Am
namespace Go.Am
open Go
section
variable {P:Program} {c:Cfg} {g:Gh} {L:Lab} {w:World} {U:Nat→Prop} {st:St} {a:Act}
def resF (tmps:Array Value):ResultVar→Sem Value
 | .tmp t=>pure (tmps.getD t undef)
 | .cell a t=>do loadVar t (← asAddr (tmps.getD a undef))
theorem resVs_ok (hc:TysOK P c) (hO:Objs g w U st) (hE:∀ t v,look st.env t=some v→VRel g w U v (a.eval (.tmp t))):∀ (l:List ResultVar) (vs:List AVal),resVs st (fun t=>((c.ti t).agg,(c.ti t).size)) l=some vs→
  ∃ vals,(l.mapM (resF a.tmps)).run P w = .ok vals w∧VRels g w U vs vals
 | [],vs,e=>by
  simp only [resVs,Option.some.injEq] at e
  subst e
  exact ⟨[],by simp,rfl⟩
 | .tmp t::l,vs,e=>by
  simp only [resVs] at e
  split at e
  ·rename_i vs' hv
   simp only [Option.some.injEq] at e
   subst e
   obtain ⟨vals,h1,h2⟩:=resVs_ok hc hO hE l vs' hv
   refine ⟨a.tmps.getD t undef::vals,?_,_,_,rfl,ev_rel hE (.tmp t),h2⟩
   simp [List.mapM_cons,resF,h1]
  ·simp at e
 | .cell t ty::l,vs,e=>by
  simp only [resVs] at e
  split at e
  ·rename_i cs j vs' hc1 hv
   split at e
   ·rename_i v hp
    simp only [Option.some.injEq] at e
    subst e
    split at hp
    ·rename_i hs
     obtain ⟨vals,h1,h2⟩:=resVs_ok hc hO hE l vs' hv
     have hx:=ev_rel hE (.tmp t)
     obtain ⟨v',h3,h4⟩:=load_sound hc hO hx (by simpa [Nat.blt_eq] using hs) hc1 hp
     refine ⟨v'::vals,?_,_,_,rfl,h4,h2⟩
     obtain ⟨b,o,hb,-⟩:=cellsAt_sound hO hx hc1
     have hb':a.tmps.getD t undef = .pointer (some (ad b (o+j))):=hb
     rw [hb] at h3
     have h5:(loadVar ty (ad b (o+j))).run P w = .ok v' w:=by
      simpa [Instr.loadAt,Instr.sureAddr] using h3
     simp [List.mapM_cons,resF,hb',asAddr,h5,h1]
    ·simp at hp
   ·simp at e
  ·simp at e
def ValF (t:Ty) (v:Value) (f:Nat→Option Value):Prop:=match t with
 | .pair _ _=>∃ l:List Value,v = .agg l.toArray∧l.length=t.size∧f=fun k=>l[k]?
 | _=>f 0=some v
theorem ValF_of (t:Ty) {v:AVal} {vx:Value} (h:VRel g w U v vx):∃ f,Vals g w U (fcells t v) f∧((fcells t v).length=t.size→ValF t vx f):=by
 have one:∀ x:AVal,VRel g w U x vx→Vals g w U [x] (fun k=>if k=0 then some vx else none):=by
  intro x hx k hk
  have:k=0:=by simpa using hk
  subst this
  exact ⟨vx,by simp,hx⟩
 cases t with
 | pair a b=>
  have hsz:2≤(Ty.pair a b).size:=by
   have:=a.size_pos; have:=b.size_pos; simp [Ty.size]; omega
  cases v with
  | agg cs=>
   obtain ⟨l,rfl,hr⟩:=h
   have hll:=VRels_len hr
   refine ⟨fun k=>l[k]?,fun k hk=>VRels_get hr k hk,fun hl=>⟨l,rfl,?_,rfl⟩⟩
   rw [hll]; exact hl
  | _=>exact ⟨_,one _ h,fun hl=>by simp only [fcells,AVal.cells,List.length_singleton] at hl; omega⟩
 | _=>exact ⟨fun k=>if k=0 then some vx else none,one v h,fun _=>by simp [ValF]⟩
theorem VRel_shut {t:Ty} {vx:Value} {f:Nat→Option Value} {cs:List AVal} (hf:ValF t vx f) (hl:cs.length=t.size) (h:Vals g w U cs f):VRel g w U (shut t cs) vx:=by
 cases t with
 | pair a b=>
  obtain ⟨l,rfl,hll,rfl⟩:=hf
  refine ⟨l,rfl,VRels_of (by rw [hll,hl]) (fun k h1 h2=>?_)⟩
  obtain ⟨v,h3,h4⟩:=h k h1
  obtain ⟨h5,h6⟩:=List.getElem?_eq_some_iff.1 h3
  rw [h6]
  exact h4
 | _=>
  obtain ⟨v,rfl⟩:∃ v,cs=[v]:=by
   simp only [Ty.size] at hl
   exact List.length_eq_one_iff.1 hl
  obtain ⟨x,h1,h2⟩:=h 0 (by simp)
  have:x=vx:=Option.some.inj (h1.symm.trans hf)
  subst this
  exact h2
def RK.own:RK→Bool | .sh _=>false | _=>true
def ush (st:St):List RK→List AVal→List Nat
 | r::rs,v::vs=>(match r.own with | true=>[] | false=>match finR st r v with | some (_,u)=>u | none=>[])++ush st rs vs
 | _,_=>[]
def FinAll (g:Gh) (L:Lab) (w:World) (σs:Nat→Src):Nat→(rs:List RK)→(vals:List Value)→(os:List Ty)→OTs (RK.tys rs++os)→OTs os→Prop
 | _,[],vals,_,z,zo=>vals=[]∧z=zo
 | k,r::rs,vals,os,z,zo=>∃ v vals',vals=v::vals'∧(∃ f,ValF r.ty v f∧OwS g L w r.own (σs k) r.ty [] 0 0 z.1 f)∧FinAll g L w σs (k+1) rs vals' os z.2 zo
theorem FinAll_congr {σs τs:Nat→Src} : ∀ (rs:List RK) (k:Nat) (vals:List Value) (os:List Ty) (z:OTs (RK.tys rs++os)) (zo:OTs os),(∀ m,k≤m→τs m=σs m)→FinAll g L w σs k rs vals os z zo→FinAll g L w τs k rs vals os z zo
 | [],k,vals,os,z,zo,h,hf=>hf
 | r::rs,k,vals,os,z,zo,h,hf=>by
  obtain ⟨v,vals',e,h1,h2⟩:=hf
  exact ⟨v,vals',e,by rw [h k (Nat.le_refl _)]; exact h1,FinAll_congr rs (k+1) vals' os z.2 zo (fun m hm=>h m (by omega)) h2⟩
theorem finR_ok (hO:Objs g w U st) (hL:∀ b o,g.lab b o=none→L b o=none) {r:RK} (hr:r.easy=true) {v:AVal} {vx:Value} (hv:VRel g w U v vx) {x:r.ty.T} {u:List Nat} (e:finR st r v=some (x,u))
  (hdrop:r.own=false→∀ id∈u,∀ b o p,g.lab b o=some (id,p)→L b o=none) :
  (∀ id∈u,st.obj id≠none)∧∃ σ,Tk u σ∧(∃ f,ValF r.ty vx f∧OwS g L w r.own σ r.ty [] 0 0 x f)∧(r.own=false→σ=none1):=by
 have main:∀ (own:Bool) (t:Ty) (x:t.T),(match take st own 50 t (fcells t v) with | some (x,[],u)=>some (x,u) | _=>none)=some (x,u)→
   (own=false→∀ id∈u,∀ b o p,g.lab b o=some (id,p)→L b o=none)→
   (∀ id∈u,st.obj id≠none)∧∃ σ,Tk u σ∧(∃ f,ValF t vx f∧OwS g L w own σ t [] 0 0 x f):=by
  intro own t x e hdrop
  split at e
  ·rename_i x' u' ht
   simp only [Option.some.injEq,Prod.mk.injEq] at e
   obtain ⟨rfl,rfl⟩:=e
   obtain ⟨f,h2,h1⟩:=ValF_of t hv
   obtain ⟨h3,h4,h5,σ,T⟩:=(take_sound (L:=L) hO hL own 50).1 t (fcells t v) x' [] u' f [] 0 0 h2 ht hdrop
   refine ⟨h3,σ,T.tk,f,h1 ?_,T.ow⟩
   have:=congrArg List.length h5
   simp at this; omega
  ·simp at e
 cases r with
 | val t=>
  obtain ⟨h1,σ,h2,h3⟩:=main true t x (by cases t<;>exact e) (fun h=>by simp at h)
  exact ⟨h1,σ,h2,h3,fun h=>by simp [RK.own] at h⟩
 | sh t=>
  obtain ⟨h1,σ,h2,f,h3,h4⟩:=main false t x (by cases t<;>exact e) (fun _=>hdrop rfl)
  exact ⟨h1,none1,.none,⟨f,h3,OwS_none t _ _ _ _ _ h4⟩,fun _=>rfl⟩
 | ptr t ms=>simp [RK.easy] at hr
 where OwS_none {g:Gh} {L:Lab} {w:World} {σ τ:Src} : ∀ (t:Ty) (q:Path) (i j:Nat) (x:t.T) (f:Nat→Option Value),OwS g L w false σ t q i j x f→OwS g L w false τ t q i j x f
 | .int _,_,_,_,_,_,h=>h
 | .bool,_,_,_,_,_,h=>h
 | .str,_,_,_,_,_,h=>h
 | .err,_,_,_,_,_,h=>h
 | .osl _,_,_,_,_,_,h=>h
 | .sl _,_,_,_,_,_,h=>h
 | .pair s t,q,i,j,x,f,h=>⟨OwS_none s q i j x.1 f h.1,OwS_none t q i (j+s.size) x.2 _ h.2⟩
theorem finRs_ok (hO:Objs g w U st) (hL:∀ b o,g.lab b o=none→L b o=none):∀ (rs:List RK) (k:Nat) (vs:List AVal) (vals:List Value) (os:List Ty) (yo:Option (OTs os×List Nat)) (z:OTs (RK.tys rs++os)) (uu:List Nat),
  rs.all RK.easy=true→VRels g w U vs vals→finRs st rs vs os yo=some (z,uu)→(∀ id∈ush st rs vs,∀ b o p,g.lab b o=some (id,p)→L b o=none)→
  ∃ zo uo uR σs,yo=some (zo,uo)∧uu=uR++uo∧FinAll g L w σs k rs vals os z zo∧(∀ m,m<k∨k+rs.length≤m→σs m=none1)∧(∀ m s id p h,σs m s=some (id,p,h)→id∈uR)∧
   (∀ id∈ush st rs vs,id∈uR)∧(∀ id∈uR,st.obj id≠none)∧
   (uR.Nodup→(∀ m s m' s' id p h h',σs m s=some (id,p,h)→σs m' s'=some (id,p,h')→m=m'∧s=s')∧∀ m s id p h,σs m s=some (id,p,h)→id∉ush st rs vs)
 | [],k,vs,vals,os,yo,z,uu,he,hv,e,hdrop=>by
  cases vs with
  | cons v vs=>exact absurd (show none=some _ from e) (by simp)
  | nil=>
   replace e:yo=some (z,uu):=e
   refine ⟨z,uu,[],fun _=>none1,e,rfl,⟨hv,rfl⟩,fun _ _=>rfl,fun m s id p h hs=>by simp [none1] at hs,fun id h=>by simp [ush] at h,fun id h=>by simp at h,
    fun _=>⟨fun m s m' s' id p h h' hs=>by simp [none1] at hs,fun m s id p h hs=>by simp [none1] at hs⟩⟩
 | r::rs,k,vs,vals,os,yo,z,uu,he,hv,e,hdrop=>by
  cases vs with
  | nil=>exact absurd (show none=some _ from e) (by simp)
  | cons v vs=>
   simp only [List.all_cons,Bool.and_eq_true] at he
   obtain ⟨vx,vals',rfl,hv1,hv2⟩:=hv
   replace e:(match finR st r v,finRs st rs vs os yo with | some (x,u),some (z,w)=>some ((x,z),u++w) | _,_=>none)=some (z,uu):=e
   split at e
   ·rename_i x u z' uu' e1 e2
    simp only [Option.some.injEq,Prod.mk.injEq] at e
    obtain ⟨rfl,rfl⟩:=e
    have hd1:r.own=false→∀ id∈u,∀ b o p,g.lab b o=some (id,p)→L b o=none:=by
     intro ho id hid
     refine hdrop id ?_
     simp only [ush,ho,e1,List.mem_append]
     exact .inl hid
    obtain ⟨h1,σ,h2,h3,h4⟩:=finR_ok hO hL he.1 hv1 e1 hd1
    obtain ⟨zo,uo,uR,σs,k1,rfl,k3,k4,k5,k6,k7,k8⟩:=finRs_ok hO hL rs (k+1) vs vals' os yo z' uu' he.2 hv2 e2 (fun id hid=>hdrop id (by simp only [ush,List.mem_append]; exact .inr hid))
    have hk:σs k=none1:=k4 k (.inl (by omega))
    refine ⟨zo,uo,u++uR,fun m=>if m=k then σ else σs m,k1,by rw [List.append_assoc],⟨vx,vals',rfl,by simpa using h3,FinAll_congr rs (k+1) _ _ _ _ (fun m hm=>if_neg (by omega)) k3⟩,fun m hm=>?_,fun m s id p h hs=>?_,fun id hid=>?_,fun id hid=>?_,fun hn=>?_⟩
    ·have hmk:m≠k:=by simp only [List.length_cons] at hm; omega
     simp only [hmk,if_false]
     exact k4 m (by simp only [List.length_cons] at hm; omega)
    ·simp only at hs
     split at hs
     ·exact List.mem_append_left _ (h2.ids _ _ _ _ hs)
     ·exact List.mem_append_right _ (k5 _ _ _ _ _ hs)
    ·simp only [ush,List.mem_append] at hid
     rcases hid with hid | hid
     ·cases ho:r.own with
      | true=>rw [ho] at hid; simp at hid
      | false=>
       rw [ho,e1] at hid
       exact List.mem_append_left _ hid
     ·exact List.mem_append_right _ (k6 id hid)
    ·rcases List.mem_append.1 hid with hid | hid
     ·exact h1 id hid
     ·exact k7 id hid
    ·obtain ⟨n1,n2,n3⟩:=List.nodup_append.1 hn
     obtain ⟨j1,j2⟩:=k8 n2
     refine ⟨fun m s m' s' id p h h' hs hs'=>?_,fun m s id p h hs hid=>?_⟩
     ·simp only at hs hs'
      split at hs<;>split at hs'
      ·rename_i a1 a2
       exact ⟨by rw [a1,a2],h2.inj n1 _ _ _ _ _ _ hs hs'⟩
      ·exact absurd rfl (n3 _ (h2.ids _ _ _ _ hs) _ (k5 _ _ _ _ _ hs'))
      ·exact absurd rfl (n3 _ (h2.ids _ _ _ _ hs') _ (k5 _ _ _ _ _ hs))
      ·exact j1 _ _ _ _ _ _ _ _ hs hs'
     ·simp only [ush,List.mem_append] at hid
      simp only at hs
      split at hs
      ·rcases hid with hid | hid
       ·cases ho:r.own with
        | true=>rw [ho] at hid; simp at hid
        | false=>rw [h4 ho] at hs; simp [none1] at hs
       ·exact absurd rfl (n3 _ (h2.ids _ _ _ _ hs) _ (k6 id hid))
      ·rcases hid with hid | hid
       ·cases ho:r.own with
        | true=>rw [ho] at hid; simp at hid
        | false=>
         rw [ho,e1] at hid
         exact absurd rfl (n3 _ hid _ (k5 _ _ _ _ _ hs))
       ·exact j2 _ _ _ _ _ hs hid
   ·simp at e
end
end Go.Am
namespace Go.Am
open Go
section
variable {g g':Gh} {L:Lab} {w:World} {U U':Nat→Prop} {st:St}
theorem OwS_shift {own:Bool} {σ:Src} {a:Nat×Nat} : ∀ (t:Ty) (q:Path) (i j:Nat) (x:t.T) (f:Nat→Option Value),OwS g L w own σ t (a::q) i j x f→OwS g L w own (fun s=>σ (a::s)) t q i j x f
 | .int _,_,_,_,_,_,h=>h
 | .bool,_,_,_,_,_,h=>h
 | .str,_,_,_,_,_,h=>h
 | .err,_,_,_,_,_,h=>h
 | .osl _,_,_,_,_,_,h=>h
 | .pair s t,q,i,j,x,f,h=>⟨OwS_shift s q i j x.1 f h.1,OwS_shift t q i (j+s.size) x.2 _ h.2⟩
 | .sl t,q,i,j,xs,f,h=>by
  cases own with
  | false=>exact h
  | true=>
   rcases h with ⟨id,p,hh,h1,h2,h3⟩ | ⟨h1,h2,h3⟩
   ·refine .inl ⟨id,p,hh,h1,h2,?_⟩
    obtain ⟨r1,r2,r3,r4⟩:=h3
    refine ⟨r1,r2,r3,fun b o hb=>?_⟩
    obtain ⟨r5,r6⟩:=r4 b o hb
    exact ⟨r5,fun k hk=>OwS_shift t _ k 0 _ _ (r6 k hk)⟩
   ·exact .inr ⟨h1,h2,h3⟩
theorem Vals.app {as bs:List AVal} {f:Nat→Option Value} (h:Vals g w U as f) (h':Vals g w U bs (fun k=>f (as.length+k))):Vals g w U (as++bs) f:=by
 intro k hk
 by_cases hlt:k<as.length
 ·rw [List.getElem_append_left hlt]; exact h k hlt
 ·have hk2:k-as.length<bs.length:=by simp at hk; omega
  rw [List.getElem_append_right (by omega)]
  have:∃ v,f (as.length+(k-as.length))=some v∧VRel g w U bs[k-as.length] v:=h' (k-as.length) hk2
  rw [show as.length+(k-as.length)=k by omega] at this
  exact this
theorem flat_rd (hL : ∀ b o, L b o = none → g'.lab b o = none) {σ : Src} : ∀ (t : Ty) (q : Path) (i j' j : Nat) (x : t.T) (f : Nat → Option Value), OwS g L w false σ t q i j' x f → Vals g' w U' (flat shH t x j) f
  | .int _, q, i, j', j, x, f, h => fun k hk => by have : k = 0 := by simpa [flat] using hk
                                                   subst this; exact ⟨_, h, rfl⟩
  | .bool, q, i, j', j, x, f, h => fun k hk => by have : k = 0 := by simpa [flat] using hk
                                                  subst this; exact ⟨_, h, rfl⟩
  | .str, q, i, j', j, x, f, h => fun k hk => by have : k = 0 := by simpa [flat] using hk
                                                 subst this; exact ⟨_, h, rfl⟩
  | .err, q, i, j', j, x, f, h => fun k hk => by have : k = 0 := by simpa [flat] using hk
                                                 subst this; obtain ⟨v, h1, h2⟩ := h; exact ⟨_, h1, h2⟩
  | .osl t, q, i, j', j, x, f, h => fun k hk => by
    have : k = 0 := by simpa [flat] using hk
    subst this
    obtain ⟨v, h1, h2, h3⟩ := h
    exact ⟨v, h1, shV_mono (Sh_step (fun b o hl v hv => ⟨hv, hL b o hl⟩) t) h2, h3⟩
  | .sl t, q, i, j', j, x, f, h => fun k hk => by
    have : k = 0 := by simpa [flat] using hk
    subst this
    obtain ⟨v, h1, h2⟩ := h
    exact ⟨v, h1, shV_mono (Sh_step (fun b o hl v hv => ⟨hv, hL b o hl⟩) t) h2⟩
  | .pair s t, q, i, j', j, x, f, h => by
    refine Vals.app (flat_rd hL s q i j' j x.1 f h.1) ?_
    rw [flat_len]
    exact flat_rd hL t q i (j' + s.size) (j + s.size) x.2 _ h.2
theorem flat_new {base site : Nat} {σ : Src} (hL : ∀ b o, L b o = none → g'.lab b o = none) (h0 : U' 0) (hs : U' site)
    (hhd : ∀ j ver s, j < 32 → g'.hd (base + j) ver s = match σ ((0, j) :: s) with | some (_, _, h) => h | none => nilHd) (hU : ∀ j, j < 32 → U' ((base + j) / 1024))
    (hlab : ∀ j s id p h b o, j < 32 → σ ((0, j) :: s) = some (id, p, h) → g.lab b o = some (id, p) → g'.lab b o = some (base + j, s)) :
    ∀ (t : Ty) (j : Nat) (x : t.T) (f : Nat → Option Value), j + t.size ≤ 32 → OwS g L w true σ t [] 0 j x f →
      Vals g' w U' (flat (newH base) t x j) f ∧ ∀ id o, look (flatObjs base site t x j) id = some (some o) → (∃ k, j ≤ k ∧ k < j + t.size ∧ id = base + k) ∧ ORel g' w U' id o
  | .int _, j, x, f, hj, h => ⟨fun k hk => by have : k = 0 := by simpa [flat] using hk
                                              subst this; exact ⟨_, h, rfl⟩, fun id o h => by simp [flatObjs, look] at h⟩
  | .bool, j, x, f, hj, h => ⟨fun k hk => by have : k = 0 := by simpa [flat] using hk
                                             subst this; exact ⟨_, h, rfl⟩, fun id o h => by simp [flatObjs, look] at h⟩
  | .str, j, x, f, hj, h => ⟨fun k hk => by have : k = 0 := by simpa [flat] using hk
                                            subst this; exact ⟨_, h, rfl⟩, fun id o h => by simp [flatObjs, look] at h⟩
  | .err, j, x, f, hj, h => ⟨fun k hk => by have : k = 0 := by simpa [flat] using hk
                                            subst this; obtain ⟨v, h1, h2⟩ := h; exact ⟨_, h1, h2⟩, fun id o h => by simp [flatObjs, look] at h⟩
  | .osl t, j, x, f, hj, h => ⟨fun k hk => by
    have : k = 0 := by simpa [flat] using hk
    subst this
    obtain ⟨v, h1, h2, h3⟩ := h
    exact ⟨v, h1, shV_mono (Sh_step (fun b o hl v hv => ⟨hv, hL b o hl⟩) t) h2, h3⟩, fun id o h => by simp [flatObjs, look] at h⟩
  | .pair s t, j, x, f, hj, h => by
    simp only [Ty.size] at hj
    have := s.size_pos
    have := t.size_pos
    obtain ⟨a1, a2⟩ := flat_new hL h0 hs hhd hU hlab s j x.1 f (by omega) h.1
    obtain ⟨b1, b2⟩ := flat_new hL h0 hs hhd hU hlab t (j + s.size) x.2 _ (by omega) h.2
    refine ⟨Vals.app a1 (by rw [flat_len]; exact b1), fun id o hl => ?_⟩
    replace hl : look (flatObjs base site s x.1 j ++ flatObjs base site t x.2 (j + s.size)) id = some (some o) := hl
    rw [look_app] at hl
    cases hq : look (flatObjs base site s x.1 j) id with
    | some y =>
      rw [hq] at hl
      simp only [Option.some.injEq] at hl
      subst hl
      obtain ⟨⟨k, k1, k2, k3⟩, k4⟩ := a2 id o hq
      exact ⟨⟨k, k1, by simp only [Ty.size]; omega, k3⟩, k4⟩
    | none =>
      rw [hq] at hl
      obtain ⟨⟨k, k1, k2, k3⟩, k4⟩ := b2 id o hl
      exact ⟨⟨k, by omega, by simp only [Ty.size]; omega, k3⟩, k4⟩
  | .sl u, j, xs, f, hj, h => by
    simp only [Ty.size] at hj
    have hj' : j < 32 := by omega
    refine ⟨fun k hk => ?_, fun id o hl => ?_⟩
    · have : k = 0 := by simpa [flat] using hk
      subst this
      show ∃ v, f 0 = some v ∧ VRel g' w U' (.own (base + j) 0 [] u) v
      rcases h with ⟨id, p, hh, h1, h2, h3⟩ | ⟨h1, h2, h3⟩
      · exact ⟨_, h2, hU j hj', h0, h0, trivial, fun _ => rfl, by rw [hhd j 0 [] hj', show σ [(0, j)] = _ from h1]⟩
      · exact ⟨_, h2, hU j hj', h0, h0, trivial, fun _ => rfl, by rw [hhd j 0 [] hj', show σ [(0, j)] = _ from h1]; rfl⟩
    · replace hl : look [(base + j, some (AObj.row true u site xs))] id = some (some o) := hl
      rw [look_cons] at hl
      split at hl
      · rename_i he
        subst he
        simp only [Option.some.injEq] at hl
        subst hl
        refine ⟨⟨j, Nat.le_refl _, by simp [Ty.size], rfl⟩, h0, hs, ?_⟩
        unfold RowR
        rw [hhd j 0 [] hj']
        rcases h with ⟨id, p, hh, h1, h2, h3⟩ | ⟨h1, h2, h3⟩
        · have h1 : σ [(0, j)] = some (id, p, hh) := h1
          rw [h1]
          obtain ⟨r1, r2, r3, r4⟩ := h3
          refine ⟨r1, r2, r3, fun b o hb => ?_⟩
          obtain ⟨r5, r6⟩ := r4 b o hb
          have R : Ren g L w g' w (fun s => σ ((0, j) :: s)) (base + j) site := by
            refine ⟨fun q id p h hq => ?_, fun q hq hn => ?_, fun q id p h b o hq hl => ⟨hlab j q id p h b o hj' hq hl, rfl, rfl⟩, fun b o hl v hv => ⟨hv, hL b o hl⟩⟩
            · rw [hhd j site q hj']
              rw [show σ ((0, j) :: q) = _ from hq]
            · rw [hhd j site q hj']
              rw [show σ ((0, j) :: q) = _ from hn]
          refine ⟨fun k hk => ?_, fun k hk => ?_⟩
          · obtain ⟨c1, c2, c3⟩ := r5 k hk
            exact ⟨hlab j [] id p hh b _ hj' h1 c1, c2, c3⟩
          · exact OwS_own R u [] k 0 _ _ b _ (fun d hd => rfl) (OwS_shift u [] k 0 _ _ (r6 k hk))
        · have h1 : σ [(0, j)] = none := h1
          rw [h1]
          subst h3
          exact ⟨rfl, Nat.le_refl _, fun _ => rfl, fun b o hb => by simp [nilHd] at hb⟩
      · simp [look] at hl
end
def U20:Nat→Prop:=fun s=>s<20
structure EntryOK (g:Gh) (w:World) (ps:List PK) (x:PTs ps) (args:List Value):Prop where
 vals:VRels g w U20 ((entry 0 ps x).1.map (·.2)) args
 objs:∀ id o,look (entry 0 ps x).2 id=some (some o)→ORel g w U20 id o
 labs:∀ b o q,g.lab b o=some q→b<w.heap.size
def IoOK (g:Gh) (w:World) (base:Nat):(t:Ty)→Nat→{os:List Ty}→OTs (t.slsA os)→(OTs os→Prop)→Prop
 | .pair a b,j,os,y,K=>IoOK g w base a j (os:=b.slsA os) y (fun y=>IoOK g w base b (j+a.size) (os:=os) y K)
 | .sl u,j,_,y,K=>(∃ V,RowR g w true (base+j) 0 V u noSk [] y.1)∧K y.2
 | .int _,_,_,y,K=>K y
 | .bool,_,_,y,K=>K y
 | .str,_,_,y,K=>K y
 | .err,_,_,y,K=>K y
 | .osl _,_,_,y,K=>K y
def OutOK (g:Gh) (w:World):Nat→(ps:List PK)→OTs (PK.outs ps)→Prop
 | _,[],_=>True
 | i,.io t::ps,y=>IoOK g w (i*1024) t 0 y (fun y=>OutOK g w (i+1) ps y)
 | _,.pio _ _::_,_=>False
 | i,.val _::ps,y=>OutOK g w (i+1) ps y
 | i,.psh _::ps,y=>OutOK g w (i+1) ps y
 | i,.fnc _ _::ps,y=>OutOK g w (i+1) ps y
structure ExitOK (g:Gh) (w:World) (site:Nat) (m:Mng) (y:OTs (RK.tys m.rs++PK.outs m.ps)) (v:Value) (g':Gh) (w':World):Prop where
 val:VRel g' w' (U' U20 site) (match (resVals site 0 m.rs (PK.outs m.ps) y).1 with | [v]=>v | vs=>.tup vs) v
 objs:∀ id o,look (resVals site 0 m.rs (PK.outs m.ps) y).2.1 id=some (some o)→id / 1024=site∧ORel g' w' (U' U20 site) id o
 outs:OutOK g' w' 0 m.ps (resVals site 0 m.rs (PK.outs m.ps) y).2.2
 par:∀ n,n / 1024<19→g'.hd n 0 []=g.hd n 0 []
 shr:∀ b o,g.lab b o=none→∀ v,w.cell? (ad b o)=some v→w'.cell? (ad b o)=some v∧g'.lab b o=none
 frn:∀ b o id p,g.lab b o=some (id,p)→id / 1024=19→g'.lab b o=some (id,p)
 labs:∀ b o q,g'.lab b o=some q→b<w'.heap.size
 old:∀ b o q,b<w.heap.size→g'.lab b o=some q→g.lab b o≠none
 fr:Fr (Mine g) w w'
def Sound (P:Program) (f:FuncId) (m:Mng):Prop:=
 ∀ (x:PTs m.ps) (y:OTs (RK.tys m.rs++PK.outs m.ps)),m.m x=some y→mOk m.ps m.rs=true→∀ (site:Nat),20≤site→∀ (g:Gh) (w:World) (args:List Value),EntryOK g w m.ps x args→Gl P g.lab w→
  Calls P f args.toArray w fun e w'=>∃ v g',e = .returned v∧ExitOK g w site m y v g' w'
end Go.Am
