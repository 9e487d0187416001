/- The abstract machine is right: operations, states made anew, code, results. No condition. -/
import Derived.Test.YtfoamipegmbcgaaGreatDoorAmB
import Derived.LoopN
import Derived.Scope
set_option linter.unusedVariables false
set_option linter.unusedSimpArgs false
namespace Go.Am
open Go
section
variable {P:Program} {c:aP} {g:Gh} {L:bt} {w w':World} {U:Nat→Prop} {sr:St} {a:Act} {site:Nat} {o:Oper} {ρ:Type} {r:ρ} {k:bR→Option ρ} {σ:Src}
theorem kB.ok (S:cB P c g w U sr a) {x:af} {s:Sem Value} (h:Ok P g w U x s) (he:execOp a.eval o=(do pure (.value (← s)):Sem Next)):kB P g w U site o a ⟨x,[]⟩:=by
 obtain ⟨v,h1,h2⟩:=h
 exact .val S (by rw [he]; simp [h1]) h2
theorem kB.post {e:bR} {s:Sem Value} {v:Value} {w':World} {g':Gh} {U':Nat→Prop} (h:s.run P w = .ok v w') (hp:cR g w U site e v w' g' U') (he:execOp a.eval o=(do pure (.value (← s)):Sem Next)):kB P g w U site o a e:=
 .of (by rw [he]; simp [h]) hp
theorem Ru (hc:eu P c) {s d:Nat} {k1 k2 kl:IntKind} {n:Int} {v:Value} (h1:(c.ti s).kind = .int k1) (h2:(c.ti d).kind = .int k2) (hx:ay g w U (.int kl n) v) :
  Ok P g w U (.int k2 (kT k2 n)) (convert s d v):=by
 obtain rfl:=hx
 refine ⟨_,?_,by rw [← Ah]; rfl⟩
 simp [convert,run_underlying (CL hc h1),run_underlying (CL hc h2),Conv.intToInt]
theorem Rv (hc:eu P c) {s d:Nat} {x:List UInt8} {v:Value} (h1:(c.ti s).kind = .str) (h2:(c.ti d).kind = .str) (hx:ay g w U (.str x) v) :
  Ok P g w U (.str x) (convert s d v):=by
 obtain rfl:=hx
 refine ⟨_,?_,rfl⟩
 simp [convert,run_underlying (yi hc h1),run_underlying (yi hc h2)]
theorem Rw {ty:Nat} {kk:IntKind} {x y:Int} {ts:Array TypeId} : Ok P g w U (.int kk (max x y)) (Builtin.max_ ts ty #[.int kk x,.int kk y]):=by
 refine ⟨_,?_,rfl⟩
 simp [Builtin.max_,Builtin.max2]
 rw [Int.max_def]; split<;>split<;>omega
theorem Rx {ty:Nat} {kk:IntKind} {x y:Int} {ts:Array TypeId} : Ok P g w U (.int kk (min x y)) (Builtin.min_ ts ty #[.int kk x,.int kk y]):=by
 refine ⟨_,?_,rfl⟩
 simp [Builtin.min_,Builtin.min2]
 rw [Int.min_def]; split<;>split<;>omega
theorem foldl_push:∀ (ns:List Int) (acc:ByteArray),ns.foldl (fun r n=>r.push (UInt8.ofNat n.toNat)) acc=⟨acc.data++(ns.map fun n=>UInt8.ofNat n.toNat).toArray⟩
 | [],acc=>by apply ByteArray.ext; simp
 | n::ns,acc=>by
  rw [List.foldl_cons,foldl_push ns]
  apply ByteArray.ext
  apply Array.ext'
  simp [ByteArray.push]
theorem Ry (S:cB P c g w U sr a) {s d:Nat} {x:af} {xs:List Int} {u:List Nat} {v:Value} (h1:(c.ti s).kind = .slice) (h2:(c.ti d).kind = .str) (h3:(c.ti (c.ti s).elem).kind = .int .u8) (hx:ay g w U x v)
  (e:sr.tail true (.int .u8) x=some (xs,u)):Ok P g w U (.str (xs.map fun n=>UInt8.ofNat n.toNat)) (convert s d v):=by
 obtain ⟨-,σ,⟨xa,xc,rfl,yB⟩,-,-⟩:=yw (L:=g.lab) (t:=.int .u8) S.aE (fun _ _ h=>h) hx 0 (fun hf=>by simp at hf) e
 refine ⟨_,?_,rfl⟩
 rw [run_convert_bytes_string w s d (c.ti s).elem _ _ _ (o8 S.aV h1) (CL S.aV h3) (yi S.aV h2)]
 cases xa with
 | none=>
  have hl:xs.length=0:=by
   rcases Nat.eq_zero_or_pos xs.length with h | h
   ·exact h
   ·obtain ⟨_,_,h,-⟩:=yB h; simp at h
  have:xs=[]:=List.eq_nil_of_length_eq_zero hl
  subst this
  simp [Conv.bytesToString]
  rfl
 | some q=>
  have CK:(loadCells q xs.length).run P w = .ok (xs.map (Value.int .u8)).toArray w:=by
   have:=run_loadCells_list (P:=P) w q (xs.map (Value.int .u8)) (fun j v hj=>?_)
   ·simpa using this
   ·simp only [List.getElem?_map] at hj
    obtain ⟨n,h4,rfl⟩:=Option.map_eq_some_iff.1 hj
    obtain ⟨h5,rfl⟩:=List.getElem?_eq_some_iff.1 h4
    obtain ⟨b,o,h6,h7⟩:=yB (Nat.lt_of_le_of_lt (Nat.zero_le _) h5)
    simp only [Option.some.injEq] at h6
    subst h6
    have h8:w.cell? (ad b (o+j*1+0))=some (.int .u8 xs[j]):=h7 j h5
    rw [Addr.add_lit]
    simpa using h8
  refine Eq.trans (run_bytesToString w q xs.length xc xs CK) ?_
  rw [foldl_push]
  simp
end
end Go.Am
namespace Go.Am
open Go
section
variable {P:Program} {c:aP} {g:Gh} {L:bt} {w w':World} {U:Nat→Prop} {sr:St} {a:Act} {site:Nat} {o:Oper} {ρ:Type} {r:ρ} {k:bR→Option ρ} {σ:Src}
theorem Rz {x:af} {v:Value} (h:ay g w U x v):ay g w U x.I6 v:=by
 cases x<;>first | exact h | exact h.1
def Da:Op→Bool
 | .call ⟨.value _,_,_⟩=>true
 | _=>false
theorem RA (S:cB P c g w U sr a) (hs:¬ U site) (qt:Da o.op=false) (e:dk c sr site o.op k=some r):∃ aT,k aT=some r∧kB P g w U site o a aT:=by
 cases aw:o.op with
 | move x=>rw [aw] at e; exact ⟨_,e,.val S (by simp [execOp,aw]) (S.ev x)⟩
 | assign x=>rw [aw] at e; exact ⟨_,e,.val S (by simp [execOp,aw]) (S.ev x)⟩
 | pick q x y=>
  rw [aw] at e
  simp only [dk] at e
  split at e
  ·rename_i t hq
   have m_:=S.ev q
   rw [hq] at m_
   cases t with
   | true=>exact ⟨_,e,.val S (v:=a.eval x) (by simp [execOp,aw,show a.eval q = .bool true from m_,asBool]) (S.ev x)⟩
   | false=>exact ⟨_,e,.val S (v:=a.eval y) (by simp [execOp,aw,show a.eval q = .bool false from m_,asBool]) (S.ev y)⟩
  ·simp at e
 | alloc t=>
  rw [aw] at e
  simp only [dk] at e
  split at e
  ·rename_i ht
   obtain ⟨v,w',g',U',h1,h2⟩:=Qk S hs (by simpa [Nat.blt_eq] using ht)
   exact ⟨_,e,.post h1 h2 (by simp [execOp,aw])⟩
  ·simp at e
 | box t x=>
  rw [aw] at e
  simp only [dk] at e
  split at e
  ·rename_i ht
   obtain ⟨v,w',g',U',h1,h2⟩:=Ql (t:=t) S hs (S.ev x) ht
   exact ⟨_,e,.post h1 h2 (by simp [execOp,aw])⟩
  ·simp at e
 | build t parts=>
  rw [aw] at e
  simp only [dk] at e
  split at e
  ·rename_i cs h
   split at h
   ·rename_i hk hf
    exact ⟨_,e,.ok S (Qm S hk hf h) (by simp only [execOp,aw])⟩
   ·simp at h
  ·simp at e
 | buildSlice t len parts=>
  rw [aw] at e
  simp only [dk] at e
  split at e
  ·simp at e
  ·rename_i h
   split at h
   ·rename_i hk hf
    rw [Bool.and_eq_true] at hf
    split at e
    ·rename_i cs iJ
     obtain ⟨v,w',g',U',h1,h2⟩:=Qp S hs hk (by simpa [Nat.blt_eq] using hf.1) (Nat.le_of_ble_eq_true hf.2) iJ
     exact ⟨_,e,.post h1 h2 (by simp only [execOp,aw])⟩
    ·simp at e
   ·simp at h
 | load t x=>
  rw [aw] at e
  simp only [dk] at e
  split at e
  ·rename_i cs j h
   split at h
   ·rename_i ht
    split at e
    ·rename_i z hz
     exact ⟨_,e,.ok S (Jr S.aV S.aE (S.ev x) (by simpa [Nat.blt_eq] using ht) h hz) (by simp only [execOp,aw])⟩
    ·simp at e
   ·simp at h
  ·simp at e
 | store t x y=>
  rw [aw] at e
  simp only [dk] at e
  split at e
  ·simp at e
  ·rename_i ht
   obtain ⟨aT,h1,w',g',U',h2,h3⟩:=Q8 S hs (by simpa [Nat.blt_eq] using ht) (S.ev x) (S.ev y) e
   exact ⟨_,h1,.skip (by simp [execOp,aw,h2]) h3⟩
 | nilCheck x=>
  rw [aw] at e
  simp only [dk] at e
  have hx:=S.ev x
  split at e
  ·rename_i id j hq
   rw [hq] at hx
   refine ⟨_,e,.val S (v:=a.eval x) ?_ hx⟩
   obtain ⟨-,-,b,o',-,hv⟩:=hx
   simp [execOp,aw,hv]
  ·rename_i id ver p t i j hq
   rw [hq] at hx
   refine ⟨_,e,.val S (v:=a.eval x) ?_ hx⟩
   obtain ⟨-,-,-,-,-,-,b,o',-,hv⟩:=hx
   simp [execOp,aw,hv]
  ·rename_i t z j hq
   rw [hq] at hx
   refine ⟨_,e,.val S (v:=a.eval x) ?_ hx⟩
   obtain ⟨b,o',hv,-⟩:=hx
   simp [execOp,aw,hv]
  ·simp at e
 | unOp op t x=>
  rw [aw] at e
  simp only [dk] at e
  have hx:=S.ev x
  split at e
  ·rename_i b hq
   rw [hq] at hx
   exact ⟨_,e,.ok S (x:=.bool (!b)) (s:=Op.unary .not (a.eval x)) ⟨.bool (!b),by rw [show a.eval x=_ from hx]; rfl,rfl⟩ (by simp only [execOp,aw])⟩
  ·rename_i kk n hq
   rw [hq] at hx
   exact ⟨_,e,.ok S (x:=.int kk (kT kk (0-n))) (s:=Op.unary .neg (a.eval x)) ⟨.int kk (kT kk (0-n)),by rw [show a.eval x=_ from hx]; simp [Op.unary,Op.intArith,Ah],rfl⟩ (by simp only [execOp,aw])⟩
  ·simp at e
 | convert s d x=>
  rw [aw] at e
  simp only [dk] at e
  have hx:=S.ev x
  split at e
  ·rename_i k1 k2 kl n h1 h2 hq
   rw [hq] at hx
   exact ⟨_,e,.ok S (Ru S.aV h1 h2 hx) (by simp only [execOp,aw])⟩
  ·rename_i z h1 h2 hq
   rw [hq] at hx
   exact ⟨_,e,.ok S (Rv S.aV h1 h2 hx) (by simp only [execOp,aw])⟩
  ·rename_i y h1 h2
   split at e
   ·rename_i xs u h3 h4
    exact ⟨_,e,.ok S (Ry S h1 h2 h3 hx h4) (by simp only [execOp,aw])⟩
   ·simp at e
  ·simp at e
 | makeFunc f first caps=>
  rw [aw] at e
  cases f with
  | func f=>
   simp only [dk] at e
   split at e
   ·rename_i hf
    have hf:first = #[]:=by simpa using hf
    subst hf
    have hl:∀ l:List Operand,bK g w U (l.map sr.ev) (l.map a.eval):=by
     intro l
     induction l with
     | nil=>rfl
     | cons x l ih=>exact ⟨_,_,rfl,S.ev x,ih⟩
    exact ⟨_,e,.ok S (s:=Instr.makeFunc (.func f) ((#[]:Array Operand).map a.eval) (caps.map a.eval)) ⟨_,rfl,caps.toList.map a.eval,by simp; apply Array.ext'; simp,hl _⟩ (by simp only [execOp,aw])⟩
   ·simp at e
  | _=>simp [dk] at e
 | makeSlice t l cp=>
  rw [aw] at e
  simp only [dk] at e
  have hl:=S.ev l
  have hc:=S.ev cp
  split at e
  ·rename_i kl n kc m nU ix
   rw [nU] at hl
   rw [ix] at hc
   split at e
   ·rename_i gX hk RB iM
    unfold ab at e
    split at e
    ·rename_i hb
     obtain ⟨rfl,h1,h2⟩:=hb
     obtain ⟨v,w',g',U',h3,h4⟩:=Qw (ow:=!(c.j7.any (Nat.beq site))) (kl:=kl) (kc:=kc) S hs hk RB (Nat.le_of_ble_eq_true iM) ⟨h1,h2⟩
     refine ⟨_,e,.post (s:=Instr.makeSlice t (a.eval l) (a.eval cp)) ?_ h4 (by simp only [execOp,aw])⟩
     rw [show a.eval l=_ from hl,show a.eval cp=_ from hc]
     exact h3
    ·simp at e
   ·simp at e
  ·simp at e
 | slice t x lo hi mx=>
  rw [aw] at e
  cases mx with
  | some m=>simp [dk] at e
  | none=>
   simp only [dk] at e
   split at e
   ·rename_i hk
    split at e
    ·simp at e
    ·rename_i aX
     split at e
     ·obtain ⟨aT,h1,v',w',g',U',h2,h3⟩:=Kj S hs hk (by simpa [Nat.blt_eq] using aX) (S.ev x) e
      exact ⟨_,h1,.post h2 h3 (by simp only [execOp,aw,Option.map_none])⟩
     ·split at e
      ·obtain ⟨aT,h1,v',w',g',U',h2,h3⟩:=Kj S hs hk (by simpa [Nat.blt_eq] using aX) (S.ev x) e
       exact ⟨_,h1,.post h2 h3 (by simp only [execOp,aw,Option.map_none])⟩
      ·obtain ⟨z,h1,h2⟩:=Jy S hk (by simpa [Nat.blt_eq] using aX) (S.ev x) e
       exact ⟨_,h1,.ok S h2 (by simp only [execOp,aw,Option.map_none])⟩
   ·rename_i hk
    split at e
    ·rename_i z hq
     have hx:=S.ev x
     rw [hq] at hx
     obtain ⟨z,h1,h2⟩:=PY S hk hx e
     exact ⟨_,h1,.ok S h2 (by simp only [execOp,aw,Option.map_none])⟩
    ·simp at e
   ·simp at e
 | extract x i=>
  rw [aw] at e
  simp only [dk] at e
  have hx:=S.ev x
  split at e
  ·rename_i vs hq
   rw [hq] at hx
   split at e
   ·rename_i z hz
    exact ⟨_,e,.ok S (P2 hx hz) (by simp only [execOp,aw])⟩
   ·simp at e
  ·simp at e
 | index t x i=>
  rw [aw] at e
  simp only [dk] at e
  have hx:=S.ev x
  have hi:=S.ev i
  split at e
  ·rename_i z kk n nU ix hk
   rw [nU] at hx
   rw [ix] at hi
   unfold ab at e
   split at e
   ·rename_i hb
    refine ⟨_,e,.ok S (s:=Instr.index t (a.eval x) (a.eval i)) ?_ (by simp only [execOp,aw])⟩
    rw [show a.eval i=_ from hi]
    exact P_ S.aV hk hx hb
   ·simp at e
  ·simp at e
 | indexAddr t x i=>
  rw [aw] at e
  simp only [dk] at e
  have hi:=S.ev i
  split at e
  ·rename_i kk n ix hk aX
   rw [ix] at hi
   have e:mP (c.ti (c.ti t).elem).size sr (sr.ev x) n (fun v=>k ⟨v,[]⟩)=some r:=by
    cases hf:c.j7.any (Nat.beq (site+2000000)) with
    | true=>simp only [hf] at e; exact Jt e
    | false=>simp only [hf] at e; exact e
   obtain ⟨z,h1,h2⟩:=PU (z:=.undef) (kk:=kk) S hk (by simpa [Nat.blt_eq] using aX) (S.ev x) e
   refine ⟨_,h1,.ok S (s:=Instr.indexAt t (a.eval x) (a.eval i)) ?_ (by simp only [execOp,aw])⟩
   rw [show a.eval i=_ from hi]
   exact h2
  ·simp at e
 | fieldAddr t x f=>
  rw [aw] at e
  simp only [dk] at e
  split at e
  ·rename_i off ft hk hf
   cases hb:Nat.blt 0 (c.ti ft).size with
   | false=>rw [hb] at e; simp at e
   | true=>
    rw [hb] at e
    have aX:0<(c.ti ft).size:=by simpa [Nat.blt_eq] using hb
    cases hm:zU (sr.ev x) off with
    | undef=>rw [hm] at e; simp at e
    | _=>
     rw [hm] at e
     exact ⟨_,e,.ok S (PR S.aV hk hf aX (S.ev x) hm (by simp)) (by simp only [execOp,aw])⟩
  ·simp at e
 | field t x f=>
  rw [aw] at e
  simp only [dk] at e
  have hx:=S.ev x
  split at e
  ·rename_i cs off ft hq hk hf
   rw [hq] at hx
   split at e
   ·rename_i z hz
    split at hz
    ·rename_i aX
     exact ⟨_,e,.ok S (PT S.aV hk hf (by simpa [Nat.blt_eq] using aX) hx hz) (by simp only [execOp,aw])⟩
    ·simp at hz
   ·simp at e
  ·simp at e
 | binOp op t x y q=>
  rw [aw] at e
  simp only [dk] at e
  have hx:=S.ev x
  have hy:=S.ev y
  split at e
  ·rename_i as bs nU ix
   rw [nU] at hx
   rw [ix] at hy
   split at e
   ·rename_i e' h1 h2
    rw [Bool.and_eq_true] at h1
    have h3:=JC (op:=.eql) (X:=x) (Y:=y) S.aV h1.1 (Nat.eq_of_beq_eq_true h1.2) hx hy h2
    exact ⟨_,e,.ok S (x:=.bool e') ⟨_,h3.1,rfl⟩ (by simp only [execOp,aw])⟩
   ·rename_i e' h1 h2
    rw [Bool.and_eq_true] at h1
    have h3:=JC (op:=.eql) (X:=x) (Y:=y) S.aV h1.1 (Nat.eq_of_beq_eq_true h1.2) hx hy h2
    exact ⟨_,e,.ok S (x:=.bool (!e')) ⟨_,h3.2,rfl⟩ (by simp only [execOp,aw])⟩
   ·simp at e
  ·split at e
   ·simp at e
   ·rename_i hk
    have hT:kz P t (c.ti t):=kZ S.aV (.inr (by intro h; rw [h] at hk; simp [I9] at hk))
    obtain ⟨d,h1,h2,-⟩:=hT.desc
    obtain ⟨z,v,h3,h4,h5⟩:=PN (P:=P) (X:=x) (Y:=y) (w:=w) h1 (by
     revert h2
     cases (c.ti t).kind<;>intro h2<;>first | exact h2 | trivial | exact ⟨_,h2⟩) (fun hc=>by
     cases y<;>simp at hc
     exact ⟨_,rfl⟩) hx hy e
    exact ⟨_,h3,.ok S ⟨v,h4,h5⟩ (by simp only [execOp,aw])⟩
 | call cl=>
  rw [aw] at e
  obtain ⟨callee,args,ts⟩:=cl
  cases callee with
  | value f=>rw [aw] at qt; simp [Da] at qt
  | invoke x n=>simp [dk] at e
  | builtin b=>
   cases b<;>try (simp [dk] at e; done)
   case append=>
    simp only [dk] at e
    split at e
    ·rename_i s x t u ha ht
     split at e
     ·rename_i hk Kk hb
      obtain rfl:=Nat.eq_of_beq_eq_true Kk
      rw [Bool.and_eq_true] at hb
      have ha:args = #[s,x]:=by apply Array.ext'; simpa using ha
      have ht:ts = #[t,t]:=by apply Array.ext'; simpa using ht
      subst ha ht
      split at e
      ·obtain ⟨aT,h1,v',w',g',U',h2,h3⟩:=Rm (ty:=o.type) (site:=site) S hk (Nat.le_of_ble_eq_true hb.1) (S.ev s) (S.ev x) e
       refine ⟨_,h1,.of ?_ h3⟩
       simp [execOp,aw,resolve,invoke,builtin,h2]
      ·split at e
       ·obtain ⟨aT,h1,v',w',g',U',h2,h3⟩:=Rq (ty:=o.type) S hs hk (Nat.le_of_ble_eq_true hb.1) (S.ev s) (Rz (S.ev x)) e
        refine ⟨_,h1,.of ?_ h3⟩
        simp [execOp,aw,resolve,invoke,builtin,h2]
       ·obtain ⟨aT,h1,v',w',g',U',h2,h3⟩:=QQ (ty:=o.type) S hs hk (Nat.le_of_ble_eq_true hb.1) (S.ev s) (S.ev x) e
        refine ⟨_,h1,.of ?_ h3⟩
        simp [execOp,aw,resolve,invoke,builtin,h2]
     ·rename_i hk Kk hb
      rw [Bool.and_eq_true] at hb
      have ha:args = #[s,x]:=by apply Array.ext'; simpa using ha
      have ht:ts = #[t,u]:=by apply Array.ext'; simpa using ht
      subst ha ht
      split at e
      ·rename_i kn hu
       unfold zW at e
       split at e
       ·rename_i kk n gX Kl ub Fb
        unfold ab at e
        split at e
        ·rename_i hn
         have h3:=S.ev s
         have h4:=S.ev x
         rw [Kl] at h3
         rw [ub] at h4
         obtain ⟨v',w',g',U',h5,h6⟩:=Ri (ty:=o.type) (kk:=kk) S hs hk hu Fb (Nat.le_of_ble_eq_true hb.1) hn
         refine ⟨_,e,.of ?_ h6⟩
         simp [execOp,aw,resolve,invoke,builtin,show a.eval s=_ from h3,show a.eval x=_ from h4,h5]
        ·simp at e
       ·simp at e
      ·simp at e
     ·simp at e
    ·simp at e
   case len=>
    simp only [dk] at e
    split at e
    ·rename_i x t ha ht
     have ha:args = #[x]:=by apply Array.ext'; simpa using ha
     have ht:ts = #[t]:=by apply Array.ext'; simpa using ht
     subst ha ht
     have hx:=S.ev x
     split at e
     ·rename_i s hk hq
      rw [hq] at hx
      refine ⟨_,e,.val S (v:=.int .i64 (s.length:Int)) ?_ rfl⟩
      have hx:a.eval x = .string ⟨s.toArray⟩:=hx
      simp [execOp,aw,resolve,invoke,builtin,Builtin.len_,run_underlying (yi S.aV hk),hx,goInt]
      rfl
     ·simp at e
     ·rename_i hk av
      split at e
      ·rename_i n hn
       rcases Jv S hx hn with ⟨s,h1,-⟩ | ⟨b,l,cp,h1,rfl,-⟩
       ·exact (av s h1).elim
       ·refine ⟨_,e,.val S (v:=.int .i64 (l:Int)) ?_ rfl⟩
        simp [execOp,aw,resolve,invoke,builtin,Builtin.len_,run_underlying (o8 S.aV hk),h1,goInt]
      ·simp at e
     ·simp at e
    ·simp at e
   case cap=>
    simp only [dk] at e
    split at e
    ·rename_i x t ha ht
     have ha:args = #[x]:=by apply Array.ext'; simpa using ha
     have ht:ts = #[t]:=by apply Array.ext'; simpa using ht
     subst ha ht
     have hx:=S.ev x
     split at e
     ·rename_i hk hq
      rw [hq] at hx
      refine ⟨_,e,.val S (v:=.int .i64 0) ?_ rfl⟩
      have hx:a.eval x = .slice none 0 0:=hx
      simp [execOp,aw,resolve,invoke,builtin,Builtin.cap_,run_underlying (o8 S.aV hk),hx,goInt]
     ·simp at e
    ·simp at e
   case copy=>
    simp only [dk] at e
    split at e
    ·rename_i d x t u ha ht
     split at e
     ·rename_i hk hb
      have ha:args = #[d,x]:=by apply Array.ext'; simpa using ha
      have ht:ts = #[t,u]:=by apply Array.ext'; simpa using ht
      subst ha ht
      obtain ⟨aT,h1,v',w',h2,h3⟩:=Rh (ty:=o.type) S hk (by simpa [Nat.blt_eq] using hb) (ts:=#[t,u]) rfl (S.ev d) (S.ev x) e
      refine ⟨_,h1,.of ?_ h3⟩
      simp [execOp,aw,resolve,invoke,builtin,h2]
     ·simp at e
    ·simp at e
   case max=>
    simp only [dk] at e
    split at e
    ·rename_i kk x kl y hq
     split at e
     ·rename_i jE
      obtain rfl:=lP jE
      have mb:∃ s t,args = #[s,t]∧sr.ev s = .int kk x∧sr.ev t = .int kk y:=by
       obtain ⟨l⟩:=args
       simp only at hq
       rcases l with _ | ⟨s,_ | ⟨t,_ | ⟨u,l⟩⟩⟩<;>simp at hq
       exact ⟨s,t,rfl,hq.1,hq.2⟩
      obtain ⟨s,t,rfl,h1,h2⟩:=mb
      have h3:=S.ev s
      have h4:=S.ev t
      rw [h1] at h3
      rw [h2] at h4
      obtain ⟨v,h5,h6⟩:=Rw (P:=P) (g:=g) (w:=w) (U:=U) (ty:=o.type) (kk:=kk) (x:=x) (y:=y) (ts:=ts)
      refine ⟨_,e,.val S (v:=v) ?_ h6⟩
      simp [execOp,aw,resolve,invoke,builtin,show a.eval s=_ from h3,show a.eval t=_ from h4,h5]
     ·simp at e
    ·simp at e
   case min=>
    simp only [dk] at e
    split at e
    ·rename_i kk x kl y hq
     split at e
     ·rename_i jE
      obtain rfl:=lP jE
      have mb:∃ s t,args = #[s,t]∧sr.ev s = .int kk x∧sr.ev t = .int kk y:=by
       obtain ⟨l⟩:=args
       simp only at hq
       rcases l with _ | ⟨s,_ | ⟨t,_ | ⟨u,l⟩⟩⟩<;>simp at hq
       exact ⟨s,t,rfl,hq.1,hq.2⟩
      obtain ⟨s,t,rfl,h1,h2⟩:=mb
      have h3:=S.ev s
      have h4:=S.ev t
      rw [h1] at h3
      rw [h2] at h4
      obtain ⟨v,h5,h6⟩:=Rx (P:=P) (g:=g) (w:=w) (U:=U) (ty:=o.type) (kk:=kk) (x:=x) (y:=y) (ts:=ts)
      refine ⟨_,e,.val S (v:=v) ?_ h6⟩
      simp [execOp,aw,resolve,invoke,builtin,show a.eval s=_ from h3,show a.eval t=_ from h4,h5]
     ·simp at e
    ·simp at e
 | _=>(rw [aw] at e; simp [dk] at e)
end
end Go.Am
namespace Go.Am
open Go
theorem Fr.trans' {F F':Nat→Nat→Prop} {w1 w2 w3:World} (h:Fr F w1 w2) (h':Fr F' w2 w3) (hF:∀ b o,b<w1.heap.size→F' b o→F b o):Fr F w1 w3:=by
 refine ⟨h'.os.trans h.os,h'.tape.trans h.tape,h'.output.trans h.output,Nat.le_trans h.size h'.size,fun k c e f hk=>?_,fun k hk hn=>?_,fun k b hb hn=>h'.kind k b (h.kind k b hb hn) hn⟩
 ·have ao:k<w1.heap.size:=by
   rcases Nat.lt_or_ge k w1.heap.size with hh | hh
   ·exact hh
   ·rw [Array.getElem?_eq_none hh] at hk; simp at hk
  obtain ⟨c1,h1,h2,h3⟩:=h.cells k c e f hk
  obtain ⟨c2,h4,h5,h6⟩:=h'.cells k c1 e f h1
  exact ⟨c2,h4,by rw [h5,h2],fun o ho=>by rw [h6 o (fun hf=>ho (hF k o ao hf)),h3 o ho]⟩
 ·rw [h'.block k (Nat.lt_of_lt_of_le hk h.size) (fun o ho=>hn o (hF k o hk ho)),h.block k hk hn]
theorem fV {α:Type} : ∀ (l m:List (Nat×α)) (n:Nat),look (l++m) n=match look l n with | some x=>some x | none=>look m n
 | [],m,n=>rfl
 | (k,v)::l,m,n=>by
  simp only [List.cons_append,look]
  split
  ·rfl
  ·exact fV l m n
section
variable {P:Program} {c:aP} {w0:World} {F:bt} {N:Nat} {g g':Gh} {w w':World} {U U':Nat→Prop} {st:St} {a:Act}
theorem Rel.Db (R:Rel w0 F N g U st a w) (hc:eu P c) (hG:Gl P F w0):cB P c g w U st a:=⟨hc,R.env,R.heap,R.bB,R.u0,R.ky,R.nf,R.gl hG⟩
theorem Rel.fresh (R:Rel w0 F N g U st a w):¬ U st.nxt:=fun h=>Nat.lt_irrefl _ (R.used _ h)
theorem sb {a:Act} {d:Option Nat} {v:Value} {t:Nat} (hd:∀ x,d=some x→x<a.tmps.size):(a.put d v).eval (.tmp t)=if d=some t then v else a.eval (.tmp t):=by
 cases d with
 | none=>simp [Act.put]
 | some d=>
  have:=hd d rfl
  by_cases h:d=t
  ·subst h
   simp [Act.put,Act.eval,this]
  ·rw [if_neg (by simpa using h)]
   exact Act.eval_put (dst:=some d) (x:=.tmp t) (fun x hx=>by simp at hx; subst hx; intro he; simp at he; exact h he.symm)
theorem Rel.put (R:Rel w0 F N g U st a w) {e:bR} {v:Value} {dst:Option Nat} (hd:∀ x,dst=some x→x<N) (Q:cR g w U st.nxt e v w' g' U') :
  Rel w0 F N g' U' (st.put dst e) (a.put dst v) w':=by
 have fx:∀ x,dst=some x→x<a.tmps.size:=by rw [R.size]; exact hd
 refine ⟨fun t x h=>?_,fun id ob h=>?_,fun s h=>?_,Q.bB,fun b o id p hb h=>?_,fun b o id p hf gK=>?_,?_,?_,?_,Q.gh.sub _ R.u0,fun s hs=>Q.gh.sub _ (R.ky s hs),fun id h=>?_⟩
 ·rw [sb fx]
  cases dst with
  | none=>exact Q.gh.qe _ _ (R.env t x h)
  | some d=>
   simp only [St.put] at h
   rw [cT] at h
   by_cases jK:d=t
   ·subst jK
    simp only [if_true,Option.some.injEq] at h ⊢
    subst h; exact Q.val
   ·rw [if_neg jK] at h
    rw [if_neg (by simpa using jK)]
    exact Q.gh.qe _ _ (R.env t x h)
 ·unfold St.obj St.put at h
  simp only [fV] at h
  cases hl:look e.aE id with
  | some qu=>
   rw [hl] at h
   cases qu with
   | none=>simp at h
   | some qu=>
    simp only [Option.some.injEq] at h
    subst h
    exact Q.aE id _ hl
  | none=>
   rw [hl] at h
   have h:st.obj id=some ob:=h
   obtain ⟨h1,h2⟩:=R.heap id ob h
   exact ⟨Q.gh.sub _ h1,CE Q.gh (by rw [hl]; simp) h1 ob h2⟩
 ·show s<st.nxt+1
  rcases Q.used s h with h | h
  ·have:=R.used s h; omega
  ·omega
 ·have cw:b<w.heap.size:=Nat.lt_of_lt_of_le hb R.fr.size
  have av:=Q.bP b o _ cw h
  cases hl:g.lab b o with
  | none=>exact absurd hl av
  | some q=>
   obtain ⟨aq,p'⟩:=q
   cases ht:(look e.aE aq).isSome with
   | true=>
    rcases R.bP b o aq p' hb hl with h2 | h2
    ·exact absurd h2.1 (Q.nf aq ht)
    ·exact .inr h2
   | false=>
    have:=(Q.gh.own b o aq p' hl (by rw [ht]; simp)).1
    rw [this] at h
    simp only [Option.some.injEq,Prod.mk.injEq] at h
    obtain ⟨rfl,rfl⟩:=h
    exact R.bP b o aq p' hb hl
 ·have hl:=R.kX b o id p hf gK
  refine (Q.gh.own b o id p hl (fun ht=>Q.nf id ht gK)).1
 ·refine R.fr.trans' Q.fr (fun b o hb h=>?_)
  obtain ⟨id,p,hl,hn⟩:=h
  rcases R.bP b o id p hb hl with h2 | h2
  ·exact absurd h2.1 hn
  ·exact h2
 ·cases dst<;>exact R.defers
 ·cases dst<;>simp [Act.put,R.size]
 ·unfold St.obj St.put at h
  simp only [fV] at h
  cases hl:look e.aE id with
  | some qu=>exact Q.nf id (by rw [hl]; rfl)
  | none=>rw [hl] at h; exact R.nf id h
end
end Go.Am
namespace Go.Am
open Go
section
variable {P:Program} {c:aP} {w0:World} {F:bt} {N:Nat} {g g':Gh} {w w':World} {U U':Nat→Prop} {st:St} {a:Act}
def uc (P:Program) (c:aP):Prop:=∀ {ρ:Type} {r:ρ} {k:bR→Option ρ} {g:Gh} {w:World} {U:Nat→Prop} {sr:St} {a:Act} {site:Nat} {o:Oper},
 cB P c g w U sr a→¬ U site→dk c sr site o.op k=some r→∃ aT,k aT=some r∧kB P g w U site o a aT
theorem Rel.wK (R:Rel w0 F N g U st a w) {d:Nat} {x:af} (h:ay g w U x (a.eval (.tmp d))):Rel w0 F N g U (st.put (some d) ⟨x,[]⟩) a w:=by
 refine ⟨fun t y hy=>?_,R.heap,fun s hs=>?_,R.bB,R.bP,R.kX,R.fr,R.defers,R.size,R.u0,R.ky,R.nf⟩
 ·simp only [St.put] at hy
  rw [cT] at hy
  split at hy
  ·rename_i he; subst he; simp at hy; subst hy; exact h
  ·exact R.env t y hy
 ·have:=R.used s hs
  show s<st.nxt+1
  omega
theorem Rel.skip (R:Rel w0 F N g U st a w) {dst:Option Nat} (hd:∀ x,dst=some x→x<N):Rel w0 F N g U (st.put dst ⟨.fb [],[]⟩) (a.put dst undef) w:=
 R.put hd (.same R.bB ⟨[],rfl,rfl⟩)
theorem Km {ops:Array Oper} {tmps:Array Value} {gd d:Nat} {b:Bool} (h:qa ops.toList gd=some d) (hv:tmps.getD d undef = .bool b):yielded ops tmps gd=some b:=by
 unfold qa at h
 unfold yielded
 rw [Array.getElem?_toList] at h
 cases e:ops[gd]? with
 | none=>rw [e] at h; simp at h
 | some o=>
  rw [e] at h
  simp only at h
  have hs:tmps[d]? = some (.bool b):=by
   rw [Array.getD_eq_getD_getElem?] at hv
   cases e2:tmps[d]? with
   | none=>rw [e2] at hv; simp [undef] at hv
   | some x=>rw [e2] at hv; simp at hv; rw [hv]
  simp [h,hs]
theorem Kn {ops:Array Oper} {tmps:Array Value} {gd d:Nat} (h:qa ops.toList gd=some d) (hv:tmps.getD d undef=undef):yielded ops tmps gd=none:=by
 unfold qa at h
 unfold yielded
 rw [Array.getElem?_toList] at h
 cases e:ops[gd]? with
 | none=>rfl
 | some o=>
  rw [e] at h
  simp only at h
  rw [Array.getD_eq_getD_getElem?] at hv
  cases e2:tmps[d]? with
  | none=>simp [h,e2]
  | some x=>
   rw [e2] at hv
   simp only [Option.getD_some] at hv
   subst hv
   simp [h,e2,undef]
end
end Go.Am
namespace Go.Am
open Go
def Sub (M M':Mp):Prop:=∀ k v,look M k=some v→look M' k=some v
def jn (M:Mp):Prop:=∀ k1 k2 a d1 d2,look M k1=some (a,d1)→look M k2=some (a,d2)→a≠b_→k1=k2
theorem Sub.refl (M:Mp):Sub M M:=fun _ _ h=>h
theorem Sub.trans {A B C:Mp} (h:Sub A B) (h':Sub B C):Sub A C:=fun k v e=>h' k v (h k v e)
theorem iN {α:Type} : ∀ {l:List (Nat×α)} {k:Nat} {v:α},look l k=some v→(k,v)∈l
 | (a,b)::l,k,v,h=>by
  rw [cT] at h
  split at h
  ·rename_i he; subst he; simp at h; subst h; simp
  ·exact List.mem_cons_of_mem _ (iN h)
theorem ud {M M':Mp} {bJ aid d:Nat} (h:i_ M bJ aid d=some M'):Sub M M'∧look M' bJ=some (aid,d)∧aid≠b_∧(jn M→jn M'):=by
 unfold i_ at h
 split at h
 ·rename_i ad hl
  split at h
  ·rename_i hb
   simp only [Bool.and_eq_true,Nat.beq_eq_true_eq,Bool.not_eq_true',Nat.beq_eq] at hb
   obtain rfl:=Option.some.inj h
   obtain ⟨⟨h1,h2⟩,h3⟩:=hb
   refine ⟨.refl _,by rw [hl,← h1,← h2],fun e=>?_,fun h=>h⟩
   subst e; simp at h3
  ·simp at h
 ·rename_i hl
  split at h
  ·simp at h
  ·rename_i hb
   obtain rfl:=Option.some.inj h
   simp only [Bool.or_eq_false_iff] at hb
   obtain ⟨h1,h2⟩:=hb
   have av:aid≠b_:=fun e=>by subst e; simp at h2
   have kf:∀ k d',look M k≠some (aid,d'):=by
    intro k d' hk
    have:=List.any_eq_false.1 h1 _ (iN hk)
    simp at this
   refine ⟨fun k v hk=>?_,by rw [cT,if_pos rfl],av,fun hi k1 k2 a d1 d2 e1 e2 hn=>?_⟩
   ·rw [cT,if_neg]
    ·exact hk
    ·intro e; subst e; rw [hl] at hk; simp at hk
   ·rw [cT] at e1 e2
    split at e1<;>split at e2
    ·rename_i a1 a2; rw [← a1,← a2]
    ·simp at e1; obtain ⟨rfl,rfl⟩:=e1; exact absurd e2 (kf _ _)
    ·simp at e2; obtain ⟨rfl,rfl⟩:=e2; exact absurd e1 (kf _ _)
    ·exact hi _ _ _ _ _ e1 e2 hn
theorem RC {M:Mp} {bJ:Nat} (h:look M bJ=none):Sub M ((bJ,b_,0)::M)∧(jn M→jn ((bJ,b_,0)::M)):=by
 refine ⟨fun k v hk=>?_,fun hi k1 k2 a d1 d2 e1 e2 hn=>?_⟩
 ·rw [cT,if_neg]
  ·exact hk
  ·intro e; subst e; rw [h] at hk; simp at hk
 ·rw [cT] at e1 e2
  split at e1<;>split at e2
  ·rename_i a1 a2; rw [← a1,← a2]
  ·simp at e1; exact absurd e1.1.symm hn
  ·simp at e2; exact absurd e2.1.symm hn
  ·exact hi _ _ _ _ _ e1 e2 hn
def cZ (g:Gh) (aid d:Nat):Hd:=if aid=b_ then c8 else if d=0 then g.hd aid 0 [] else ⟨(g.hd aid 0 []).addr,(g.hd aid 0 []).len / d,(g.hd aid 0 []).len / d⟩
def nd (st:St) (id:Nat):Nat:=match st.obj id with | some (.row _ _ vr _)=>vr | _=>0
structure Cons (st:St) (nm:Nat→Nat) (vr:Nat) (M:Mp) (g g':Gh) (U':Nat→Prop):Prop where
 name:∀ k aid d,look M k=some (aid,d)→U' (nm k / 1024)∧g'.hd (nm k) 0 []=cZ g aid d
 u0:U' 0
 uv:U' vr
 sh:∀ b o,g.lab b o=none→g'.lab b o=none
 lab:∀ k aid d b o p,look M k=some (aid,d)→aid≠b_→g.lab b o=some (aid,p)→g'.lab b o=some (nm k,p)
 ng:∀ k aid d q,look M k=some (aid,d)→q≠[]→g'.hd (nm k) vr q=if d=0 then g.hd aid (nd st aid) q else c8
theorem Cons.mono {st:St} {nm:Nat→Nat} {vr:Nat} {M M':Mp} {g g':Gh} {U':Nat→Prop} (h:Sub M M') (c:Cons st nm vr M' g g' U'):Cons st nm vr M g g' U':=
 ⟨fun k aid d e=>c.name k aid d (h _ _ e),c.u0,c.uv,c.sh,fun k aid d b o p e=>c.lab k aid d b o p (h _ _ e),fun k aid d q e=>c.ng k aid d q (h _ _ e)⟩
section
variable {g g':Gh} {w:World} {U U':Nat→Prop} {st:St} {nm:Nat→Nat} {vr:Nat}
theorem Cons.Ko {M:Mp} (C:Cons st nm vr M g g' U') {t:Ty} {xs:List t.T} {v:Value} (h:fj t.size (Sh g.lab w t) xs v):fj t.size (Sh g'.lab w t) xs v:=
 fK (eF (fun b o hl v hv=>⟨hv,C.sh b o hl⟩) t) h
theorem cast_eq {a b:Ty} {x:a.T} {y:b.T} (h:Ty.cast a b x=some y):a=b∧HEq x y:=by
 unfold Ty.cast at h
 split at h
 ·rename_i hb
  have e:=Ty.eq_of_beq hb
  subst e
  exact ⟨rfl,heq_of_eq (Option.some.inj h)⟩
 ·simp at h
theorem Kq {a b:af} (h:xJ a b=true) {x:Value} (hx:ay g w U b x):ay g' w U' a x:=by
 unfold xJ at h
 split at h
 ·trivial
 ·exact hx
 ·exact hx
 ·exact hx
 ·obtain rfl:=Nat.eq_of_beq_eq_true h
  obtain ⟨l,rfl,hl⟩:=hx
  exact ⟨l,rfl,hl⟩
 ·simp at h
section
variable {st:St} {r:Type} {M:Mp} {v:af} {f:Mp→Option r}
theorem RD (k:IntKind):reify st (.int k) M v f=(match v with | .int l n=>(match ku k l with | true=>(match f M with | some r=>some (n,r) | none=>none) | false=>none) | _=>none):=by cases v<;>rfl
theorem RE:reify st .bool M v f=(match v with | .bool b=>(match f M with | some r=>some (b,r) | none=>none) | _=>none):=by cases v<;>rfl
theorem RF:reify st .str M v f=(match v with | .str b=>(match f M with | some r=>some (b,r) | none=>none) | _=>none):=by cases v<;>rfl
theorem RG:reify st .err M v f=(match v with | .err b=>(match f M with | some r=>some (b,r) | none=>none) | _=>none):=by cases v<;>rfl
theorem RH (t:Ty):reify st (.sh t) M v f=(match v with
  | .sh u xs=>(match Ty.cast (.sl u) (.sl t) xs with | some ys=>(match f M with | some r=>some (ys,r) | none=>none) | none=>none)
  | .nil=>(match f M with | some r=>some (([]:List t.T),r) | none=>none)
  | _=>none):=by cases v<;>rfl
theorem RI (t:Ty):reify st (.cu t) M v f=(match v with | .cu u o=>(match Ty.cast (.bh u) (.bh t) o with | some o=>(match f M with | some r=>some (o,r) | none=>none) | none=>none) | _=>none):=by cases v<;>rfl
theorem RJ (bJ:Nat) (t:Ty):reify st (.own bJ t) M v f=(match v with
  | .own aid _ [] _=>(match i_ M bJ aid 0 with | some M=>f M | none=>none)
  | .dW aid 0 len sz=>(match st.obj aid with
   | some (.cells _ cs)=>(match Nat.beq sz t.size&&Nat.beq (len*sz) cs.length with
    | true=>(match i_ M bJ aid t.size with | some M=>f M | none=>none)
    | false=>none)
   | _=>none)
  | .nil=>(match look M bJ with | none=>f ((bJ,b_,0)::M) | some _=>none)
  | _=>none):=by cases v<;>rfl
theorem RL (bJ:Nat) (t:Ty):reify st (.dV bJ t) M v f=(match v with
  | .dV aid _ [] u off len=>(match Ty.beq t u,i_ M bJ aid 0 with
   | true,some M=>(match f M with | some r=>some (off,len,r) | none=>none)
   | _,_=>none)
  | .own aid _ [] u=>(match st.obj aid with
   | some (.row _ t' _ xs)=>(match Ty.beq t u&&Ty.beq t t',i_ M bJ aid 0 with
    | true,some M=>(match f M with | some r=>some (0,xs.length,r) | none=>none)
    | _,_=>none)
   | _=>none)
  | _=>none):=by cases v<;>rfl
theorem RM (bJ j:Nat):reify st (.aJ bJ j) M v f=(match v with | .aJ aid l=>(match Nat.beq j l,i_ M bJ aid 0 with | true,some M=>f M | _,_=>none) | _=>none):=by cases v<;>rfl
theorem RN (bJ : Nat) (t : Ty) (j : Nat) : reify st (.dI bJ t j) M v f = (match v with
    | .dI aid _ [] u i l => (match Nat.beq j l && Ty.beq t u, i_ M bJ aid 0 with
      | true, some M => (match f M with | some r => some (i, r) | none => none)
      | _, _ => none)
    | _ => none) := by cases v <;> try rfl
                       rename_i p _ _ _; cases p <;> rfl
theorem RO (t:Ty) (j:Nat):reify st (.eE t j) M v f=(match v with | .eE u x l=>(match Nat.beq j l with | true=>(match Ty.cast u t x with | some x=>(match f M with | some r=>some (x,r) | none=>none) | none=>none) | false=>none) | _=>none):=by cases v<;>rfl
theorem RP (l:List bN):reify st (.agg l) M v f=(match v with | .agg cs=>o_ st l M cs f | _=>none):=by cases v<;>rfl
theorem RQ (bJ:Nat) (t:Ty) (j:Nat) (u:Ty):reify st (.tJ bJ t j u) M v f=(match v with
  | .own aid ver [(i,j')] u'=>(match st.obj aid with
   | some (.row true t' vr _)=>(match Nat.beq j j'&&Ty.beq u u'&&Nat.beq ver vr&&Ty.beq t t',i_ M bJ aid 0 with
    | true,some M=>(match f M with | some r=>some (i,r) | none=>none)
    | _,_=>none)
   | _=>none)
  | _=>none):=rfl
theorem RR (g:FuncId) (l:List bN):reify st (.fn g l) M v f=(match v with | .fn g' cs=>(match Nat.beq g g' with | true=>o_ st l M cs f | false=>none) | _=>none):=rfl
theorem RS (c:af):reify st (.lQ c) M v f=(match xJ c v with | true=>f M | false=>none):=by cases v<;>rfl
theorem RT {vs:List af} : o_ st [] M vs f=(match vs with | []=>f M | _=>none):=by cases vs<;>rfl
theorem RU {s:bN} {l:List bN} {vs:List af} : o_ st (s::l) M vs f=(match vs with | v::vs=>reify st s M v (fun M=>o_ st l M vs f) | []=>none):=by cases vs<;>rfl
end
def yG (st:St) (g:Gh) (w:World) (U:Nat→Prop) (nm:Nat→Nat) (vr:Nat) {r:Type} (M:Mp) (f:Mp→Option r) (z:r) (rel:Gh→(Nat→Prop)→Prop):Prop:=
 ∃ M',Sub M M'∧(jn M→jn M')∧f M'=some z∧∀ g' U',Cons st nm vr M' g g' U'→rel g' U'
theorem yG.same {r:Type} {M:Mp} {f:Mp→Option r} {z:r} {rel:Gh→(Nat→Prop)→Prop} (h:f M=some z) (hr:∀ g' U',Cons st nm vr M g g' U'→rel g' U'):yG st g w U nm vr M f z rel:=
 ⟨M,.refl _,fun h=>h,h,hr⟩
mutual
theorem Kr (hO:dR g w U st):∀ (s:bN) {r:Type} (M:Mp) (v:af) (f:Mp→Option r) (y:s.LT r),reify st s M v f=some y→
  yG st g w U nm vr M f (reflect nm vr s y).2 (fun g' U'=>∀ x,ay g w U v x→ay g' w U' (reflect nm vr s y).1 x)
 | .int k,r,M,v,f,y,e=>by
  rw [RD] at e
  cases v<;>try (exact absurd (show none=some _ from e) (by simp))
  all_goals try dsimp only at e
  split at e
  ·rename_i hk
   split at e
   ·rename_i z hz
    obtain rfl:=Option.some.inj e
    exact .same hz (fun g' U' C x hx=>by obtain rfl:=lP hk; exact hx)
   ·simp at e
  ·simp at e
 | .bool,r,M,v,f,y,e=>by
  rw [RE] at e
  cases v<;>try (exact absurd (show none=some _ from e) (by simp))
  all_goals try dsimp only at e
  split at e
  ·rename_i z hz
   obtain rfl:=Option.some.inj e
   exact .same hz (fun g' U' C x hx=>hx)
  ·simp at e
 | .str,r,M,v,f,y,e=>by
  rw [RF] at e
  cases v<;>try (exact absurd (show none=some _ from e) (by simp))
  all_goals try dsimp only at e
  split at e
  ·rename_i z hz
   obtain rfl:=Option.some.inj e
   exact .same hz (fun g' U' C x hx=>hx)
  ·simp at e
 | .err,r,M,v,f,y,e=>by
  rw [RG] at e
  cases v<;>try (exact absurd (show none=some _ from e) (by simp))
  all_goals try dsimp only at e
  split at e
  ·rename_i z hz
   obtain rfl:=Option.some.inj e
   exact .same hz (fun g' U' C x hx=>hx)
  ·simp at e
 | .sh t,r,M,v,f,y,e=>by
  rw [RH] at e
  cases v<;>try (exact absurd (show none=some _ from e) (by simp))
  all_goals try dsimp only at e
  ·split at e
   ·rename_i z hz
    obtain rfl:=Option.some.inj e
    exact .same hz (fun g' U' C x hx=>by
     obtain rfl:=hx
     exact ⟨none,0,0,rfl,rfl,Nat.le_refl _,fun _=>rfl,fun h=>absurd rfl h⟩)
   ·simp at e
  ·rename_i u xs
   split at e
   ·rename_i ys hc
    split at e
    ·rename_i z hz
     obtain rfl:=Option.some.inj e
     obtain ⟨he,hh⟩:=kC hc
     subst he
     obtain rfl:=eq_of_heq hh
     exact .same hz (fun g' U' C x hx=>C.Ko hx)
    ·simp at e
   ·simp at e
 | .cu t,r,M,v,f,y,e=>by
  rw [RI] at e
  cases v<;>try (exact absurd (show none=some _ from e) (by simp))
  all_goals try dsimp only at e
  rename_i u xs
  split at e
  ·rename_i ys hc
   split at e
   ·rename_i z hz
    obtain rfl:=Option.some.inj e
    obtain ⟨he,hh⟩:=cast_eq hc
    injection he with he
    subst he
    obtain rfl:=eq_of_heq hh
    exact .same hz (fun g' U' C x hx=>⟨C.Ko hx.1,hx.2⟩)
   ·simp at e
  ·simp at e
 | .own bJ t,r,M,v,f,y,e=>by
  rw [RJ] at e
  cases v<;>try (exact absurd (show none=some _ from e) (by simp))
  all_goals try dsimp only at e
  ·
   split at e
   ·rename_i hl
    obtain ⟨h1,h2⟩:=RC hl
    refine ⟨_,h1,h2,e,fun g' U' C x hx=>?_⟩
    obtain rfl:=hx
    obtain ⟨c1,c2⟩:=C.name bJ b_ 0 (by rw [cT,if_pos rfl])
    exact ⟨c1,C.u0,C.u0,trivial,fun _=>rfl,by rw [c2]; rfl⟩
   ·simp at e
  ·rename_i aid ver p u
   cases p with
   | cons a p=>simp at e
   | nil=>
    simp only at e
    split at e
    ·rename_i M1 hb
     obtain ⟨h1,h2,h3,h4⟩:=ud hb
     refine ⟨_,h1,h4,e,fun g' U' C x hx=>?_⟩
     obtain ⟨u1,u2,u3,-,hv,rfl⟩:=hx
     obtain rfl:=hv rfl
     obtain ⟨c1,c2⟩:=C.name bJ aid 0 h2
     exact ⟨c1,C.u0,C.u0,trivial,fun _=>rfl,by rw [c2]; simp [cZ,h3]⟩
    ·simp at e
  ·rename_i aid off len sz
   cases off with
   | succ n=>simp at e
   | zero=>
    simp only at e
    split at e
    ·rename_i ro cs ho
     split at e
     ·rename_i hq
      simp only [Bool.and_eq_true,Nat.beq_eq] at hq
      obtain ⟨nU,ix⟩:=hq
      subst nU
      split at e
      ·rename_i M1 hb
       obtain ⟨h1,h2,h3,h4⟩:=ud hb
       refine ⟨_,h1,h4,e,fun g' U' C x hx=>?_⟩
       obtain ⟨u1,u2,a,c,rfl,wz,iJ,b,o,cw,ha⟩:=hx
       obtain ⟨c1,c2⟩:=C.name bJ aid _ h2
       obtain ⟨-,-,b2,o2,cJ,-⟩:=hO aid _ ho
       have hp:=t.size_pos
       have hlen:(g.hd aid 0 []).len=cs.length:=by rw [cJ]
       have hc:c=len:=by
        rw [hlen,← ix] at iJ
        have:=Nat.eq_of_mul_eq_mul_right hp iJ
        omega
       refine ⟨c1,C.u0,C.u0,trivial,fun _=>rfl,?_⟩
       have hdiv:(g.hd aid 0 []).len / t.size=len:=by rw [hlen,← ix]; exact Nat.mul_div_cancel _ hp
       rw [c2]
       simp only [cZ,h3,if_false,show t.size≠0 by omega,hdiv,Hd.val,cw,ha (.inr rfl),hc]
       simp
      ·simp at e
     ·simp at e
    ·simp at e
 | .dV bJ t,r,M,v,f,y,e=>by
  rw [RL] at e
  cases v<;>try (exact absurd (show none=some _ from e) (by simp))
  all_goals try dsimp only at e
  ·rename_i aid ver p u
   cases p with
   | cons a p=>simp at e
   | nil=>
    simp only at e
    split at e
    ·rename_i own t' vr xs ho
     split at e
     ·rename_i M1 hk hb
      split at e
      ·rename_i z hz
       obtain rfl:=Option.some.inj e
       rw [Bool.and_eq_true] at hk
       obtain ⟨rW,rY⟩:=hk
       obtain rfl:=Ty.eq_of_beq rW
       obtain rfl:=Ty.eq_of_beq rY
       obtain ⟨h1,h2,h3,h4⟩:=ud hb
       refine ⟨_,h1,h4,hz,fun g' U' C x hx=>?_⟩
       obtain ⟨u1,u2,u3,-,hv,rfl⟩:=hx
       obtain rfl:=hv rfl
       obtain ⟨c1,c2⟩:=C.name bJ aid 0 h2
       obtain ⟨-,-,-,r1,r2,r3,-⟩:=hO aid _ ho
       refine ⟨c1,C.u0,C.u0,trivial,fun _=>rfl,?_⟩
       rw [c2.trans (show _=g.hd aid 0 [] by simp [cZ,h3])]
       dsimp only
       refine ⟨_,_,by rw [Hd.val,r1],by omega,by omega,by omega,fun fM=>?_,_,rfl⟩
       cases ha:(g.hd aid 0 []).addr with
       | none=>have:=r3 ha; omega
       | some q=>exact ⟨q.1,q.2,rfl,by simp⟩
      ·simp at e
     ·simp at e
    ·simp at e
  ·rename_i aid ver p u off len
   cases p with
   | cons a p=>simp at e
   | nil=>
    simp only at e
    split at e
    ·rename_i M1 hk hb
     split at e
     ·rename_i z hz
      obtain rfl:=Option.some.inj e
      obtain rfl:=Ty.eq_of_beq hk
      obtain ⟨h1,h2,h3,h4⟩:=ud hb
      refine ⟨_,h1,h4,hz,fun g' U' C x hx=>?_⟩
      obtain ⟨u1,u2,u3,-,hv,hx⟩:=hx
      obtain rfl:=hv rfl
      obtain ⟨c1,c2⟩:=C.name bJ aid 0 h2
      refine ⟨c1,C.u0,C.u0,trivial,fun _=>rfl,?_⟩
      rw [c2]
      simpa [cZ,h3] using hx
     ·simp at e
    ·simp at e
 | .aJ bJ j,r,M,v,f,y,e=>by
  rw [RM] at e
  cases v<;>try (exact absurd (show none=some _ from e) (by simp))
  all_goals try dsimp only at e
  rename_i aid l
  split at e
  ·rename_i M1 hk hb
   obtain rfl:=Nat.eq_of_beq_eq_true hk
   obtain ⟨h1,h2,h3,h4⟩:=ud hb
   refine ⟨_,h1,h4,e,fun g' U' C x hx=>?_⟩
   obtain ⟨u1,u2,hx⟩:=hx
   obtain ⟨c1,c2⟩:=C.name bJ aid 0 h2
   refine ⟨c1,C.u0,?_⟩
   rw [c2]
   simpa [cZ,h3] using hx
  ·rename_i av
   cases hk:Nat.beq j l with
   | false=>rw [hk] at e; exact absurd e (by simp)
   | true=>cases hb:i_ M bJ aid 0 with
    | none=>rw [hk,hb] at e; exact absurd e (by simp)
    | some M1=>exact (av M1 hk hb).elim
 | .dI bJ t j,r,M,v,f,y,e=>by
  rw [RN] at e
  cases v<;>try (exact absurd (show none=some _ from e) (by simp))
  all_goals try dsimp only at e
  rename_i aid ver p u i l
  cases p with
  | cons a p=>simp at e
  | nil=>
   simp only at e
   split at e
   ·rename_i M1 hk hb
    split at e
    ·rename_i z hz
     obtain rfl:=Option.some.inj e
     simp only [Bool.and_eq_true] at hk
     obtain rfl:=Ty.eq_of_beq hk.2
     obtain rfl:=Nat.eq_of_beq_eq_true hk.1
     obtain ⟨h1,h2,h3,h4⟩:=ud hb
     refine ⟨_,h1,h4,hz,fun g' U' C x hx=>?_⟩
     obtain ⟨u1,u2,u3,-,hv,hx⟩:=hx
     obtain rfl:=hv rfl
     obtain ⟨c1,c2⟩:=C.name bJ aid 0 h2
     refine ⟨c1,C.u0,C.u0,trivial,fun _=>rfl,?_⟩
     rw [c2]
     simpa [cZ,h3] using hx
    ·simp at e
   ·simp at e
 | .eE t j,r,M,v,f,y,e=>by
  rw [RO] at e
  cases v<;>try (exact absurd (show none=some _ from e) (by simp))
  all_goals try dsimp only at e
  rename_i u x0 l
  split at e
  ·rename_i hk
   split at e
   ·rename_i x1 hc
    split at e
    ·rename_i z hz
     obtain rfl:=Option.some.inj e
     obtain rfl:=Nat.eq_of_beq_eq_true hk
     obtain ⟨he,hh⟩:=cast_eq hc
     subst he
     obtain rfl:=eq_of_heq hh
     exact .same hz (fun g' U' C x hx=>by
      obtain ⟨b,o,rfl,h⟩:=hx
      exact ⟨b,o,rfl,eF (fun b o hl v hv=>⟨hv,C.sh b o hl⟩) u _ b o h⟩)
    ·simp at e
   ·simp at e
  ·simp at e
 | .agg l,r,M,v,f,y,e=>by
  rw [RP] at e
  cases v<;>try (exact absurd (show none=some _ from e) (by simp))
  all_goals try dsimp only at e
  rename_i cs
  obtain ⟨M',h1,h2,h3,h4⟩:=Dc hO l M cs f y e
  refine ⟨M',h1,h2,h3,fun g' U' C x hx=>?_⟩
  obtain ⟨vs,rfl,dD⟩:=hx
  exact ⟨vs,rfl,h4 g' U' C vs dD⟩
 | .tJ bJ t j u,r,M,v,f,y,e=>by
  rw [RQ] at e
  split at e
  ·rename_i aid ver i j' u'
   split at e
   ·rename_i t' tP xs ho
    split at e
    ·rename_i M1 hq hb
     simp only [Bool.and_eq_true,Nat.beq_eq] at hq
     obtain ⟨⟨⟨hj,hu⟩,hv⟩,ht⟩:=hq
     subst hj
     subst hv
     split at e
     ·rename_i z hz
      obtain rfl:=Option.some.inj e
      obtain ⟨h1,h2,h3,h4⟩:=ud hb
      refine ⟨_,h1,h4,hz,fun g' U' C x hx=>?_⟩
      obtain ⟨u1,u2,u3,bV,-,rfl⟩:=hx
      obtain ⟨c1,c2⟩:=C.name bJ aid 0 h2
      have c3:=C.ng bJ aid 0 [(i,j)] h2 (by simp)
      have RV:nd st aid=ver:=by simp [nd,ho]
      refine ⟨c1,C.uv,C.u0,⟨?_,trivial⟩,fun h=>by simp at h,?_⟩
      ·have:i<(g.hd aid 0 []).len:=bV.1
       show i<(g'.hd (nm bJ) 0 []).len
       rw [c2]
       simpa [cZ,h3] using this
      ·rw [c3,if_pos rfl,RV]
     ·simp at e
    ·simp at e
   ·simp at e
  ·simp at e
 | .fn g0 l,r,M,v,f,y,e=>by
  rw [RR] at e
  split at e
  ·rename_i g1 cs
   split at e
   ·rename_i hb
    obtain rfl:=Nat.eq_of_beq_eq_true hb
    obtain ⟨M',h1,h2,h3,h4⟩:=Dc hO l M cs f y e
    refine ⟨M',h1,h2,h3,fun g' U' C x hx=>?_⟩
    obtain ⟨vs,rfl,dD⟩:=hx
    exact ⟨vs,rfl,h4 g' U' C vs dD⟩
   ·simp at e
  ·simp at e
 | .lQ c,r,M,v,f,y,e=>by
  rw [RS] at e
  split at e
  ·rename_i hk
   exact .same e (fun g' U' C x hx=>Kq hk hx)
  ·simp at e
theorem Dc (hO:dR g w U st):∀ (l:List bN) {r:Type} (M:Mp) (vs:List af) (f:Mp→Option r) (y:bN.tK l r),o_ st l M vs f=some y→
  yG st g w U nm vr M f (kU nm vr l y).2 (fun g' U'=>∀ xs,bK g w U vs xs→bK g' w U' (kU nm vr l y).1 xs)
 | [],r,M,vs,f,y,e=>by
  rw [RT] at e
  cases vs<;>try (exact absurd (show none=some _ from e) (by simp))
  exact .same e (fun g' U' C x hx=>hx)
 | s::l,r,M,vs,f,y,e=>by
  rw [RU] at e
  cases vs with
  | nil=>simp at e
  | cons v vs=>
   simp only at e
   obtain ⟨M1,h1,h2,h3,h4⟩:=Kr hO s M v _ y e
   obtain ⟨M2,k1,k2,k3,k4⟩:=Dc hO l M1 vs f _ h3
   refine ⟨M2,h1.trans k1,fun h=>k2 (h2 h),k3,fun g' U' C x hx=>?_⟩
   obtain ⟨a,b,rfl,ha,hb⟩:=hx
   exact ⟨a,b,rfl,h4 g' U' (C.mono k1) a ha,k4 g' U' C b hb⟩
end
theorem Dd {own:Bool} {aid bJ vr V:Nat} {t:Ty} {xs:List t.T} (h0:g'.hd bJ 0 []=g.hd aid 0 []) (h1:∀ q,q≠[]→g'.hd bJ V q=g.hd aid vr q)
  (h2:∀ b o p,g.lab b o=some (aid,p)→g'.lab b o=some (bJ,p)) (h3:∀ b o,g.lab b o=none→g'.lab b o=none)
  (h:dC g w own aid 0 vr t b9 [] xs):dC g' w own bJ 0 V t b9 [] xs:=by
 have R:Ren g g.lab w g' w (fun q=>if q=[] then none else some (aid,q,g.hd aid vr q)) bJ V:=by
  refine ⟨fun q id p h hq=>?_,fun q hq hn=>?_,fun q id p h b o hq hl=>?_,fun b o hl v hv=>⟨hv,h3 b o hl⟩⟩
  ·by_cases hn:q=[]
   ·simp [hn] at hq
   ·simp only [hn,if_false,Option.some.injEq,Prod.mk.injEq] at hq
    obtain ⟨rfl,rfl,rfl⟩:=hq
    exact h1 _ hn
  ·simp [hq] at hn
  ·by_cases hn:q=[]
   ·simp [hn] at hq
   ·simp only [hn,if_false,Option.some.injEq,Prod.mk.injEq] at hq
    obtain ⟨rfl,rfl,rfl⟩:=hq
    exact ⟨h2 _ _ _ hl,rfl,rfl⟩
 unfold dC at h ⊢
 rw [h0]
 obtain ⟨r1,r2,r3,r4⟩:=h
 refine ⟨r1,r2,r3,fun b o hb=>?_⟩
 obtain ⟨r5,r6⟩:=r4 b o hb
 refine ⟨fun k hk=>?_,fun k hk=>?_⟩
 ·obtain ⟨a1,a2,a3⟩:=r5 k hk
  exact ⟨h2 _ _ _ a1,a2,a3⟩
 ·exact wv R t [] k 0 _ _ b _ (fun _ _=>rfl) (lX (fun _ _ h=>h) t [] [] k 0 k 0 _ b _ (fun _ d s hd=>by simp) (r6 k hk))
theorem RW (hO:dR g w U st) {k aid d:Nat} {o:cK} (aY:st.obj aid=some o) (av:aid≠b_):∀ (s:jk) {r:Type} (M:Mp) (f:Mp→Option r) (y:s.LT r),look M k=some (aid,d)→
  xK st s M d o f=some y→yG st g w U nm vr M f (kV nm vr s y).2 (fun g' U'=>dQ g' w U' (nm k) (kV nm vr s y).1):=by
 intro s r M f y hM e
 obtain ⟨-,hR⟩:=hO aid o aY
 cases s with
 | row own t=>
  cases o with
  | row o u vr xs=>
   replace e:(match EO own o&&Nat.beq d 0 with
    | true=>(match Ty.cast (.sl u) (.sl t) xs with | some ys=>(match f M with | some r=>some (ys,r) | none=>none) | none=>none)
    | false=>none)=some y:=e
   split at e
   ·rename_i hk
    simp only [Bool.and_eq_true,Nat.beq_eq] at hk
    obtain ⟨hk,rfl⟩:=hk
    have ho:own=o:=by cases own<;>cases o<;>first | rfl | simp [EO] at hk
    subst ho
    split at e
    ·rename_i ys hc
     split at e
     ·rename_i z hz
      obtain rfl:=Option.some.inj e
      obtain ⟨he,hh⟩:=kC hc
      subst he
      obtain rfl:=eq_of_heq hh
      refine ⟨M,.refl _,fun h=>h,hz,fun g' U' C=>⟨C.u0,C.uv,Dd (aid:=aid) (vr:=vr) ?_ ?_ (fun b o p hl=>C.lab _ _ _ _ _ _ hM av hl) C.sh hR.2.2⟩⟩
      ·rw [(C.name _ _ _ hM).2]; simp [cZ,av]
      ·intro q hq
       rw [C.ng _ _ _ _ hM hq]; simp [nd,aY]
     ·simp at e
    ·simp at e
   ·simp at e
  | cells ro cs=>
   replace e:(match Nat.beq d t.size with
    | true=>(match takeN st own 50 t (cs.length / t.size) cs with | some (xs,[])=>(match f M with | some r=>some (xs,r) | none=>none) | _=>none)
    | false=>none)=some y:=e
   split at e
   ·rename_i hk
    obtain rfl:=Nat.eq_of_beq_eq_true hk
    split at e
    ·rename_i xs ht
     split at e
     ·rename_i z hz
      obtain rfl:=Option.some.inj e
      obtain ⟨u0,b,o,cJ,gk⟩:=hR
      refine ⟨M,.refl _,fun h=>h,hz,fun g' U' C=>⟨C.u0,C.uv,?_⟩⟩
      have hv:eL g w U cs (fun k=>w.cell? (ad b (o+k))):=fun k hk=>by
       obtain ⟨-,-,v,h1,h2⟩:=gk k hk
       exact ⟨v,h1,h2⟩
      obtain ⟨-,eg,σ,T⟩:=(yn hO (L:=g.lab) (fun _ _ h=>h) own 50).2 t _ cs xs [] _ [] 0 hv ht (fun _ id hi=>by simp at hi)
      have dS:∀ q,σ q=none:=fun q=>by
       cases h:σ q with
       | none=>rfl
       | some x=>obtain ⟨id,p,h'⟩:=x; exact absurd (T.tk.ids _ _ _ _ h) (by simp)
      have hp:=t.size_pos
      have RX:g'.hd (nm k) 0 []=⟨some (b,o),xs.length,xs.length⟩:=by
       rw [(C.name _ _ _ hM).2]
       simp only [cZ,av,if_false,show t.size≠0 by omega,cJ,T.len]
      have R:Ren g g.lab w g' w σ (nm k) vr:=by
       refine ⟨fun q id p h hq=>?_,fun q hq hn=>?_,fun q id p h b o hq hl=>?_,fun b o hl v hv=>⟨hv,C.sh b o hl⟩⟩
       ·rw [dS] at hq; simp at hq
       ·rw [C.ng _ _ _ _ hM hq,if_neg (by omega)]
       ·rw [dS] at hq; simp at hq
      unfold dC
      rw [RX]
      refine ⟨rfl,Nat.le_refl _,by simp,fun b' o' hb=>?_⟩
      simp only [Option.some.injEq,Prod.mk.injEq] at hb
      obtain ⟨rfl,rfl⟩:=hb
      refine ⟨fun m hm=>?_,fun m hm=>?_⟩
      ·have hm:m<cs.length:=by rw [eg,← T.len]; exact hm
       obtain ⟨h1,h2,v,h3,-⟩:=gk m hm
       exact ⟨C.lab _ _ _ _ _ _ hM av h1,by rw [h3]; rfl,h2⟩
      ·have:=T.ow m hm
       rw [Nat.zero_add] at this
       exact wv R t [] m 0 _ _ b _ (fun d hd=>by rw [Nat.add_assoc]) this
     ·simp at e
    ·simp at e
   ·simp at e
  | kS t vr xs i j=>exact absurd (show none=some _ from e) (by simp)
 | cells ro l=>
  cases o with
  | cells ro' cs=>
   replace e:(match Nat.beq d 0 with | true=>o_ st l M cs f | false=>none)=some y:=e
   split at e
   ·rename_i hk
    obtain rfl:=Nat.eq_of_beq_eq_true hk
    obtain ⟨M',h1,h2,h3,h4⟩:=Dc (nm:=nm) (vr:=vr) hO l M cs f y e
    refine ⟨M',h1,h2,h3,fun g' U' C=>⟨C.u0,?_⟩⟩
    obtain ⟨u0,b,o,cJ,gk⟩:=hR
    have Ks:=h1 _ _ hM
    have dD:bK g w U cs ((List.range cs.length).map fun k=>(w.cell? (ad b (o+k))).getD undef):=by
     refine rM (by simp) (fun k hk bL=>?_)
     obtain ⟨-,-,v,h5,h6⟩:=gk k hk
     simp [h5]; exact h6
    have De:=h4 g' U' C _ dD
    have hlen:=ka De
    simp only [List.length_map,List.length_range] at hlen
    refine ⟨b,o,?_,fun k hk=>?_⟩
    ·rw [(C.name _ _ _ Ks).2]
     simp only [cZ,av,if_false,if_true,cJ,hlen]
    ·have bL:k<cs.length:=by rw [hlen]; exact hk
     obtain ⟨h5,h6,v,h7,h8⟩:=gk k bL
     refine ⟨C.lab _ _ _ _ _ _ Ks av h5,h6,v,h7,?_⟩
     obtain ⟨x,hx,hr⟩:=jF De k hk
     simp [bL,h7] at hx
     subst hx
     exact hr
   ·simp at e
  | row o u vr xs=>exact absurd (show none=some _ from e) (by simp)
  | kS t vr xs i j=>exact absurd (show none=some _ from e) (by simp)
end
end Go.Am
namespace Go.Am
open Go
section
variable {g g':Gh} {w:World} {U U':Nat→Prop} {st:St} {nm:Nat→Nat} {vr nx:Nat} {a:Act}
theorem Df (hO:dR g w U st) (hE:∀ t v,look st.env t=some v→ay g w U v (a.eval (.tmp t))):∀ (l:List (Nat×bN)) {r:Type} (M:Mp) (f:Mp→Option r) (y:p_ l r),xL st l M f=some y→
  yG st g w U nm vr M f (cf nm vr l y).2 (fun g' U'=>∀ t v,look (cf nm vr l y).1 t=some v→ay g' w U' v (a.eval (.tmp t)))
 | [],r,M,f,y,e=>.same e (fun g' U' C t v h=>by simp [cf,look] at h)
 | (i,s)::l,r,M,f,y,e=>by
  replace e:(match look st.env i with | some v=>reify st s M v (fun M=>xL st l M f) | none=>none)=some y:=e
  split at e
  ·rename_i v hv
   obtain ⟨M1,h1,h2,h3,h4⟩:=Kr (nm:=nm) (vr:=vr) hO s M v _ y e
   obtain ⟨M2,k1,k2,k3,k4⟩:=Df hO hE l M1 f _ h3
   refine ⟨M2,h1.trans k1,fun h=>k2 (h2 h),k3,fun g' U' C t x hx=>?_⟩
   replace hx:look ((i,(reflect nm vr s y).1)::(cf nm vr l (reflect nm vr s y).2).1) t=some x:=hx
   rw [cT] at hx
   split at hx
   ·rename_i he
    subst he
    simp only [Option.some.injEq] at hx
    subst hx
    exact h4 g' U' (C.mono k1) _ (hE _ _ hv)
   ·exact k4 g' U' C t x hx
  ·simp at e
theorem yH:∀ (l:List (Nat×jk)) {r:Type} (y:rz l r) (id:Nat) (o:Option cK),look (dJ nm vr l y).1 id=some o→∃ p∈l,id=nm p.1∧o.isSome=true
 | [],r,y,id,o,h=>by simp [dJ,look] at h
 | (i,s)::l,r,y,id,o,h=>by
  replace h:look ((nm i,some (kV nm vr s y).1)::(dJ nm vr l (kV nm vr s y).2).1) id=some o:=h
  rw [cT] at h
  split at h
  ·rename_i he
   simp only [Option.some.injEq] at h
   exact ⟨(i,s),by simp,he.symm,by rw [← h]; rfl⟩
  ·obtain ⟨p,h1,h2⟩:=yH l _ id o h
   exact ⟨p,by simp [h1],h2⟩
theorem FP:∀ (l:List (Nat×bN)) {r:Type} (y:p_ l r) (t:Nat),(∀ p∈l,p.1≠t)→look (cf nm vr l y).1 t=none
 | [],r,y,t,h=>rfl
 | (i,s)::l,r,y,t,h=>by
  show look ((i,(reflect nm vr s y).1)::(cf nm vr l (reflect nm vr s y).2).1) t=none
  rw [cT,if_neg (h (i,s) (by simp))]
  exact FP l _ t (fun p hp=>h p (by simp [hp]))
theorem AN (hO:dR g w U st):∀ (l:List (Nat×jk)) {r:Type} (M:Mp) (f:Mp→Option r) (y:rz l r),nL st l M f=some y→
  ∃ M',Sub M M'∧(jn M→jn M')∧f M'=some (dJ nm vr l y).2∧(∀ p∈l,∃ a d,look M' p.1=some (a,d)∧(a=b_∨st.obj a≠none))∧
   ∀ g' U',Cons st nm vr M' g g' U'→∀ id o,look (dJ nm vr l y).1 id=some (some o)→U' (id / 1024)∧dQ g' w U' id o
 | [],r,M,f,y,e=>⟨M,.refl _,fun h=>h,e,by simp,fun g' U' C id o h=>by simp [dJ,look] at h⟩
 | (i,s)::l,r,M,f,y,e=>by
  replace e:(match look M i with
   | some a=>(match Nat.beq a.1 b_ with
    | true=>I3 s (nL st l M f)
    | false=>(match st.obj a.1 with
     | some o=>xK st s M a.2 o (fun M=>nL st l M f)
     | none=>none))
   | none=>(match i_ M i (i*1024) 0,st.obj (i*1024) with
    | some M,some o=>xK st s M 0 o (fun M=>nL st l M f)
    | _,_=>none))=some y:=e
  have go:∀ (M0:Mp) (a d:Nat) (o:cK),look M0 i=some (a,d)→a≠b_→st.obj a=some o→xK st s M0 d o (fun M=>nL st l M f)=some y→
    ∃ M',Sub M0 M'∧(jn M0→jn M')∧f M'=some (dJ nm vr ((i,s)::l) y).2∧(∀ p∈(i,s)::l,∃ a d,look M' p.1=some (a,d)∧(a=b_∨st.obj a≠none))∧
     ∀ g' U',Cons st nm vr M' g g' U'→∀ id o,look (dJ nm vr ((i,s)::l) y).1 id=some (some o)→U' (id / 1024)∧dQ g' w U' id o:=by
   intro M0 a d o hM av aY e
   obtain ⟨M1,h1,h2,h3,h4⟩:=RW (nm:=nm) (vr:=vr) hO aY av s M0 _ y hM e
   obtain ⟨M2,k1,k2,k3,k4,k5⟩:=AN hO l M1 f _ h3
   refine ⟨M2,h1.trans k1,fun h=>k2 (h2 h),k3,?_,fun g' U' C id o' h=>?_⟩
   ·intro p hp
    rcases List.mem_cons.1 hp with rfl | hp
    ·exact ⟨a,d,k1 _ _ (h1 _ _ hM),.inr (by rw [aY]; simp)⟩
    ·exact k4 p hp
   ·replace h:look ((nm i,some (kV nm vr s y).1)::(dJ nm vr l (kV nm vr s y).2).1) id=some (some o'):=h
    rw [cT] at h
    split at h
    ·rename_i he
     subst he
     simp only [Option.some.injEq] at h
     subst h
     exact ⟨(C.name _ _ _ (k1 _ _ (h1 _ _ hM))).1,h4 g' U' (C.mono k1)⟩
    ·exact k5 g' U' C id o' h
  split at e
  ·rename_i ad hM
   obtain ⟨aid,d⟩:=ad
   simp only at e
   split at e
   ·rename_i hn
    obtain rfl:=Nat.eq_of_beq_eq_true hn
    cases s with
    | cells ro l'=>exact absurd (show none=some _ from e) (by simp)
    | row own t=>
     cases hz:nL st l M f with
     | none=>rw [hz] at e; exact absurd (show none=some _ from e) (by simp)
     | some z=>
      rw [hz] at e
      replace e:some (([]:List t.T),z)=some y:=e
      obtain rfl:=Option.some.inj e
      obtain ⟨M2,k1,k2,k3,k4,k5⟩:=AN hO l M f z hz
      refine ⟨M2,k1,k2,k3,?_,fun g' U' C id o' h=>?_⟩
      ·intro p hp
       rcases List.mem_cons.1 hp with rfl | hp
       ·exact ⟨_,_,k1 _ _ hM,.inl rfl⟩
       ·exact k4 p hp
      ·replace h:look ((nm i,some (.row own t vr ([]:List t.T)))::(dJ nm vr l z).1) id=some (some o'):=h
       rw [cT] at h
       split at h
       ·rename_i he
        subst he
        simp only [Option.some.injEq] at h
        subst h
        obtain ⟨c1,c2⟩:=C.name _ _ _ (k1 _ _ hM)
        refine ⟨c1,C.u0,C.uv,?_⟩
        unfold dC
        rw [c2]
        exact ⟨rfl,Nat.le_refl _,fun _=>rfl,fun b o hb=>by simp [cZ,c8] at hb⟩
       ·exact k5 g' U' C id o' h
   ·rename_i hn
    have av:aid≠b_:=fun h=>by subst h; simp at hn
    split at e
    ·rename_i o aY
     exact go M aid d o hM av aY e
    ·simp at e
  ·rename_i hM
   cases hb:i_ M i (i*1024) 0 with
   | none=>rw [hb] at e; exact absurd (show none=some _ from e) (by simp)
   | some M0=>cases aY:st.obj (i*1024) with
    | none=>rw [hb,aY] at e; exact absurd (show none=some _ from e) (by simp)
    | some o=>
     rw [hb,aY] at e
     obtain ⟨b1,b2,b3,b4⟩:=ud hb
     obtain ⟨M2,k1,k2,k3⟩:=go M0 _ 0 o b2 b3 aY e
     exact ⟨M2,b1.trans k1,fun h=>k2 (b4 h),k3⟩
structure Fit (la:LA) (st:St) (h:List Nat) (M:Mp):Prop where
 inj:jn M
 par:∀ k a d,look M k=some (a,d)→k<1000→k<19∧a=k*1024∧d=0
 mem:∀ k a d,look M k=some (a,d)→∃ q∈la.aE,q.1=k
 held:∀ k a d,look M k=some (a,d)→a∉h
 ex:∀ k a d,look M k=some (a,d)→a=b_∨st.obj a≠none
 all:∀ p∈la.aE,∃ a d,look M p.1=some (a,d)
theorem any_beq {l:List Nat} {a:Nat} : l.any (Nat.beq a)=true↔a∈l:=by
 rw [List.any_eq_true]
 constructor
 ·rintro ⟨x,h1,h2⟩; rw [Nat.eq_of_beq_eq_true h2]; exact h1
 ·intro h; exact ⟨a,h,by simp⟩
theorem RY (hO:dR g w U st) (hE:∀ t v,look st.env t=some v→ay g w U v (a.eval (.tmp t))) {la:LA} {head:St} {y:la.LT} (e:la.read head st=some y) :
  ∃ M,Fit la st (la.held head) M∧∀ g' U',Cons st nm vr M g g' U'→
   (∀ t v,look (cf nm vr la.bO y).1 t=some v→ay g' w U' v (a.eval (.tmp t)))∧
   (∀ id o,look (dJ nm vr la.aE (cf nm vr la.bO y).2).1 id=some (some o)→U' (id / 1024)∧dQ g' w U' id o):=by
 obtain ⟨M1,h1,h2,h3,h4⟩:=Df (nm:=nm) (vr:=vr) hO hE la.bO [] _ y e
 obtain ⟨M2,k1,k2,k3,k4,k5⟩:=AN (nm:=nm) (vr:=vr) hO la.aE M1 _ _ h3
 unfold LA.fit at k3
 split at k3
 ·rename_i hf
  have hf:=List.all_eq_true.1 hf
  have i0:jn []:=fun _ _ _ _ _ h=>by simp [look] at h
  refine ⟨M2,⟨k2 (h2 i0),fun k a d hk ao=>?_,fun k a d hk=>?_,fun k a d hk=>?_,fun k a d hk=>?_,fun p hp=>?_⟩,fun g' U' C=>⟨h4 g' U' (C.mono k1),k5 g' U' C⟩⟩
  ·have:=hf _ (iN hk)
   simp only [Bool.and_eq_true] at this
   have h1:=this.1.1
   have hb:Nat.blt k 1000=true:=by simpa using ao
   rw [hb] at h1
   simp only [Bool.and_eq_true,Nat.beq_eq] at h1
   refine ⟨?_,h1.1.2,h1.2⟩
   have:=h1.1.1
   simpa [Nat.blt_eq] using this
  ·have:=hf _ (iN hk)
   simp only [Bool.and_eq_true] at this
   obtain ⟨q,h1,h2⟩:=List.any_eq_true.1 this.1.2
   exact ⟨q,h1,Nat.eq_of_beq_eq_true h2⟩
  ·have:=hf _ (iN hk)
   simp only [Bool.and_eq_true] at this
   have h1:=this.2
   intro hm
   rw [any_beq.2 hm] at h1
   simp at h1
  ·have:=hf _ (iN hk)
   simp only [Bool.and_eq_true] at this
   obtain ⟨q,h1,h2⟩:=List.any_eq_true.1 this.1.2
   obtain ⟨a',d',h3,h4⟩:=k4 q h1
   rw [Nat.eq_of_beq_eq_true h2,hk] at h3
   simp only [Option.some.injEq,Prod.mk.injEq] at h3
   rw [h3.1]; exact h4
  ·obtain ⟨a',d',h3,h4⟩:=k4 p hp
   exact ⟨a',d',h3⟩
 ·simp at k3
theorem wL (nx k:Nat):bE nx k / 1024=if k<1000 then k else nx+(k-1000):=by
 unfold bE
 by_cases h:k<1000
 ·have:Nat.blt k 1000=true:=by simpa using h
  rw [this,if_pos h]; simp only; exact Nat.mul_div_cancel _ (by omega)
 ·have:Nat.blt k 1000=false:=by rw [← Bool.not_eq_true]; intro hh; exact h (by simpa using hh)
  rw [this,if_neg h]; simp only; exact Nat.mul_div_cancel _ (by omega)
theorem FQ {nx k:Nat} (h:k<1000):bE nx k=k*1024:=by
 unfold bE
 have:Nat.blt k 1000=true:=by simpa using h
 rw [this]
theorem Kt {nx k l:Nat} (hn:20≤nx) (hk:k<1000→k<19) (hl:l<1000→l<19) (h:bE nx k=bE nx l):k=l:=by
 have e:bE nx k / 1024=bE nx l / 1024:=by rw [h]
 rw [wL,wL] at e
 split at e<;>split at e<;>omega
open Classical in
noncomputable def kg (st:St) (nx:Nat) (M:Mp) (g:Gh):Gh where
 hd id ver p:=if h:ver=0∧∃ q:Nat×Nat×Nat,look M q.1=some q.2∧id=bE nx q.1 then
   (if p=[] then cZ g h.2.choose.2.1 h.2.choose.2.2 else if h.2.choose.2.2=0 then g.hd h.2.choose.2.1 (nd st h.2.choose.2.1) p else c8)
  else g.hd id ver p
 lab b o:=match g.lab b o with
  | none=>none
  | some (id,p)=>if h:∃ k d,look M k=some (id,d)∧id≠b_ then some (bE nx h.choose,p) else some (id,p)
section
variable {M:Mp} {la:LA} {h:List Nat}
theorem FR (F:Fit la st h M) (hn:20≤nx) {k a d:Nat} (hk:look M k=some (a,d)) (p:Path) :
  (kg st nx M g).hd (bE nx k) 0 p=if p=[] then cZ g a d else if d=0 then g.hd a (nd st a) p else c8:=by
 have hex:(0:Nat)=0∧∃ q:Nat×Nat×Nat,look M q.1=some q.2∧bE nx k=bE nx q.1:=⟨rfl,(k,a,d),hk,rfl⟩
 simp only [kg,dif_pos hex]
 have hs:=hex.2.choose_spec
 have e:hex.2.choose=(k,a,d):=by
  generalize hex.2.choose=q at hs
  obtain ⟨k',a',d'⟩:=q
  have e:=Kt hn (fun hl=>(F.par _ _ _ hk hl).1) (fun hl=>(F.par _ _ _ hs.1 hl).1) hs.2
  subst e
  have h1:=hs.1
  simp only [hk,Option.some.injEq] at h1
  rw [h1]
 rw [e]
theorem Ku {id ver:Nat} (av:∀ k a d,look M k=some (a,d)→id≠bE nx k) (p:Path):(kg st nx M g).hd id ver p=g.hd id ver p:=by
 simp only [kg]
 rw [dif_neg]
 rintro ⟨-,⟨k,a,d⟩,h1,h2⟩
 exact av k a d h1 h2
theorem Kv {b o:Nat} (hl:g.lab b o=none):(kg st nx M g).lab b o=none:=by simp [kg,hl]
theorem RZ (F:Fit la st h M) {k a d b o:Nat} {p:Path} (hk:look M k=some (a,d)) (av:a≠b_) (hl:g.lab b o=some (a,p)):(kg st nx M g).lab b o=some (bE nx k,p):=by
 have hex:∃ k d,look M k=some (a,d)∧a≠b_:=⟨k,d,hk,av⟩
 simp only [kg,hl,dif_pos hex]
 obtain ⟨d',h1,h2⟩:=hex.choose_spec
 rw [F.inj _ _ _ _ _ h1 hk av]
theorem Kw {b o id:Nat} {p:Path} (hl:g.lab b o=some (id,p)) (kf:∀ k d,look M k=some (id,d)→id=b_):(kg st nx M g).lab b o=some (id,p):=by
 simp only [kg,hl]
 rw [dif_neg]
 rintro ⟨k,d,h1,h2⟩
 exact h2 (kf k d h1)
theorem Kx {b o:Nat} {id:Nat} {p:Path} (hl:(kg st nx M g).lab b o=some (id,p)) :
  g.lab b o=some (id,p)∨∃ k a d,look M k=some (a,d)∧a≠b_∧g.lab b o=some (a,p)∧id=bE nx k:=by
 simp only [kg] at hl
 split at hl
 ·simp at hl
 ·rename_i aq p' he
  split at hl
  ·rename_i hex
   simp only [Option.some.injEq,Prod.mk.injEq] at hl
   obtain ⟨d,h1,h2⟩:=hex.choose_spec
   exact .inr ⟨_,aq,d,h1,h2,by rw [he,hl.2],hl.1.symm⟩
  ·exact .inl (by rw [he]; exact hl)
theorem R_ (F:Fit la st h M) (hn:20≤nx) {U':Nat→Prop} (h0:U' 0) (hU:∀ k a d,look M k=some (a,d)→U' (bE nx k / 1024)):Cons st (bE nx) 0 M g (kg st nx M g) U':=
 ⟨fun k a d hk=>⟨hU k a d hk,by rw [FR F hn hk,if_pos rfl]⟩,h0,h0,fun b o hl=>Kv hl,fun k a d b o p hk av hl=>RZ F hk av hl,
  fun k a d q hk hq=>by rw [FR F hn hk,if_neg hq]⟩
end
end
end Go.Am
namespace Go.Am
open Go
section
variable {g0 g g':Gh} {w0 w:World} {U0 U U':Nat→Prop}
theorem Dg {id ver:Nat} (h0:∀ p,g'.hd id 0 p=g.hd id 0 p) (h1:∀ p,g'.hd id ver p=g.hd id ver p):∀ (q pre:Path),iu g id ver pre q→iu g' id ver pre q
 | [],_,_=>trivial
 | (i,j)::q,pre,h=>by
  refine ⟨?_,Dg h0 h1 q _ h.2⟩
  have:g'.hd id (ir pre ver) pre=g.hd id (ir pre ver) pre:=by cases pre with | nil=>exact h0 _ | cons=>exact h1 _
  rw [this]
  exact h.1
mutual
theorem Dh (dE:∀ s,U0 s→U' s) (gm:∀ b o,g.lab b o=none→g'.lab b o=none):∀ (v:af),(∀ id∈v.ids,∀ ver p,U0 (id / 1024)→U0 ver→g'.hd id ver p=g.hd id ver p)→
  ∀ x0 x,ay g0 w0 U0 v x0→ay g w U v x→ay g' w U' v x
 | .undef,_,_,_,_,_=>trivial
 | .int _ _,_,_,_,_,h=>h
 | .bool _,_,_,_,_,h=>h
 | .str _,_,_,_,_,h=>h
 | .err _,_,_,_,_,h=>h
 | .agg cs,hi,_,_,h0,h=>let ⟨l0,_,r0⟩:=h0; let ⟨l,e,r⟩:=h; ⟨l,e,Di dE gm cs hi l0 l r0 r⟩
 | .fb cs,hi,_,_,h0,h=>let ⟨l0,_,r0⟩:=h0; let ⟨l,e,r⟩:=h; ⟨l,e,Di dE gm cs hi l0 l r0 r⟩
 | .nil,_,_,_,_,h=>h
 | .sh t _,_,_,_,_,h=>fK (eF (fun b o hl v hv=>⟨hv,gm b o hl⟩) t) h
 | .cu t _,_,_,_,_,h=>⟨fK (eF (fun b o hl v hv=>⟨hv,gm b o hl⟩) t) h.1,h.2⟩
 | .eE t x _,_,_,_,_,h=>let ⟨b,o,e,r⟩:=h; ⟨b,o,e,eF (fun b o hl v hv=>⟨hv,gm b o hl⟩) t x b o r⟩
 | .own id ver p _,hi,_,_,h0,h=>by
  obtain ⟨a1,a2,a3,-⟩:=h0
  obtain ⟨h1,h2,h0,hp,h3,h4⟩:=h
  have e0:=fun p=>hi id (by simp [af.ids]) 0 p a1 a3
  have e1:=fun p=>hi id (by simp [af.ids]) ver p a1 a2
  exact ⟨dE _ a1,dE _ a2,dE _ a3,Dg e0 e1 _ _ hp,h3,by rw [e1]; exact h4⟩
 | .dV id ver p t off len,hi,_,_,h0,h=>by
  obtain ⟨a1,a2,a3,-⟩:=h0
  obtain ⟨h1,h2,h0,hp,h3,h4⟩:=h
  have e0:=fun p=>hi id (by simp [af.ids]) 0 p a1 a3
  have e1:=fun p=>hi id (by simp [af.ids]) ver p a1 a2
  exact ⟨dE _ a1,dE _ a2,dE _ a3,Dg e0 e1 _ _ hp,h3,by rw [e1]; exact h4⟩
 | .dI id ver p t i j,hi,_,_,h0,h=>by
  obtain ⟨a1,a2,a3,-⟩:=h0
  obtain ⟨h1,h2,h0,hp,h3,h4⟩:=h
  have e0:=fun p=>hi id (by simp [af.ids]) 0 p a1 a3
  have e1:=fun p=>hi id (by simp [af.ids]) ver p a1 a2
  exact ⟨dE _ a1,dE _ a2,dE _ a3,Dg e0 e1 _ _ hp,h3,by rw [e1]; exact h4⟩
 | .aJ id j,hi,_,_,h0,h=>by
  obtain ⟨a1,a3,-⟩:=h0
  obtain ⟨h1,h2,h3⟩:=h
  exact ⟨dE _ a1,dE _ a3,by rw [hi id (by simp [af.ids]) 0 _ a1 a3]; exact h3⟩
 | .dW id off len sz,hi,_,_,h0,h=>by
  obtain ⟨a1,a3,-⟩:=h0
  obtain ⟨h1,h2,h3⟩:=h
  exact ⟨dE _ a1,dE _ a3,by rw [hi id (by simp [af.ids]) 0 _ a1 a3]; exact h3⟩
 | .fn _ cs,hi,_,_,h0,h=>let ⟨l0,_,r0⟩:=h0; let ⟨l,e,r⟩:=h; ⟨l,e,Di dE gm cs hi l0 l r0 r⟩
 | .oX,_,_,_,_,h=>h
 | .pZ,_,_,_,_,h=>h
theorem Di (dE:∀ s,U0 s→U' s) (gm:∀ b o,g.lab b o=none→g'.lab b o=none):∀ (vs:List af),(∀ id∈af.ids.fw vs,∀ ver p,U0 (id / 1024)→U0 ver→g'.hd id ver p=g.hd id ver p)→
  ∀ l0 l,bK g0 w0 U0 vs l0→bK g w U vs l→bK g' w U' vs l
 | [],_,_,_,_,h=>h
 | v::vs,hi,_,_,h0,h=>by
  obtain ⟨x0,r0,-,a0,b0⟩:=h0
  obtain ⟨x,r,e,a,b⟩:=h
  exact ⟨x,r,e,Dh dE gm v (fun id h=>hi id (by simp [af.ids.fw,h])) x0 x a0 a,Di dE gm vs (fun id h=>hi id (by simp [af.ids.fw,h])) r0 r b0 b⟩
end
theorem R3 (dE:∀ s,U0 s→U' s) (gm:∀ b o,g.lab b o=none→g'.lab b o=none) {id:Nat} (hu:U0 (id / 1024)) (cJ:∀ ver p,U0 ver→g'.hd id ver p=g.hd id ver p)
  (cn:∀ b o p,g.lab b o=some (id,p)→g'.lab b o=some (id,p)) {ob:cK} (hb:∀ t vr xs i j,ob≠.kS t vr xs i j)
  (hi:∀ ro cs,ob = .cells ro cs→∀ id∈af.ids.fw cs,∀ ver p,U0 (id / 1024)→U0 ver→g'.hd id ver p=g.hd id ver p)
  (h0:dQ g0 w0 U0 id ob) (h:dQ g w U id ob):dQ g' w U' id ob:=by
 cases ob with
 | cells ro cs=>
  obtain ⟨a0,b0,o0,hh0,qo⟩:=h0
  obtain ⟨a1,b,o,hh,hc⟩:=h
  refine ⟨dE _ a0,b,o,by rw [cJ _ _ a0]; exact hh,fun k hk=>?_⟩
  obtain ⟨-,-,v0,-,r0⟩:=qo k hk
  obtain ⟨c1,c2,v,c3,r⟩:=hc k hk
  refine ⟨cn _ _ _ c1,c2,v,c3,Dh dE gm _ (fun aq hid=>hi ro cs rfl aq ?_) v0 v r0 r⟩
  clear hc qo hi c1 c2 c3 r r0
  induction cs generalizing k with
  | nil=>simp at hk
  | cons c cs ih=>
   cases k with
   | zero=>simp only [List.getElem_cons_zero] at hid; simp [af.ids.fw,hid]
   | succ k=>
    simp only [List.getElem_cons_succ] at hid
    simp only [af.ids.fw,List.mem_append]
    refine .inr ?_
    have bL:k<cs.length:=by simpa using hk
    exact Ky cs k bL hid
 | row own t vr xs=>
  exact ⟨dE _ h0.1,dE _ h0.2.1,Dd (cJ _ _ h0.1) (fun q _=>cJ _ _ h0.2.1) cn gm h.2.2⟩
 | kS t vr xs i j=>exact absurd rfl (hb t vr xs i j)
 where Ky:∀ (cs:List af) (k:Nat) (hk:k<cs.length) {id:Nat},id∈cs[k].ids→id∈af.ids.fw cs
 | [],k,hk,_,h=>by simp at hk
 | c::cs,0,hk,_,h=>by simp only [List.getElem_cons_zero] at h; simp [af.ids.fw,h]
 | c::cs,k+1,hk,_,h=>by
  simp only [List.getElem_cons_succ] at h
  simp only [af.ids.fw,List.mem_append]
  exact .inr (Ky cs k (by simpa using hk) h)
end
structure Ext (g:Gh) (U:Nat→Prop) (st:St) (g':Gh) (U':Nat→Prop) (st':St):Prop where
 sub:∀ s,U s→U' s
 nxt:st.nxt≤st'.nxt
 env:∃ l,st'.et=l++st.et∧∀ t,t∉l→look st'.env t=none∨look st'.env t=look st.env t
 obj:∃ l,st'.ht=l++st.ht∧∀ id,id∉l→st'.obj id=none∨(st'.obj id=st.obj id∧∀ ver p,U (id / 1024)→U ver→g'.hd id ver p=g.hd id ver p)
 par:∀ n,n / 1024<19→U (n / 1024)→g'.hd n 0 []=g.hd n 0 []
theorem Ext.refl (g:Gh) (U:Nat→Prop) (st:St):Ext g U st g U st:=
 ⟨fun _ h=>h,Nat.le_refl _,⟨[],rfl,fun _ _=>.inr rfl⟩,⟨[],rfl,fun _ _=>.inr ⟨rfl,fun _ _ _ _=>rfl⟩⟩,fun _ _ _=>rfl⟩
theorem Ext.trans {g1 g2 g3:Gh} {U1 U2 U3:Nat→Prop} {s1 s2 s3:St} (h:Ext g1 U1 s1 g2 U2 s2) (h':Ext g2 U2 s2 g3 U3 s3):Ext g1 U1 s1 g3 U3 s3:=by
 obtain ⟨l,e1,e2⟩:=h.env
 obtain ⟨l',e3,e4⟩:=h'.env
 obtain ⟨m,o1,o2⟩:=h.obj
 obtain ⟨m',o3,o4⟩:=h'.obj
 refine ⟨fun s hs=>h'.sub s (h.sub s hs),Nat.le_trans h.nxt h'.nxt,⟨l'++l,by rw [e3,e1,List.append_assoc],fun t ht=>?_⟩,⟨m'++m,by rw [o3,o1,List.append_assoc],fun id hid=>?_⟩,
  fun i h1 h2=>by rw [h'.par i h1 (h.sub _ h2),h.par i h1 h2]⟩
 ·simp only [List.mem_append,not_or] at ht
  rcases e4 t ht.1 with h1 | h1
  ·exact .inl h1
  ·rcases e2 t ht.2 with h2 | h2
   ·exact .inl (by rw [h1,h2])
   ·exact .inr (by rw [h1,h2])
 ·simp only [List.mem_append,not_or] at hid
  rcases o4 id hid.1 with h1 | ⟨h1,h3⟩
  ·exact .inl h1
  ·rcases o2 id hid.2 with h2 | ⟨h2,h4⟩
   ·exact .inl (by rw [h1,h2])
   ·exact .inr ⟨by rw [h1,h2],fun ver p a1 a2=>by rw [h3 ver p (h.sub _ a1) (h.sub _ a2),h4 ver p a1 a2]⟩
theorem AO {α:Type} : ∀ {l:List (Nat×α)} {k:Nat},k∉l.map (·.1)→look l k=none
 | [],_,_=>rfl
 | (a,b)::l,k,h=>by
  simp only [List.map_cons,List.mem_cons,not_or] at h
  rw [cT,if_neg (fun e=>h.1 e.symm)]
  exact AO h.2
theorem Ext.put {g g':Gh} {U U':Nat→Prop} {st:St} {w w':World} {e:bR} {v:Value} (d:Option Nat) (Q:cR g w U st.nxt e v w' g' U') (gK:U 0):Ext g U st g' U' (st.put d e):=by
 refine ⟨Q.gh.sub,Nat.le_succ _,⟨match d with | some x=>[x] | none=>[],by cases d<;>rfl,fun t ht=>?_⟩,⟨e.aE.map (·.1),rfl,fun id hid=>.inr ⟨?_,fun ver p a1 a2=>Q.gh.hd _ _ _ a1 a2⟩⟩,
  fun i h1 h2=>Q.gh.hd _ _ _ h2 gK⟩
 ·cases d with
  | none=>exact .inr rfl
  | some x=>
   simp only [List.mem_singleton] at ht
   refine .inr ?_
   simp only [St.put]
   rw [cT,if_neg (fun e=>ht e.symm)]
 ·unfold St.obj St.put
  simp only [fV,AO hid]
theorem Ext.wK {g:Gh} {U:Nat→Prop} {st:St} {d:Nat} {x:af} : Ext g U st g U (st.put (some d) ⟨x,[]⟩):=by
 refine ⟨fun _ h=>h,Nat.le_succ _,⟨[d],rfl,fun t ht=>?_⟩,⟨[],rfl,fun id hid=>.inr ⟨rfl,fun _ _ _ _=>rfl⟩⟩,fun _ _ _=>rfl⟩
 simp only [List.mem_singleton] at ht
 refine .inr ?_
 simp only [St.put]
 rw [cT,if_neg (fun e=>ht e.symm)]
structure ue (la:LA) (g0:Gh) (U0:Nat→Prop) (st0:St) (g:Gh) (st:St):Prop where
 env:∀ i∈la.fH,∀ v,look st0.env i=some v→look st.env i=some v
 obj:∀ id∈la.held st0,∀ o,st0.obj id=some o→st.obj id=some o
 AP:∀ id∈la.held st0,∀ ver p,U0 (id / 1024)→U0 ver→g.hd id ver p=g0.hd id ver p
 par:∀ n,n / 1024<19→U0 (n / 1024)→g.hd n 0 []=g0.hd n 0 []
theorem ue.refl (la:LA) (g:Gh) (U:Nat→Prop) (st:St):ue la g U st g st:=⟨fun _ _ _ h=>h,fun _ _ _ h=>h,fun _ _ _ _ _ _=>rfl,fun _ _ _=>rfl⟩
theorem FU {names:List Nat} : ∀ (l m:List Nat),front names l.length (l++m)=true→∀ i∈names,i∉l
 | [],m,h,i,hi=>by simp
 | x::l,m,h,i,hi=>by
  simp only [List.length_cons,List.cons_append,front,Bool.and_eq_true] at h
  simp only [List.mem_cons,not_or]
  refine ⟨fun e=>?_,FU l m h.2 i hi⟩
  subst e
  have:=h.1
  rw [any_beq.2 hi] at this
  simp at this
theorem ue.of {la:LA} {g0 g1 g:Gh} {U0 U1 U:Nat→Prop} {st0 head st:St} (E1:Ext g0 U0 st0 g1 U1 head) (E2:Ext g1 U1 head g U st)
  (he:∀ i∈la.fH,look head.env i=none∨look head.env i=look st0.env i)
  (ho:∀ id∈la.held st0,head.obj id=none∨(head.obj id=st0.obj id∧∀ ver p,U0 (id / 1024)→U0 ver→g1.hd id ver p=g0.hd id ver p))
  (hh:la.held head=la.held st0) (K:la.kept head st=true):ue la g0 U0 st0 g st:=by
 unfold LA.kept at K
 simp only [Bool.and_eq_true] at K
 obtain ⟨⟨⟨k1,k2⟩,k3⟩,k4⟩:=K
 obtain ⟨l,e1,e2⟩:=E2.env
 obtain ⟨m,o1,o2⟩:=E2.obj
 have n1:st.et.length-head.et.length=l.length:=by rw [e1]; simp
 have n2:st.ht.length-head.ht.length=m.length:=by rw [o1]; simp
 rw [n1,e1] at k1
 rw [n2,o1,hh] at k2
 rw [hh] at k4
 have f1:=FU _ _ k1
 have f2:=FU _ _ k2
 refine ⟨fun i hi v hv=>?_,fun id hid o aY=>?_,fun id hid ver p u1 u2=>?_,fun i h1 h2=>by rw [E2.par i h1 (E1.sub _ h2),E1.par i h1 h2]⟩
 ·have hs:=List.all_eq_true.1 k3 i hi
  rcases e2 i (f1 i hi) with h1 | h1
  ·rw [h1] at hs; simp at hs
  ·rcases he i hi with h2 | h2
   ·rw [h1,h2] at hs; simp at hs
   ·rw [h1,h2,hv]
 ·have hs:=List.all_eq_true.1 k4 id hid
  rcases o2 id (f2 id hid) with h1 | ⟨h1,h3⟩
  ·rw [h1] at hs; simp at hs
  ·rcases ho id hid with h2 | ⟨h2,h4⟩
   ·rw [h1,h2] at hs; simp at hs
   ·rw [h1,h2,aY]
 ·have hs:=List.all_eq_true.1 k4 id hid
  rcases o2 id (f2 id hid) with h1 | ⟨h1,h3⟩
  ·rw [h1] at hs; simp at hs
  ·rcases ho id hid with h2 | ⟨h2,h4⟩
   ·rw [h1,h2] at hs; simp at hs
   ·rw [h3 ver p (E1.sub _ u1) (E1.sub _ u2),h4 ver p u1 u2]
end Go.Am
namespace Go.Am
open Go
theorem yI {st:St} : ∀ (l:List Nat) (t:Nat),look (gg st l) t=if t∈l then look st.env t else none
 | [],t=>by simp [gg,look]
 | i::l,t=>by
  simp only [gg]
  cases h:look st.env i with
  | none=>
   simp only
   rw [yI l t]
   by_cases ht:t=i
   ·subst ht; simp [h]
   ·simp [ht]
  | some v=>
   simp only
   rw [cT,yI l t]
   by_cases ht:i=t
   ·subst ht; simp [h]
   ·rw [if_neg ht]
    have lf:¬ t=i:=fun e=>ht e.symm
    simp [lf]
theorem wM {st:St} : ∀ (l:List Nat) (id:Nat),(match look (rA st l) id with | some (some o)=>some o | _=>none)=if id∈l then st.obj id else none
 | [],id=>by simp [rA,look]
 | i::l,id=>by
  simp only [rA]
  have ih:=wM (st:=st) l id
  cases h:st.obj i with
  | none=>
   simp only
   rw [ih]
   by_cases ht:id=i
   ·subst ht; simp [h]
   ·simp [ht]
  | some v=>
   simp only
   rw [cT]
   by_cases ht:i=id
   ·subst ht; simp [h]
   ·rw [if_neg ht,ih]
    have lf:¬ id=i:=fun e=>ht e.symm
    simp [lf]
theorem R4 {l:List (Nat×af)} {t:Nat} {v:af} (h:(t,v)∈l):∀ id∈v.ids,id∈p6 l:=by
 induction l with
 | nil=>simp at h
 | cons a l ih=>
  intro id hid
  obtain ⟨k,u⟩:=a
  simp only [p6,List.mem_append]
  rcases List.mem_cons.1 h with e | e
  ·simp only [Prod.mk.injEq] at e; obtain ⟨rfl,rfl⟩:=e; exact .inl hid
  ·exact .inr (ih e id hid)
theorem R5 {st:St} {l:List Nat} {t:Nat} {v:af} (ht:t∈l) (h:look st.env t=some v):(t,v)∈gg st l:=by
 induction l with
 | nil=>simp at ht
 | cons a l ih=>
  simp only [gg]
  rcases List.mem_cons.1 ht with e | e
  ·subst e; rw [h]; simp
  ·cases h':look st.env a with
   | none=>exact ih e
   | some x=>exact List.mem_cons_of_mem _ (ih e)
theorem R6 {st:St} {l:List Nat} {id:Nat} {ro:List Bool} {cs:List af} (hid:id∈l) (h:st.obj id=some (.cells ro cs)):∀ x∈af.ids.fw cs,x∈j6 st l:=by
 induction l with
 | nil=>simp at hid
 | cons a l ih=>
  intro x hx
  simp only [j6,List.mem_append]
  rcases List.mem_cons.1 hid with e | e
  ·subst e; rw [h]; exact .inl hx
  ·exact .inr (ih e x hx)
theorem FV {st st':St} : ∀ (l:List Nat),(∀ i∈l,st'.obj i=st.obj i)→j6 st' l=j6 st l
 | [],_=>rfl
 | i::l,h=>by simp only [j6,h i (by simp),FV l (fun j hj=>h j (by simp [hj]))]
theorem Kz {st st':St} : ∀ (l:List Nat),(∀ i∈l,look st'.env i=look st.env i)→gg st' l=gg st l
 | [],_=>rfl
 | i::l,h=>by simp only [gg,h i (by simp),Kz l (fun j hj=>h j (by simp [hj]))]
structure sc (la:LA) (st:St):Prop where
 new:∀ p∈la.aE,bE st.nxt p.1∉la.held st
 lt:∀ p∈la.aE,p.1<1000+la.aE.length
 fH:∀ i∈la.fH,∀ p∈la.bO,p.1≠i
 sd:∀ i∈j6 st (la.held st),i∈la.held st
 kS:∀ i∈la.held st,∀ t vr xs a b,st.obj i≠some (.kS t vr xs a b)
theorem Dj {la:LA} {st:St} (h:la.apart st=true):sc la st:=by
 unfold LA.apart at h
 simp only [Bool.and_eq_true] at h
 obtain ⟨⟨⟨⟨⟨h1,h2⟩,h3⟩,h4⟩,h5⟩,h6⟩:=h
 refine ⟨fun p hp hm=>?_,fun p hp=>?_,fun i hi p hp e=>?_,fun i hi=>?_,fun i hi t vr xs a b e=>?_⟩
 ·have:=List.all_eq_true.1 h2 p hp
  rw [any_beq.2 hm] at this
  simp at this
 ·have:=List.all_eq_true.1 h3 p hp
  simpa [Nat.blt_eq] using this
 ·have:=List.all_eq_true.1 h4 i hi
  have hx:(la.bO.any fun p=>Nat.beq p.1 i)=true:=List.any_eq_true.2 ⟨p,hp,by rw [e]; simp⟩
  rw [hx] at this
  simp at this
 ·exact any_beq.1 (List.all_eq_true.1 h5 i hi)
 ·have:=List.all_eq_true.1 h6 i hi
  rw [e] at this
  simp at this
section
variable {w0:World} {F:bt} {N:Nat} {g0 g g':Gh} {w w1:World} {U0 U U':Nat→Prop} {st0 head st:St} {a a0:Act} {la:LA}
theorem FW (x:la.LT) (t:Nat):look (la.mk' st0 x).env t=match look (cf (bE st0.nxt) 0 la.bO x).1 t with | some v=>some v | none=>if t∈la.fH then look st0.env t else none:=by
 show look ((cf (bE st0.nxt) 0 la.bO x).1++gg st0 la.fH) t=_
 rw [fV,yI]
 cases look (cf (bE st0.nxt) 0 la.bO x).1 t<;>rfl
theorem Dk (x:la.LT) (id:Nat):(la.mk' st0 x).obj id=match look (dJ (bE st0.nxt) 0 la.aE (cf (bE st0.nxt) 0 la.bO x).2).1 id with
  | some o=>o
  | none=>if id∈la.held st0 then st0.obj id else none:=by
 show (match look ((dJ (bE st0.nxt) 0 la.aE (cf (bE st0.nxt) 0 la.bO x).2).1++rA st0 (la.held st0)) id with | some (some o)=>some o | _=>none)=_
 rw [fV,← wM]
 cases h:look (dJ (bE st0.nxt) 0 la.aE (cf (bE st0.nxt) 0 la.bO x).2).1 id with
 | none=>rfl
 | some o=>cases o<;>rfl
theorem KA (A:sc la st0) (x:la.LT) {i:Nat} (hi:i∈la.fH):look (la.mk' st0 x).env i=look st0.env i:=by
 rw [FW,FP _ _ _ (fun p hp=>A.fH i hi p hp)]
 simp [hi]
theorem KB (A:sc la st0) (x:la.LT) {id:Nat} (hid:id∈la.held st0):(la.mk' st0 x).obj id=st0.obj id:=by
 rw [Dk]
 cases h:look (dJ (bE st0.nxt) 0 la.aE (cf (bE st0.nxt) 0 la.bO x).2).1 id with
 | none=>simp [hid]
 | some o=>
  obtain ⟨p,hp,e,-⟩:=yH _ _ _ _ h
  exact absurd (e▸hid) (A.new p hp)
theorem KC (A:sc la st0) (x:la.LT):la.held (la.mk' st0 x)=la.held st0:=by
 have e1:gg (la.mk' st0 x) la.fH=gg st0 la.fH:=Kz _ (fun i hi=>KA A x hi)
 have dE:∀ i,i∈p6 (gg st0 la.fH)++la.vT.map (· * 1024)→i∈la.held st0:=by
  intro i hi
  unfold LA.held
  exact List.mem_append_left _ (List.mem_append_left _ hi)
 have e2:=FV (st:=st0) (st':=la.mk' st0 x) (p6 (gg st0 la.fH)++la.vT.map (· * 1024)) (fun i hi=>KB A x (dE i hi))
 have R7:∀ i,i∈(p6 (gg st0 la.fH)++la.vT.map (· * 1024))++j6 st0 (p6 (gg st0 la.fH)++la.vT.map (· * 1024))→i∈la.held st0:=by
  intro i hi
  unfold LA.held
  exact List.mem_append_left _ hi
 have e3:=FV (st:=st0) (st':=la.mk' st0 x) ((p6 (gg st0 la.fH)++la.vT.map (· * 1024))++j6 st0 (p6 (gg st0 la.fH)++la.vT.map (· * 1024))) (fun i hi=>KB A x (R7 i hi))
 unfold LA.held
 simp only [e1,e2,e3]
theorem AQ (R0:Rel w0 F N g0 U0 st0 a0 w1) (A:sc la st0) (R:Rel w0 F N g U st a w) (K:ue la g0 U0 st0 g st) (hh:la.held head=la.held st0) {y:la.LT} (e:la.read head st=some y) :
  ∃ g' U',Rel w0 F N g' U' (la.mk' st0 y) a w∧Ext g0 U0 st0 g' U' (la.mk' st0 y):=by
 obtain ⟨M,FT,hr⟩:=RY (nm:=bE st0.nxt) (vr:=0) R.heap R.env e
 rw [hh] at FT
 have hn:20≤st0.nxt:=by have:=R0.used 19 R0.wk; omega
 let U':Nat→Prop:=fun s=>U0 s∨∃ k a d,look M k=some (a,d)∧s=bE st0.nxt k / 1024
 have C:Cons st (bE st0.nxt) 0 M g (kg st st0.nxt M g) U':=R_ FT hn (.inl R0.u0) (fun k a d hk=>.inr ⟨k,a,d,hk,rfl⟩)
 obtain ⟨hS,R8⟩:=hr _ U' C
 have dE:∀ s,U0 s→U' s:=fun s h=>.inl h
 have gm:∀ b o,g.lab b o=none→(kg st st0.nxt M g).lab b o=none:=fun b o h=>Kv h
 have R9:∀ k a d,look M k=some (a,d)→bE st0.nxt k∉la.held st0:=by
  intro k a d hk
  obtain ⟨q,h1,h2⟩:=FT.mem k a d hk
  rw [← h2]; exact A.new q h1
 have Dl:∀ id∈la.held st0,∀ ver p,U0 (id / 1024)→U0 ver→(kg st st0.nxt M g).hd id ver p=g.hd id ver p:=by
  intro id hid ver p _ _
  exact Ku (fun k a d hk e=>R9 k a d hk (e▸hid)) p
 have hdiv:∀ k a d,look M k=some (a,d)→bE st0.nxt k / 1024<st0.nxt+la.aE.length:=by
  intro k a d hk
  obtain ⟨q,h1,h2⟩:=FT.mem k a d hk
  have:=A.lt q h1
  rw [wL]
  split
  ·rename_i ao; have:=(FT.par k a d hk ao).1; omega
  ·omega
 have Sa:∀ k a d,look M k=some (a,d)→bE st0.nxt k / 1024≠19:=by
  intro k a d hk
  rw [wL]
  split
  ·rename_i ao; have:=(FT.par k a d hk ao).1; omega
  ·omega
 refine ⟨kg st st0.nxt M g,U',⟨fun t v h=>?_,fun id ob h=>?_,fun s h=>?_,fun b o q h=>?_,fun b o id p hb h=>?_,fun b o id p hf gK=>?_,R.fr,R.defers,R.size,.inl R0.u0,fun s hs=>.inl (R0.ky s hs),fun id h=>?_⟩,
  ⟨dE,Nat.le_add_right _ _,⟨la.bO.map (·.1),rfl,fun t ht=>?_⟩,⟨la.aE.map (fun p=>bE st0.nxt p.1),rfl,fun id hid=>?_⟩,fun i h1 h2=>?_⟩⟩
 ·rw [FW] at h
  cases hs:look (cf (bE st0.nxt) 0 la.bO y).1 t with
  | some v'=>
   rw [hs] at h
   simp only [Option.some.injEq] at h
   subst h
   exact hS t _ hs
  | none=>
   rw [hs] at h
   simp only at h
   split at h
   ·rename_i hk
    have h1:=K.env t hk v h
    refine Dh dE gm v (fun id hid=>Dl id ?_) _ _ (R0.env t v h) (R.env t v h1)
    unfold LA.held
    refine List.mem_append_left _ (List.mem_append_left _ (List.mem_append_left _ (R4 (R5 hk h) id hid)))
   ·simp at h
 ·rw [Dk] at h
  cases hs:look (dJ (bE st0.nxt) 0 la.aE (cf (bE st0.nxt) 0 la.bO y).2).1 id with
  | some qu=>
   rw [hs] at h
   simp only at h
   subst h
   exact R8 id ob hs
  | none=>
   rw [hs] at h
   simp only at h
   split at h
   ·rename_i hid
    obtain ⟨u0,r0⟩:=R0.heap id ob h
    obtain ⟨-,r1⟩:=R.heap id ob (K.obj id hid ob h)
    refine ⟨dE _ u0,R3 dE gm u0 (fun ver p hv=>Dl id hid ver p u0 hv) (fun b o p hl=>Kw hl (fun k d hk=>?_)) (fun t vr xs i j e=>A.kS id hid t vr xs i j (by rw [h,e]))
     (fun ro cs e aq Sb ver p h1 h2=>Dl aq (A.sd aq (R6 hid (by rw [h,e]) aq Sb)) ver p h1 h2) r0 r1⟩
    exact absurd hid (FT.held k id d hk)
   ·simp at h
 ·show s<st0.nxt+la.aE.length
  rcases h with h | ⟨k,a,d,hk,rfl⟩
  ·have:=R0.used s h; omega
  ·exact hdiv k a d hk
 ·obtain ⟨id,p⟩:=q
  rcases Kx h with h | ⟨k,a,d,hk,av,h,-⟩
  ·exact R.bB _ _ _ h
  ·exact R.bB _ _ _ h
 ·rcases Kx h with h | ⟨k,a,d,hk,av,h,-⟩
  ·exact R.bP b o id p hb h
  ·refine .inr ((R.bP b o a p hb h).resolve_left (fun hh=>?_))
   exact R.nf a ((FT.ex k a d hk).resolve_left av) hh.1
 ·refine Kw (R.kX b o id p hf gK) (fun k d hk=>?_)
  rcases FT.ex k id d hk with hx | hx
  ·exact hx
  ·exact absurd gK (R.nf id hx)
 ·rw [Dk] at h
  cases hs:look (dJ (bE st0.nxt) 0 la.aE (cf (bE st0.nxt) 0 la.bO y).2).1 id with
  | some qu=>
   obtain ⟨p,hp,e,-⟩:=yH _ _ _ _ hs
   obtain ⟨a',d',hk⟩:=FT.all p hp
   rw [e]; exact Sa _ _ _ hk
  | none=>
   rw [hs] at h
   simp only at h
   split at h
   ·exact R0.nf id h
   ·exact absurd rfl h
 ·rw [FW,FP _ _ _ (fun p hp e=>ht (List.mem_map.2 ⟨p,hp,e⟩))]
  simp only
  split
  ·exact .inr rfl
  ·exact .inl rfl
 ·rw [Dk]
  cases hs:look (dJ (bE st0.nxt) 0 la.aE (cf (bE st0.nxt) 0 la.bO y).2).1 id with
  | some qu=>
   obtain ⟨p,hp,e,-⟩:=yH _ _ _ _ hs
   exact absurd (List.mem_map.2 ⟨p,hp,e.symm⟩) hid
  | none=>
   simp only
   split
   ·rename_i hm
    exact .inr ⟨rfl,fun ver p u1 u2=>by rw [Dl id hm ver p u1 u2,K.AP id hm ver p u1 u2]⟩
   ·exact .inl rfl
 ·by_cases hk:∃ k a d,look M k=some (a,d)∧i=bE st0.nxt k
  ·obtain ⟨k,a',d',hk,rfl⟩:=hk
   have FX:k<1000:=by
    rw [wL] at h1
    split at h1<;>omega
   obtain ⟨p1,p2,p3⟩:=FT.par k a' d' hk FX
   have:=FR (g:=g) (st:=st) FT hn hk []
   rw [if_pos rfl] at this
   rw [this,p2,p3,FQ FX]
   have av:k*1024≠b_:=by unfold b_; omega
   simp only [cZ,av,if_false,if_true]
   rw [FQ FX] at h1 h2
   exact K.par _ h1 h2
  ·rw [Ku,K.par i h1 h2]
   intro k a' d' bL e
   exact hk ⟨k,a',d',bL,e⟩
end
end Go.Am
namespace Go.Am
open Go
section
variable {P:Program} {c:aP} {w0:World} {F:bt} {N:Nat} {g g':Gh} {w w':World} {U U':Nat→Prop} {st:St} {a:Act}
theorem Dn (H:uc P c) (hc:eu P c) (hG:Gl P F w0) {ops:Array Oper} (hN:∀ o∈ops.toList,∀ x,o.dst=some x→x<N) {ρ:Type} {r:ρ} {Q:Exit→Act→World→Prop} : ∀ (l:List Oper) (st:St) (a:Act) (w:World) (g:Gh) (U:Nat→Prop) (k:St→Option ρ),
  (∀ o∈l,o∈ops.toList)→Rel w0 F N g U st a w→wb c ops.toList l st k=some r→
  (∀ st' a' w' g' U',Rel w0 F N g' U' st' a' w'→Ext g U st g' U' st'→k st'=some r→Q .normal a' w')→wpList P ops Q l a w
 | [],st,a,w,g,U,k,hl,R,e,hQ=>hQ st a w g U R (.refl _ _ _) e
 | o::l,st,a,w,g,U,k,hl,R,e,hQ=>by
  have hd:=hN o (hl o (by simp))
  have jH:∀ o∈l,o∈ops.toList:=fun o' h=>hl o' (by simp [h])
  have run:∀ {dm:St},Rel w0 F N g U dm a w→Ext g U st g U dm→dk c dm dm.nxt o.op (fun e=>wb c ops.toList l (dm.put o.dst e) k)=some r→o.wp P a w (wpList P ops Q l) Q:=by
   intro dm R E e
   obtain ⟨aT,h1,h2⟩:=H (R.Db hc hG) R.fresh e
   exact h2 _ _ (fun v w' g' U' hp=>Dn H hc hG hN l _ _ _ g' U' k jH (R.put hd hp) h1 (fun st' a' w' ln lp R' E'=>hQ st' a' w' ln lp R' ((E.trans (.put _ hp R.u0)).trans E')))
  have skip:∀ {dm:St},Rel w0 F N g U dm a w→Ext g U st g U dm→wb c ops.toList l (dm.put o.dst ⟨.fb [],[]⟩) k=some r→wpList P ops Q l (a.put o.dst undef) w:=
   fun R E e=>Dn H hc hG hN l _ _ _ g U k jH (R.skip hd) e (fun st' a' w' ln lp R' E'=>hQ st' a' w' ln lp R' ((E.trans (.put (w:=w) (w':=w) (v:=undef) (e:=⟨.fb [],[]⟩) _ (.same (x:=.fb []) R.bB ⟨[],rfl,rfl⟩) R.u0)).trans E'))
  simp only [wb] at e
  simp only [wpList]
  cases hg:o.guard with
  | none=>
   rw [hg] at e
   have hw:Region.wanted o (yielded ops a.tmps)=true:=by simp [Region.wanted,hg]
   rw [if_pos hw]
   exact .inl (run R (.refl _ _ _) e)
  | some gw=>
   obtain ⟨gd,want⟩:=gw
   rw [hg] at e
   simp only at e
   split at e
   ·simp at e
   ·rename_i d mc
    split at e
    ·rename_i b hb
     have hv:a.eval (.tmp d) = .bool b:=by
      have:=(R.Db hc hG).ev (.tmp d)
      rw [hb] at this; exact this
     have hy:yielded ops a.tmps gd=some b:=Km mc hv
     have hw:Region.wanted o (yielded ops a.tmps)=(b==want):=by simp [Region.wanted,hg,hy]
     rw [hw]
     cases b with
     | true=>
      have R':=R.wK (d:=d) (x:=.bool true) hv
      simp only [br] at e
      cases want with
      | true=>exact .inl (run R' .wK e)
      | false=>exact skip R' .wK e
     | false=>
      have R':=R.wK (d:=d) (x:=.bool false) hv
      simp only [br] at e
      cases want with
      | true=>exact skip R' .wK e
      | false=>exact .inl (run R' .wK e)
    ·rename_i hb
     have hv:a.eval (.tmp d)=undef:=by
      have:=(R.Db hc hG).ev (.tmp d)
      rw [hb] at this
      obtain ⟨l,h1,h2⟩:=this
      obtain rfl:=h2
      exact h1
     have hy:yielded ops a.tmps gd=none:=Kn mc hv
     have hw:Region.wanted o (yielded ops a.tmps)=false:=by simp [Region.wanted,hg,hy]
     rw [hw]
     exact skip R (.refl _ _ _) e
    ·simp at e
end
def Ex.to:Ex→Exit
 | .normal=>.normal
 | .ret=>.ret
 | .exit id=>.exit id
def wN (P:Program) (c:aP):Prop:=∀ {ρ:Type} {r:ρ} {w0:World} {F:bt} {N:Nat} (id:Nat) (ops:Array Oper) (draw:Bool) (st:St) (a:Act) (w:World) (g:Gh) (U:Nat→Prop)
 (k:St→Option ρ) (Q:Exit→Act→World→Prop),(∀ o∈ops.toList,∀ x,o.dst=some x→x<N)→Gl P F w0→Rel w0 F N g U st a w→yd c ops draw st k=some r→
 (∀ st' a' w' g' U',Rel w0 F N g' U' st' a' w'→Ext g U st g' U' st'→k st'=some r→Q .normal a' w')→(Code.region id ops draw).wp P Q a w
section
variable {P:Program} {c:aP} {w0:World} {F:bt} {N n:Nat}
abbrev Dp (w0:World) (F:bt) (N:Nat) (g:Gh) (U:Nat→Prop) (st:St) {ρ:Type} (k:Ex→St→Option ρ) (r:ρ) (Q:Exit→Act→World→Prop):Prop:=
 ∀ ex st' a' w' g' U',Rel w0 F N g' U' st' a' w'→Ext g U st g' U' st'→k ex st'=some r→Q ex.to a' w'
theorem FY {la:LA} {g0 g:Gh} {U0 U:Nat→Prop} {st0 st:St} (E:Ext g0 U0 st0 g U st) (K:la.kept st0 st=true):ue la g0 U0 st0 g st:=
 .of (.refl _ _ _) E (fun _ _=>.inr rfl) (fun _ _=>.inr ⟨rfl,fun _ _ _ _=>rfl⟩) rfl K
theorem KD {g:Gh} {U:Nat→Prop} {st:St} {a:Act} {w:World} (R:Rel w0 F N g U st a w) {x:Operand} {t:Bool} (h:st.ev x = .bool t):a.eval x = .bool t:=by
 have:=CF (g:=g) (w:=w) (U:=U) R.env x
 rw [h] at this
 exact this
theorem FZ {α ρ:Type} {m:Option (Sum ρ α)} {f:α→Option ρ} {r:ρ} (h:cut m f=some r):m=some (.inl r)∨∃ y,m=some (.inr y)∧f y=some r:=by
 unfold cut at h
 cases m with
 | none=>simp at h
 | some s=>cases s with
  | inl r'=>simp at h; subst h; exact .inl rfl
  | inr y=>exact .inr ⟨y,rfl,h⟩
theorem lq (HR:wN P c) (hG:Gl P F w0):∀ (code:Code) (an:fJ) (ρ:Type) (r:ρ) (st:St) (k:Ex→St→Option ρ) (Q:Exit→Act→World→Prop) (a:Act) (w:World) (g:Gh) (U:Nat→Prop),
  fi N code=true→Rel w0 F N g U st a w→fh c n code an ρ st k=some r→Dp w0 F N g U st k r Q→code.wp P Q a w
 | .skip,an,ρ,r,st,k,Q,a,w,g,U,hd,R,e,hQ=>wp_skip (hQ .normal st a w g U R (.refl _ _ _) e)
 | .exit id,an,ρ,r,st,k,Q,a,w,g,U,hd,R,e,hQ=>wp_exit (hQ (.exit id) st a w g U R (.refl _ _ _) e)
 | .ret,an,ρ,r,st,k,Q,a,w,g,U,hd,R,e,hQ=>wp_ret (hQ .ret st a w g U R (.refl _ _ _) e)
 | .region id ops draw,an,ρ,r,st,k,Q,a,w,g,U,hd,R,e,hQ=>by
  have mc:∀ o∈ops.toList,∀ x,o.dst=some x→x<N:=fun o ho x hx=>by
   have:=List.all_eq_true.1 (show ops.toList.all (fun o=>match o.dst with | some d=>Nat.blt d N | none=>true)=true from hd) o ho
   rw [hx] at this
   simpa [Nat.blt_eq] using this
  have plain:yd c ops draw st (k .normal)=some r→(Code.region id ops draw).wp P Q a w:=fun e=>
   HR id ops draw st a w g U (k .normal) Q mc hG R e (fun st' a' w' g' U' R' E' e'=>hQ .normal st' a' w' g' U' R' E' e')
  cases an with
  | leaf=>exact plain e
  | two _ _=>exact plain e
  | one _=>exact plain e
  | loop _ _=>exact plain e
  | ye _ _ _=>exact plain e
  | wg _ _=>exact plain e
  | cut la ef=>
   cases hA:la.apart st with
   | false=>
    have e:(match la.apart st with | true=>_ | false=>none)=some r:=e
    rw [hA] at e
    exact absurd e (by simp)
   | true=>
    have e:(match la.apart st with | true=>_ | false=>none)=some r:=e
    rw [hA] at e
    have A:=Dj hA
    let kk:St→Option (Sum ρ la.LT):=fun st'=>match la.kept st st',la.read st st' with | true,some y=>some (.inr y) | _,_=>none
    have e:cut (yd c ops draw st kk) (fun y=>k .normal (la.mk' st y))=some r:=e
    have fin:∀ s:Sum ρ la.LT,yd c ops draw st kk=some s→(∀ y,s = .inr y→k .normal (la.mk' st y)=some r)→(s = .inl r∨∃ y,s = .inr y)→(Code.region id ops draw).wp P Q a w:=by
     intro s es hs _
     refine HR id ops draw st a w g U kk Q mc hG R es (fun st' a' w' g' U' R' E' e'=>?_)
     have e':(match la.kept st st',la.read st st' with | true,some y=>some (.inr y) | _,_=>none)=some s:=e'
     split at e'
     ·rename_i y hk hr
      obtain ⟨ln,lp,pe,pf⟩:=AQ R A R' (FY E' hk) rfl hr
      exact hQ .normal _ a' w' ln lp pe pf (hs y (Option.some.inj e').symm)
     ·simp at e'
    rcases FZ e with h | ⟨y,h,hy⟩
    ·exact fin _ h (fun y hy=>absurd hy (by simp)) (.inl rfl)
    ·exact fin _ h (fun y' Sc=>by obtain rfl:=Sum.inr.inj Sc; exact hy) (.inr ⟨y,rfl⟩)
 | .seq x y,an,ρ,r,st,k,Q,a,w,g,U,hd,R,e,hQ=>by
  have hd:(fi N x&&fi N y)=true:=hd
  rw [Bool.and_eq_true] at hd
  refine wp_seq (lq HR hG x an.fst ρ r st _ _ a w g U hd.1 R e (fun ex st' a' w' g' U' R' E' e'=>?_))
  cases ex with
  | normal=>exact lq HR hG y an.snd ρ r st' k Q a' w' g' U' hd.2 R' e' (fun ex Sd Se Sf ln lp pe pf Sg=>hQ ex Sd Se Sf ln lp pe (E'.trans pf) Sg)
  | ret=>exact hQ .ret st' a' w' g' U' R' E' e'
  | exit j=>exact hQ (.exit j) st' a' w' g' U' R' E' e'
 | .scope x,an,ρ,r,st,k,Q,a,w,g,U,hd,R,e,hQ=>by
  refine wp_scope_straight (lq HR hG x an.fst ρ r st _ _ a w g U hd R e (fun ex st' a' w' g' U' R' E' e'=>?_))
  cases ex with
  | normal=>exact hQ .normal st' a' w' g' U' R' E' e'
  | ret=>exact hQ .ret st' a' w' g' U' R' E' e'
  | exit j=>exact hQ (.exit j) st' a' w' g' U' R' E' e'
 | .cond x p q,an,ρ,r,st,k,Q,a,w,g,U,hd,R,e,hQ=>by
  have hd:(fi N p&&fi N q)=true:=hd
  rw [Bool.and_eq_true] at hd
  have plain:(match st.ev x with | .bool t=>br t (fh c n p an.fst ρ st k) (fh c n q an.snd ρ st k) | _=>none)=some r→(Code.cond x p q).wp P Q a w:=by
   intro e
   split at e
   ·rename_i t ht
    refine wp_cond (KD R ht) ?_
    cases t with
    | true=>exact lq HR hG p an.fst ρ r st k Q a w g U hd.1 R e hQ
    | false=>exact lq HR hG q an.snd ρ r st k Q a w g U hd.2 R e hQ
   ·simp at e
  cases an with
  | leaf=>exact plain e
  | two _ _=>exact plain e
  | one _=>exact plain e
  | loop _ _=>exact plain e
  | ye _ _ _=>exact plain e
  | wg _ _=>exact plain e
  | cut la ef=>
   cases hx:st.ev x with
   | bool t=>
    cases hA:la.apart st with
    | false=>
     have e:(match st.ev x,la.apart st with | .bool t,true=>_ | _,_=>none)=some r:=e
     rw [hx,hA] at e
     exact absurd e (by simp)
    | true=>
     have e:(match st.ev x,la.apart st with | .bool t,true=>_ | _,_=>none)=some r:=e
     rw [hx,hA] at e
     have A:=Dj hA
     let kk:Ex→St→Option (Sum ρ la.LT):=fun e st'=>match e with
      | .normal=>(match la.kept st st',la.read st st' with | true,some y=>some (.inr y) | _,_=>none)
      | e=>(match k e st' with | some r=>some (.inl r) | none=>none)
     have e:cut (br t (fh c n p ef.fst (Sum ρ la.LT) st kk) (fh c n q ef.snd (Sum ρ la.LT) st kk)) (fun y=>k .normal (la.mk' st y))=some r:=e
     have go:∀ s:Sum ρ la.LT,(s = .inl r∨∃ y,s = .inr y∧k .normal (la.mk' st y)=some r)→Dp w0 F N g U st kk s Q:=by
      intro s hs ex st' a' w' g' U' R' E' e'
      cases ex with
      | normal=>
       have e':(match la.kept st st',la.read st st' with | true,some y=>some (.inr y) | _,_=>none)=some s:=e'
       split at e'
       ·rename_i y hk hr
        obtain rfl:=Option.some.inj e'
        rcases hs with hs | ⟨y',hs,hy⟩
        ·exact absurd hs (by simp)
        ·obtain rfl:=Sum.inr.inj hs
         obtain ⟨ln,lp,pe,pf⟩:=AQ R A R' (FY E' hk) rfl hr
         exact hQ .normal _ a' w' ln lp pe pf hy
       ·simp at e'
      | ret=>
       have e':(match k .ret st' with | some r=>some (.inl r) | none=>none)=some s:=e'
       split at e'
       ·rename_i r' hr
        obtain rfl:=Option.some.inj e'
        rcases hs with hs | ⟨y',hs,hy⟩
        ·obtain rfl:=Sum.inl.inj hs
         exact hQ .ret st' a' w' g' U' R' E' hr
        ·exact absurd hs (by simp)
       ·simp at e'
      | exit j=>
       have e':(match k (.exit j) st' with | some r=>some (.inl r) | none=>none)=some s:=e'
       split at e'
       ·rename_i r' hr
        obtain rfl:=Option.some.inj e'
        rcases hs with hs | ⟨y',hs,hy⟩
        ·obtain rfl:=Sum.inl.inj hs
         exact hQ (.exit j) st' a' w' g' U' R' E' hr
        ·exact absurd hs (by simp)
       ·simp at e'
     have go2:∀ s:Sum ρ la.LT,br t (fh c n p ef.fst (Sum ρ la.LT) st kk) (fh c n q ef.snd (Sum ρ la.LT) st kk)=some s→(s = .inl r∨∃ y,s = .inr y∧k .normal (la.mk' st y)=some r)→
       (Code.cond x p q).wp P Q a w:=by
      intro s es hs
      refine wp_cond (KD R hx) ?_
      cases t with
      | true=>exact lq HR hG p ef.fst _ s st kk Q a w g U hd.1 R es (go s hs)
      | false=>exact lq HR hG q ef.snd _ s st kk Q a w g U hd.2 R es (go s hs)
     rcases FZ e with h | ⟨y,h,hy⟩
     ·exact go2 _ h (.inl rfl)
     ·exact go2 _ h (.inr ⟨y,rfl,hy⟩)
   | _=>
    have e:(match st.ev x,la.apart st with | .bool t,true=>_ | _,_=>none)=some r:=e
    rw [hx] at e
    exact absurd e (by simp)
 | .block id b,an,ρ,r,st,k,Q,a,w,g,U,hd,R,e,hQ=>by
  have plain:fh c n b an.fst ρ st (fun e st=>match e with | .exit j=>(match Nat.beq j id with | true=>k .normal st | false=>k (.exit j) st) | e=>k e st)=some r→(Code.block id b).wp P Q a w:=by
   intro e
   refine wp_block (lq HR hG b an.fst ρ r st _ _ a w g U hd R e (fun ex st' a' w' g' U' R' E' e'=>?_))
   cases ex with
   | normal=>exact hQ .normal st' a' w' g' U' R' E' e'
   | ret=>exact hQ .ret st' a' w' g' U' R' E' e'
   | exit j=>
    have e':(match Nat.beq j id with | true=>k .normal st' | false=>k (.exit j) st')=some r:=e'
    show (if j=id then Q .normal a' w' else Q (.exit j) a' w')
    split at e'
    ·rename_i hj
     rw [if_pos (Nat.eq_of_beq_eq_true hj)]
     exact hQ .normal st' a' w' g' U' R' E' e'
    ·rename_i hj
     rw [if_neg (fun h=>by subst h; simp at hj)]
     exact hQ (.exit j) st' a' w' g' U' R' E' e'
  cases an with
  | leaf=>exact plain e
  | two _ _=>exact plain e
  | one _=>exact plain e
  | loop _ _=>exact plain e
  | ye _ _ _=>exact plain e
  | wg _ _=>exact plain e
  | cut la ef=>
   cases hA:la.apart st with
   | false=>
    have e:(match la.apart st with | true=>_ | false=>none)=some r:=e
    rw [hA] at e
    exact absurd e (by simp)
   | true=>
    have e:(match la.apart st with | true=>_ | false=>none)=some r:=e
    rw [hA] at e
    have A:=Dj hA
    let kk:Ex→St→Option (Sum ρ la.LT):=fun e st'=>
     match (match e with | .normal=>true | .exit j=>Nat.beq j id | .ret=>false) with
     | true=>(match la.kept st st',la.read st st' with | true,some y=>some (.inr y) | _,_=>none)
     | false=>(match k e st' with | some r=>some (.inl r) | none=>none)
    have e:cut (fh c n b ef (Sum ρ la.LT) st kk) (fun y=>k .normal (la.mk' st y))=some r:=e
    have go:∀ s:Sum ρ la.LT,(s = .inl r∨∃ y,s = .inr y∧k .normal (la.mk' st y)=some r)→Dp w0 F N g U st kk s (Exit.inBlock id Q):=by
     intro s hs ex st' a' w' g' U' R' E' e'
     have norm:(match la.kept st st',la.read st st' with | true,some y=>some (.inr y) | _,_=>none)=some s→Q .normal a' w':=by
      intro e'
      split at e'
      ·rename_i y hk hr
       obtain rfl:=Option.some.inj e'
       rcases hs with hs | ⟨y',hs,hy⟩
       ·exact absurd hs (by simp)
       ·obtain rfl:=Sum.inr.inj hs
        obtain ⟨ln,lp,pe,pf⟩:=AQ R A R' (FY E' hk) rfl hr
        exact hQ .normal _ a' w' ln lp pe pf hy
      ·simp at e'
     have C_:∀ ex,(match k ex st' with | some r=>some (.inl r) | none=>none)=some s→Q ex.to a' w':=by
      intro ex e'
      split at e'
      ·rename_i r' hr
       obtain rfl:=Option.some.inj e'
       rcases hs with hs | ⟨y',hs,hy⟩
       ·obtain rfl:=Sum.inl.inj hs
        exact hQ ex st' a' w' g' U' R' E' hr
       ·exact absurd hs (by simp)
      ·simp at e'
     cases ex with
     | normal=>exact norm e'
     | ret=>exact C_ .ret e'
     | exit j=>
      show (if j=id then Q .normal a' w' else Q (.exit j) a' w')
      cases hj:Nat.beq j id with
      | true=>
       rw [if_pos (Nat.eq_of_beq_eq_true hj)]
       have e':(match Nat.beq j id with | true=>(match la.kept st st',la.read st st' with | true,some y=>some (.inr y) | _,_=>none) | false=>(match k (.exit j) st' with | some r=>some (.inl r) | none=>none))=some s:=e'
       rw [hj] at e'
       exact norm e'
      | false=>
       rw [if_neg (fun h=>by subst h; simp at hj)]
       have e':(match Nat.beq j id with | true=>(match la.kept st st',la.read st st' with | true,some y=>some (.inr y) | _,_=>none) | false=>(match k (.exit j) st' with | some r=>some (.inl r) | none=>none))=some s:=e'
       rw [hj] at e'
       exact C_ (.exit j) e'
    rcases FZ e with h | ⟨y,h,hy⟩
    ·exact wp_block (lq HR hG b ef _ _ st kk _ a w g U hd R h (go _ (.inl rfl)))
    ·exact wp_block (lq HR hG b ef _ _ st kk _ a w g U hd R h (go _ (.inr ⟨y,rfl,hy⟩)))
 | .loop b,an,ρ,r,st,k,Q,a,w,g,U,hd,R,e,hQ=>by
  have KE:∀ (la:LA) (ef:fJ) (st:St) (a:Act) (w:World) (g:Gh) (U:Nat→Prop),Rel w0 F N g U st a w→
    (match la.apart st,la.read st st with
     | true,some x=>iter n (fun ih x=>fh c n b ef ρ (la.mk' st x) fun e st'=>match e with
      | .normal=>(match la.kept (la.mk' st x) st',la.read (la.mk' st x) st' with | true,some y=>ih y | _,_=>none)
      | e=>k e st') x
     | _,_=>none)=some r→
    Dp w0 F N g U st k r Q→Code.rounds P b Q n a w:=by
   intro la ef st a w g U R e hQ
   cases hA:la.apart st with
   | false=>
    have e:(match la.apart st,la.read st st with | true,some x=>_ | _,_=>none)=some r:=e
    rw [hA] at e
    exact absurd e (by simp)
   | true=>cases hx:la.read st st with
    | none=>
     have e:(match la.apart st,la.read st st with | true,some x=>_ | _,_=>none)=some r:=e
     rw [hA,hx] at e
     exact absurd e (by simp)
    | some x=>
     have e:(match la.apart st,la.read st st with | true,some x=>_ | _,_=>none)=some r:=e
     rw [hA,hx] at e
     have A:=Dj hA
     let step:(la.LT→Option ρ)→la.LT→Option ρ:=fun ih x=>fh c n b ef ρ (la.mk' st x) fun e st'=>match e with
      | .normal=>(match la.kept (la.mk' st x) st',la.read (la.mk' st x) st' with | true,some y=>ih y | _,_=>none)
      | e=>k e st'
     have e:iter n step x=some r:=e
     have key:∀ (m:Nat) (x:la.LT) (a1:Act) (w1:World) (g1:Gh) (U1:Nat→Prop),Rel w0 F N g1 U1 (la.mk' st x) a1 w1→Ext g U st g1 U1 (la.mk' st x)→iter m step x=some r→Code.rounds P b Q m a1 w1:=by
      intro m
      induction m with
      | zero=>intro x a1 w1 g1 U1 R1 E1 e; exact absurd (show none=some r from e) (by simp)
      | succ m ih=>
       intro x a1 w1 g1 U1 R1 E1 e
       have e:step (iter m step) x=some r:=e
       rw [rounds_succ]
       refine lq HR hG b ef ρ r (la.mk' st x) _ _ a1 w1 g1 U1 hd R1 e (fun ex st' a' w' g' U' R' E' e'=>?_)
       cases ex with
       | ret=>exact hQ .ret st' a' w' g' U' R' (E1.trans E') e'
       | exit j=>exact hQ (.exit j) st' a' w' g' U' R' (E1.trans E') e'
       | normal=>
        have e':(match la.kept (la.mk' st x) st',la.read (la.mk' st x) st' with | true,some y=>iter m step y | _,_=>none)=some r:=e'
        split at e'
        ·rename_i y hk hr
         have K:ue la g U st g' st':=.of E1 E' (fun i hi=>.inr (KA A x hi)) (fun id hid=>by
          obtain ⟨l,e1,e2⟩:=E1.obj
          have hl:l=la.aE.map (fun p=>bE st.nxt p.1):=by
           have:la.aE.map (fun p=>bE st.nxt p.1)++st.ht=l++st.ht:=e1
           exact (List.append_cancel_right this).symm
          refine e2 id (fun hm=>?_)
          rw [hl] at hm
          obtain ⟨p,hp,he⟩:=List.mem_map.1 hm
          exact A.new p hp (he▸hid)) (KC A x) hk
         obtain ⟨ln,lp,pe,pf⟩:=AQ R A R' K (KC A x) hr
         exact ih y a' w' ln lp pe pf e'
        ·simp at e'
     obtain ⟨ln,lp,pe,pf⟩:=AQ R A R (ue.refl la g U st) rfl hx
     exact key n x a w ln lp pe pf e
  cases an with
  | leaf=>exact absurd (show none=some r from e) (by simp)
  | two _ _=>exact absurd (show none=some r from e) (by simp)
  | one _=>exact absurd (show none=some r from e) (by simp)
  | cut _ _=>exact absurd (show none=some r from e) (by simp)
  | wg m ef=>
   let step:(St→Option ρ)→St→Option ρ:=fun ih st=>fh c n b ef ρ st fun e st'=>match e with
    | .normal=>ih st'
    | e=>k e st'
   have e:iter m step st=some r:=e
   have key:∀ (m:Nat) (dm:St) (a1:Act) (w1:World) (g1:Gh) (U1:Nat→Prop),Rel w0 F N g1 U1 dm a1 w1→Ext g U st g1 U1 dm→iter m step dm=some r→Code.rounds P b Q m a1 w1:=by
    intro m
    induction m with
    | zero=>intro dm a1 w1 g1 U1 R1 E1 e; exact absurd (show none=some r from e) (by simp)
    | succ m ih=>
     intro dm a1 w1 g1 U1 R1 E1 e
     have e:step (iter m step) dm=some r:=e
     rw [rounds_succ]
     refine lq HR hG b ef ρ r dm _ _ a1 w1 g1 U1 hd R1 e (fun ex st' a' w' g' U' R' E' e'=>?_)
     cases ex with
     | ret=>exact hQ .ret st' a' w' g' U' R' (E1.trans E') e'
     | exit j=>exact hQ (.exit j) st' a' w' g' U' R' (E1.trans E') e'
     | normal=>exact ih st' a' w' g' U' R' (E1.trans E') e'
   exact wp_loop_rounds m (key m st a w g U R (.refl _ _ _) e)
  | loop la ef=>exact wp_loop_rounds n (KE la ef st a w g U R e hQ)
  | ye p la ef=>
   refine wp_loop_rounds (n+1) ?_
   rw [rounds_succ]
   refine lq HR hG b p ρ r st _ _ a w g U hd R e (fun ex st' a' w' g' U' R' E' e'=>?_)
   cases ex with
   | ret=>exact hQ .ret st' a' w' g' U' R' E' e'
   | exit j=>exact hQ (.exit j) st' a' w' g' U' R' E' e'
   | normal=>exact KE la ef st' a' w' g' U' R' e' (fun ex Si a2 w2 g2 U2 R2 E2 e2=>hQ ex Si a2 w2 g2 U2 R2 (E'.trans E2) e2)
 | .label _,an,ρ,r,st,k,Q,a,w,g,U,hd,R,e,hQ=>absurd (show none=some r from e) (by simp)
 | .goto _,an,ρ,r,st,k,Q,a,w,g,U,hd,R,e,hQ=>absurd (show none=some r from e) (by simp)
end
end Go.Am
namespace Go.Am
open Go
section
variable {g:Gh} {L:bt} {w:World} {U:Nat→Prop} {sr:St}
theorem Sj (hO:dR g w U sr) (hL:∀ b o,g.lab b o=none→L b o=none) (hD:∀ id,sr.obj id≠none→∀ b o p,g.lab b o=some (id,p)→L b o=none)
  {x:af} {vx:Value} (hx:ay g w U x vx) {u:Ty} {xs:List u.T} (e:sr.list x=some ⟨u,xs⟩):fj u.size (Sh L w u) xs vx:=by
 have row:∀ {own:Bool} {id hv vr:Nat} {p:Path} {ys:List u.T} {b o:Nat},sr.obj id≠none→dC g w own id hv vr u b9 p ys→(g.hd id hv p).addr=some (b,o)→
   ∀ k (hk:k<ys.length),Sh L w u ys[k] b (o+k*u.size):=by
  intro own id hv vr p ys b o aY R ha k hk
  obtain ⟨r1,r2,r3,r4⟩:=R
  obtain ⟨r5,r6⟩:=r4 b o ha
  refine wx hL (hD id aY) u p k 0 _ b _ (fun d hd=>?_) (r6 k hk)
  have hle:(k+1)*u.size≤(g.hd id hv p).cap*u.size:=Nat.mul_le_mul_right _ (by omega)
  rw [Nat.add_mul] at hle
  obtain ⟨a1,-,-⟩:=r5 (k*u.size+d) (by omega)
  exact ⟨_,by rw [Nat.add_assoc]; exact a1⟩
 unfold St.list at e
 split at e
 ·simp only [Option.some.injEq] at e
  obtain ⟨rfl,e⟩:=Sigma.mk.inj e
  obtain rfl:=eq_of_heq e
  exact fK (eF (fun b o hl v hv=>⟨hv,hL b o hl⟩) _) hx
 ·simp only [Option.some.injEq] at e
  obtain ⟨rfl,e⟩:=Sigma.mk.inj e
  obtain rfl:=eq_of_heq e
  exact fK (eF (fun b o hl v hv=>⟨hv,hL b o hl⟩) _) hx.1
 ·rename_i id ver p tt
  obtain ⟨h1,h2,h3,h4,h5,rfl⟩:=hx
  obtain ⟨own,t,vr,kY,aY,-,R,-⟩:=wq hO h5 h4 e
  have hR:=R
  obtain ⟨r1,r2,r3,r4⟩:=hR
  refine ⟨_,_,_,rfl,r1,r2,fun hn=>r3 (by simpa using hn),fun av=>?_⟩
  have hlen:0<xs.length:=List.length_pos_iff.2 av
  cases ha:(g.hd id ver p).addr with
  | none=>have:=r3 ha; omega
  | some q=>
   obtain ⟨b,o⟩:=q
   exact ⟨b,o,by simp,row (by rw [aY]; simp) R ha⟩
 ·rename_i id ver p tt off len
  split at e
  ·rename_i u' ys hr
   split at e
   ·rename_i hb
    obtain rfl:=Ty.eq_of_beq hb
    simp only [Option.some.injEq] at e
    obtain ⟨rfl,e⟩:=Sigma.mk.inj e
    obtain rfl:=eq_of_heq e
    obtain ⟨h1,h2,h3,h4,h5,a,cp,rfl,h6,h7,h8,h9,wu⟩:=hx
    obtain ⟨own,t,vr,kY,aY,-,R,-⟩:=wq hO h5 h4 hr
    have hR:=R
    obtain ⟨r1,r2,r3,r4⟩:=hR
    have hlen:((ys.drop off).take len).length=len:=by simp; omega
    refine ⟨a,len,cp,rfl,hlen.symm,h7,fun hn=>?_,fun av=>?_⟩
    ·rcases Nat.eq_zero_or_pos cp with h | h
     ·exact h
     ·obtain ⟨b,o,-,iv⟩:=h9 h
      rw [iv] at hn; simp at hn
    ·have fM:0<((ys.drop off).take len).length:=List.length_pos_iff.2 av
     obtain ⟨b,o,ha,rfl⟩:=h9 (by omega)
     refine ⟨b,o+off*tt.size,rfl,fun k hk=>?_⟩
     have:=row (by rw [aY]; simp) R ha (off+k) (by omega)
     simp only [List.getElem_take,List.getElem_drop]
     rw [Nat.add_assoc,← Nat.add_mul]
     exact this
   ·simp at e
  ·simp at e
 ·simp at e
theorem KF (hO:dR g w U sr) (hL:∀ b o,g.lab b o=none→L b o=none) (hD:∀ id,sr.obj id≠none→∀ b o p,g.lab b o=some (id,p)→L b o=none):∀ d:Nat,
  (∀ (t:Ty) (cs:List af) (x:t.T) (rest:List af) (f:Nat→Option Value) (q:Path) (i j:Nat),eL g w U cs f→gb sr d t cs=some (x,rest)→
   t.size≤cs.length∧rest=cs.drop t.size∧ca g L w false bC t q i j x f)∧
  (∀ (t:Ty) (n:Nat) (cs:List af) (xs:List t.T) (f:Nat→Option Value) (q:Path) (i:Nat),eL g w U cs f→xI sr d t n cs=some xs→
   n*t.size≤cs.length∧xs.length=n∧∀ k (h:k<xs.length),ca g L w false bC t q (i+k) 0 xs[k] (fun d=>f (k*t.size+d))):=by
 intro d
 induction d with
 | zero=>
  refine ⟨?_,?_⟩
  ·intro t cs x rest f q i j hv e; cases t<;>simp [gb] at e
  ·intro t n cs xs f q i hv e; simp [xI] at e
 | succ d ih=>
  obtain ⟨wy,nP⟩:=ih
  refine ⟨?_,?_⟩
  ·intro t cs x rest f q i j hv e
   cases t with
   | pair a b=>
    simp only [gb] at e
    split at e
    ·rename_i y rr1 e1
     split at e
     ·rename_i z rr2 e2
      simp only [Option.some.injEq,Prod.mk.injEq] at e
      obtain ⟨rfl,rfl⟩:=e
      obtain ⟨h1,rfl,h2⟩:=wy a cs y _ f q i j hv e1
      obtain ⟨h3,rfl,h4⟩:=wy b _ z _ _ q i (j+a.size) (hv.drop a.size) e2
      simp only [List.length_drop] at h3
      refine ⟨by simp [Ty.size]; omega,by simp [Ty.size,List.drop_drop],h2,h4⟩
     ·simp at e
    ·simp at e
   | int k=>
    cases cs with
    | nil=>simp [gb] at e
    | cons c cs=>
     obtain ⟨v,h1,h2⟩:=hv.head
     cases c<;>simp only [gb] at e<;>try (exact absurd (show none=some _ from e) (by simp))
     split at e
     ·rename_i hk
      obtain rfl:=lP hk
      simp only [Option.some.injEq,Prod.mk.injEq] at e
      obtain ⟨rfl,rfl⟩:=e
      obtain rfl:=h2
      exact ⟨by simp [Ty.size],by simp [Ty.size],h1⟩
     ·simp at e
   | bool=>
    cases cs with
    | nil=>simp [gb] at e
    | cons c cs=>
     obtain ⟨v,h1,h2⟩:=hv.head
     cases c<;>simp only [gb] at e<;>try (exact absurd (show none=some _ from e) (by simp))
     simp only [Option.some.injEq,Prod.mk.injEq] at e
     obtain ⟨rfl,rfl⟩:=e
     obtain rfl:=h2
     exact ⟨by simp [Ty.size],by simp [Ty.size],h1⟩
   | str=>
    cases cs with
    | nil=>simp [gb] at e
    | cons c cs=>
     obtain ⟨v,h1,h2⟩:=hv.head
     cases c<;>simp only [gb] at e<;>try (exact absurd (show none=some _ from e) (by simp))
     simp only [Option.some.injEq,Prod.mk.injEq] at e
     obtain ⟨rfl,rfl⟩:=e
     obtain rfl:=h2
     exact ⟨by simp [Ty.size],by simp [Ty.size],h1⟩
   | err=>
    cases cs with
    | nil=>simp [gb] at e
    | cons c cs=>
     obtain ⟨v,h1,h2⟩:=hv.head
     cases c<;>simp only [gb] at e<;>try (exact absurd (show none=some _ from e) (by simp))
     simp only [Option.some.injEq,Prod.mk.injEq] at e
     obtain ⟨rfl,rfl⟩:=e
     exact ⟨by simp [Ty.size],by simp [Ty.size],v,h1,h2⟩
   | sl t=>
    cases cs with
    | nil=>simp [gb] at e
    | cons c cs=>
     obtain ⟨v,h1,h2⟩:=hv.head
     have Sk:(match sr.list c with | some ⟨u,xs⟩=>(match Ty.cast (.sl u) (.sl t) xs with | some ys=>some (ys,cs) | none=>none) | none=>none)=some (x,rest)→
       (Ty.sl t).size≤(c::cs).length∧rest=(c::cs).drop (Ty.sl t).size∧ca g L w false bC (.sl t) q i j x f:=by
      intro e
      split at e
      ·rename_i u xs hl
       split at e
       ·rename_i ys hz
        simp only [Option.some.injEq,Prod.mk.injEq] at e
        obtain ⟨rfl,rfl⟩:=e
        obtain ⟨rfl,hz⟩:=kC hz
        obtain rfl:=eq_of_heq hz
        exact ⟨by simp [Ty.size],by simp [Ty.size],v,h1,Sj hO hL hD h2 hl⟩
       ·simp at e
      ·simp at e
     cases c with
     | nil=>
      simp only [gb,Option.some.injEq,Prod.mk.injEq] at e
      obtain ⟨rfl,rfl⟩:=e
      obtain rfl:=h2
      exact ⟨by simp [Ty.size],by simp [Ty.size],_,h1,none,0,0,rfl,rfl,Nat.le_refl _,fun _=>rfl,fun h=>absurd rfl h⟩
     | dW id off len sz=>
      simp only [gb] at e
      split at e
      ·rename_i ro c_ ho
       split at e
       ·rename_i hq
        simp only [Bool.and_eq_true,Nat.beq_eq] at hq
        obtain ⟨nU,ix⟩:=hq
        subst nU
        have ix:=Nat.le_of_ble_eq_true ix
        split at e
        ·rename_i xs hN
         simp only [Option.some.injEq,Prod.mk.injEq] at e
         have e1:xs=x:=congrArg Prod.fst e
         have e2:cs=rest:=congrArg Prod.snd e
         subst e1
         subst e2
         obtain ⟨b',o',cJ,cn,k_⟩:=tT hO ho
         obtain ⟨-,-,a,c,rfl,wz,iJ,b,o,cw,ha⟩:=h2
         rw [cJ] at cw iJ
         simp only [Option.some.injEq,Prod.mk.injEq] at cw iJ
         obtain ⟨rfl,rfl⟩:=cw
         obtain ⟨-,n1,n2⟩:=nP t len _ xs _ [] 0 (k_.drop (off*t.size)) hN
         refine ⟨by simp [Ty.size],by simp [Ty.size],_,h1,a,len,c,rfl,n1.symm,wz,fun hn=>?_,fun av=>?_⟩
         ·rcases Nat.eq_zero_or_pos c with h | h
          ·exact h
          ·rw [ha (.inl h)] at hn; simp at hn
         ·have fM:0<xs.length:=List.length_pos_iff.2 av
          refine ⟨b',o'+off*t.size,ha (.inl (by omega)),fun k hk=>?_⟩
          refine ym (g:=g) (σ:=bC) t [] k 0 _ b' _ (fun d hd=>?_) ?_
          ·have ao:off*t.size+(k*t.size+d)<c_.length:=by
            have:(k+1)*t.size≤len*t.size:=Nat.mul_le_mul_right _ (by omega)
            rw [Nat.add_mul] at this ix
            omega
           have:=cn _ ao
           rw [show o'+off*t.size+k*t.size+d=o'+(off*t.size+(k*t.size+d)) by omega]
           exact hD id (by rw [ho]; simp) _ _ _ this.1
          ·have:=n2 k hk
           rw [Nat.zero_add] at this
           exact gi t [] k 0 _ _ _ (fun d hd=>by rw [show o'+off*t.size+k*t.size+d=o'+(off*t.size+(k*t.size+d)) by omega]) this
        ·simp at e
       ·simp at e
      ·simp at e
     | _=>exact Sk e
   | bh t=>
    cases cs with
    | nil=>simp [gb] at e
    | cons c cs=>
     obtain ⟨v,h1,h2⟩:=hv.head
     cases c<;>simp only [gb] at e<;>try (exact absurd (show none=some _ from e) (by simp))
     ·simp only [Option.some.injEq,Prod.mk.injEq] at e
      obtain ⟨rfl,rfl⟩:=e
      obtain rfl:=h2
      exact ⟨by simp [Ty.size],by simp [Ty.size],_,h1,⟨none,0,0,rfl,rfl,Nat.le_refl _,fun _=>rfl,fun h=>absurd rfl h⟩,fun _=>⟨0,0,rfl⟩,fun _=>rfl⟩
     ·split at e
      ·rename_i o hz
       simp only [Option.some.injEq,Prod.mk.injEq] at e
       obtain ⟨rfl,rfl⟩:=e
       obtain ⟨he,hz⟩:=cast_eq hz
       injection he with he
       subst he
       obtain rfl:=eq_of_heq hz
       exact ⟨by simp [Ty.size],by simp [Ty.size],_,h1,fK (eF (fun b o hl v hv=>⟨hv,hL b o hl⟩) _) h2.1,h2.2⟩
      ·simp at e
  ·intro t n cs xs f q i hv e
   cases n with
   | zero=>
    simp only [xI,Option.some.injEq] at e
    subst e
    exact ⟨by simp,rfl,fun k hk=>by simp at hk⟩
   | succ n=>
    simp only [xI] at e
    split at e
    ·rename_i x r1 e1
     split at e
     ·rename_i ys e2
      simp only [Option.some.injEq] at e
      subst e
      obtain ⟨b1,rfl,b2⟩:=wy t cs x r1 f q i 0 hv e1
      obtain ⟨c1,c2,c3⟩:=nP t n _ ys _ q (i+1) (hv.drop t.size) e2
      simp only [List.length_drop] at c1
      refine ⟨by rw [Nat.add_mul]; omega,by simp [c2],fun k hk=>?_⟩
      cases k with
      | zero=>simpa using b2
      | succ k=>
       have:=c3 k (by simpa using hk)
       refine gi t q _ 0 _ _ _ (fun m hm=>?_) (by
        have e3:i+1+k=i+(k+1):=by omega
        rw [e3] at this; exact this)
       congr 1; rw [Nat.add_mul]; omega
     ·simp at e
    ·simp at e
end
end Go.Am
namespace Go.Am
open Go
section
variable {P:Program} {c:aP} {g:Gh} {L:bt} {w:World} {U:Nat→Prop} {st:St} {a:Act}
def yJ (tmps:Array Value):ResultVar→Sem Value
 | .tmp t=>pure (tmps.getD t undef)
 | .cell a t=>do loadVar t (← asAddr (tmps.getD a undef))
theorem Dq (hc:eu P c) (hO:dR g w U st) (hE:∀ t v,look st.env t=some v→ay g w U v (a.eval (.tmp t))):∀ (l:List ResultVar) (vs:List af),rJ st (fun t=>((c.ti t).agg,(c.ti t).size)) l=some vs→
  ∃ bd,(l.mapM (yJ a.tmps)).run P w = .ok bd w∧bK g w U vs bd
 | [],vs,e=>by
  simp only [rJ,Option.some.injEq] at e
  subst e
  exact ⟨[],by simp,rfl⟩
 | .tmp t::l,vs,e=>by
  simp only [rJ] at e
  split at e
  ·rename_i F_ hv
   simp only [Option.some.injEq] at e
   subst e
   obtain ⟨bd,h1,h2⟩:=Dq hc hO hE l F_ hv
   refine ⟨a.tmps.getD t undef::bd,?_,_,_,rfl,CF hE (.tmp t),h2⟩
   simp [List.mapM_cons,yJ,h1]
  ·simp at e
 | .cell t ty::l,vs,e=>by
  simp only [rJ] at e
  split at e
  ·rename_i cs j F_ C1 hv
   split at e
   ·rename_i v hp
    simp only [Option.some.injEq] at e
    subst e
    split at hp
    ·rename_i hs
     obtain ⟨bd,h1,h2⟩:=Dq hc hO hE l F_ hv
     have hx:=CF hE (.tmp t)
     obtain ⟨v',h3,h4⟩:=Jr hc hO hx (by simpa [Nat.blt_eq] using hs) C1 hp
     refine ⟨v'::bd,?_,_,_,rfl,h4,h2⟩
     obtain ⟨b,o,hb,-⟩:=Jq hO hx C1
     have cw:a.tmps.getD t undef = .pointer (some (ad b (o+j))):=hb
     rw [hb] at h3
     have h5:(loadVar ty (ad b (o+j))).run P w = .ok v' w:=by
      simpa [Instr.loadAt,Instr.sureAddr] using h3
     simp [List.mapM_cons,yJ,cw,asAddr,h5,h1]
    ·simp at hp
   ·simp at e
  ·simp at e
def yK (t:Ty) (v:Value) (f:Nat→Option Value):Prop:=match t with
 | .pair _ _=>∃ l:List Value,v = .agg l.toArray∧l.length=t.size∧f=fun k=>l[k]?
 | _=>f 0=some v
theorem F0 (t:Ty) {v:af} {vx:Value} (h:ay g w U v vx):∃ f,eL g w U (lR t v) f∧((lR t v).length=t.size→yK t vx f):=by
 have one:∀ x:af,ay g w U x vx→eL g w U [x] (fun k=>if k=0 then some vx else none):=by
  intro x hx k hk
  have:k=0:=by simpa using hk
  subst this
  exact ⟨vx,by simp,hx⟩
 cases t with
 | pair a b=>
  have aX:2≤(Ty.pair a b).size:=by
   have:=a.size_pos; have:=b.size_pos; simp [Ty.size]; omega
  cases v with
  | agg cs=>
   obtain ⟨l,rfl,hr⟩:=h
   have Dr:=ka hr
   refine ⟨fun k=>l[k]?,fun k hk=>jF hr k hk,fun hl=>⟨l,rfl,?_,rfl⟩⟩
   rw [Dr]; exact hl
  | _=>exact ⟨_,one _ h,fun hl=>by simp only [lR,af.cells,List.length_singleton] at hl; omega⟩
 | _=>exact ⟨fun k=>if k=0 then some vx else none,one v h,fun _=>by simp [yK]⟩
theorem AR {t:Ty} {vx:Value} {f:Nat→Option Value} {cs:List af} (hf:yK t vx f) (hl:cs.length=t.size) (h:eL g w U cs f):ay g w U (shut t cs) vx:=by
 cases t with
 | pair a b=>
  obtain ⟨l,rfl,Dr,rfl⟩:=hf
  refine ⟨l,rfl,rM (by rw [Dr,hl]) (fun k h1 h2=>?_)⟩
  obtain ⟨v,h3,h4⟩:=h k h1
  obtain ⟨h5,h6⟩:=List.getElem?_eq_some_iff.1 h3
  rw [h6]
  exact h4
 | _=>
  obtain ⟨v,rfl⟩:∃ v,cs=[v]:=by
   simp only [Ty.size] at hl
   exact List.length_eq_one_iff.1 hl
  obtain ⟨x,h1,h2⟩:=h 0 (by simp)
  have:x=vx:=Option.some.inj (h1.symm.trans hf)
  subst this
  exact h2
def RK.own:RK→Bool | .sh _=>false | _=>true
def qv (st:St):List RK→List af→List Nat
 | r::rs,v::vs=>(match r.own with | true=>[] | false=>match Cz st r v with | some (_,u)=>u | none=>[])++qv st rs vs
 | _,_=>[]
def AS (g:Gh) (L:bt) (w:World) (σs:Nat→Src):Nat→(rs:List RK)→(bd:List Value)→(os:List Ty)→bz (RK.aV rs++os)→bz os→Prop
 | _,[],bd,_,z,zo=>bd=[]∧z=zo
 | k,r::rs,bd,os,z,zo=>∃ v pg,bd=v::pg∧(∃ f,yK r.ty v f∧ca g L w r.own (σs k) r.ty [] 0 0 z.1 f)∧AS g L w σs (k+1) rs pg os z.2 zo
theorem KG {σs KH:Nat→Src} : ∀ (rs:List RK) (k:Nat) (bd:List Value) (os:List Ty) (z:bz (RK.aV rs++os)) (zo:bz os),(∀ m,k≤m→KH m=σs m)→AS g L w σs k rs bd os z zo→AS g L w KH k rs bd os z zo
 | [],k,bd,os,z,zo,h,hf=>hf
 | r::rs,k,bd,os,z,zo,h,hf=>by
  obtain ⟨v,pg,e,h1,h2⟩:=hf
  exact ⟨v,pg,e,by rw [h k (Nat.le_refl _)]; exact h1,KG rs (k+1) pg os z.2 zo (fun m hm=>h m (by omega)) h2⟩
theorem Sl (hO:dR g w U st) (hL:∀ b o,g.lab b o=none→L b o=none) {r:RK} (hr:r.gD=true) {v:af} {vx:Value} (hv:ay g w U v vx) {x:r.ty.T} {u:List Nat} (e:Cz st r v=some (x,u))
  (eY:r.own=false→∀ id∈u,∀ b o p,g.lab b o=some (id,p)→L b o=none) :
  (∀ id∈u,st.obj id≠none)∧∃ σ,Tk u σ∧(∃ f,yK r.ty vx f∧ca g L w r.own σ r.ty [] 0 0 x f)∧(r.own=false→σ=bC):=by
 have main:∀ (own:Bool) (t:Ty) (x:t.T),(match take st own 50 t (lR t v) with | some (x,[],u)=>some (x,u) | _=>none)=some (x,u)→
   (own=false→∀ id∈u,∀ b o p,g.lab b o=some (id,p)→L b o=none)→
   (∀ id∈u,st.obj id≠none)∧∃ σ,Tk u σ∧(∃ f,yK t vx f∧ca g L w own σ t [] 0 0 x f):=by
  intro own t x e eY
  split at e
  ·rename_i x' u' ht
   simp only [Option.some.injEq,Prod.mk.injEq] at e
   obtain ⟨rfl,rfl⟩:=e
   obtain ⟨f,h2,h1⟩:=F0 t hv
   obtain ⟨h3,h4,h5,σ,T⟩:=(yn (L:=L) hO hL own 50).1 t (lR t v) x' [] u' f [] 0 0 h2 ht eY
   refine ⟨h3,σ,T.tk,f,h1 ?_,T.ow⟩
   have:=congrArg List.length h5
   simp at this; omega
  ·simp at e
 cases r with
 | val t=>
  obtain ⟨h1,σ,h2,h3⟩:=main true t x (by cases t<;>exact e) (fun h=>by simp at h)
  exact ⟨h1,σ,h2,h3,fun h=>by simp [RK.own] at h⟩
 | sh t=>
  obtain ⟨h1,σ,h2,f,h3,h4⟩:=main false t x (by cases t<;>exact e) (fun _=>eY rfl)
  exact ⟨h1,bC,.none,⟨f,h3,F1 t _ _ _ _ _ h4⟩,fun _=>rfl⟩
 | ptr t ms=>simp [RK.gD] at hr
 where F1 {g:Gh} {L:bt} {w:World} {σ τ:Src} : ∀ (t:Ty) (q:Path) (i j:Nat) (x:t.T) (f:Nat→Option Value),ca g L w false σ t q i j x f→ca g L w false τ t q i j x f
 | .int _,_,_,_,_,_,h=>h
 | .bool,_,_,_,_,_,h=>h
 | .str,_,_,_,_,_,h=>h
 | .err,_,_,_,_,_,h=>h
 | .bh _,_,_,_,_,_,h=>h
 | .sl _,_,_,_,_,_,h=>h
 | .pair s t,q,i,j,x,f,h=>⟨F1 s q i j x.1 f h.1,F1 t q i (j+s.size) x.2 _ h.2⟩
theorem KI (hO:dR g w U st) (hL:∀ b o,g.lab b o=none→L b o=none):∀ (rs:List RK) (k:Nat) (vs:List af) (bd:List Value) (os:List Ty) (yo:Option (bz os×List Nat)) (z:bz (RK.aV rs++os)) (uu:List Nat),
  rs.all RK.gD=true→bK g w U vs bd→CA st rs vs os yo=some (z,uu)→(∀ id∈qv st rs vs,∀ b o p,g.lab b o=some (id,p)→L b o=none)→
  ∃ zo uo uR σs,yo=some (zo,uo)∧uu=uR++uo∧AS g L w σs k rs bd os z zo∧(∀ m,m<k∨k+rs.length≤m→σs m=bC)∧(∀ m s id p h,σs m s=some (id,p,h)→id∈uR)∧
   (∀ id∈qv st rs vs,id∈uR)∧(∀ id∈uR,st.obj id≠none)∧
   (uR.Nodup→(∀ m s m' s' id p h h',σs m s=some (id,p,h)→σs m' s'=some (id,p,h')→m=m'∧s=s')∧∀ m s id p h,σs m s=some (id,p,h)→id∉qv st rs vs)
 | [],k,vs,bd,os,yo,z,uu,he,hv,e,eY=>by
  cases vs with
  | cons v vs=>exact absurd (show none=some _ from e) (by simp)
  | nil=>
   replace e:yo=some (z,uu):=e
   refine ⟨z,uu,[],fun _=>bC,e,rfl,⟨hv,rfl⟩,fun _ _=>rfl,fun m s id p h hs=>by simp [bC] at hs,fun id h=>by simp [qv] at h,fun id h=>by simp at h,
    fun _=>⟨fun m s m' s' id p h h' hs=>by simp [bC] at hs,fun m s id p h hs=>by simp [bC] at hs⟩⟩
 | r::rs,k,vs,bd,os,yo,z,uu,he,hv,e,eY=>by
  cases vs with
  | nil=>exact absurd (show none=some _ from e) (by simp)
  | cons v vs=>
   simp only [List.all_cons,Bool.and_eq_true] at he
   obtain ⟨vx,pg,rfl,kb,uf⟩:=hv
   replace e:(match Cz st r v,CA st rs vs os yo with | some (x,u),some (z,w)=>some ((x,z),u++w) | _,_=>none)=some (z,uu):=e
   split at e
   ·rename_i x u z' Sm e1 e2
    simp only [Option.some.injEq,Prod.mk.injEq] at e
    obtain ⟨rfl,rfl⟩:=e
    have FK:r.own=false→∀ id∈u,∀ b o p,g.lab b o=some (id,p)→L b o=none:=by
     intro ho id hid
     refine eY id ?_
     simp only [qv,ho,e1,List.mem_append]
     exact .inl hid
    obtain ⟨h1,σ,h2,h3,h4⟩:=Sl hO hL he.1 kb e1 FK
    obtain ⟨zo,uo,uR,σs,k1,rfl,k3,k4,k5,k6,k7,k8⟩:=KI hO hL rs (k+1) vs pg os yo z' Sm he.2 uf e2 (fun id hid=>eY id (by simp only [qv,List.mem_append]; exact .inr hid))
    have hk:σs k=bC:=k4 k (.inl (by omega))
    refine ⟨zo,uo,u++uR,fun m=>if m=k then σ else σs m,k1,by rw [List.append_assoc],⟨vx,pg,rfl,by simpa using h3,KG rs (k+1) _ _ _ _ (fun m hm=>if_neg (by omega)) k3⟩,fun m hm=>?_,fun m s id p h hs=>?_,fun id hid=>?_,fun id hid=>?_,fun hn=>?_⟩
    ·have Sn:m≠k:=by simp only [List.length_cons] at hm; omega
     simp only [Sn,if_false]
     exact k4 m (by simp only [List.length_cons] at hm; omega)
    ·simp only at hs
     split at hs
     ·exact List.mem_append_left _ (h2.ids _ _ _ _ hs)
     ·exact List.mem_append_right _ (k5 _ _ _ _ _ hs)
    ·simp only [qv,List.mem_append] at hid
     rcases hid with hid | hid
     ·cases ho:r.own with
      | true=>rw [ho] at hid; simp at hid
      | false=>
       rw [ho,e1] at hid
       exact List.mem_append_left _ hid
     ·exact List.mem_append_right _ (k6 id hid)
    ·rcases List.mem_append.1 hid with hid | hid
     ·exact h1 id hid
     ·exact k7 id hid
    ·obtain ⟨n1,n2,n3⟩:=List.nodup_append.1 hn
     obtain ⟨j1,j2⟩:=k8 n2
     refine ⟨fun m s m' s' id p h h' hs jL=>?_,fun m s id p h hs hid=>?_⟩
     ·simp only at hs jL
      split at hs<;>split at jL
      ·rename_i a1 a2
       exact ⟨by rw [a1,a2],h2.inj n1 _ _ _ _ _ _ hs jL⟩
      ·exact absurd rfl (n3 _ (h2.ids _ _ _ _ hs) _ (k5 _ _ _ _ _ jL))
      ·exact absurd rfl (n3 _ (h2.ids _ _ _ _ jL) _ (k5 _ _ _ _ _ hs))
      ·exact j1 _ _ _ _ _ _ _ _ hs jL
     ·simp only [qv,List.mem_append] at hid
      simp only at hs
      split at hs
      ·rcases hid with hid | hid
       ·cases ho:r.own with
        | true=>rw [ho] at hid; simp at hid
        | false=>rw [h4 ho] at hs; simp [bC] at hs
       ·exact absurd rfl (n3 _ (h2.ids _ _ _ _ hs) _ (k6 id hid))
      ·rcases hid with hid | hid
       ·cases ho:r.own with
        | true=>rw [ho] at hid; simp at hid
        | false=>
         rw [ho,e1] at hid
         exact absurd rfl (n3 _ hid _ (k5 _ _ _ _ _ hs))
       ·exact j2 _ _ _ _ _ hs hid
   ·simp at e
end
end Go.Am
namespace Go.Am
open Go
section
variable {g g':Gh} {L:bt} {w:World} {U U':Nat→Prop} {st:St}
theorem Ds {own:Bool} {σ:Src} {a:Nat×Nat} : ∀ (t:Ty) (q:Path) (i j:Nat) (x:t.T) (f:Nat→Option Value),ca g L w own σ t (a::q) i j x f→ca g L w own (fun s=>σ (a::s)) t q i j x f
 | .int _,_,_,_,_,_,h=>h
 | .bool,_,_,_,_,_,h=>h
 | .str,_,_,_,_,_,h=>h
 | .err,_,_,_,_,_,h=>h
 | .bh _,_,_,_,_,_,h=>h
 | .pair s t,q,i,j,x,f,h=>⟨Ds s q i j x.1 f h.1,Ds t q i (j+s.size) x.2 _ h.2⟩
 | .sl t,q,i,j,xs,f,h=>by
  cases own with
  | false=>exact h
  | true=>
   rcases h with ⟨id,p,hh,h1,h2,h3⟩ | ⟨h1,h2,h3⟩
   ·refine .inl ⟨id,p,hh,h1,h2,?_⟩
    obtain ⟨r1,r2,r3,r4⟩:=h3
    refine ⟨r1,r2,r3,fun b o hb=>?_⟩
    obtain ⟨r5,r6⟩:=r4 b o hb
    exact ⟨r5,fun k hk=>Ds t _ k 0 _ _ (r6 k hk)⟩
   ·exact .inr ⟨h1,h2,h3⟩
theorem eL.app {as bs:List af} {f:Nat→Option Value} (h:eL g w U as f) (h':eL g w U bs (fun k=>f (as.length+k))):eL g w U (as++bs) f:=by
 intro k hk
 by_cases ao:k<as.length
 ·rw [List.getElem_append_left ao]; exact h k ao
 ·have rY:k-as.length<bs.length:=by simp at hk; omega
  rw [List.getElem_append_right (by omega)]
  have:∃ v,f (as.length+(k-as.length))=some v∧ay g w U bs[k-as.length] v:=h' (k-as.length) rY
  rw [show as.length+(k-as.length)=k by omega] at this
  exact this
theorem AT (hL : ∀ b o, L b o = none → g'.lab b o = none) {σ : Src} : ∀ (t : Ty) (q : Path) (i j' j : Nat) (x : t.T) (f : Nat → Option Value), ca g L w false σ t q i j' x f → eL g' w U' (flat j4 t x j) f
  | .int _, q, i, j', j, x, f, h => fun k hk => by have : k = 0 := by simpa [flat] using hk
                                                   subst this; exact ⟨_, h, rfl⟩
  | .bool, q, i, j', j, x, f, h => fun k hk => by have : k = 0 := by simpa [flat] using hk
                                                  subst this; exact ⟨_, h, rfl⟩
  | .str, q, i, j', j, x, f, h => fun k hk => by have : k = 0 := by simpa [flat] using hk
                                                 subst this; exact ⟨_, h, rfl⟩
  | .err, q, i, j', j, x, f, h => fun k hk => by have : k = 0 := by simpa [flat] using hk
                                                 subst this; obtain ⟨v, h1, h2⟩ := h; exact ⟨_, h1, h2⟩
  | .bh t, q, i, j', j, x, f, h => fun k hk => by
    have : k = 0 := by simpa [flat] using hk
    subst this
    obtain ⟨v, h1, h2, h3⟩ := h
    exact ⟨v, h1, fK (eF (fun b o hl v hv => ⟨hv, hL b o hl⟩) t) h2, h3⟩
  | .sl t, q, i, j', j, x, f, h => fun k hk => by
    have : k = 0 := by simpa [flat] using hk
    subst this
    obtain ⟨v, h1, h2⟩ := h
    exact ⟨v, h1, fK (eF (fun b o hl v hv => ⟨hv, hL b o hl⟩) t) h2⟩
  | .pair s t, q, i, j', j, x, f, h => by
    refine eL.app (AT hL s q i j' j x.1 f h.1) ?_
    rw [gZ]
    exact AT hL t q i (j' + s.size) (j + s.size) x.2 _ h.2
theorem F2 {base site : Nat} {σ : Src} (hL : ∀ b o, L b o = none → g'.lab b o = none) (h0 : U' 0) (hs : U' site)
    (cJ : ∀ j ver s, j < 32 → g'.hd (base + j) ver s = match σ ((0, j) :: s) with | some (_, _, h) => h | none => c8) (hU : ∀ j, j < 32 → U' ((base + j) / 1024))
    (cn : ∀ j s id p h b o, j < 32 → σ ((0, j) :: s) = some (id, p, h) → g.lab b o = some (id, p) → g'.lab b o = some (base + j, s)) :
    ∀ (t : Ty) (j : Nat) (x : t.T) (f : Nat → Option Value), j + t.size ≤ 32 → ca g L w true σ t [] 0 j x f →
      eL g' w U' (flat (rC base) t x j) f ∧ ∀ id o, look (dZ base site t x j) id = some (some o) → (∃ k, j ≤ k ∧ k < j + t.size ∧ id = base + k) ∧ dQ g' w U' id o
  | .int _, j, x, f, hj, h => ⟨fun k hk => by have : k = 0 := by simpa [flat] using hk
                                              subst this; exact ⟨_, h, rfl⟩, fun id o h => by simp [dZ, look] at h⟩
  | .bool, j, x, f, hj, h => ⟨fun k hk => by have : k = 0 := by simpa [flat] using hk
                                             subst this; exact ⟨_, h, rfl⟩, fun id o h => by simp [dZ, look] at h⟩
  | .str, j, x, f, hj, h => ⟨fun k hk => by have : k = 0 := by simpa [flat] using hk
                                            subst this; exact ⟨_, h, rfl⟩, fun id o h => by simp [dZ, look] at h⟩
  | .err, j, x, f, hj, h => ⟨fun k hk => by have : k = 0 := by simpa [flat] using hk
                                            subst this; obtain ⟨v, h1, h2⟩ := h; exact ⟨_, h1, h2⟩, fun id o h => by simp [dZ, look] at h⟩
  | .bh t, j, x, f, hj, h => ⟨fun k hk => by
    have : k = 0 := by simpa [flat] using hk
    subst this
    obtain ⟨v, h1, h2, h3⟩ := h
    exact ⟨v, h1, fK (eF (fun b o hl v hv => ⟨hv, hL b o hl⟩) t) h2, h3⟩, fun id o h => by simp [dZ, look] at h⟩
  | .pair s t, j, x, f, hj, h => by
    simp only [Ty.size] at hj
    have := s.size_pos
    have := t.size_pos
    obtain ⟨a1, a2⟩ := F2 hL h0 hs cJ hU cn s j x.1 f (by omega) h.1
    obtain ⟨b1, b2⟩ := F2 hL h0 hs cJ hU cn t (j + s.size) x.2 _ (by omega) h.2
    refine ⟨eL.app a1 (by rw [gZ]; exact b1), fun id o hl => ?_⟩
    replace hl : look (dZ base site s x.1 j ++ dZ base site t x.2 (j + s.size)) id = some (some o) := hl
    rw [fV] at hl
    cases hq : look (dZ base site s x.1 j) id with
    | some y =>
      rw [hq] at hl
      simp only [Option.some.injEq] at hl
      subst hl
      obtain ⟨⟨k, k1, k2, k3⟩, k4⟩ := a2 id o hq
      exact ⟨⟨k, k1, by simp only [Ty.size]; omega, k3⟩, k4⟩
    | none =>
      rw [hq] at hl
      obtain ⟨⟨k, k1, k2, k3⟩, k4⟩ := b2 id o hl
      exact ⟨⟨k, by omega, by simp only [Ty.size]; omega, k3⟩, k4⟩
  | .sl u, j, xs, f, hj, h => by
    simp only [Ty.size] at hj
    have se : j < 32 := by omega
    refine ⟨fun k hk => ?_, fun id o hl => ?_⟩
    · have : k = 0 := by simpa [flat] using hk
      subst this
      show ∃ v, f 0 = some v ∧ ay g' w U' (.own (base + j) 0 [] u) v
      rcases h with ⟨id, p, hh, h1, h2, h3⟩ | ⟨h1, h2, h3⟩
      · exact ⟨_, h2, hU j se, h0, h0, trivial, fun _ => rfl, by rw [cJ j 0 [] se, show σ [(0, j)] = _ from h1]⟩
      · exact ⟨_, h2, hU j se, h0, h0, trivial, fun _ => rfl, by rw [cJ j 0 [] se, show σ [(0, j)] = _ from h1]; rfl⟩
    · replace hl : look [(base + j, some (cK.row true u site xs))] id = some (some o) := hl
      rw [cT] at hl
      split at hl
      · rename_i he
        subst he
        simp only [Option.some.injEq] at hl
        subst hl
        refine ⟨⟨j, Nat.le_refl _, by simp [Ty.size], rfl⟩, h0, hs, ?_⟩
        unfold dC
        rw [cJ j 0 [] se]
        rcases h with ⟨id, p, hh, h1, h2, h3⟩ | ⟨h1, h2, h3⟩
        · have h1 : σ [(0, j)] = some (id, p, hh) := h1
          rw [h1]
          obtain ⟨r1, r2, r3, r4⟩ := h3
          refine ⟨r1, r2, r3, fun b o hb => ?_⟩
          obtain ⟨r5, r6⟩ := r4 b o hb
          have R : Ren g L w g' w (fun s => σ ((0, j) :: s)) (base + j) site := by
            refine ⟨fun q id p h hq => ?_, fun q hq hn => ?_, fun q id p h b o hq hl => ⟨cn j q id p h b o se hq hl, rfl, rfl⟩, fun b o hl v hv => ⟨hv, hL b o hl⟩⟩
            · rw [cJ j site q se]
              rw [show σ ((0, j) :: q) = _ from hq]
            · rw [cJ j site q se]
              rw [show σ ((0, j) :: q) = _ from hn]
          refine ⟨fun k hk => ?_, fun k hk => ?_⟩
          · obtain ⟨c1, c2, c3⟩ := r5 k hk
            exact ⟨cn j [] id p hh b _ se h1 c1, c2, c3⟩
          · exact wv R u [] k 0 _ _ b _ (fun d hd => rfl) (Ds u [] k 0 _ _ (r6 k hk))
        · have h1 : σ [(0, j)] = none := h1
          rw [h1]
          subst h3
          exact ⟨rfl, Nat.le_refl _, fun _ => rfl, fun b o hb => by simp [c8] at hb⟩
      · simp [look] at hl
end
def eZ:Nat→Prop:=fun s=>s<20
structure So (g:Gh) (w:World) (ps:List PK) (x:fT ps) (args:List Value):Prop where
 bd:bK g w eZ ((entry 0 ps x).1.map (·.2)) args
 aE:∀ id o,look (entry 0 ps x).2 id=some (some o)→dQ g w eZ id o
 bB:∀ b o q,g.lab b o=some q→b<w.heap.size
def AU (g:Gh) (w:World) (base:Nat):(t:Ty)→Nat→{os:List Ty}→bz (t.fc os)→(bz os→Prop)→Prop
 | .pair a b,j,os,y,K=>AU g w base a j (os:=b.fc os) y (fun y=>AU g w base b (j+a.size) (os:=os) y K)
 | .sl u,j,_,y,K=>(∃ V,dC g w true (base+j) 0 V u b9 [] y.1)∧K y.2
 | .int _,_,_,y,K=>K y
 | .bool,_,_,y,K=>K y
 | .str,_,_,y,K=>K y
 | .err,_,_,y,K=>K y
 | .bh _,_,_,y,K=>K y
def ug (g:Gh) (w:World):Nat→(ps:List PK)→bz (PK.outs ps)→Prop
 | _,[],_=>True
 | i,.io t::ps,y=>AU g w (i*1024) t 0 y (fun y=>ug g w (i+1) ps y)
 | _,.gA _ _::_,_=>False
 | i,.val _::ps,y=>ug g w (i+1) ps y
 | i,.ee _::ps,y=>ug g w (i+1) ps y
 | i,.gB _ _::ps,y=>ug g w (i+1) ps y
structure uh (g:Gh) (w:World) (site:Nat) (m:ar) (y:bz (RK.aV m.rs++PK.outs m.ps)) (v:Value) (g':Gh) (w':World):Prop where
 val:ay g' w' (U' eZ site) (match (eJ site 0 m.rs (PK.outs m.ps) y).1 with | [v]=>v | vs=>.fb vs) v
 aE:∀ id o,look (eJ site 0 m.rs (PK.outs m.ps) y).2.1 id=some (some o)→id / 1024=site∧dQ g' w' (U' eZ site) id o
 outs:ug g' w' 0 m.ps (eJ site 0 m.rs (PK.outs m.ps) y).2.2
 par:∀ n,n / 1024<19→g'.hd n 0 []=g.hd n 0 []
 shr:∀ b o,g.lab b o=none→∀ v,w.cell? (ad b o)=some v→w'.cell? (ad b o)=some v∧g'.lab b o=none
 kX:∀ b o id p,g.lab b o=some (id,p)→id / 1024=19→g'.lab b o=some (id,p)
 bB:∀ b o q,g'.lab b o=some q→b<w'.heap.size
 bP:∀ b o q,b<w.heap.size→g'.lab b o=some q→g.lab b o≠none
 fr:Fr (qf g) w w'
def Sound (P:Program) (f:FuncId) (m:ar):Prop:=
 ∀ (x:fT m.ps) (y:bz (RK.aV m.rs++PK.outs m.ps)),m.m x=some y→tN m.ps m.rs=true→∀ (site:Nat),20≤site→∀ (g:Gh) (w:World) (args:List Value),So g w m.ps x args→Gl P g.lab w→
  Calls P f args.toArray w fun e w'=>∃ v g',e = .returned v∧uh g w site m y v g' w'
end Go.Am
