/- Texts joined: AbsOps. -/
import Derived.Test.YtliiahjpiagdkaaGreatJ02
import Derived.IntWalk
import Derived.Laws.CopyRow
import Derived.Maps.AppendAt
import Derived.Great.BuildSlice
import Derived.Laws.IdiomStrings
namespace Go.Proofs.YtliiahjpiagdkaaGreat
open Go.RowKit
def St.opd (S:St):Operand → Cnt
 | .tmp t=>S.get t
 | .const v=>.per (av v)
 | .func f=>.per (av (.func (.func f) #[] #[]))
 | .global g=>.per (av (.pointer (some ⟨g,0,none⟩)))
def aA:Operand → List Nat
 | .tmp t=>[2 * t]
 | _=>[]
section
variable {P:Program} {n:Nat} {ops:Array Oper} {o:Oper} {F:List Nat} {S T:St} {C:Ctx} {g:Gh} {a:Act} {w:World} {t:Nat}
theorem aD {x:Operand} (hA:dd F T S) (hF:∀ k ∈ aA x,k ∈ F) (hR:RG C n T g a w):crep C T.ver g w (a.eval x) (S.opd x):=by
 cases x with
 | tmp t=>
  have h:=hR.slots t
  rw [hA.1 t (hF _ (by simp [aA]))] at h
  exact h
 | const v=>exact rfl
 | func f=>exact rfl
 | global q=>exact rfl
def Pl (n:Nat) (o:Oper) (t:Nat):Prop:=o.guard = none ∧ o.dst = some t ∧ Nat.blt t n = true
theorem Pl.dOk (h:Pl n o t):dOk n o.dst:=fun t' e=>by
 rw [h.2.1] at e;cases e;exact Nat.le_of_ble_eq_true h.2.2
theorem Pl.wanted (h:Pl n o t) (a:Act):Region.wanted o (yielded ops a.tmps) = true:=by simp [Region.wanted,h.1]
theorem aM (hp:Pl n o t) {c:Cnt} (h:∀ C T g a w,dd F T S → RG C n T g a w → ∃ v,(execOp a.eval o).run P w = .ok (.value v) w ∧ crep C T.ver g w v c) :
 aw n P ops o F c [] S:=by
 refine ⟨?_⟩
 intro C T hA a w ⟨g,hR⟩
 obtain ⟨v,h1,h2⟩:=h C T g a w hA hR
 unfold ia
 rw [if_pos (hp.wanted a)]
 unfold Oper.wp
 rw [h1,Oper.upon_value]
 exact ⟨g,hR.app0 (bw.refl w) hp.dOk h2⟩
theorem cd {x:Operand} {c:Cnt} (hp:Pl n o t) (ho:o.op = .move x) (hc:S.opd x = c):aw n P ops o (aA x) c [] S:=
 aM hp fun C T g a w hA hR=>⟨a.eval x,by simp [execOp,ho],by rw [← hc];exact aD hA (fun _ h=>h) hR⟩
theorem ck {x:Operand} {c:Cnt} (hp:Pl n o t) (ho:o.op = .assign x) (hc:S.opd x = c):aw n P ops o (aA x) c [] S:=
 aM hp fun C T g a w hA hR=>⟨a.eval x,by simp [execOp,ho],by rw [← hc];exact aD hA (fun _ h=>h) hR⟩
theorem aV {x:Operand} {v:Value} (hA:dd F T S) (hF:∀ k ∈ aA x,k ∈ F) (hR:RG C n T g a w) (h:S.opd x = .per (av v)):a.eval x = v:=by
 have:=aD hA hF hR
 rw [h] at this;exact this
def xb (b:Bool) (c:Cnt) (p:Bool):Prop:=b = true → c = bC p
theorem mC {c x y:Operand} {b p q:Bool} (hp:Pl n o t) (ho:o.op = .pick c x y) (hc:S.opd c = bC b) (hx:xb b (S.opd x) p) (hy:xb (!b) (S.opd y) q) :
 aw n P ops o (aA c ++ aA x ++ aA y) (bC (bif b then p else q)) [] S:=
 aM hp fun C T g a w hA hR=>by
  have h1:=aV hA (fun k h=>by simp [h]) hR hc
  cases b with
  | true=>
   have h2:=aV (x:=x) hA (fun k h=>by simp [h]) hR (hx rfl)
   exact ⟨.bool p,by simp [execOp,ho,h1,h2,asBool],rfl⟩
  | false=>
   have h2:=aV (x:=y) hA (fun k h=>by simp [h]) hR (hy rfl)
   exact ⟨.bool q,by simp [execOp,ho,h1,h2,asBool],rfl⟩
theorem au {x:Cnt} {b:Bool} {v:Value} (h:x = .per (av (bif b then v else undef))) (hb:b = true):x = .per (av v):=by rw [h,hb];rfl
theorem ak {x:Cnt} {b:Bool} {c:Cnt} (h:x = bif b then c else .any) (hb:b = true):x = c:=by rw [h,hb];rfl
def jD:Value → Option Bool
 | .bool b=>some b
 | _=>none
theorem ja {j tg:Nat} {a:Act} {v:Value} (hj:(ops[j]?).bind (·.dst) = some tg) (hv:a.tmps.getD tg undef = v) (hlt:tg < a.tmps.size) :
 yielded ops a.tmps j = jD v:=by
 have:a.tmps[tg] = v:=by rw [← hv];simp [Array.getD,hlt]
 subst this
 unfold yielded
 rw [hj]
 simp only [Option.bind_some,Array.getElem?_eq_getElem hlt]
 cases a.tmps[tg] <;> rfl
theorem fa {j tg:Nat} {want b g':Bool} {v:Value} (hg:o.guard = some (j,want)) (hd:o.dst = some t) (ht:Nat.blt t n = true) (hj:(ops[j]?).bind (·.dst) = some tg) (htg:Nat.blt tg n = true)
 (hb:S.get tg = .per (av (bif g' then .bool b else undef))) (h:g' = true → b = want → aw n P ops { o with guard:=none } F (.per (av v)) [] S) :
 aw n P ops o (2 * tg :: F) (.per (av (bif (g' && b == want) then v else undef))) [] S:=by
 refine ⟨?_⟩
 intro C T hA a w ⟨g,hR⟩
 have hv:a.tmps.getD tg undef = (bif g' then .bool b else undef):=by
  have:=hR.slots tg
  rw [hA.1 tg (by simp),hb] at this;exact this
 have hy:=ja (ops:=ops) hj hv (by rw [hR.tsz];exact Nat.le_of_ble_eq_true htg)
 have hdk:dOk n o.dst:=fun t' e=>by rw [hd] at e;cases e;exact Nat.le_of_ble_eq_true ht
 unfold ia
 cases g' with
 | false=>
  rw [if_neg (by simp [Region.wanted,hg,hy,undef,jD])]
  exact ⟨g,hR.app0 (bw.refl w) hdk rfl⟩
 | true=>
  simp only [cond_true] at hy
  by_cases hbw:b = want
  ·rw [if_pos (by simp [Region.wanted,hg,hy,hbw,jD])]
   have hA':dd F T S:=⟨fun t h=>hA.1 t (by simp [h]),fun id h=>hA.2 id (by simp [h])⟩
   have:=(h rfl hbw).run C T hA' a w ⟨g,hR⟩
   unfold ia at this
   rw [if_pos (by simp [Region.wanted])] at this
   subst hbw
   have e:(true && b == b) = true:=by simp
   rw [e]
   exact this
  ·rw [if_neg (by simp [Region.wanted,hg,hy,hbw,jD])]
   have:(b == want) = false:=by simpa using hbw
   simp only [this,Bool.and_false,cond_false]
   exact ⟨g,hR.app0 (bw.refl w) hdk rfl⟩
theorem jO {j tg:Nat} {want b g':Bool} {c:Cnt} (hg:o.guard = some (j,want)) (hd:o.dst = some t) (ht:Nat.blt t n = true) (hj:(ops[j]?).bind (·.dst) = some tg) (htg:Nat.blt tg n = true)
 (hb:S.get tg = .per (av (bif g' then .bool b else undef))) (h:g' = true → b = want → aw n P ops { o with guard:=none } F c [] S) :
 aw n P ops o (2 * tg :: F) (bif (g' && b == want) then c else .any) [] S:=by
 refine ⟨?_⟩
 intro C T hA a w ⟨g,hR⟩
 have hv:a.tmps.getD tg undef = (bif g' then .bool b else undef):=by
  have:=hR.slots tg
  rw [hA.1 tg (by simp),hb] at this;exact this
 have hy:=ja (ops:=ops) hj hv (by rw [hR.tsz];exact Nat.le_of_ble_eq_true htg)
 have hdk:dOk n o.dst:=fun t' e=>by rw [hd] at e;cases e;exact Nat.le_of_ble_eq_true ht
 unfold ia
 cases g' with
 | false=>
  rw [if_neg (by simp [Region.wanted,hg,hy,undef,jD])]
  exact ⟨g,hR.app0 (bw.refl w) hdk trivial⟩
 | true=>
  simp only [cond_true] at hy
  by_cases hbw:b = want
  ·rw [if_pos (by simp [Region.wanted,hg,hy,hbw,jD])]
   have hA':dd F T S:=⟨fun t h=>hA.1 t (by simp [h]),fun id h=>hA.2 id (by simp [h])⟩
   have:=(h rfl hbw).run C T hA' a w ⟨g,hR⟩
   unfold ia at this
   rw [if_pos (by simp [Region.wanted])] at this
   subst hbw
   have e:(true && b == b) = true:=by simp
   rw [e]
   exact this
  ·rw [if_neg (by simp [Region.wanted,hg,hy,hbw,jD])]
   have:(b == want) = false:=by simpa using hbw
   simp only [this,Bool.and_false,cond_false]
   exact ⟨g,hR.app0 (bw.refl w) hdk trivial⟩
theorem jP {x:Cnt} {b:Bool} (h:x = bC b):x = .per (av (bif true then .bool b else undef)):=h
def qP (op:BinOp):Value → Value → Option Value
 | .int k a,.int k' b=>match op with
  | .add=>if k = k' then some (.int k (k.wrap (a + b))) else none
  | .sub=>if k = k' then some (.int k (k.wrap (a - b))) else none
  | .mul=>if k = k' then some (.int k (k.wrap (a * b))) else none
  | .eql=>if k = k' then some (.bool (a == b)) else none
  | .neq=>if k = k' then some (.bool (a != b)) else none
  | .lss=>if k = k' then some (.bool (decide (a < b))) else none
  | .leq=>if k = k' then some (.bool (decide (a ≤ b))) else none
  | .gtr=>if k = k' then some (.bool (decide (a > b))) else none
  | .geq=>if k = k' then some (.bool (decide (a ≥ b))) else none
  | _=>none
 | .string a,.string b=>match op with
  | .eql=>some (.bool (a.toList == b.toList))
  | .neq=>some (.bool !(a.toList == b.toList))
  | .lss=>some (.bool (Op.bytesLess a.toList b.toList))
  | .gtr=>some (.bool !(Op.bytesLess a.toList b.toList || (a.toList == b.toList)))
  | _=>none
 | _,_=>none
theorem xc {op:BinOp} {T:TypeId} {x y:Operand} {u v r:Value} (h:qP op u v = some r) (w:World) :
 (do eqGuard op T x y u v;binOp op T u v).run P w = .ok r w:=by
 unfold qP at h
 split at h
 ·split at h <;> first
   | (split at h
      ·rename_i hk;subst hk;cases h;simp [eqGuard_at_int,binOp,Op.intArith,Op.intCmp]
      ·cases h)
   | cases h
 ·split at h <;> first|(cases h;simp [eqGuard_at_string,binOp,Op.stringOp])|cases h
 ·cases h
theorem pm {op:BinOp} {ty ty':TypeId} {x y:Operand} {u v r:Value} (hp:Pl n o t) (ho:o.op = .binOp op ty x y ty') (hx:S.opd x = .per (av u)) (hy:S.opd y = .per (av v))
 (h:qP op u v = some r):aw n P ops o (aA x ++ aA y) (.per (av r)) [] S:=
 aM hp fun C T g a w hA hR=>by
  have h1:=aV (x:=x) hA (fun k h=>by simp [h]) hR hx
  have h2:=aV (x:=y) hA (fun k h=>by simp [h]) hR hy
  refine ⟨r,?_,rfl⟩
  have:=xc (P:=P) (T:=ty) (x:=x) (y:=y) h w
  simp only [execOp,ho,h1,h2,Sem.run_bind] at this ⊢
  rw [this];rfl
theorem gH {op:BinOp} {ty ty':TypeId} {x y:Operand} {u v:Value} {k:IntKind} {z z':Int} (hp:Pl n o t) (ho:o.op = .binOp op ty x y ty') (hx:S.opd x = .per (av u)) (hy:S.opd y = .per (av v))
 (h:qP op u v = some (.int k z)) (hz:z = z'):aw n P ops o (aA x ++ aA y) (iC k z') [] S:=hz ▸ pm hp ho hx hy h
theorem FT {ty ty':TypeId} {x y:Operand} {k:IntKind} {p q z:Int} (hp:Pl n o t) (ho:o.op = .binOp .quo ty x y ty') (hx:S.opd x = iC k p) (hy:S.opd y = iC k q)
 (hq:q ≠ 0) (hz:k.wrap (p.tdiv q) = z):aw n P ops o (aA x ++ aA y) (iC k z) [] S:=
 aM hp fun C T g a w hA hR=>by
  have h1:=aV (x:=x) hA (fun k h=>by simp [h]) hR hx
  have h2:=aV (x:=y) hA (fun k h=>by simp [h]) hR hy
  exact ⟨.int k z,by simp [execOp,ho,h1,h2,binOp,Op.intDiv,hq,hz,eqGuard_at_int],rfl⟩
theorem FV {ty ty':TypeId} {x y:Operand} {k:IntKind} {p q z:Int} (hp:Pl n o t) (ho:o.op = .binOp .rem ty x y ty') (hx:S.opd x = iC k p) (hy:S.opd y = iC k q)
 (hq:q ≠ 0) (hz:p.tmod q = z):aw n P ops o (aA x ++ aA y) (iC k z) [] S:=
 aM hp fun C T g a w hA hR=>by
  have h1:=aV (x:=x) hA (fun k h=>by simp [h]) hR hx
  have h2:=aV (x:=y) hA (fun k h=>by simp [h]) hR hy
  exact ⟨.int k z,by simp [execOp,ho,h1,h2,binOp,Op.intDiv,hq,hz,eqGuard_at_int],rfl⟩
theorem vo {ty:TypeId} {x:Operand} {b:Bool} (hp:Pl n o t) (ho:o.op = .unOp .not ty x) (hx:S.opd x = bC b):aw n P ops o (aA x) (bC (!b)) [] S:=
 aM hp fun C T g a w hA hR=>by
  have h1:=aV (x:=x) hA (fun k h=>by simp [h]) hR hx
  exact ⟨_,by simp [execOp,ho,h1,Op.unary],rfl⟩
theorem KD {src dst:TypeId} {x:Operand} {k k':IntKind} {p z:Int} (hp:Pl n o t) (ho:o.op = .convert src dst x) (hs:(P.underlying src).isSome = true) (hd:P.underlying dst = some (.int k)) (hx:S.opd x = iC k' p)
 (hz:k.wrap p = z):aw n P ops o (aA x) (iC k z) [] S:=
 aM hp fun C T g a w hA hR=>by
  have h1:=aV (x:=x) hA (fun k h=>by simp [h]) hR hx
  refine ⟨.int k z,?_,rfl⟩
  have hik:P.intKind dst = k:=by simp [Program.intKind,hd]
  have:=run_convert_int (P:=P) w src dst k' p hs (by rw [hd,hik])
  simp only [execOp,ho,h1,Sem.run_bind,this,hik,hz]
  rfl
theorem cm {z:Int} (h1:-9223372036854775808 ≤ z) (h2:z ≤ 9223372036854775807):IntKind.i64.wrap z = z:=IntWalk.i64_in z ⟨h1,h2⟩
def FW (v:Value):Cnt:=.per (av v)
theorem eT {T k:Nat} (h:P.cellsOf T = k) (hk:0 < k) (w:World):(sizeOf T).run P w = .ok k w:=by
 unfold Program.cellsOf at h
 cases hi:P.info? T with
 | none=>rw [hi] at h;simp at h;omega
 | some i=>
  rw [run_sizeOf (w:=w) hi]
  unfold Program.cellsOf;rw [hi] at h ⊢;simp at h ⊢;exact h
def fV:TypeDesc → Bool
 | .struct _|.array _ _=>true
 | _=>false
theorem mD {T:TypeId} {d:TypeDesc} (h:P.underlying T = some d) (w:World):(isAgg T).run P w = .ok (fV d) w:=by
 unfold isAgg
 rw [Sem.run_bind,run_underlying h]
 cases d <;> rfl
theorem tK {w:World} {b o:Nat} {cs:List Value} (h:∀ (j:Nat) (v:Value),cs[j]? = some v → w.cell? ⟨b,o + j,none⟩ = some v) :
 (loadCells ⟨b,o,none⟩ cs.length).run P w = .ok cs.toArray w:=
 run_loadCells_list w ⟨b,o,none⟩ cs (fun j v hj=>by rw [Addr.add_lit];exact h j v hj)
theorem kj {w:World} {b o:Nat} {T:TypeId} {d:TypeDesc} {y:Value} (hT:P.underlying T = some d) (hd:fV d = false) (h:w.cell? ⟨b,o,none⟩ = some y) :
 (Instr.loadAt T (.pointer (some ⟨b,o,none⟩))).run P w = .ok y w:=by
 simp only [Instr.loadAt,Instr.sureAddr,Sem.run_bind,Sem.run_pure,Result.andThen_ok,loadVar,mD hT,hd,Bool.false_eq_true,if_false]
 simp [load,Sem.run,h]
theorem el {w:World} {b o:Nat} {T:TypeId} {d:TypeDesc} {cs:List Value} (hT:P.underlying T = some d) (hd:fV d = true) (hk:P.cellsOf T = cs.length) (h0:0 < cs.length)
 (h:∀ (j:Nat) (v:Value),cs[j]? = some v → w.cell? ⟨b,o + j,none⟩ = some v) :
 (Instr.loadAt T (.pointer (some ⟨b,o,none⟩))).run P w = .ok (.agg cs.toArray) w:=by
 simp only [Instr.loadAt,Instr.sureAddr,Sem.run_bind,Sem.run_pure,Result.andThen_ok,loadVar,mD hT,hd,if_true,eT hk h0,tK h]
theorem cU {N:BP} {w:World} {f:Nat → Option Value}:∀ (cs:List PV),(∀ (j:Nat) (A:PV),cs[j]? = some A → ∃ y,f j = some y ∧ y.oneCell' = true ∧ A.p N w y) →
 ∃ vs:List Value,vs.length = cs.length ∧ (∀ (j:Nat) (v:Value),vs[j]? = some v → f j = some v) ∧ fq N w vs.toArray cs:=by
 intro cs
 induction cs generalizing f with
 | nil=>intro _;exact ⟨[],rfl,fun j v h=>by simp at h,rfl,fun j A h=>by simp at h⟩
 | cons A cs ih=>
  intro h
  obtain ⟨y,h1,h2,h3⟩:=h 0 A rfl
  obtain ⟨vs,g1,g2,g3,g4⟩:=ih (f:=fun j=>f (j + 1)) (fun j A' hj=>h (j + 1) A' (by simpa using hj))
  refine ⟨y :: vs,by simp [g1],fun j v hj=>?_,by simp [g1],fun j A' hj=>?_⟩
  ·cases j with
   | zero=>simp at hj;subst hj;exact h1
   | succ j=>exact g2 j v (by simpa using hj)
  ·cases j with
   | zero=>simp at hj;subst hj;exact ⟨y,by simp,h2,h3⟩
   | succ j=>
    obtain ⟨z,q1,q2⟩:=g4 j A' (by simpa using hj)
    exact ⟨z,by simpa using q1,q2⟩
theorem xd {ty:TypeId} {d:TypeDesc} {x:Operand} {cs:List PV} {A:PV} (hp:Pl n o t) (ho:o.op = .load ty x) (hT:P.underlying ty = some d) (hd:fV d = false)
 (hx:S.opd x = .per (dw cs)) (hA:cs[0]? = some A):aw n P ops o (aA x) (.per A) [] S:=
 aM hp fun C T g a w hAg hR=>by
  have h:=aD (x:=x) hAg (fun k h=>h) hR
  rw [hx] at h
  obtain ⟨b,of,hv,hb,hn,hc⟩:=h
  obtain ⟨y,h1,h2,h3⟩:=hc 0 A hA
  rw [Nat.add_zero] at h1
  refine ⟨y,?_,h3⟩
  simp only [execOp,ho,hv,Sem.run_bind,kj hT hd h1];rfl
theorem xe {ty:TypeId} {d:TypeDesc} {x:Operand} {cs:List PV} (hp:Pl n o t) (ho:o.op = .load ty x) (hT:P.underlying ty = some d) (hd:fV d = true) (hk:P.cellsOf ty = cs.length) (h0:0 < cs.length)
 (hx:S.opd x = .per (dw cs)):aw n P ops o (aA x) (.per (bX cs)) [] S:=
 aM hp fun C T g a w hAg hR=>by
  have h:=aD (x:=x) hAg (fun k h=>h) hR
  rw [hx] at h
  obtain ⟨b,of,hv,hb,hn,hc⟩:=h
  obtain ⟨vs,g1,g2,g3⟩:=cU cs hc
  refine ⟨.agg vs.toArray,?_,⟨vs.toArray,rfl,g3⟩⟩
  simp only [execOp,ho,hv,Sem.run_bind,el hT hd (by rw [hk,g1]) (by omega) g2];rfl
theorem ue {N:BP} {w:World} {cs:List PV} {off b q:Nat} (h:∀ (j:Nat) (A:PV),cs[j]? = some A → ∃ y,w.cell? ⟨b,q + j,none⟩ = some y ∧ y.oneCell' = true ∧ A.p N w y) :
 ∀ (j:Nat) (A:PV),(cs.drop off)[j]? = some A → ∃ y,w.cell? ⟨b,q + off + j,none⟩ = some y ∧ y.oneCell' = true ∧ A.p N w y:=by
 intro j A hj
 rw [List.getElem?_drop] at hj
 obtain ⟨y,h1,h2⟩:=h (off + j) A hj
 exact ⟨y,by rw [show q + off + j = q + (off + j) by omega];exact h1,h2⟩
theorem ju {w:World} {b o off f:Nat} {T:TypeId} {fs:Array Field} {fld:Field} {k:Nat} (hT:P.underlying T = some (.struct fs)) (hf:fs[f]? = some fld) (hoff:fld.offset = off) (hk:P.cellsOf fld.type = k) (h0:0 < k) :
 (Instr.fieldAt T (.pointer (some ⟨b,o,none⟩)) f).run P w = .ok (.pointer (some ⟨b,o + off,none⟩)) w:=by
 unfold Instr.fieldAt
 rw [Sem.run_bind,run_underlying hT]
 simp only [Result.andThen_ok,hf,Instr.sureAddr,Sem.run_bind,Sem.run_pure,fieldPlace,eT hk h0]
 rw [if_neg (by omega)]
 simp [hoff,Addr.add_lit]
structure cF (P:Program) (T f off:Nat):Prop where
 ex:∃ fs fld k,P.underlying T = some (.struct fs) ∧ fs[f]? = some fld ∧ fld.offset = off ∧ P.cellsOf fld.type = k ∧ 0 < k
theorem cF.mk' {T f off:Nat} {fs:Array Field} (hT:P.underlying T = some (.struct fs)) (h:(fs[f]?).map (fun x=>(x.offset,Nat.blt 0 (P.cellsOf x.type))) = some (off,true)):cF P T f off:=by
 cases hf:fs[f]? with
 | none=>rw [hf] at h;cases h
 | some fld=>
  rw [hf] at h
  simp at h
  exact ⟨fs,fld,_,hT,hf,h.1,rfl,h.2⟩
theorem xf {T f off:Nat} {x:Operand} {cs:List PV} (hp:Pl n o t) (ho:o.op = .fieldAddr T x f) (hf:cF P T f off) (hx:S.opd x = .per (dw cs)):aw n P ops o (aA x) (.per (dw (cs.drop off))) [] S:=
 aM hp fun C T g a w hAg hR=>by
  obtain ⟨fs,fld,k,h1,h2,h3,h4,h5⟩:=hf.ex
  have h:=aD (x:=x) hAg (fun k h=>h) hR
  rw [hx] at h
  obtain ⟨b,q,hv,hb,hn,hc⟩:=h
  refine ⟨_,by simp only [execOp,ho,hv,Sem.run_bind,ju h1 h2 h3 h4 h5];rfl,b,q + off,rfl,hb,hn,ue hc⟩
theorem xg {T f off:Nat} {x:Operand} {cs:List PV} (hp:Pl n o t) (ho:o.op = .fieldAddr T x f) (hf:cF P T f off) (hx:S.opd x = .bpt cs):aw n P ops o (aA x) (.bpt (cs.drop off)) [] S:=
 aM hp fun C T g a w hAg hR=>by
  obtain ⟨fs,fld,k,h1,h2,h3,h4,h5⟩:=hf.ex
  have h:=aD (x:=x) hAg (fun k h=>h) hR
  rw [hx] at h
  obtain ⟨b,q,hv,hb,hn,hc⟩:=h
  refine ⟨_,by simp only [execOp,ho,hv,Sem.run_bind,ju h1 h2 h3 h4 h5];rfl,b,q + off,rfl,hb,hn,ue hc⟩
theorem xi {ty:TypeId} {d:TypeDesc} {x:Operand} {cs:List PV} {A:PV} (hp:Pl n o t) (ho:o.op = .load ty x) (hT:P.underlying ty = some d) (hd:fV d = false)
 (hx:S.opd x = .bpt cs) (hA:cs[0]? = some A):aw n P ops o (aA x) (.per A) [] S:=
 aM hp fun C T g a w hAg hR=>by
  have h:=aD (x:=x) hAg (fun k h=>h) hR
  rw [hx] at h
  obtain ⟨b,of,hv,hb,hn,hc⟩:=h
  obtain ⟨y,h1,h2,h3⟩:=hc 0 A hA
  rw [Nat.add_zero] at h1
  refine ⟨y,?_,h3⟩
  simp only [execOp,ho,hv,Sem.run_bind,kj hT hd h1];rfl
theorem xj {ty:TypeId} {d:TypeDesc} {x:Operand} {cs:List PV} (hp:Pl n o t) (ho:o.op = .load ty x) (hT:P.underlying ty = some d) (hd:fV d = true) (hk:P.cellsOf ty = cs.length) (h0:0 < cs.length)
 (hx:S.opd x = .bpt cs):aw n P ops o (aA x) (.per (bX cs)) [] S:=
 aM hp fun C T g a w hAg hR=>by
  have h:=aD (x:=x) hAg (fun k h=>h) hR
  rw [hx] at h
  obtain ⟨b,of,hv,hb,hn,hc⟩:=h
  obtain ⟨vs,g1,g2,g3⟩:=cU cs hc
  refine ⟨.agg vs.toArray,?_,⟨vs.toArray,rfl,g3⟩⟩
  simp only [execOp,ho,hv,Sem.run_bind,el hT hd (by rw [hk,g1]) (by omega) g2];rfl
end
end Go.Proofs.YtliiahjpiagdkaaGreat
namespace Go.Proofs.YtliiahjpiagdkaaGreat
open Go.RowKit
def Gh.mk1 (g:Gh) (t q:Nat) (v:Value):Gh:=⟨fun b=>if b = q then some t else g.ow b,fun i=>if i = t then q else g.ph i,fun i=>if i = t then v else g.rh i⟩
section
variable {P:Program} {n:Nat} {ops:Array Oper} {o:Oper} {F:List Nat} {S T:St} {C:Ctx} {g:Gh} {a:Act} {w w':World} {t:Nat}
theorem FX {vr:Nat → Nat} {q:Nat} {v:Value} (hR:RG C n T g a w) (hx:bw w w') (h1:w.heap.size ≤ q) (h2:q < w'.heap.size) {vr':Nat → Nat} (hvr:T.ver = vr) (h:∀ i,vr' i = if i = t then vr t + 1 else vr i) (hfx:cV t = false) :
 ln C (fun i=>i = t) vr vr' g (g.mk1 t q v) w w':=by
 subst hvr
 refine ⟨hx.size,fun b hb _=>hx.block b hb,fun b hb _=>?_,fun b hb hn=>?_,fun b id e=>?_,fun i=>?_,fun i hi=>?_,fun i hi=>?_,hx.os,hx.tape,hx.output⟩
 ·show (if b = q then some t else g.ow b) = _
  rw [if_neg (by omega)]
 ·change (if b = q then some t else g.ow b) ≠ none at hn
  rwa [if_neg (by omega)] at hn
 ·change (if b = q then some t else g.ow b) = some id at e
  by_cases hb:b = q
  ·subst hb;exact ⟨h2,.inl (Nat.le_trans hR.size h1)⟩
  ·rw [if_neg hb] at e
   exact ⟨Nat.lt_of_lt_of_le (hR.dom b id e).1 hx.size,(hR.dom b id e).2⟩
 ·rw [h]
  by_cases hi:i = t
  ·subst hi;exact .inr ⟨rfl,by rw [if_pos rfl];omega⟩
  ·rw [if_neg hi];exact .inl rfl
 ·rw [h] at hi
  by_cases hit:i = t
  ·subst hit;rw [if_pos rfl] at hi;omega
  ·exact ⟨if_neg hit,if_neg hit⟩
 ·have hit:i ≠ t:=fun e=>by subst e;rw [hfx] at hi;cases hi
  exact ⟨if_neg hit,if_neg hit⟩
theorem Pl.nofix (h:Pl n o t) (hR:RG C n T g a w):cV t = false:=FK (by have:=Nat.le_of_ble_eq_true h.2.2;have:=hR.nle;omega)
theorem rC (hp : Pl n o t) {c : Cnt} {B : Blk} (hF : 2 * t + 1 ∈ F) (h : ∀ C T g a w, dd F T S → RG C n T g a w → ∃ v w' q, (execOp a.eval o).run P w = .ok (.value v) w' ∧ bw w w' ∧ w.heap.size ≤ q ∧ q < w'.heap.size ∧
     ∀ vr',(∀ i,vr' i = if i = t then S.ver t + 1 else T.ver i) → ln C (fun i=>i = t) T.ver vr' g (g.mk1 t q v) w w' → crep C vr' (g.mk1 t q v) w' v c ∧ brep C vr' (g.mk1 t q v) w' t B) :
 aw n P ops o F c [(t,S.ver t + 1,B)] S:=by
 refine ⟨?_⟩
 intro C T hA a w ⟨g,hR⟩
 obtain ⟨v,w',q,h1,h2,h3,h4,h5⟩:=h C T g a w hA hR
 unfold ia
 rw [if_pos (hp.wanted a)]
 unfold Oper.wp
 rw [h1,Oper.upon_value]
 have hv:=(hA.2 t hF).2
 have hvr:∀ i,(T.app o.dst c [(t,S.ver t + 1,B)]).ver i = if i = t then S.ver t + 1 else T.ver i:=fun i=>St.app_some_ver _ _ _ _ _ _ _
 have hst:=FX (v:=v) hR h2 h3 h4 rfl (t:=t) (vr':=(T.app o.dst c [(t,S.ver t + 1,B)]).ver) (by intro i;rw [hvr i,hv]) (hp.nofix hR)
 obtain ⟨h6,h7⟩:=h5 _ hvr hst
 exact ⟨g.mk1 t q v,hR.app1 hp.dOk hst h6 h7⟩
theorem ie (w:World) (ob:Obj):w.heap.size < (w.alloc ob).heap.size:=by
 rw [show (w.alloc ob).heap.size = w.heap.size + 1 by simp];omega
theorem lz {vs:Array Value} {e:TypeId} {cells:List Cnt} {vr':Nat → Nat} {v:Value} (hsz:vs.size = cells.length)
 (h:∀ (j:Nat) (c:Cnt),cells[j]? = some c → ∃ y,vs[j]? = some y ∧ y.oneCell' = true ∧ crep C vr' (g.mk1 t w.heap.size v) (w.alloc (.cells vs e)) y c) :
 brep C vr' (g.mk1 t w.heap.size v) (w.alloc (.cells vs e)) t (.box e cells):=
 ⟨vs,by show (w.alloc (.cells vs e)).heap[if t = t then w.heap.size else g.ph t]? = _;rw [if_pos rfl];exact heap_alloc_new w _,
  by show (if (if t = t then w.heap.size else g.ph t) = w.heap.size then some t else _) = some t;rw [if_pos rfl,if_pos rfl],hsz,h⟩
theorem gk {vr':Nat → Nat} {q r:Nat} {v:Value} (h:vr' t = r) (hv:v = .pointer (some ⟨q,0,none⟩)):crep C vr' (g.mk1 t q v) w v (.ptr t r 0):=
 ⟨by omega,fun _=>by rw [hv];show _ = Value.pointer (some ⟨if t = t then q else g.ph t,0,none⟩);rw [if_pos rfl]⟩
theorem rD {e:TypeId} {x:Operand} {cs:List PV} (hp:Pl n o t) (ho:o.op = .box e x) (hx:S.opd x = .per (bX cs)) :
 aw n P ops o ((2 * t + 1) :: aA x) (.ptr t (S.ver t + 1) 0) [(t,S.ver t + 1,.box e (cs.map .per))] S:=
 rC hp (by simp) fun C T g a w hA hR=>by
  have h:=aD (x:=x) hA (fun k h=>by simp [h]) hR
  rw [hx] at h
  obtain ⟨vs,hv,h1,h2⟩:=h
  refine ⟨.pointer (some ⟨w.heap.size,0,none⟩),w.alloc (.cells vs e),w.heap.size,?_,(bw.refl w).alloc _,Nat.le_refl _,ie _ _,fun vr' hvr hst=>⟨?_,?_⟩⟩
  ·simp only [execOp,ho,hv,Instr.box,newVar,newRow,Value.cells,newObj,Sem.run_bind,Sem.run_pure]
   rfl
  ·exact gk (by rw [hvr,if_pos rfl]) rfl
  ·refine lz (by simp [h1]) (fun j c hj=>?_)
   rw [List.getElem?_map] at hj
   cases hA:cs[j]? with
   | none=>rw [hA] at hj;cases hj
   | some A=>
    rw [hA] at hj;cases hj
    obtain ⟨y,g1,g2,g3⟩:=h2 j A hA
    exact ⟨y,g1,g2,hst.crep (c:=.per A) g3⟩
def na (A:PV):Prop:=∀ N w v,A.p N w v → v.oneCell' = true ∧ v.cells = #[v]
theorem cn {v:Value} (h:v.oneCell' = true) (h':v.cells = #[v]):na (av v):=fun _ _ _ e=>by cases e;exact ⟨h,h'⟩
theorem cE {k:Nat} {es:List (List PV)}:na (cD k es):=fun _ _ _ ⟨_,_,_,_,e,_⟩=>by subst e;exact ⟨rfl,rfl⟩
theorem dB {cs:List PV}:na (dw cs):=fun _ _ _ ⟨_,_,e,_⟩=>by subst e;exact ⟨rfl,rfl⟩
theorem rE {e:TypeId} {x:Operand} {A:PV} (hp:Pl n o t) (ho:o.op = .box e x) (hx:S.opd x = .per A) (h1:na A) :
 aw n P ops o ((2 * t + 1) :: aA x) (.ptr t (S.ver t + 1) 0) [(t,S.ver t + 1,.box e [.per A])] S:=
 rC hp (by simp) fun C T g a w hA hR=>by
  have h:=aD (x:=x) hA (fun k h=>by simp [h]) hR
  rw [hx] at h
  obtain ⟨g1,g2⟩:=h1 _ _ _ h
  refine ⟨.pointer (some ⟨w.heap.size,0,none⟩),w.alloc (.cells #[a.eval x] e),w.heap.size,?_,(bw.refl w).alloc _,Nat.le_refl _,ie _ _,fun vr' hvr hst=>⟨?_,?_⟩⟩
  ·simp only [execOp,ho,Instr.box,newVar,newRow,g2,newObj,Sem.run_bind,Sem.run_pure]
   rfl
  ·exact gk (by rw [hvr,if_pos rfl]) rfl
  ·refine lz rfl (fun j c hj=>?_)
   cases j with
   | zero=>simp at hj;subst hj;exact ⟨_,rfl,g1,hst.crep (c:=.per A) h⟩
   | succ j=>simp at hj
theorem FY {e:TypeId} {z:Value} (hp:Pl n o t) (ho:o.op = .alloc e) (hz:(P.info? e).bind (·.zero) = some z) (h1:z.cells.toList.all (·.oneCell') = true) :
 aw n P ops o [2 * t + 1] (.ptr t (S.ver t + 1) 0) [(t,S.ver t + 1,.box e (z.cells.toList.map FW))] S:=
 rC hp (by simp) fun C T g a w hA hR=>by
  have hzv:(zeroValue e).run P w = .ok z w:=by
   cases hi:P.info? e with
   | none=>rw [hi] at hz;cases hz
   | some i=>
    rw [hi] at hz
    simp only [Option.bind_some] at hz
    simp [zeroValue,typeInfo,program,Sem.run,hi,hz]
  refine ⟨.pointer (some ⟨w.heap.size,0,none⟩),w.alloc (.cells z.cells e),w.heap.size,?_,(bw.refl w).alloc _,Nat.le_refl _,ie _ _,fun vr' hvr hst=>⟨?_,?_⟩⟩
  ·simp only [execOp,ho,Instr.alloc,newVar,newRow,newObj,Sem.run_bind,Sem.run_pure,hzv,Result.andThen_ok]
   rfl
  ·exact gk (by rw [hvr,if_pos rfl]) rfl
  ·refine lz (by simp) (fun j c hj=>?_)
   rw [List.getElem?_map] at hj
   cases hv:z.cells.toList[j]? with
   | none=>rw [hv] at hj;cases hj
   | some y=>
    rw [hv] at hj;cases hj
    refine ⟨y,by simpa using hv,?_,rfl⟩
    rw [List.all_eq_true] at h1
    exact h1 y (List.mem_of_getElem? hv)
theorem pn {x:Operand} {id vr off:Nat} {e:TypeId} {cells:List Cnt} (hA:dd F T S) (hF:∀ k ∈ aA x,k ∈ F) (hF':2 * id + 1 ∈ F) (hR:RG C n T g a w) (hx:S.opd x = .ptr id vr off) (hv:S.ver id = vr) (hb:S.blk id = .box e cells) :
 a.eval x = .pointer (some ⟨g.ph id,off,none⟩) ∧ ∃ cs:Array Value,w.heap[g.ph id]? = some (.cells cs e (0,0)) ∧ g.ow (g.ph id) = some id ∧ cs.size = cells.length ∧
  ∀ (j:Nat) (c:Cnt),cells[j]? = some c → ∃ y,cs[j]? = some y ∧ y.oneCell' = true ∧ crep C T.ver g w y c:=by
 have h:=aD hA hF hR
 rw [hx] at h
 have h2:=hA.2 id hF'
 have h3:=hR.blks id
 rw [h2.1,hb] at h3
 exact ⟨h.2 (by rw [h2.2,hv]),h3⟩
theorem eo {w:World} {q:Nat} {cs:Array Value} {e:TypeId} {fz:Nat × Nat} (h:w.heap[q]? = some (.cells cs e fz)) (j:Nat):w.cell? ⟨q,j,none⟩ = cs[j]?:=cell_of_row w q j _ _ _ h
theorem FZ {ty:TypeId} {d:TypeDesc} {x:Operand} {id vr off:Nat} {e:TypeId} {cells:List Cnt} {c:Cnt} (hp:Pl n o t) (ho:o.op = .load ty x) (hT:P.underlying ty = some d) (hd:fV d = false)
 (hx:S.opd x = .ptr id vr off) (hv:S.ver id = vr) (hb:S.blk id = .box e cells) (hc:cells[off]? = some c):aw n P ops o ((2 * id + 1) :: aA x) c [] S:=
 aM hp fun C T g a w hA hR=>by
  obtain ⟨h1,cs,h2,_,_,h5⟩:=pn hA (fun k h=>by simp [h]) (by simp) hR hx hv hb
  obtain ⟨y,g1,g2,g3⟩:=h5 off c hc
  refine ⟨y,?_,g3⟩
  simp only [execOp,ho,h1,Sem.run_bind,kj (b:=g.ph id) (o:=off) hT hd (by rw [eo h2];exact g1)];rfl
def po:List Cnt → Option (List PV)
 | []=>some []
 | .per A :: l=>match po l with
  | some r=>some (A :: r)
  | none=>none
 | _=>none
theorem mF:∀ {l:List Cnt} {r:List PV},po l = some r → l = r.map .per:=by
 intro l
 induction l with
 | nil=>intro r h;cases h;rfl
 | cons c l ih=>
  intro r h
  unfold po at h
  split at h
  ·cases ‹_ :: _ = []›
  ·rename_i A l' he
   cases he
   split at h
   ·rename_i r' hr;cases h;rw [ih hr];rfl
   ·cases h
  ·cases h
theorem F0 {ty:TypeId} {d:TypeDesc} {x:Operand} {id vr off k:Nat} {e:TypeId} {cells:List Cnt} {As:List PV} (hp:Pl n o t) (ho:o.op = .load ty x) (hT:P.underlying ty = some d) (hd:fV d = true) (hk:P.cellsOf ty = k) (h0:Nat.blt 0 k = true)
 (hx:S.opd x = .ptr id vr off) (hv:S.ver id = vr) (hb:S.blk id = .box e cells) (hl:Nat.ble (off + k) cells.length = true) (hc:po ((cells.drop off).take k) = some As):aw n P ops o ((2 * id + 1) :: aA x) (.per (bX As)) [] S:=
 aM hp fun C T g a w hA hR=>by
  obtain ⟨h1,cs,h2,_,_,h5⟩:=pn hA (fun k h=>by simp [h]) (by simp) hR hx hv hb
  have h0:=Nat.le_of_ble_eq_true h0
  have hl:=Nat.le_of_ble_eq_true hl
  have hm:=mF hc
  have hlen:As.length = k:=by
   have:=congrArg List.length hm
   simp at this;omega
  obtain ⟨vs,g1,g2,g3⟩:=cU (N:=g.N C) (w:=w) (f:=fun j=>w.cell? ⟨g.ph id,off + j,none⟩) As (fun j A hj=>by
   have hcj:cells[off + j]? = some (.per A):=by
    have:((cells.drop off).take k)[j]? = some (.per A):=by rw [hm,List.getElem?_map,hj];rfl
    rw [List.getElem?_take] at this
    split at this
    ·rw [List.getElem?_drop] at this;exact this
    ·cases this
   obtain ⟨y,q1,q2,q3⟩:=h5 _ _ hcj
   exact ⟨y,by rw [eo h2];exact q1,q2,q3⟩)
  refine ⟨.agg vs.toArray,?_,⟨vs.toArray,rfl,g3⟩⟩
  simp only [execOp,ho,h1,Sem.run_bind,el (b:=g.ph id) (o:=off) hT hd (by rw [hk,g1,hlen]) (by omega) g2];rfl
theorem F1 {ty f fo:Nat} {x:Operand} {id vr off:Nat} (hp:Pl n o t) (ho:o.op = .fieldAddr ty x f) (hf:cF P ty f fo) (hx:S.opd x = .ptr id vr off) (hv:S.ver id = vr) :
 aw n P ops o ((2 * id + 1) :: aA x) (.ptr id vr (off + fo)) [] S:=
 aM hp fun C T g a w hA hR=>by
  obtain ⟨fs,fld,k,h1,h2,h3,h4,h5⟩:=hf.ex
  have h:=aD (x:=x) hA (fun k h=>by simp [h]) hR
  rw [hx] at h
  have hv':=(hA.2 id (by simp)).2
  have hev:=h.2 (by omega)
  refine ⟨.pointer (some ⟨g.ph id,off + fo,none⟩),?_,⟨by omega,fun _=>rfl⟩⟩
  simp only [execOp,ho,hev,Sem.run_bind,ju (b:=g.ph id) (o:=off) h1 h2 h3 h4 h5];rfl
theorem qQ {e:TypeId} {cs cs':Array Value} {id:Nat} {q:Nat} (hR:RG C n T g a w) (hq:q = g.ph id) (hh:w.heap[q]? = some (.cells cs e (0,0))) (how:g.ow q = some id):ln C (fun i=>i = id) T.ver T.ver g g w (w.setRow q cs'):=by
 subst hq
 have hlt:=(hR.dom _ _ how).1
 refine ⟨by simp [World.setRow],fun b hb hn=>?_,fun b _ _=>rfl,fun b _ h=>h,fun b i e=>by have:=hR.dom b i e;simpa [World.setRow] using this,fun _=>.inl rfl,fun _ _=>⟨rfl,rfl⟩,fun _ _=>⟨rfl,rfl⟩,rfl,rfl,rfl⟩
 have:b ≠ g.ph id:=fun e=>hn id rfl (by rw [e];exact how)
 simp [World.setRow,Array.getElem?_modify,Ne.symm this]
end
end Go.Proofs.YtliiahjpiagdkaaGreat
namespace Go.Proofs.YtliiahjpiagdkaaGreat
open Go.RowKit
section
variable {P:Program} {n:Nat} {ops:Array Oper} {o:Oper} {F:List Nat} {S T:St} {C:Ctx} {g:Gh} {a:Act} {w w':World} {t:Nat}
def Dx (o:Oper):Prop:=o.guard = none ∧ o.dst = none
theorem lB {w:World} {q off:Nat} {ty:TypeId} {e:TypeId} {v:Value} {cs:Array Value} (hh:w.heap[q]? = some (.cells cs e (0,0))) (hk:P.cellsOf ty = v.cells.size) (h0:0 < v.cells.size) (hl:off + v.cells.size ≤ cs.size)
 (h1:∀ u ∈ v.cells.toList,u.oneCell' = true) :
 (Instr.storeAt ty (.pointer (some ⟨q,off,none⟩)) v).run P w = .ok () (w.setRow q (cs.toList.take off ++ v.cells.toList ++ cs.toList.drop (off + v.cells.size)).toArray):=by
 simp only [Instr.storeAt,Instr.sureAddr,Sem.run_bind,Sem.run_pure,Result.andThen_ok,storeVar,eT hk h0]
 rw [if_neg (by simp)]
 have:=run_storeCells_at (P:=P) q off e v.cells.toList 0 cs w hh (by simpa using hl) h1
 simpa using this
def iM (cells:List Cnt) (off:Nat) (l:List Cnt):List Cnt:=cells.take off ++ (l ++ cells.drop (off + l.length))
theorem oc {ty:TypeId} {x y:Operand} {id vr off k:Nat} {e:TypeId} {cells new:List Cnt} (hp:Dx o) (ho:o.op = .store ty x y) (hk:P.cellsOf ty = k) (h0:Nat.blt 0 k = true)
 (hx:S.opd x = .ptr id vr off) (hv:S.ver id = vr) (hb:S.blk id = .box e cells) (hl:Nat.ble (off + k) cells.length = true) (hnl:new.length = k)
 (hy:∀ C T g a w,dd ((2 * id + 1) :: (aA x ++ aA y)) T S → RG C n T g a w → (a.eval y).cells.size = k ∧ ∀ (j:Nat) (c:Cnt),new[j]? = some c → ∃ u,(a.eval y).cells[j]? = some u ∧ u.oneCell' = true ∧ crep C T.ver g w u c) :
 aw n P ops o ((2 * id + 1) :: (aA x ++ aA y)) .any [(id,vr,.box e (iM cells off new))] S:=by
 refine ⟨?_⟩
 intro C T hA a w ⟨g,hR⟩
 obtain ⟨h1,cs,h2,h3,h4,h5⟩:=pn hA (fun k h=>by simp [h]) (by simp) hR hx hv hb
 obtain ⟨hys,hyc⟩:=hy C T g a w hA hR
 have h0:=Nat.le_of_ble_eq_true h0
 have hl:=Nat.le_of_ble_eq_true hl
 have hvt:=(hA.2 id (by simp)).2
 unfold ia
 rw [if_pos (by simp [Region.wanted,hp.1])]
 unfold Oper.wp
 have hone:∀ u ∈ (a.eval y).cells.toList,u.oneCell' = true:=by
  intro u hu
  obtain ⟨j,hj,rfl⟩:=List.getElem_of_mem hu
  have hj':j < new.length:=by rw [hnl,← hys];simpa using hj
  obtain ⟨u',g1,g2,_⟩:=hyc j new[j] (by simp [hj'])
  have:(a.eval y).cells.toList[j] = u':=by
   have:=g1;simp at hj;rw [Array.getElem?_eq_getElem hj] at this;simpa using this
  rw [this];exact g2
 have hrun:=lB (P:=P) (ty:=ty) (off:=off) h2 (by rw [hk,hys]) (by omega) (by omega) hone
 have hex:(execOp a.eval o).run P w = .ok .skip (w.setRow (g.ph id) (cs.toList.take off ++ (a.eval y).cells.toList ++ cs.toList.drop (off + (a.eval y).cells.size)).toArray):=by
  simp only [execOp,ho,h1,Sem.run_bind,hrun];rfl
 rw [hex,Oper.upon_skip]
 have hst:=qQ (cs':=(cs.toList.take off ++ (a.eval y).cells.toList ++ cs.toList.drop (off + (a.eval y).cells.size)).toArray) hR rfl h2 h3
 have hver:(T.app o.dst .any [(id,vr,.box e (iM cells off new))]).ver = T.ver:=by
  funext i
  rw [St.app_some_ver]
  split
  ·rename_i h;subst h;rw [hvt,hv]
  ·rfl
 refine ⟨g,hR.app1 (c:=.any) (fun t h=>by rw [hp.2] at h;cases h) (by rw [hver];exact hst) trivial ?_⟩
 rw [hver]
 refine ⟨_,setRow_heap _ _ _ _ _ _ h2,h3,?_,fun j c hj=>?_⟩
 ·simp [iM];omega
 ·unfold iM at hj
  have hta:(cells.take off).length = off:=by simp;omega
  have htb:(cs.toList.take off).length = off:=by simp;omega
  rcases Nat.lt_or_ge j off with hlt|hge
  ·rw [List.getElem?_append_left (by omega),List.getElem?_take,if_pos hlt] at hj
   obtain ⟨u,q1,q2,q3⟩:=h5 j c hj
   refine ⟨u,?_,q2,hst.crep q3⟩
   rw [List.getElem?_toArray,List.append_assoc,List.getElem?_append_left (by omega),List.getElem?_take,if_pos hlt]
   simpa using q1
  ·rw [List.getElem?_append_right (by omega),hta] at hj
   rcases Nat.lt_or_ge j (off + k) with hlt|hge2
   ·rw [List.getElem?_append_left (by omega)] at hj
    obtain ⟨u,q1,q2,q3⟩:=hyc _ c hj
    refine ⟨u,?_,q2,hst.crep q3⟩
    rw [List.getElem?_toArray,List.append_assoc,List.getElem?_append_right (by omega),htb,List.getElem?_append_left (by simp;omega)]
    simpa using q1
   ·rw [List.getElem?_append_right (by omega),hnl,List.getElem?_drop] at hj
    obtain ⟨u,q1,q2,q3⟩:=h5 _ c hj
    refine ⟨u,?_,q2,hst.crep q3⟩
    rw [List.getElem?_toArray,List.append_assoc,List.getElem?_append_right (by omega),htb,List.getElem?_append_right (by simp;omega),List.getElem?_drop]
    simp only [Array.length_toList,hys,Array.getElem?_toList]
    rw [← q1]
theorem Dy {ty:TypeId} {x y:Operand} {id vr off:Nat} {e:TypeId} {cells:List Cnt} {A:PV} (hp:Dx o) (ho:o.op = .store ty x y) (hk:P.cellsOf ty = 1)
 (hx:S.opd x = .ptr id vr off) (hv:S.ver id = vr) (hb:S.blk id = .box e cells) (hl:Nat.ble (off + 1) cells.length = true) (hy:S.opd y = .per A) (h1:na A) :
 aw n P ops o ((2 * id + 1) :: (aA x ++ aA y)) .any [(id,vr,.box e (iM cells off [.per A]))] S:=
 oc hp ho hk rfl hx hv hb hl rfl fun C T g a w hA hR=>by
  have h:=aD (x:=y) hA (fun k h=>by simp [h]) hR
  rw [hy] at h
  obtain ⟨g1,g2⟩:=h1 _ _ _ h
  rw [g2]
  refine ⟨rfl,fun j c hj=>?_⟩
  cases j with
  | zero=>simp at hj;subst hj;exact ⟨_,rfl,g1,h⟩
  | succ j=>simp at hj
theorem Dz {ty:TypeId} {x y:Operand} {id vr off k:Nat} {e:TypeId} {cells:List Cnt} {As:List PV} (hp:Dx o) (ho:o.op = .store ty x y) (hk:P.cellsOf ty = k) (h0:Nat.blt 0 k = true)
 (hx:S.opd x = .ptr id vr off) (hv:S.ver id = vr) (hb:S.blk id = .box e cells) (hl:Nat.ble (off + k) cells.length = true) (hy:S.opd y = .per (bX As)) (hn:As.length = k) :
 aw n P ops o ((2 * id + 1) :: (aA x ++ aA y)) .any [(id,vr,.box e (iM cells off (As.map .per)))] S:=
 oc hp ho hk h0 hx hv hb hl (by simp [hn]) fun C T g a w hA hR=>by
  have h:=aD (x:=y) hA (fun k h=>by simp [h]) hR
  rw [hy] at h
  obtain ⟨vs,hv,q1,q2⟩:=h
  rw [hv]
  refine ⟨by show vs.size = k;omega,fun j c hj=>?_⟩
  rw [List.getElem?_map] at hj
  cases hAj:As[j]? with
  | none=>rw [hAj] at hj;cases hj
  | some A=>
   rw [hAj] at hj;cases hj
   exact q2 j A hAj
theorem jv {w:World} {ty e:TypeId} {k len cap i:Nat} {kk:IntKind} {b of:Nat} (hT:P.underlying ty = some (.slice e)) (hk:P.cellsOf e = k) (h0:0 < k) (hi:i < len) :
 (Instr.indexAt ty (.slice (some ⟨b,of,none⟩) len cap) (.int kk (i:Int))).run P w = .ok (.pointer (some ⟨b,of + i * k,none⟩)) w:=by
 have hel:P.elem ty = e:=by unfold Program.elem;rw [hT]
 rw [run_indexAt_slice (h:=by rw [hel];exact hT),if_pos ⟨by omega,by omega⟩,hel,eT hk h0]
 simp [Result.andThen,Addr.add_lit]
theorem F2 {ty e:TypeId} {x ix:Operand} {k i:Nat} {kk:IntKind} {z:Int} {es:List (List PV)} {cs:List PV} (hp:Pl n o t) (ho:o.op = .indexAddr ty x ix) (hT:P.underlying ty = some (.slice e)) (hk:P.cellsOf e = k) (h0:Nat.blt 0 k = true)
 (hx:S.opd x = .per (cD k es)) (hi:S.opd ix = iC kk z) (hz:z = (i:Int)) (hc:es[i]? = some cs):aw n P ops o (aA x ++ aA ix) (.per (dw cs)) [] S:=
 aM hp fun C T g a w hA hR=>by
  have h:=aD (x:=x) hA (fun k h=>by simp [h]) hR
  have h2:=aV (x:=ix) hA (fun k h=>by simp [h]) hR hi
  rw [hx] at h
  obtain ⟨ad,c,b,of,hv,_,_,_,h5,h6⟩:=h
  have hlt:i < es.length:=by
   rcases Nat.lt_or_ge i es.length with q|q
   ·exact q
   ·rw [List.getElem?_eq_none q] at hc;cases hc
  obtain ⟨rfl,q2,q3⟩:=h5 (by omega)
  obtain ⟨q4,q5⟩:=h6 i cs hc
  refine ⟨.pointer (some ⟨b,of + i * k,none⟩),?_,b,of + i * k,rfl,q2,q3,q5⟩
  subst hz
  simp only [execOp,ho,hv,h2,Sem.run_bind,jv hT hk (Nat.le_of_ble_eq_true h0) hlt];rfl
theorem Aa {ty e:TypeId} {x ix:Operand} {k i:Nat} {kk:IntKind} {z:Int} {es:List (List PV)} {cs:List PV} (hp:Pl n o t) (ho:o.op = .indexAddr ty x ix) (hT:P.underlying ty = some (.slice e)) (hk:P.cellsOf e = k) (h0:Nat.blt 0 k = true)
 (hx:S.opd x = .bor k es) (hi:S.opd ix = iC kk z) (hz:z = (i:Int)) (hc:es[i]? = some cs):aw n P ops o (aA x ++ aA ix) (.bpt cs) [] S:=
 aM hp fun C T g a w hA hR=>by
  have h:=aD (x:=x) hA (fun k h=>by simp [h]) hR
  have h2:=aV (x:=ix) hA (fun k h=>by simp [h]) hR hi
  rw [hx] at h
  obtain ⟨ad,c,b,of,hv,_,_,_,h5,h6⟩:=h
  have hlt:i < es.length:=by
   rcases Nat.lt_or_ge i es.length with q|q
   ·exact q
   ·rw [List.getElem?_eq_none q] at hc;cases hc
  obtain ⟨rfl,q2,q3⟩:=h5 (by omega)
  obtain ⟨q4,q5⟩:=h6 i cs hc
  refine ⟨.pointer (some ⟨b,of + i * k,none⟩),?_,b,of + i * k,rfl,q2,q3,q5⟩
  subst hz
  simp only [execOp,ho,hv,h2,Sem.run_bind,jv hT hk (Nat.le_of_ble_eq_true h0) hlt];rfl
theorem DA {ty:TypeId} {x ix:Operand} {i:Nat} {kk:IntKind} {z:Int} {s:ByteArray} {c:UInt8} (hp:Pl n o t) (ho:o.op = .index ty x ix) (hT:P.underlying ty = some .string)
 (hx:S.opd x = sC s) (hi:S.opd ix = iC kk z) (hz:z = (i:Int)) (hc:s.data.toList[i]? = some c):aw n P ops o (aA x ++ aA ix) (iC .u8 (c.toNat:Int)) [] S:=
 aM hp fun C T g a w hA hR=>by
  have h1:=aV (x:=x) hA (fun k h=>by simp [h]) hR hx
  have h2:=aV (x:=ix) hA (fun k h=>by simp [h]) hR hi
  subst hz
  have hs:s[i]? = some c:=by
   have:s[i]? = s.data[i]?:=by
    by_cases h:i < s.size
    ·rw [getElem?_pos s i h,Array.getElem?_eq_getElem (by exact h)];rfl
    ·rw [getElem?_neg s i h,Array.getElem?_eq_none (by simpa using h)]
   rw [this];simpa using hc
  refine ⟨.int .u8 (c.toNat:Int),?_,rfl⟩
  simp only [execOp,ho,h1,h2,Instr.index,asIntOf,Sem.run_bind,Sem.run_pure,Result.andThen_ok,run_underlying hT]
  simp [hs]
theorem vp {ty ty':TypeId} {e:TypeId} {ad:Option Addr} {l c:Nat} (hT:P.underlying ty = some (.slice e)) (w:World):(Builtin.len_ #[ty] ty' #[.slice ad l c]).run P w = .ok (.int .i64 (l:Int)) w:=by
 simp [Builtin.len_,run_underlying hT,goInt]
def jw (o:Oper) (ty:TypeId) (x:Operand):Prop:=o.op = .call { callee:=.builtin .len,args:=#[x],argTypes:=#[ty] }
theorem od {ty:TypeId} {x:Operand} {v r:Value} (ho:jw o ty x) (hx:a.eval x = v) (h:(Builtin.len_ #[ty] o.type #[v]).run P w = .ok r w):(execOp a.eval o).run P w = .ok (.value r) w:=by
 unfold jw at ho
 simp only [execOp,ho,resolve,invoke,builtin,Sem.run_bind,Sem.run_pure,Result.andThen_ok,List.map_toArray,List.map_cons,List.map_nil,hx,h]
theorem Nh {ty e:TypeId} {x:Operand} {k:Nat} {es:List (List PV)} (hp:Pl n o t) (ho:jw o ty x) (hT:P.underlying ty = some (.slice e)) (hx:S.opd x = .per (cD k es)):aw n P ops o (aA x) (iC .i64 (es.length:Int)) [] S:=
 aM hp fun C T g a w hA hR=>by
  have h:=aD (x:=x) hA (fun k h=>by simp [h]) hR
  rw [hx] at h
  obtain ⟨ad,c,b,of,hv,_⟩:=h
  exact ⟨_,od ho hv (vp hT w),rfl⟩
theorem F3 {ty e:TypeId} {x:Operand} {k:Nat} {es:List (List PV)} (hp:Pl n o t) (ho:jw o ty x) (hT:P.underlying ty = some (.slice e)) (hx:S.opd x = .bor k es):aw n P ops o (aA x) (iC .i64 (es.length:Int)) [] S:=
 aM hp fun C T g a w hA hR=>by
  have h:=aD (x:=x) hA (fun k h=>by simp [h]) hR
  rw [hx] at h
  obtain ⟨ad,c,b,of,hv,_⟩:=h
  exact ⟨_,od ho hv (vp hT w),rfl⟩
theorem F4 {ty:TypeId} {x:Operand} {s:ByteArray} (hp:Pl n o t) (ho:jw o ty x) (hT:P.underlying ty = some .string) (hx:S.opd x = sC s):aw n P ops o (aA x) (iC .i64 (s.size:Int)) [] S:=
 aM hp fun C T g a w hA hR=>by
  have h1:=aV (x:=x) hA (fun k h=>by simp [h]) hR hx
  exact ⟨_,od ho h1 (by simp [Builtin.len_,run_underlying hT,goInt]),rfl⟩
theorem ko {x:Operand} {id vr e k:Nat} {es:List (List PV)} (hA:dd F T S) (hF:∀ k ∈ aA x,k ∈ F) (hF':2 * id + 1 ∈ F) (hR:RG C n T g a w) (hx:S.opd x = .row id vr) (hv:S.ver id = vr) (hb:S.blk id = .row e k es) :
 a.eval x = g.rh id ∧ brep C T.ver g w id (.row e k es):=by
 have h:=aD hA hF hR
 rw [hx] at h
 have h2:=hA.2 id hF'
 have h3:=hR.blks id
 rw [h2.1,hb] at h3
 exact ⟨h.2 (by rw [h2.2,hv]),h3⟩
theorem vq {id e k:Nat} {es:List (List PV)} {top:BP} (ht:∀ b,b < w.heap.size → ¬ top b) (hR:RG C n T g a w) (h:brep C T.ver g w id (.row e k es)):dW top (g.N C) k es w (g.rh id):=by
 rcases h with ⟨h1,rfl⟩|⟨cap,cs,h1,h2,h3,h4,h5,h6,h7⟩
 ·exact ⟨none,0,0,0,by rw [h1];rfl,by simp,by decide,fun _=>rfl,by simp,fun i cs hi=>by simp at hi⟩
 ·have hlt:=(hR.dom _ _ h3).1
  refine ⟨_,cap,g.ph id,0,h1,h4,h5,by simp,fun _=>⟨rfl,hlt,ht _ hlt⟩,fun i ps hi=>?_⟩
  obtain ⟨q1,q2⟩:=h7 i ps hi
  refine ⟨q1,fun j A hj=>?_⟩
  obtain ⟨y,r1,r2,r3⟩:=q2 j A hj
  exact ⟨y,by rw [Nat.zero_add,eo h2];exact r1,r2,r3⟩
theorem F5 {ty e':TypeId} {x:Operand} {id vr e k:Nat} {es:List (List PV)} (hp:Pl n o t) (ho:jw o ty x) (hT:P.underlying ty = some (.slice e')) (hx:S.opd x = .row id vr) (hv:S.ver id = vr) (hb:S.blk id = .row e k es) :
 aw n P ops o ((2 * id + 1) :: aA x) (iC .i64 (es.length:Int)) [] S:=
 aM hp fun C T g a w hA hR=>by
  obtain ⟨h1,h2⟩:=ko hA (fun k h=>by simp [h]) (by simp) hR hx hv hb
  obtain ⟨ad,c,b,of,hv,_⟩:=vq (top:=fun _=>False) (fun _ _ h=>h) hR h2
  exact ⟨_,od ho (h1.trans hv) (vp hT w),rfl⟩
theorem Ab {ty e':TypeId} {x ix:Operand} {id vr e k i:Nat} {kk:IntKind} {z:Int} {es:List (List PV)} (hp:Pl n o t) (ho:o.op = .indexAddr ty x ix) (hT:P.underlying ty = some (.slice e')) (hk:P.cellsOf e' = k) (h0:Nat.blt 0 k = true)
 (hx:S.opd x = .row id vr) (hv:S.ver id = vr) (hb:S.blk id = .row e k es) (hi:S.opd ix = iC kk z) (hz:z = (i:Int)) (hlt:i < es.length):aw n P ops o ((2 * id + 1) :: (aA x ++ aA ix)) (.ept id vr k i 0) [] S:=
 aM hp fun C T g a w hA hR=>by
  obtain ⟨h1,h2⟩:=ko (x:=x) hA (fun k h=>by simp [h]) (by simp) hR hx hv hb
  have h3:=aV (x:=ix) hA (fun k h=>by simp [h]) hR hi
  have hvt:=(hA.2 id (by simp)).2
  rcases h2 with ⟨_,rfl⟩|⟨cap,cs,q1,_⟩
  ·simp at hlt
  ·refine ⟨.pointer (some ⟨g.ph id,0 + i * k,none⟩),?_,⟨by omega,fun _=>by simp⟩⟩
   subst hz
   simp only [execOp,ho,h1,q1,h3,Sem.run_bind,jv hT hk (Nat.le_of_ble_eq_true h0) hlt];rfl
theorem Ac {ty f fo:Nat} {x:Operand} {id vr k i j:Nat} (hp:Pl n o t) (ho:o.op = .fieldAddr ty x f) (hf:cF P ty f fo) (hx:S.opd x = .ept id vr k i j) (hv:S.ver id = vr) :
 aw n P ops o ((2 * id + 1) :: aA x) (.ept id vr k i (j + fo)) [] S:=
 aM hp fun C T g a w hA hR=>by
  obtain ⟨fs,fld,k',h1,h2,h3,h4,h5⟩:=hf.ex
  have h:=aD (x:=x) hA (fun k h=>by simp [h]) hR
  rw [hx] at h
  have hv':=(hA.2 id (by simp)).2
  have hev:=h.2 (by omega)
  refine ⟨.pointer (some ⟨g.ph id,i * k + j + fo,none⟩),?_,⟨by omega,fun _=>by rw [Nat.add_assoc]⟩⟩
  simp only [execOp,ho,hev,Sem.run_bind,ju (b:=g.ph id) (o:=i * k + j) h1 h2 h3 h4 h5];rfl
theorem xk {id vr e k i j:Nat} {x:Operand} {es:List (List PV)} {ps:List PV} (hA:dd F T S) (hF:∀ k ∈ aA x,k ∈ F) (hF':2 * id + 1 ∈ F) (hR:RG C n T g a w) (hx:S.opd x = .ept id vr k i j) (hv:S.ver id = vr) (hb:S.blk id = .row e k es) (hi:es[i]? = some ps) :
 a.eval x = .pointer (some ⟨g.ph id,i * k + j,none⟩) ∧ ∀ (q:Nat) (A:PV),ps[q]? = some A → ∃ y,w.cell? ⟨g.ph id,i * k + q,none⟩ = some y ∧ y.oneCell' = true ∧ A.p (g.N C) w y:=by
 have h:=aD hA hF hR
 rw [hx] at h
 have h2:=hA.2 id hF'
 have h3:=hR.blks id
 rw [h2.1,hb] at h3
 refine ⟨h.2 (by rw [h2.2,hv]),fun q A hq=>?_⟩
 rcases h3 with ⟨_,rfl⟩|⟨cap,cs,_,r2,_,_,_,_,r7⟩
 ·simp at hi
 ·obtain ⟨y,s1,s2,s3⟩:=(r7 i ps hi).2 q A hq
  exact ⟨y,by rw [eo r2];exact s1,s2,s3⟩
theorem Ad {ty:TypeId} {d:TypeDesc} {x:Operand} {id vr e k i j:Nat} {es:List (List PV)} {ps:List PV} {A:PV} (hp:Pl n o t) (ho:o.op = .load ty x) (hT:P.underlying ty = some d) (hd:fV d = false)
 (hx:S.opd x = .ept id vr k i j) (hv:S.ver id = vr) (hb:S.blk id = .row e k es) (hi:es[i]? = some ps) (hj:ps[j]? = some A):aw n P ops o ((2 * id + 1) :: aA x) (.per A) [] S:=
 aM hp fun C T g a w hA hR=>by
  obtain ⟨h1,h2⟩:=xk hA (fun k h=>by simp [h]) (by simp) hR hx hv hb hi
  obtain ⟨y,g1,g2,g3⟩:=h2 j A hj
  refine ⟨y,?_,g3⟩
  simp only [execOp,ho,h1,Sem.run_bind,kj (b:=g.ph id) (o:=i * k + j) hT hd g1];rfl
theorem Ae {ty:TypeId} {d:TypeDesc} {x:Operand} {id vr e k i j m:Nat} {es:List (List PV)} {ps As:List PV} (hp:Pl n o t) (ho:o.op = .load ty x) (hT:P.underlying ty = some d) (hd:fV d = true) (hk:P.cellsOf ty = m) (h0:Nat.blt 0 m = true)
 (hx:S.opd x = .ept id vr k i j) (hv:S.ver id = vr) (hb:S.blk id = .row e k es) (hi:es[i]? = some ps) (hj:(ps.drop j).take m = As) (hl:As.length = m):aw n P ops o ((2 * id + 1) :: aA x) (.per (bX As)) [] S:=
 aM hp fun C T g a w hA hR=>by
  obtain ⟨h1,h2⟩:=xk hA (fun k h=>by simp [h]) (by simp) hR hx hv hb hi
  have h0:=Nat.le_of_ble_eq_true h0
  obtain ⟨vs,g1,g2,g3⟩:=cU (N:=g.N C) (w:=w) (f:=fun q=>w.cell? ⟨g.ph id,i * k + j + q,none⟩) As (fun q A hq=>by
   rw [← hj,List.getElem?_take] at hq
   split at hq
   ·rw [List.getElem?_drop] at hq
    obtain ⟨y,r1,r2⟩:=h2 _ A hq
    exact ⟨y,by rw [Nat.add_assoc];exact r1,r2⟩
   ·cases hq)
  refine ⟨.agg vs.toArray,?_,⟨vs.toArray,rfl,g3⟩⟩
  simp only [execOp,ho,h1,Sem.run_bind,el (b:=g.ph id) (o:=i * k + j) hT hd (by rw [hk,g1,hl]) (by omega) g2];rfl
theorem xm {x:Operand} {c d:Cnt} (hp:Pl n o t) (ho:o.op = .extract x 0) (hx:S.opd x = .tup2 c d):aw n P ops o (aA x) c [] S:=
 aM hp fun C T g a w hA hR=>by
  have h:=aD (x:=x) hA (fun k h=>by simp [h]) hR
  rw [hx] at h
  obtain ⟨u,v,hv,h1,h2⟩:=h
  exact ⟨u,by simp [execOp,ho,hv,Instr.extract],h1⟩
theorem xn {x:Operand} {c d:Cnt} (hp:Pl n o t) (ho:o.op = .extract x 1) (hx:S.opd x = .tup2 c d):aw n P ops o (aA x) d [] S:=
 aM hp fun C T g a w hA hR=>by
  have h:=aD (x:=x) hA (fun k h=>by simp [h]) hR
  rw [hx] at h
  obtain ⟨u,v,hv,h1,h2⟩:=h
  exact ⟨v,by simp [execOp,ho,hv,Instr.extract],h2⟩
theorem xp {x:Operand} {c d e:Cnt} (hp:Pl n o t) (ho:o.op = .extract x 0) (hx:S.opd x = .tup3 c d e):aw n P ops o (aA x) c [] S:=
 aM hp fun C T g a w hA hR=>by
  have h:=aD (x:=x) hA (fun k h=>by simp [h]) hR
  rw [hx] at h
  obtain ⟨u,v,z,hv,h1,h2,h3⟩:=h
  exact ⟨u,by simp [execOp,ho,hv,Instr.extract],h1⟩
theorem xq {x:Operand} {c d e:Cnt} (hp:Pl n o t) (ho:o.op = .extract x 1) (hx:S.opd x = .tup3 c d e):aw n P ops o (aA x) d [] S:=
 aM hp fun C T g a w hA hR=>by
  have h:=aD (x:=x) hA (fun k h=>by simp [h]) hR
  rw [hx] at h
  obtain ⟨u,v,z,hv,h1,h2,h3⟩:=h
  exact ⟨v,by simp [execOp,ho,hv,Instr.extract],h2⟩
theorem xr {x:Operand} {c d e:Cnt} (hp:Pl n o t) (ho:o.op = .extract x 2) (hx:S.opd x = .tup3 c d e):aw n P ops o (aA x) e [] S:=
 aM hp fun C T g a w hA hR=>by
  have h:=aD (x:=x) hA (fun k h=>by simp [h]) hR
  rw [hx] at h
  obtain ⟨u,v,z,hv,h1,h2,h3⟩:=h
  exact ⟨z,by simp [execOp,ho,hv,Instr.extract],h3⟩
def ig (F:List Nat) (S:St) (x:Operand) (c:Cnt):Prop:=∀ (n:Nat) (C:Ctx) (T:St) (g:Gh) (a:Act) (w:World),dd F T S → RG C n T g a w →
 crep ⟨w,fun b=>b < w.heap.size ∧ g.N C b,fun _=>False,g0⟩ (fun _=>0) g0 w (a.eval x) c
theorem PK {b:Nat} (h:(g0.N ⟨w,fun b=>b < w.heap.size ∧ g.N C b,fun _=>False,g0⟩) b):g.N C b:=by
 rcases h with h|h
 ·exact h.2
 ·exact absurd rfl h
theorem DB {x:Operand} {A:PV} (hx:S.opd x = .per A) (hF:∀ k ∈ aA x,k ∈ F):ig F S x (.per A):=fun n C T g a w hA hR=>by
 have h:=aD (x:=x) hA hF hR
 rw [hx] at h
 exact A.mono (Nat.le_refl _) (fun _ _ _=>rfl) (fun b _ hb=>PK hb) h
theorem qR {top N N':BP} {k:Nat} {es:List (List PV)} {v:Value} (hn:∀ b,N' b → N b) (h:dW top N k es w v):dW g0.M N' k es w v:=by
 obtain ⟨ad,c,b,of,h1,h2,h3,h4,h5,h6⟩:=h
 refine ⟨ad,c,b,of,h1,h2,h3,h4,fun h0=>⟨(h5 h0).1,(h5 h0).2.1,fun h=>h rfl⟩,fun i cs hi=>⟨(h6 i cs hi).1,fun j A hj=>?_⟩⟩
 obtain ⟨y,q1,q2,q3⟩:=(h6 i cs hi).2 j A hj
 exact ⟨y,q1,q2,A.mono (Nat.le_refl _) (fun _ _ _=>rfl) (fun b _ hb=>hn b hb) q3⟩
theorem DC {x:Operand} {k:Nat} {es:List (List PV)} (hx:S.opd x = .per (cD k es)) (hF:∀ k ∈ aA x,k ∈ F):ig F S x (.bor k es):=fun n C T g a w hA hR=>by
 have h:=aD (x:=x) hA hF hR
 rw [hx] at h
 exact qR (fun b hb=>PK hb) h
theorem DD {x:Operand} {k:Nat} {es:List (List PV)} (hx:S.opd x = .bor k es) (hF:∀ k ∈ aA x,k ∈ F):ig F S x (.bor k es):=fun n C T g a w hA hR=>by
 have h:=aD (x:=x) hA hF hR
 rw [hx] at h
 exact qR (fun b hb=>PK hb) h
theorem DE {x:Operand} {id vr e k:Nat} {es:List (List PV)} (hx:S.opd x = .row id vr) (hv:S.ver id = vr) (hb:S.blk id = .row e k es) (hF:∀ k ∈ aA x,k ∈ F) (hF':2 * id + 1 ∈ F):ig F S x (.bor k es):=fun n C T g a w hA hR=>by
 obtain ⟨h1,h2⟩:=ko (x:=x) hA hF hF' hR hx hv hb
 rw [h1]
 exact qR (fun b hb=>PK hb) (vq (top:=fun _=>False) (fun _ _ h=>h) hR h2)
theorem DF {x:Operand} {k:Nat} (hx:S.opd x = .per (av (.slice none 0 0))) (hF:∀ k ∈ aA x,k ∈ F):ig F S x (.bor k []):=fun n C T g a w hA hR=>by
 have h:=aV (x:=x) hA hF hR hx
 rw [h]
 exact ⟨none,0,0,0,rfl,by simp,by decide,fun _=>rfl,by simp,fun i cs hi=>by simp at hi⟩
theorem Af {x:Operand} {k:Nat} (hx:S.opd x = .per (av (.slice none 0 0))) (hF:∀ k ∈ aA x,k ∈ F):ig F S x (.per (cD k [])):=fun n C T g a w hA hR=>by
 have h:=aV (x:=x) hA hF hR hx
 rw [h]
 exact ⟨none,0,0,0,rfl,by simp,by decide,fun _=>rfl,by simp,fun i cs hi=>by simp at hi⟩
inductive kp (F:List Nat) (S:St):List Operand → List Cnt → Prop
 | nil:kp F S [] []
 | cons {x:Operand} {c:Cnt} {xs:List Operand} {cs:List Cnt} (h:ig F S x c) (t:kp F S xs cs):kp F S (x :: xs) (c :: cs)
theorem kp.rep {xs:List Operand} {cs:List Cnt} (h:kp F S xs cs) (hA:dd F T S) (hR:RG C n T g a w):qO (fun b=>b < w.heap.size ∧ g.N C b) w (xs.map a.eval) cs:=by
 induction h with
 | nil=>exact ⟨rfl,fun i v c hi=>by simp at hi⟩
 | cons h t ih=>
  refine ⟨by simp [ih.1],fun i v c hi hc=>?_⟩
  cases i with
  | zero=>
   simp at hi hc;subst hi;subst hc
   exact h n C T g a w hA hR
  | succ i=>exact ih.2 i v c (by simpa using hi) (by simpa using hc)
def rF (t v:Nat):Ret → Cnt
 | .per A=>.per A
 | .own _ _ _=>.row t v
 | .tup2 c d=>.tup2 (rF t v c) (rF t v d)
 | .tup3 c d e=>.tup3 (rF t v c) (rF t v d) (rF t v e)
def iE (o:Oper) (f:FuncId) (xs:List Operand):Prop:=∃ tys,o.op = .call { callee:=.value (.func f),args:=xs.toArray,argTypes:=tys }
theorem vt {f:FuncId} {xs:List Operand} {K:Act → World → Prop} {R:Value → World → Prop} (hE:MU P f) (ho:iE o f xs) (h:Calls P f (xs.map a.eval).toArray w (fun e w'=>∃ v,e = .returned v ∧ R v w')) (hk:∀ v w',R v w' → K (a.put o.dst v) w') :
 o.wp P a w K (fun _ _ _=>False):=by
 obtain ⟨fn,h1,h2,h3⟩:=hE
 obtain ⟨tys,ho⟩:=ho
 unfold Oper.wp
 have:(execOp a.eval o).run P w = .ok (.enter f (xs.map a.eval).toArray) w:=by
  simp only [execOp,ho,resolve,Act.eval,Deferred.ofValue,Sem.run_bind,Sem.run_pure,Result.andThen_ok,invoke,callFunc,List.map_toArray]
  simp only [program,Sem.run,Result.andThen_ok,h1,h2,h3,Bool.false_eq_true,if_false]
  simp
 rw [this,Oper.upon_enter]
 refine Calls.mono h ?_
 rintro e w' ⟨v,rfl,hv⟩
 exact hk v w' hv
theorem F6 {A:PV} {v:Value} {g':Gh} (hg:∀ b,b < w.heap.size → g'.ow b ≠ none → g.ow b ≠ none) (hn:∀ b,w.heap.size ≤ b → ¬ C.N0 b)
 (hfr:∀ b,w.heap.size ≤ b → b < w'.heap.size → g'.ow b = none) (h:A.p (fun b=>b < w.heap.size ∧ g.N C b) w' v):A.p (g'.N C) w' v:=
 A.mono (Nat.le_refl _) (fun _ _ _=>rfl) (fun b hb hbn=>by
  rcases Nat.lt_or_ge b w.heap.size with hlt|hge
  ·refine ⟨hlt,?_⟩
   rcases hbn with q|q
   ·exact .inl q
   ·exact .inr (hg b hlt q)
  ·rcases hbn with q|q
   ·exact absurd q (hn b hge)
   ·exact absurd (hfr b hge hb) q) h
def Ret.plain:Ret → Bool
 | .per _=>true
 | .own _ _ _=>false
 | .tup2 c d=>c.plain && d.plain
 | .tup3 c d e=>c.plain && d.plain && e.plain
theorem F7 (hR:RG C n T g a w):∀ b,w.heap.size ≤ b → ¬ C.N0 b:=fun b hb h=>by
 have:=hR.n0 b h;have:=hR.size;omega
theorem vu (hR:RG C n T g a w):∀ b,w.heap.size ≤ b → g.ow b = none:=fun b hb=>by
 cases h:g.ow b with
 | none=>rfl
 | some id=>have:=(hR.dom b id h).1;omega
theorem uf (hR:RG C n T g a w):∀ {r:Ret} {v:Value},r.plain = true → r.rep (fun b=>b < w.heap.size ∧ g.N C b) w w' v → crep C T.ver g w' v (rF t 0 r):=by
 intro r
 induction r with
 | per A=>intro v _ h;exact F6 (fun _ _ h=>h) (F7 hR) (fun b hb _=>vu hR b hb) h
 | own e k es=>intro v h;cases h
 | tup2 c d ih1 ih2=>
  rintro v hp ⟨x,y,rfl,h1,h2⟩
  simp only [Ret.plain,Bool.and_eq_true] at hp
  exact ⟨x,y,rfl,ih1 hp.1 h1,ih2 hp.2 h2⟩
 | tup3 c d e ih1 ih2 ih3=>
  rintro v hp ⟨x,y,z,rfl,h1,h2,h3⟩
  simp only [Ret.plain,Bool.and_eq_true] at hp
  exact ⟨x,y,z,rfl,ih1 hp.1.1 h1,ih2 hp.1.2 h2,ih3 hp.2 h3⟩
theorem KE {f:FuncId} {xs:List Operand} {As:List Cnt} {r:Ret} (hp:Pl n o t) (ho:iE o f xs) (hf:Fn P f As r) (hpl:r.plain = true) (hg:kp F S xs As):aw n P ops o F (rF t 0 r) [] S:=by
 refine ⟨?_⟩
 intro C T hA a w ⟨g,hR⟩
 unfold ia
 rw [if_pos (hp.wanted a)]
 refine vt hf.ent ho (hf.run _ w (xs.map a.eval) (fun b h=>h.1) (hg.rep hA hR)) ?_
 rintro v w' ⟨hx,hr⟩
 exact ⟨g,hR.app0 hx hp.dOk (uf hR hpl hr)⟩
end
end Go.Proofs.YtliiahjpiagdkaaGreat
namespace Go.Proofs.YtliiahjpiagdkaaGreat
open Go.RowKit
def Gh.mkN (g:Gh) (t:Nat) (v:Value):Gh:=⟨g.ow,g.ph,fun i=>if i = t then v else g.rh i⟩
section
variable {P:Program} {n:Nat} {ops:Array Oper} {o:Oper} {F:List Nat} {S T:St} {C:Ctx} {g:Gh} {a:Act} {w w':World} {t:Nat}
theorem mG {v:Value} (hR:RG C n T g a w) (hx:bw w w') {vr':Nat → Nat} (h:∀ i,vr' i = if i = t then T.ver t + 1 else T.ver i) (hfx:cV t = false):ln C (fun i=>i = t) T.ver vr' g (g.mkN t v) w w':=by
 refine ⟨hx.size,fun b hb _=>hx.block b hb,fun _ _ _=>rfl,fun _ _ h=>h,fun b id e=>⟨Nat.lt_of_lt_of_le (hR.dom b id e).1 hx.size,(hR.dom b id e).2⟩,fun i=>?_,fun i hi=>?_,fun i hi=>?_,hx.os,hx.tape,hx.output⟩
 ·rw [h]
  by_cases hi:i = t
  ·subst hi;exact .inr ⟨rfl,by rw [if_pos rfl];omega⟩
  ·rw [if_neg hi];exact .inl rfl
 ·rw [h] at hi
  by_cases hit:i = t
  ·subst hit;rw [if_pos rfl] at hi;omega
  ·exact ⟨rfl,if_neg hit⟩
 ·exact ⟨rfl,if_neg (fun e=>by subst e;rw [hfx] at hi;cases hi)⟩
theorem F8 {e k:Nat} {es:List (List PV)} {v:Value} (hR:RG C n T g a w) (hx:bw w w') {vr':Nat → Nat} (hvr:∀ i,vr' i = if i = t then T.ver t + 1 else T.ver i) (hfx:cV t = false)
 (h:(Ret.own e k es).rep (fun b=>b < w.heap.size ∧ g.N C b) w w' v) :
 ∃ g',ln C (fun i=>i = t) T.ver vr' g g' w w' ∧ g'.rh t = v ∧ brep C vr' g' w' t (.row e k es):=by
 rcases h with ⟨h1,h2⟩|⟨q,cap,cs,h1,h2,h3,h4,h5,h6,h7⟩
 ·exact ⟨g.mkN t v,mG hR hx hvr hfx,if_pos rfl,.inl ⟨by show (if t = t then v else _) = _;rw [if_pos rfl];exact h1,h2⟩⟩
 ·have hq:q < w'.heap.size:=(Array.getElem?_eq_some_iff.1 h3).1
  have hst:=FX (v:=v) (w':=w') hR hx h2 hq rfl hvr hfx
  have hph:(g.mk1 t q v).ph t = q:=if_pos rfl
  have hrh:(g.mk1 t q v).rh t = v:=if_pos rfl
  refine ⟨g.mk1 t q v,hst,hrh,.inr ⟨cap,cs,by rw [hrh,hph];exact h1,by rw [hph];exact h3,by rw [hph];exact if_pos rfl,h4,h5,h6,fun i ps hi=>?_⟩⟩
  obtain ⟨r1,r2⟩:=h7 i ps hi
  refine ⟨r1,fun j A hj=>?_⟩
  obtain ⟨y,s1,s2,s3⟩:=r2 j A hj
  refine ⟨y,s1,s2,?_⟩
  refine A.mono (Nat.le_refl _) (fun _ _ _=>rfl) (fun b hb hbn=>?_) s3
  rcases Nat.lt_or_ge b w.heap.size with hlt|hge
  ·exact .inl ⟨hlt,hst.n b hlt hbn⟩
  ·rcases hbn with hbn|hbn
   ·exact absurd hbn (F7 hR b hge)
   ·refine .inr ?_
    change (if b = q then some t else g.ow b) ≠ none at hbn
    by_cases hbq:b = q
    ·exact hbq
    ·rw [if_neg hbq,vu hR b hge] at hbn;exact absurd rfl hbn
theorem xt {f:FuncId} {xs:List Operand} {As:List Cnt} {e k:Nat} {es:List (List PV)} (hp:Pl n o t) (ho:iE o f xs) (hf:Fn P f As (.own e k es)) (hg:kp F S xs As) (hF:2 * t + 1 ∈ F) :
 aw n P ops o F (.row t (S.ver t + 1)) [(t,S.ver t + 1,.row e k es)] S:=by
 refine ⟨?_⟩
 intro C T hA a w ⟨g,hR⟩
 unfold ia
 rw [if_pos (hp.wanted a)]
 refine vt hf.ent ho (hf.run _ w (xs.map a.eval) (fun b h=>h.1) (hg.rep hA hR)) ?_
 rintro v w' ⟨hx,hr⟩
 have hvt:=(hA.2 t hF).2
 have hvr:∀ i,(T.app o.dst (.row t (S.ver t + 1)) [(t,S.ver t + 1,.row e k es)]).ver i = if i = t then T.ver t + 1 else T.ver i:=fun i=>by rw [St.app_some_ver,hvt]
 obtain ⟨g',h1,h2,h3⟩:=F8 hR hx hvr (hp.nofix hR) hr
 exact ⟨g',hR.app1 hp.dOk h1 ⟨by rw [hvr,if_pos rfl,hvt];exact Nat.le_refl _,fun _=>h2.symm⟩ h3⟩
theorem vv {f:FuncId} {xs:List Operand} {As:List Cnt} {e k:Nat} {es:List (List PV)} {u:Value} (hp:Pl n o t) (ho:iE o f xs) (hf:Fn P f As (.tup2 (.own e k es) (.per (av u)))) (hg:kp F S xs As) (hF:2 * t + 1 ∈ F) :
 aw n P ops o F (.tup2 (.row t (S.ver t + 1)) (.per (av u))) [(t,S.ver t + 1,.row e k es)] S:=by
 refine ⟨?_⟩
 intro C T hA a w ⟨g,hR⟩
 unfold ia
 rw [if_pos (hp.wanted a)]
 refine vt hf.ent ho (hf.run _ w (xs.map a.eval) (fun b h=>h.1) (hg.rep hA hR)) ?_
 rintro v w' ⟨hx,x,y,rfl,hr,hu⟩
 have hvt:=(hA.2 t hF).2
 have hvr:∀ i,(T.app o.dst (.tup2 (.row t (S.ver t + 1)) (.per (av u))) [(t,S.ver t + 1,.row e k es)]).ver i = if i = t then T.ver t + 1 else T.ver i:=fun i=>by rw [St.app_some_ver,hvt]
 obtain ⟨g',h1,h2,h3⟩:=F8 hR hx hvr (hp.nofix hR) hr
 exact ⟨g',hR.app1 hp.dOk h1 ⟨x,y,rfl,⟨by rw [hvr,if_pos rfl,hvt];exact Nat.le_refl _,fun _=>h2.symm⟩,hu⟩ h3⟩
def Src (F:List Nat) (S:St) (x:Operand) (k:Nat) (ns:List (List PV)):Prop:=∀ (n:Nat) (C:Ctx) (T:St) (g:Gh) (a:Act) (w:World),dd F T S → RG C n T g a w →
 dW (fun _=>False) (g.N C) k ns w (a.eval x)
theorem xu {top top' N:BP} {k:Nat} {es:List (List PV)} {v:Value} (ht:∀ b,top' b → top b) (h:dW top N k es w v):dW top' N k es w v:=
 dW.mono (Nat.le_refl _) (fun _ _ _=>rfl) (fun _ _ _=>rfl) (fun b _ hb=>ht b hb) (fun _ _ h=>h) h
theorem KF {x:Operand} {k:Nat} {ns:List (List PV)} (hx:S.opd x = .per (cD k ns)) (hF:∀ k ∈ aA x,k ∈ F):Src F S x k ns:=fun n C T g a w hA hR=>by
 have h:=aD (x:=x) hA hF hR
 rw [hx] at h
 exact xu (fun _ h=>h.elim) h
theorem KG {x:Operand} {k:Nat} {ns:List (List PV)} (hx:S.opd x = .bor k ns) (hF:∀ k ∈ aA x,k ∈ F):Src F S x k ns:=fun n C T g a w hA hR=>by
 have h:=aD (x:=x) hA hF hR
 rw [hx] at h
 exact xu (fun _ h=>h.elim) h
theorem KH {x:Operand} {id vr e k:Nat} {es:List (List PV)} (hx:S.opd x = .row id vr) (hv:S.ver id = vr) (hb:S.blk id = .row e k es) (hF:∀ k ∈ aA x,k ∈ F) (hF':2 * id + 1 ∈ F):Src F S x k es:=fun n C T g a w hA hR=>by
 obtain ⟨h1,h2⟩:=ko (x:=x) hA hF hF' hR hx hv hb
 rw [h1];exact vq (fun _ _ h=>h) hR h2
theorem KI {x:Operand} {k:Nat} (hx:S.opd x = .per (av (.slice none 0 0))) (hF:∀ k ∈ aA x,k ∈ F):Src F S x k []:=fun n C T g a w hA hR=>by
 have h:=aV (x:=x) hA hF hR hx
 rw [h]
 exact ⟨none,0,0,0,rfl,by simp,by decide,fun _=>rfl,by simp,fun i cs hi=>by simp at hi⟩
theorem DG {N : BP} {k : Nat} : ∀ {es : List (List PV)} {b of : Nat}, (∀ (i : Nat) (cs : List PV), es[i]? = some cs → cs.length = k ∧ ∀ (j : Nat) (A : PV), cs[j]? = some A →
     ∃ y,w.cell? ⟨b,of + i * k + j,none⟩ = some y ∧ y.oneCell' = true ∧ A.p N w y) →
 ∃ vs:List Value,vs.length = es.length * k ∧ (∀ (j:Nat) (u:Value),vs[j]? = some u → w.cell? ⟨b,of + j,none⟩ = some u) ∧ (∀ u ∈ vs,u.oneCell' = true) ∧
  ∀ (i:Nat) (cs:List PV),es[i]? = some cs → cs.length = k ∧ ∀ (j:Nat) (A:PV),cs[j]? = some A → ∃ y,vs[i * k + j]? = some y ∧ y.oneCell' = true ∧ A.p N w y:=by
 intro es
 induction es with
 | nil=>intro b of _;exact ⟨[],by simp,fun j u h=>by simp at h,by simp,fun i cs h=>by simp at h⟩
 | cons cs es ih=>
  intro b of h
  obtain ⟨h0,h1⟩:=h 0 cs rfl
  obtain ⟨us,g1,g2,g3⟩:=cU (N:=N) (w:=w) (f:=fun j=>w.cell? ⟨b,of + j,none⟩) cs (fun j A hj=>by
   obtain ⟨y,q1,q2⟩:=h1 j A hj
   exact ⟨y,by simpa using q1,q2⟩)
  obtain ⟨vs,r1,r2,r3,r4⟩:=ih (b:=b) (of:=of + k) (fun i cs' hi=>by
   obtain ⟨q1,q2⟩:=h (i + 1) cs' (by simpa using hi)
   refine ⟨q1,fun j A hj=>?_⟩
   obtain ⟨y,s1,s2⟩:=q2 j A hj
   exact ⟨y,by rw [show of + k + i * k + j = of + (i + 1) * k + j by rw [Nat.succ_mul];omega];exact s1,s2⟩)
  have hul:us.length = k:=by omega
  refine ⟨us ++ vs,by simp [hul,r1,Nat.succ_mul,Nat.add_comm],fun j u hj=>?_,fun u hu=>?_,fun i cs' hi=>?_⟩
  ·rcases Nat.lt_or_ge j k with hlt|hge
   ·rw [List.getElem?_append_left (by omega)] at hj;exact g2 j u hj
   ·rw [List.getElem?_append_right (by omega),hul] at hj
    have:=r2 _ u hj
    rw [show of + k + (j - k) = of + j by omega] at this;exact this
  ·rcases List.mem_append.1 hu with q|q
   ·obtain ⟨j,hj,rfl⟩:=List.getElem_of_mem q
    obtain ⟨y,s1,s2,_⟩:=g3.2 j cs[j] (by simp)
    have:us[j] = y:=by simpa [hj] using s1
    rw [this];exact s2
   ·exact r3 u q
  ·cases i with
   | zero=>
    simp at hi;subst hi
    refine ⟨h0,fun j A hj=>?_⟩
    obtain ⟨y,s1,s2⟩:=g3.2 j A hj
    have hjl:j < us.length:=by
     rcases Nat.lt_or_ge j us.length with q|q
     ·exact q
     ·rw [List.getElem?_eq_none (by omega)] at hj;cases hj
    exact ⟨y,by rw [Nat.zero_mul,Nat.zero_add,List.getElem?_append_left hjl];simpa using s1,s2⟩
   | succ i=>
    obtain ⟨q1,q2⟩:=r4 i cs' (by simpa using hi)
    refine ⟨q1,fun j A hj=>?_⟩
    obtain ⟨y,s1,s2⟩:=q2 j A hj
    exact ⟨y,by rw [List.getElem?_append_right (by rw [Nat.succ_mul];omega),hul,show (i + 1) * k + j - k = i * k + j by rw [Nat.succ_mul];omega];exact s1,s2⟩
def oe (o:Oper) (ty:TypeId) (s x:Operand):Prop:=o.op = .call { callee:=.builtin .append,args:=#[s,x],argTypes:=#[ty,ty] }
theorem KJ {ty:TypeId} {s x:Operand} {u v r:Value} (ho:oe o ty s x) (hs:a.eval s = u) (hx:a.eval x = v) (h:(Builtin.append_ #[ty,ty] o.type #[u,v]).run P w = .ok r w'):(execOp a.eval o).run P w = .ok (.value r) w':=by
 unfold oe at ho
 simp only [execOp,ho,resolve,invoke,builtin,Sem.run_bind,Sem.run_pure,Result.andThen_ok,List.map_toArray,List.map_cons,List.map_nil,hs,hx,h]
theorem ug {e k id:Nat} {es:List (List PV)} (hb:brep C T.ver g w id (.row e k es)):∃ xs:List Value,w.ownsRow 0 e k (g.rh id) es.length xs ∧
 ∀ (i:Nat) (cs:List PV),es[i]? = some cs → cs.length = k ∧ ∀ (j:Nat) (A:PV),cs[j]? = some A → ∃ y,xs[i * k + j]? = some y ∧ y.oneCell' = true ∧ A.p (g.N C) w y:=by
 rcases hb with ⟨q1,rfl⟩|⟨cap,cs,q1,q2,q3,q4,q5,q6,q7⟩
 ·exact ⟨[],⟨by simp,.inl ⟨q1,rfl⟩⟩,fun i cs h=>by simp at h⟩
 ·have hmul:es.length * k ≤ cap * k:=Nat.mul_le_mul_right k q4
  refine ⟨cs.toList.take (es.length * k),⟨by simp;omega,.inr ⟨g.ph id,cap,cs,q1,Nat.zero_le _,q2,q4,q5,q6,rfl⟩⟩,fun i ps hi=>?_⟩
  obtain ⟨r1,r2⟩:=q7 i ps hi
  refine ⟨r1,fun j A hj=>?_⟩
  obtain ⟨y,t1,t2⟩:=r2 j A hj
  have hil:i < es.length:=by
   rcases Nat.lt_or_ge i es.length with q|q
   ·exact q
   ·rw [List.getElem?_eq_none q] at hi;cases hi
  have hjl:j < k:=by
   rcases Nat.lt_or_ge j ps.length with q|q
   ·omega
   ·rw [List.getElem?_eq_none q] at hj;cases hj
  have:i * k + j < es.length * k:=by
   have:=Nat.mul_le_mul_right k (show i + 1 ≤ es.length from hil)
   rw [Nat.succ_mul] at this;omega
  exact ⟨y,by rw [List.getElem?_take,if_pos this];simpa using t1,t2⟩
theorem KK {e k id:Nat} {es:List (List PV)} (hb:brep C T.ver g w id (.row e k es)):∀ q,(g.rh id).ownBlock = some q → g.ow q = some id ∧ q = g.ph id:=by
 intro q hq
 rcases hb with ⟨q1,_⟩|⟨cap,cs,q1,q2,q3,_⟩
 ·rw [q1] at hq;cases hq
 ·rw [q1] at hq;cases hq;exact ⟨q3,rfl⟩
theorem Ci {e k id m:Nat} {es ns:List (List PV)} {v':Value} {xs news:List Value} (hm:ns.length = m) (hR:RG C n T g a w) (hb:brep C T.ver g w id (.row e k es))
 (how:w.ownsRow 0 e k (g.rh id) es.length xs)
 (hxs:∀ (i:Nat) (cs:List PV),es[i]? = some cs → cs.length = k ∧ ∀ (j:Nat) (A:PV),cs[j]? = some A → ∃ y,xs[i * k + j]? = some y ∧ y.oneCell' = true ∧ A.p (g.N C) w y)
 (n4:∀ (i:Nat) (cs:List PV),ns[i]? = some cs → cs.length = k ∧ ∀ (j:Nat) (A:PV),cs[j]? = some A → ∃ y,news[i * k + j]? = some y ∧ y.oneCell' = true ∧ A.p (g.N C) w y)
 (r2:w'.ownsRow 0 e k v' (es.length + m) (xs ++ news)) (r3:w.grownBy w' (g.rh id).ownBlock) (r4:v'.ownBlock = (g.rh id).ownBlock ∨ ∀ q,v'.ownBlock = some q → w.heap.size ≤ q)
 (hfx:cV id = false) {vr':Nat → Nat} (hvr:∀ i,vr' i = if i = id then T.ver id + 1 else T.ver i):∃ g',ln C (fun i=>i = id) T.ver vr' g g' w w' ∧ g'.rh id = v' ∧ brep C vr' g' w' id (.row e k (es ++ ns)):=by
 subst hm
 have hown_blk:=KK hb
 have hlen2:(es ++ ns).length = es.length + ns.length:=by simp
 have hheap:∀ b,b < w.heap.size → g.ow b ≠ some id → w'.heap[b]? = w.heap[b]?:=fun b hb hne=>r3.block b hb (fun e=>hne (hown_blk b e.symm).1)
 have hver:∀ j,vr' j = T.ver j ∨ (j = id ∧ T.ver j < vr' j):=fun j=>by
  rw [hvr]
  by_cases hj:j = id
  ·subst hj;exact .inr ⟨rfl,by rw [if_pos rfl];omega⟩
  ·rw [if_neg hj];exact .inl rfl
 have helems:∀ {g':Gh},ln C (fun i=>i = id) T.ver vr' g g' w w' → ∀ (i:Nat) (ps:List PV),(es ++ ns)[i]? = some ps → ps.length = k ∧ ∀ (j:Nat) (A:PV),ps[j]? = some A → ∃ y,(xs ++ news)[i * k + j]? = some y ∧ y.oneCell' = true ∧ A.p (g'.N C) w' y:=by
  intro g' hst i ps hi
  have hxl:xs.length = es.length * k:=how.1
  rcases Nat.lt_or_ge i es.length with hlt|hge
  ·rw [List.getElem?_append_left hlt] at hi
   obtain ⟨q1,q2⟩:=hxs i ps hi
   refine ⟨q1,fun j A hj=>?_⟩
   obtain ⟨y,t1,t2,t3⟩:=q2 j A hj
   have:i * k + j < xs.length:=by
    rcases Nat.lt_or_ge (i * k + j) xs.length with q|q
    ·exact q
    ·rw [List.getElem?_eq_none q] at t1;cases t1
   exact ⟨y,by rw [List.getElem?_append_left this];exact t1,t2,A.mono hst.sz hst.keepN hst.n t3⟩
  ·rw [List.getElem?_append_right hge] at hi
   obtain ⟨q1,q2⟩:=n4 _ ps hi
   refine ⟨q1,fun j A hj=>?_⟩
   obtain ⟨y,t1,t2,t3⟩:=q2 j A hj
   have hm:i * k = es.length * k + (i - es.length) * k:=by rw [← Nat.add_mul];congr 1;omega
   exact ⟨y,by rw [List.getElem?_append_right (by omega),hxl,show i * k + j - es.length * k = (i - es.length) * k + j by omega];exact t1,t2,A.mono hst.sz hst.keepN hst.n t3⟩
 rcases r2.2 with ⟨hv',hn0⟩|⟨q,cap,cur,hv',_,hh,hle,hcm,hcs,htk⟩
 ·-- nothing at all
  have hst:ln C (fun i=>i = id) T.ver vr' g (g.mkN id v') w w':=by
   refine ⟨r3.size,fun b hb hne=>hheap b hb (hne id rfl),fun _ _ _=>rfl,fun _ _ h=>h,fun b i e=>⟨Nat.lt_of_lt_of_le (hR.dom b i e).1 r3.size,(hR.dom b i e).2⟩,hver,fun i hi=>?_,fun i hi=>⟨rfl,if_neg (fun e=>by subst e;rw [hfx] at hi;cases hi)⟩,r3.os,r3.tape,r3.output⟩
   by_cases hid:i = id
   ·subst hid;rw [hvr,if_pos rfl] at hi;omega
   ·exact ⟨rfl,if_neg hid⟩
  refine ⟨_,hst,if_pos rfl,.inl ⟨by show (if id = id then v' else _) = _;rw [if_pos rfl];exact hv',?_⟩⟩
  have h0:es.length = 0 ∧ ns.length = 0:=by omega
  rw [List.eq_nil_of_length_eq_zero h0.1,List.eq_nil_of_length_eq_zero h0.2];rfl
 ·have hq:q < w'.heap.size:=(Array.getElem?_eq_some_iff.1 hh).1
  have hqq:(g.ow q = some id) ∨ w.heap.size ≤ q:=by
   have hvb:v'.ownBlock = some q:=by rw [hv'];rfl
   rcases r4 with r|r
   ·exact .inl (hown_blk q (by rw [← r];exact hvb)).1
   ·exact .inr (r q hvb)
  have hst:ln C (fun i=>i = id) T.ver vr' g (g.mk1 id q v') w w':=by
   refine ⟨r3.size,fun b hb hne=>hheap b hb (hne id rfl),fun b hb hne=>?_,fun b hb hn=>?_,fun b i e=>?_,hver,fun i hi=>?_,fun i hi=>⟨if_neg (fun e=>by subst e;rw [hfx] at hi;cases hi),if_neg (fun e=>by subst e;rw [hfx] at hi;cases hi)⟩,r3.os,r3.tape,r3.output⟩
   ·show (if b = q then some id else g.ow b) = _
    refine if_neg (fun e=>?_)
    subst e
    rcases hqq with r|r
    ·exact hne id rfl r
    ·omega
   ·change (if b = q then some id else g.ow b) ≠ none at hn
    by_cases e:b = q
    ·subst e
     rcases hqq with r|r
     ·rw [r];simp
     ·omega
    ·rwa [if_neg e] at hn
   ·change (if b = q then some id else g.ow b) = some i at e
    by_cases e':b = q
    ·subst e'
     rw [if_pos rfl] at e;cases e
     refine ⟨hq,?_⟩
     rcases hqq with r|r
     ·exact (hR.dom _ _ r).2
     ·exact .inl (Nat.le_trans hR.size r)
    ·rw [if_neg e'] at e
     exact ⟨Nat.lt_of_lt_of_le (hR.dom b i e).1 r3.size,(hR.dom b i e).2⟩
   ·by_cases hid:i = id
    ·subst hid;rw [hvr,if_pos rfl] at hi;omega
    ·exact ⟨if_neg hid,if_neg hid⟩
  have hph:(g.mk1 id q v').ph id = q:=if_pos rfl
  have hrh:(g.mk1 id q v').rh id = v':=if_pos rfl
  refine ⟨_,hst,hrh,.inr ⟨cap,cur,by rw [hrh,hph,hlen2];exact hv',by rw [hph];exact hh,by rw [hph];exact if_pos rfl,by omega,hcm,hcs,fun i ps hi=>?_⟩⟩
  obtain ⟨q1,q2⟩:=helems hst i ps hi
  refine ⟨q1,fun j A hj=>?_⟩
  obtain ⟨y,t1,t2⟩:=q2 j A hj
  rw [← htk,List.getElem?_take] at t1
  split at t1
  ·exact ⟨y,by simpa using t1,t2⟩
  ·cases t1
theorem KL {ty ty' e k bytes id:Nat} {es ns:List (List PV)} {v:Value} (hT:TI P ty e k bytes) (hk:0 < k) (hR:RG C n T g a w) (hfx:cV id = false) (hb:brep C T.ver g w id (.row e k es)) (hsrc:dW (fun _=>False) (g.N C) k ns w v)
 (hlen:es.length + ns.length ≤ maxLen) (hby:(es.length + ns.length) * bytes ≤ 140737488355328) :
 ∃ v' w',(Builtin.append_ #[ty,ty] ty' #[g.rh id,v]).run P w = .ok v' w' ∧ ∀ {vr':Nat → Nat},(∀ i,vr' i = if i = id then T.ver id + 1 else T.ver i) → ∃ g',ln C (fun i=>i = id) T.ver vr' g g' w w' ∧ g'.rh id = v' ∧ brep C vr' g' w' id (.row e k (es ++ ns)):=by
 obtain ⟨i,z,hi,hz,h1,h2,h3⟩:=hT.info
 obtain ⟨ad,c,b,of,rfl,s2,s3,s4,s5,s6⟩:=hsrc
 obtain ⟨news,n1,n2,n3,n4⟩:=DG s6
 obtain ⟨xs,how,hxs⟩:=ug hb
 have main:∃ v' w',(Builtin.append_ #[ty,ty] ty' #[g.rh id,.slice ad ns.length c]).run P w = .ok v' w' ∧ w'.ownsRow 0 e k v' (es.length + ns.length) (xs ++ news) ∧ w.grownBy w' (g.rh id).ownBlock ∧ (v'.ownBlock = (g.rh id).ownBlock ∨ v'.ownBlock = some w.heap.size):=by
  cases ad with
  | none=>
   have hns:ns = []:=by
    cases ns with
    | nil=>rfl
    | cons x l=>have:=(s5 (by simp)).1;cases this
   subst hns
   obtain rfl:=s4 rfl
   have hn:news = []:=List.eq_nil_of_length_eq_zero (by simpa using n1)
   subst hn
   refine ⟨g.rh id,w,run_append_owned_none (P:=P) (w:=w) 0 ty ty' e i k hT.und hi _ _ _ how,by simpa using how,⟨rfl,rfl,rfl,Nat.le_refl _,fun _ _ _=>rfl⟩,.inl rfl⟩
  | some ad=>
   have hcell:∀ (j:Nat) (u:Value),news[j]? = some u → w.cell? (ad.add j) = some u:=by
    intro j u hj
    have hjl:j < news.length:=by
     rcases Nat.lt_or_ge j news.length with q|q
     ·exact q
     ·rw [List.getElem?_eq_none q] at hj;cases hj
    have hn0:0 < ns.length:=by
     rcases Nat.eq_zero_or_pos ns.length with q|q
     ·rw [n1,q,Nat.zero_mul] at hjl;omega
     ·exact q
    have hade:=(s5 hn0).1
    simp at hade;subst hade
    rw [Addr.add_lit];exact n2 j u hj
   obtain ⟨v',w',r1,r2,r3,_,r5⟩:=run_append_own_at (P:=P) w 0 ty ty' e i z k bytes hT.und hi hz h1 h2 h3 hk (g.rh id) es.length xs how ad ns.length c news n1 hcell n3 hlen hby (Nat.zero_le _)
   exact ⟨v',w',r1,r2,r3,r5⟩
 obtain ⟨v',w',r1,r2,r3,r4⟩:=main
 refine ⟨v',w',r1,fun {vr'} hvr=>Ci rfl hR hb how hxs n4 r2 r3 ?_ hfx hvr⟩
 rcases r4 with r|r
 ·exact .inl r
 ·exact .inr (fun q hq=>by rw [r] at hq;cases hq;exact Nat.le_refl _)
theorem DH {ty:TypeId} {s x:Operand} {id vr e k bytes:Nat} {es ns:List (List PV)} (hp:Pl n o t) (ho:oe o ty s x) (hT:TI P ty e k bytes) (hk:Nat.blt 0 k = true)
 (hs:S.opd s = .row id vr) (hv:S.ver id = vr) (hb:S.blk id = .row e k es) (hx:Src ((2 * id + 1) :: F) S x k ns) (hF:∀ k ∈ aA s,k ∈ F)
 (hlen:es.length + ns.length ≤ maxLen) (hby:(es.length + ns.length) * bytes ≤ 140737488355328) (hfx:cV id = false:=by rfl) :
 aw n P ops o ((2 * id + 1) :: F) (.row id (vr + 1)) [(id,vr + 1,.row e k (es ++ ns))] S:=by
 refine ⟨?_⟩
 intro C T hA a w ⟨g,hR⟩
 obtain ⟨h1,h2⟩:=ko (x:=s) hA (fun k h=>by simp [hF k h]) (by simp) hR hs hv hb
 have hvt:=(hA.2 id (by simp)).2
 obtain ⟨v',w',r1,r2⟩:=KL (P:=P) (ty':=o.type) hT (Nat.le_of_ble_eq_true hk) hR hfx h2 (hx n C T g a w hA hR) hlen hby
 unfold ia
 rw [if_pos (hp.wanted a)]
 unfold Oper.wp
 rw [KJ ho h1 rfl r1,Oper.upon_value]
 have hvr:∀ i,(T.app o.dst (.row id (vr + 1)) [(id,vr + 1,.row e k (es ++ ns))]).ver i = if i = id then T.ver id + 1 else T.ver i:=fun i=>by rw [St.app_some_ver,hvt,hv]
 obtain ⟨g',s1,s2,s3⟩:=r2 hvr
 exact ⟨g',hR.app1 hp.dOk s1 ⟨by rw [hvr,if_pos rfl,hvt,hv];exact Nat.le_refl _,fun _=>s2.symm⟩ s3⟩
end
end Go.Proofs.YtliiahjpiagdkaaGreat
namespace Go.Proofs.YtliiahjpiagdkaaGreat
open Go.RowKit
def Cnt.rn (vr:Nat → Nat):Cnt → Cnt
 | .row id v=>bif Nat.beq v (vr id) then .row id 0 else .any
 | .ptr id v off=>bif Nat.beq v (vr id) then .ptr id 0 off else .any
 | .ept id v k i j=>bif Nat.beq v (vr id) then .ept id 0 k i j else .any
 | .vw id v k i j=>bif Nat.beq v (vr id) then .vw id 0 k i j else .any
 | .per A=>.per A
 | .bor k es=>.bor k es
 | .bpt cs=>.bpt cs
 | .tup2 c d=>.tup2 (c.rn vr) (d.rn vr)
 | .tup3 c d e=>.tup3 (c.rn vr) (d.rn vr) (e.rn vr)
 | .clo1 f c=>.clo1 f (c.rn vr)
 | .clo2 f c d=>.clo2 f (c.rn vr) (d.rn vr)
 | .clo3 f c d e=>.clo3 f (c.rn vr) (d.rn vr) (e.rn vr)
 | .aggN=>.aggN
 | .aggK c r=>.aggK (c.rn vr) (r.rn vr)
 | .grd _ _=>.any
 | .any=>.any
def Blk.rn (vr:Nat → Nat):Blk → Blk
 | .none=>.none
 | .box e cells=>.box e (cells.map (Cnt.rn vr))
 | .row e k es=>.row e k es
 | .mix e es c=>.mix e es (c.rn vr)
 | .obj A=>.obj A
def uh (t:Nat):List (Nat × Cnt) → Cnt
 | []=>.any
 | (t',c) :: l=>bif Nat.beq t t' then c else uh t l
def cW (i:Nat):List (Nat × Blk) → Blk
 | []=>.none
 | (i',c) :: l=>bif Nat.beq i i' then c else cW i l
def ba (sl:List (Nat × Cnt)) (bl:List (Nat × Blk)):St:=⟨fun t=>uh t sl,fun i=>cW i bl,fun _=>0⟩
section
variable {P:Program} {n:Nat} {S T:St} {C:Ctx} {g:Gh} {a:Act} {w w':World}
theorem vx {vr:Nat → Nat} {c:Cnt}:∀ {v:Value},crep C vr g w v c → crep C (fun _=>0) g w v (c.rn vr):=by
 induction c with
 | row id r=>
  intro v h
  cases hb:Nat.beq r (vr id) with
  | true=>simp only [Cnt.rn,hb,cond_true];exact ⟨Nat.le_refl _,fun _=>h.2 (aG.1 hb)⟩
  | false=>simp only [Cnt.rn,hb,cond_false];trivial
 | ptr id r off=>
  intro v h
  cases hb:Nat.beq r (vr id) with
  | true=>simp only [Cnt.rn,hb,cond_true];exact ⟨Nat.le_refl _,fun _=>h.2 (aG.1 hb)⟩
  | false=>simp only [Cnt.rn,hb,cond_false];trivial
 | ept id r k i j=>
  intro v h
  cases hb:Nat.beq r (vr id) with
  | true=>simp only [Cnt.rn,hb,cond_true];exact ⟨Nat.le_refl _,fun _=>h.2 (aG.1 hb)⟩
  | false=>simp only [Cnt.rn,hb,cond_false];trivial
 | vw id r k i j=>
  intro v h
  cases hb:Nat.beq r (vr id) with
  | true=>simp only [Cnt.rn,hb,cond_true];exact ⟨Nat.le_refl _,fun _=>h.2 (aG.1 hb)⟩
  | false=>simp only [Cnt.rn,hb,cond_false];trivial
 | per A=>exact fun h=>h
 | bor k es=>exact fun h=>h
 | bpt cs=>exact fun h=>h
 | any=>exact fun _=>trivial
 | grd b c ih=>exact fun _=>trivial
 | tup2 c d ih1 ih2=>rintro v ⟨x,y,e,h1,h2⟩;exact ⟨x,y,e,ih1 h1,ih2 h2⟩
 | tup3 c d e ih1 ih2 ih3=>rintro v ⟨x,y,z,e,h1,h2,h3⟩;exact ⟨x,y,z,e,ih1 h1,ih2 h2,ih3 h3⟩
 | clo1 f c ih=>rintro v ⟨x,e,h1⟩;exact ⟨x,e,ih h1⟩
 | clo2 f c d ih1 ih2=>rintro v ⟨x,y,e,h1,h2⟩;exact ⟨x,y,e,ih1 h1,ih2 h2⟩
 | clo3 f c d e ih1 ih2 ih3=>rintro v ⟨x,y,z,e,h1,h2,h3⟩;exact ⟨x,y,z,e,ih1 h1,ih2 h2,ih3 h3⟩
 | aggN=>exact fun h=>h
 | aggK c r ih1 ih2=>rintro v ⟨x,vs,e,o,h1,h2⟩;exact ⟨x,vs,e,o,ih1 h1,ih2 h2⟩
theorem KM {vr:Nat → Nat} {id:Nat} {B:Blk} (h:brep C vr g w id B):brep C (fun _=>0) g w id (B.rn vr):=by
 cases B with
 | none=>trivial
 | row e k es=>exact h
 | obj A=>exact h
 | box e cells=>
  obtain ⟨cs,h1,h2,h3,h4⟩:=h
  refine ⟨cs,h1,h2,by simp [h3],fun j c hj=>?_⟩
  rw [List.getElem?_map] at hj
  cases hc:cells[j]? with
  | none=>rw [hc] at hj;cases hj
  | some c'=>
   rw [hc] at hj;cases hj
   obtain ⟨y,q1,q2,q3⟩:=h4 j c' hc
   exact ⟨y,q1,q2,vx q3⟩
 | mix e es c=>
  obtain ⟨cap,cs,h1,h2,h3,h4,h5,h6,h7,y,q1,q2,q3⟩:=h
  exact ⟨cap,cs,h1,h2,h3,h4,h5,h6,h7,y,q1,q2,vx q3⟩
inductive iO (S:St):List (Nat × Cnt) → Prop
 | nil:iO S []
 | cons {t:Nat} {c:Cnt} {l:List (Nat × Cnt)} (h:(S.get t).rn S.ver = c) (k:iO S l):iO S ((t,c) :: l)
inductive iP (S:St):List (Nat × Blk) → Prop
 | nil:iP S []
 | cons {i:Nat} {B:Blk} {l:List (Nat × Blk)} (h:(S.blk i).rn S.ver = B) (k:iP S l):iP S ((i,B) :: l)
theorem iO.look {sl:List (Nat × Cnt)} (h:iO S sl) (t:Nat):uh t sl = .any ∨ uh t sl = (S.get t).rn S.ver:=by
 induction h with
 | nil=>exact .inl rfl
 | @cons t' c l h k ih=>
  unfold uh
  cases hb:Nat.beq t t' with
  | true=>exact .inr (by rw [aG.1 hb];exact h.symm)
  | false=>exact ih
theorem iP.look {sl:List (Nat × Blk)} (h:iP S sl) (t:Nat):cW t sl = .none ∨ cW t sl = (S.blk t).rn S.ver:=by
 induction h with
 | nil=>exact .inl rfl
 | @cons t' c l h k ih=>
  unfold cW
  cases hb:Nat.beq t t' with
  | true=>exact .inr (by rw [aG.1 hb];exact h.symm)
  | false=>exact ih
theorem og {sl:List (Nat × Cnt)} {bl:List (Nat × Blk)} (h1:iO S sl) (h2:iP S bl):Le n S (ba sl bl):=by
 rintro C a w ⟨g,h⟩
 refine ⟨g,h.defers,h.tsz,h.nle,h.keep,h.os,h.tape,h.output,h.size,h.old,h.n0,h.n0l,h.dom,fun t=>?_,fun id=>?_⟩
 ·show crep C (fun _=>0) g w _ (uh t sl)
  rcases h1.look t with q|q
  ·rw [q];trivial
  ·rw [q];exact vx (h.slots t)
 ·show brep C (fun _=>0) g w id (cW id bl)
  rcases h2.look id with q|q
  ·rw [q];trivial
  ·rw [q];exact KM (h.blks id)
theorem ay {S1 S2 S3:St} (h:Le n S1 S2) (k:Le n S2 S3):Le n S1 S3:=fun C a w r=>k C a w (h C a w r)
theorem Ni {d:Nat} {c:Cnt} {b:Upd} (hd:d < a.tmps.size) (h:R C n (S.app (some d) c b) (a.put (some d) (a.tmps.getD d undef)) w):R C n (S.app (some d) c b) a w:=by
 have:a.put (some d) (a.tmps.getD d undef) = a:=by
  cases a with
  | mk tm df=>
   simp only [Act.put,Act.mk.injEq,and_true]
   apply Array.ext
   ·simp
   ·intro i h1 h2
    by_cases hi:d = i
    ·subst hi
     have hd':d < tm.size:=hd
     simp [Array.getD,hd']
    ·rw [Array.getElem_setIfInBounds_ne (by simpa using h2) hi]
 rw [this] at h;exact h
theorem b7 (t id e k:Nat) (ht:Nat.blt t n = true) (h0:S.get t = .per (av (.slice none 0 0))) (hfx:cV id = false:=by rfl):Le n S (S.app (some t) (.row id (S.ver id + 1)) [(id,S.ver id + 1,.row e k [])]):=by
 rintro C a w ⟨g,hR⟩
 have hv:a.tmps.getD t undef = .slice none 0 0:=by
  have:=hR.slots t
  rw [h0] at this;exact this
 have hvr:∀ i,(S.app (some t) (.row id (S.ver id + 1)) [(id,S.ver id + 1,.row e k [])]).ver i = if i = id then S.ver id + 1 else S.ver i:=fun i=>St.app_some_ver _ _ _ _ _ _ _
 have hst:=mG (v:=.slice none 0 0) (t:=id) hR (bw.refl w) hvr hfx
 refine Ni (by rw [hR.tsz];exact Nat.le_of_ble_eq_true ht) ⟨g.mkN id (.slice none 0 0),hR.app1 (fun t' h=>by cases h;exact Nat.le_of_ble_eq_true ht) hst ⟨by rw [hvr,if_pos rfl];exact Nat.le_refl _,fun _=>?_⟩ (.inl ⟨if_pos rfl,rfl⟩)⟩
 rw [hv];exact (if_pos rfl).symm
def PL (tm:Array Value):ResultVar → Sem Value
 | .tmp t=>pure (tm.getD t undef)
 | .cell a t=>do loadVar t (← asAddr (tm.getD a undef))
theorem gI (fn:Func) (tm:Array Value):results fn tm = (do let vs ← fn.results.mapM (PL tm);pure (if h:vs.size = 1 then vs[0] else .tuple vs)):=by
 unfold results
 congr 1
def cM (P:Program) (n:Nat) (S:St) (rv:ResultVar) (r:Ret):Prop:=
 ∀ (C:Ctx) (g:Gh) a w,(∀ b,¬ C.L b) → RG C n S g a w → ∃ v,(PL a.tmps rv).run P w = .ok v w ∧ r.rep C.N0 C.W0 w v
theorem ct {t:Nat} {A:PV} (h:S.get t = .per A):cM P n S (.tmp t) (.per A):=fun C g a w _ hR=>by
 have:=hR.slots t
 rw [h] at this
 exact ⟨_,rfl,A.mono (Nat.le_refl _) (fun _ _ _=>rfl) (fun b _ hb=>.inl hb) this⟩
theorem cI {t id vr e k:Nat} {es:List (List PV)} (h:S.get t = .row id vr) (hv:S.ver id = vr) (hb:S.blk id = .row e k es):cM P n S (.tmp t) (.own e k es):=fun C g a w hL hR=>by
 have hs:=hR.slots t
 rw [h] at hs
 have hB:=hR.blks id
 rw [hb] at hB
 refine ⟨_,rfl,?_⟩
 rw [hs.2 hv.symm]
 rcases hB with ⟨q1,q2⟩|⟨cap,cs,q1,q2,q3,q4,q5,q6,q7⟩
 ·exact .inl ⟨q1,q2⟩
 ·have hd:=(hR.dom _ _ q3).2
  refine .inr ⟨g.ph id,cap,cs,q1,by rcases hd with q|q;exact q;exact absurd q (hL _),q2,q4,q5,q6,fun i ps hi=>?_⟩
  obtain ⟨r1,r2⟩:=q7 i ps hi
  refine ⟨r1,fun j A hj=>?_⟩
  obtain ⟨y,s1,s2,s3⟩:=r2 j A hj
  exact ⟨y,s1,s2,A.mono (Nat.le_refl _) (fun _ _ _=>rfl) (fun b _ hb=>by
   rcases hb with hb|hb
   ·exact .inl hb
   ·exact .inr (by rw [hb,q3];simp)) s3⟩
theorem Ag {t e k:Nat} (h:S.get t = .per (av (.slice none 0 0))):cM P n S (.tmp t) (.own e k []):=fun C g a w _ hR=>by
 have:=hR.slots t
 rw [h] at this
 exact ⟨_,rfl,.inl ⟨this,rfl⟩⟩
theorem F9 {t id vr k:Nat} {ty e:TypeId} {d:TypeDesc} {cells:List Cnt} {As:List PV} (hT:P.underlying ty = some d) (hd:fV d = true) (hk:P.cellsOf ty = k) (h0:Nat.blt 0 k = true) (h:S.get t = .ptr id vr 0) (hv:S.ver id = vr) (hb:S.blk id = .box e cells)
 (hl:cells.length = k) (hc:po cells = some As):cM P n S (.cell t ty) (.per (bX As)):=fun C g a w _ hR=>by
 have hs:=hR.slots t
 rw [h] at hs
 have hB:=hR.blks id
 rw [hb] at hB
 obtain ⟨cs,h2,_,h4,h5⟩:=hB
 have hm:=mF hc
 have hlen:As.length = k:=by rw [← hl,hm];simp
 have h0:=Nat.le_of_ble_eq_true h0
 obtain ⟨vs,g1,g2,g3⟩:=cU (N:=g.N C) (w:=w) (f:=fun j=>w.cell? ⟨g.ph id,0 + j,none⟩) As (fun j A hj=>by
  obtain ⟨y,q1,q2,q3⟩:=h5 j (.per A) (by rw [hm,List.getElem?_map,hj];rfl)
  exact ⟨y,by rw [eo h2,Nat.zero_add];exact q1,q2,q3⟩)
 refine ⟨.agg vs.toArray,?_,vs.toArray,rfl,g3.mono (Nat.le_refl _) (fun _ _ _=>rfl) (fun b _ hb=>.inl hb)⟩
 have:=el (P:=P) (w:=w) (b:=g.ph id) (o:=0) hT hd (by rw [hk,g1,hlen]) (by omega) g2
 show (do loadVar ty (← asAddr (a.tmps.getD t undef))).run P w = _
 rw [hs.2 hv.symm]
 simpa [Instr.loadAt,Instr.sureAddr,asAddr] using this
theorem Ah {fn:Func} {rv:ResultVar} {r:Ret} (hf:fn.results = #[rv]) (h:cM P n S rv r):ql P n fn S r:=fun C a w hL ⟨g,hR⟩=>by
 obtain ⟨v,h1,h2⟩:=h C g a w hL hR
 refine ⟨v,?_,h2⟩
 rw [gI,hf]
 simp [h1]
theorem P3 {fn:Func} {rv rv':ResultVar} {r r':Ret} (hf:fn.results = #[rv,rv']) (h:cM P n S rv r) (h':cM P n S rv' r'):ql P n fn S (.tup2 r r'):=fun C a w hL ⟨g,hR⟩=>by
 obtain ⟨v,h1,h2⟩:=h C g a w hL hR
 obtain ⟨v',h1',h2'⟩:=h' C g a w hL hR
 refine ⟨.tuple #[v,v'],?_,v,v',rfl,h2,h2'⟩
 rw [gI,hf]
 simp [h1,h1']
end
end Go.Proofs.YtliiahjpiagdkaaGreat
namespace Go.Proofs.YtliiahjpiagdkaaGreat
open Go.RowKit
section
variable {P:Program} {n:Nat} {ops:Array Oper} {o:Oper} {F:List Nat} {S T:St} {C:Ctx} {g:Gh} {a:Act} {w w':World} {t:Nat}
def cG (zs:List PV) (off:Nat) (ps:List PV):List PV:=zs.take off ++ (ps ++ zs.drop (off + ps.length))
def kY (place:Nat → Option (Nat × Nat)) (zs:List PV):List (Nat × List PV) → Option (List PV)
 | []=>some zs
 | (i,ps) :: rest=>match place i with
  | none=>none
  | some (off,size)=>bif Nat.beq ps.length size && Nat.ble (off + size) zs.length then kY place (cG zs off ps) rest else none
theorem ui (vs:List Value):∀ (k off:Nat) (cs:Array Value) (i:Nat),off + k + vs.length ≤ cs.size →
 ((vs.zipIdx k).foldl (fun cs (c,j)=>cs.setIfInBounds (off + j) c) cs).size = cs.size ∧
 ((vs.zipIdx k).foldl (fun cs (c,j)=>cs.setIfInBounds (off + j) c) cs)[i]? = if off + k ≤ i ∧ i < off + k + vs.length then vs[i - (off + k)]? else cs[i]?:=by
 induction vs with
 | nil=>
  intro k off cs i _
  refine ⟨rfl,?_⟩
  rw [if_neg (by simp)];rfl
 | cons v vs ih=>
  intro k off cs i h
  simp only [List.length_cons] at h
  simp only [List.zipIdx_cons,List.foldl_cons]
  obtain ⟨h1,h2⟩:=ih (k + 1) off (cs.setIfInBounds (off + k) v) i (by rw [Array.size_setIfInBounds];omega)
  refine ⟨by rw [h1];simp,?_⟩
  rw [h2]
  by_cases hi:i = off + k
  ·subst hi
   rw [if_neg (by omega),if_pos ⟨Nat.le_refl _,by simp⟩,Array.getElem?_setIfInBounds_self_of_lt (by omega)]
   simp
  ·by_cases hin:off + k ≤ i ∧ i < off + k + (vs.length + 1)
   ·rw [if_pos (by omega),if_pos (by simpa using hin),show i - (off + k) = (i - (off + (k + 1))) + 1 by omega]
    simp
   ·rw [if_neg (by omega),if_neg (by simpa using hin),Array.getElem?_setIfInBounds_ne (Ne.symm hi)]
theorem DI {N:BP} {cs:Array Value} {zs ps:List PV} {off:Nat} {vs:Array Value} (h:fq N w cs zs) (hv:fq N w vs ps) (hl:off + ps.length ≤ zs.length) :
 fq N w (vs.zipIdx.foldl (fun cs (c,j)=>cs.setIfInBounds (off + j) c) cs) (cG zs off ps):=by
 have hvs:=hv.1
 have hcs:=h.1
 have hz:vs.zipIdx.foldl (fun cs (c,j)=>cs.setIfInBounds (off + j) c) cs = (vs.toList.zipIdx 0).foldl (fun cs (c,j)=>cs.setIfInBounds (off + j) c) cs:=by
  rw [← Array.foldl_toList,Array.toList_zipIdx]
 rw [hz]
 have hf:=fun i=>ui vs.toList 0 off cs i (by simp;omega)
 refine ⟨by rw [(hf 0).1];simp [cG];omega,fun j A hj=>?_⟩
 rw [(hf j).2]
 unfold cG at hj
 have hta:(zs.take off).length = off:=by simp;omega
 simp only [Nat.add_zero,Array.length_toList,Array.getElem?_toList]
 rcases Nat.lt_or_ge j off with hlt|hge
 ·rw [List.getElem?_append_left (by omega),List.getElem?_take,if_pos hlt] at hj
  rw [if_neg (by omega)]
  exact h.2 j A hj
 ·rw [List.getElem?_append_right (by omega),hta] at hj
  rcases Nat.lt_or_ge j (off + ps.length) with hlt|hge2
  ·rw [List.getElem?_append_left (by omega)] at hj
   rw [if_pos ⟨by omega,by omega⟩]
   exact hv.2 _ A hj
  ·rw [List.getElem?_append_right (by omega),List.getElem?_drop] at hj
   rw [if_neg (by omega)]
   have:=h.2 _ A hj
   rw [show off + ps.length + (j - off - ps.length) = j by omega] at this
   exact this
def lC (S:St) (x:Operand) (ps:List PV):Prop:=S.opd x = .per (bX ps) ∨ ∃ A,S.opd x = .per A ∧ na A ∧ ps = [A]
theorem fx {x:Operand} {ps:List PV} (h:S.opd x = .per (bX ps)):lC S x ps:=.inl h
theorem xw {x:Operand} {A:PV} (h:S.opd x = .per A) (h1:na A):lC S x [A]:=.inr ⟨A,h,h1,rfl⟩
theorem bx {x:Operand} {v:Value} (h:S.opd x = .per (av v)) (h1:v.oneCell' = true) (h2:v.cells = #[v]):lC S x [av v]:=xw h (cn h1 h2)
theorem fy {x:Operand} {k:Nat} {es:List (List PV)} (h:S.opd x = .per (cD k es)):lC S x [cD k es]:=xw h cE
inductive cv (S:St):List (Nat × Operand) → List (Nat × List PV) → Prop
 | nil:cv S [] []
 | cons {i:Nat} {x:Operand} {ps:List PV} {l:List (Nat × Operand)} {l':List (Nat × List PV)} (h:lC S x ps) (k:cv S l l'):cv S ((i,x) :: l) ((i,ps) :: l')
theorem lC.rep {x:Operand} {ps:List PV} (h:lC S x ps) (hA:dd F T S) (hF:∀ k ∈ aA x,k ∈ F) (hR:RG C n T g a w):fq (g.N C) w (a.eval x).cells ps:=by
 have hr:=aD (x:=x) hA hF hR
 rcases h with h|⟨A,h,h1,rfl⟩
 ·rw [h] at hr
  obtain ⟨vs,hv,hc⟩:=hr
  rw [hv];exact hc
 ·rw [h] at hr
  obtain ⟨q1,q2⟩:=h1 _ _ _ hr
  rw [q2]
  refine ⟨rfl,fun j A' hj=>?_⟩
  cases j with
  | zero=>simp at hj;subst hj;exact ⟨_,rfl,q1,hr⟩
  | succ j=>simp at hj
def fW (l:List (Nat × Operand)):List Nat:=l.flatMap fun x=>aA x.2
theorem xx {place:Nat → Option (Nat × Nat)} {parts:List (Nat × Operand)} {pps:List (Nat × List PV)} (h:cv S parts pps) (hA:dd F T S) (hF:∀ k ∈ fW parts,k ∈ F) (hR:RG C n T g a w) :
 ∀ {cells:Array Value} {zs cs:List PV},fq (g.N C) w cells zs → kY place zs pps = some cs → ∃ out,Instr.fill place cells (parts.map fun (i,x)=>(i,a.eval x)) = some out ∧ fq (g.N C) w out cs:=by
 induction h with
 | nil=>intro cells zs cs hc hf;cases hf;exact ⟨cells,rfl,hc⟩
 | @cons i x ps l l' h k ih=>
  intro cells zs cs hc hf
  have hx:=h.rep hA (fun k hk=>hF k (by simp [fW,hk])) hR
  unfold kY at hf
  cases hp:place i with
  | none=>simp only [hp] at hf;cases hf
  | some p=>
   obtain ⟨off,size⟩:=p
   simp only [hp] at hf
   cases hb:(Nat.beq ps.length size && Nat.ble (off + size) zs.length) with
   | false=>rw [hb] at hf;cases hf
   | true=>
    rw [hb] at hf
    simp only [cond_true] at hf
    rw [Bool.and_eq_true] at hb
    have h1:=aG.1 hb.1
    have h2:=Nat.le_of_ble_eq_true hb.2
    have hcs:=hc.1
    have hxs:=hx.1
    obtain ⟨out,q1,q2⟩:=ih (fun k hk=>hF k (by simp only [fW,List.flatMap_cons,List.mem_append];exact .inr hk)) (DI (off:=off) hc hx (by omega)) hf
    refine ⟨out,?_,q2⟩
    simp only [List.map_cons,Instr.fill,hp]
    rw [if_neg (by simp only [ne_eq,gt_iff_lt,Bool.or_eq_true,decide_eq_true_eq,not_or,Decidable.not_not];exact ⟨by omega,by omega⟩)]
    exact q1
def xy (vs:List Value):List PV:=vs.map av
theorem xz {N:BP} {vs:Array Value} (h:vs.toList.all (·.oneCell') = true):fq N w vs (xy vs.toList):=by
 refine ⟨by simp [xy],fun j A hj=>?_⟩
 unfold xy at hj
 rw [List.getElem?_map] at hj
 cases hv:vs.toList[j]? with
 | none=>rw [hv] at hj;cases hj
 | some y=>
  rw [hv] at hj;cases hj
  rw [List.all_eq_true] at h
  exact ⟨y,by simpa using hv,h y (List.mem_of_getElem? hv),rfl⟩
theorem Ga {ty:TypeId} {z:Value} (hz:(P.info? ty).bind (·.zero) = some z):(zeroValue ty).run P w = .ok z w:=by
 cases hi:P.info? ty with
 | none=>rw [hi] at hz;cases hz
 | some i=>
  rw [hi] at hz
  simp only [Option.bind_some] at hz
  simp [zeroValue,typeInfo,program,Sem.run,hi,hz]
def xA (P:Program) (ty:TypeId):Option (List (Nat × Nat)):=match P.underlying ty with
 | some (.struct fs)=>fs.toList.mapM (fun f=>(P.info? f.type).map fun i=>(f.offset,i.size))
 | _=>none
theorem xB {ty:TypeId} {z:Value} {ls:List (Nat × Nat)} {parts:List (Nat × Value)} {out:Array Value} (hl:xA P ty = some ls) (hz:(P.info? ty).bind (·.zero) = some z)
 (h:Instr.fill (fun i=>ls[i]?) z.cells parts = some out):P.built ty parts = some out:=by
 unfold xA at hl
 unfold Program.built
 cases hi:P.info? ty with
 | none=>rw [hi] at hz;cases hz
 | some it=>
  rw [hi] at hz
  simp only [Option.bind_some] at hz
  split at hl
  ·rename_i fs hu
   simp only [hu,hz,hl]
   simpa using h
  ·cases hl
theorem Gb {ty:TypeId} {z:Value} {ls:List (Nat × Nat)} {parts:List (Nat × Operand)} {pps:List (Nat × List PV)} {cs:List PV} (hp:Pl n o t) (ho:o.op = .build ty parts.toArray) (hl:xA P ty = some ls) (hz:(P.info? ty).bind (·.zero) = some z)
 (h1:z.cells.toList.all (·.oneCell') = true) (hpt:cv S parts pps) (hf:kY (fun i=>ls[i]?) (xy z.cells.toList) pps = some cs):aw n P ops o (fW parts) (.per (bX cs)) [] S:=
 aM hp fun C T g a w hA hR=>by
  obtain ⟨out,r1,r2⟩:=xx hpt hA (fun k h=>h) hR (xz h1) hf
  refine ⟨.agg out,?_,out,rfl,r2⟩
  simp only [execOp,ho,Sem.run_bind]
  rw [run_build w ty _ out (by rw [show ((parts.toArray.map fun (x:Nat × Operand)=>(x.1,a.eval x.2)).toList) = parts.map fun (i,x)=>(i,a.eval x) by simp];exact xB hl hz r1)]
  rfl
def kZ (k:Nat):Nat → List PV → List (List PV)
 | 0,_=>[]
 | m + 1,l=>l.take k :: kZ k m (l.drop k)
theorem bF (k:Nat):∀ (m:Nat) (l:List PV),(kZ k m l).length = m:=by
 intro m
 induction m with
 | zero=>intro l;rfl
 | succ m ih=>intro l;simp [kZ,ih]
theorem uj (k:Nat):∀ (m:Nat) (l:List PV) (i:Nat) (ps:List PV),(kZ k m l)[i]? = some ps → ps = (l.drop (i * k)).take k ∧ i < m:=by
 intro m
 induction m with
 | zero=>intro l i ps h;simp [kZ] at h
 | succ m ih=>
  intro l i ps h
  cases i with
  | zero=>simp [kZ] at h;subst h;simp
  | succ i=>
   simp only [kZ,List.getElem?_cons_succ] at h
   obtain ⟨h1,h2⟩:=ih _ _ _ h
   refine ⟨?_,by omega⟩
   rw [h1,List.drop_drop,Nat.succ_mul,Nat.add_comm]
def tL (k len:Nat) (zs:List Value):List PV:=(List.range (len * k)).map fun i=>av (zs.getD (i % zs.length) default)
theorem rG {ty e k bytes len:Nat} {z:Value} {parts:List (Nat × Operand)} {pps:List (Nat × List PV)} {cs:List PV} (hT:TI P ty e k bytes) (hk:0 < k) (hlen:0 < len) (hz:(P.info? e).bind (·.zero) = some z)
 (h1:z.cells.toList.all (·.oneCell') = true) (hzk:z.cells.size = k) (hsm:len * k ≤ 16777216) (hA:dd F T S) (hF:∀ k ∈ fW parts,k ∈ F) (hR:RG C n T g a w) (hpt:cv S parts pps)
 (hf:kY (fun i=>some (i * k,k)) (tL k len z.cells.toList) pps = some cs) :
 ∃ out:Array Value,(Instr.buildSlice ty len (parts.toArray.map fun (i,x)=>(i,a.eval x))).run P w = .ok (.slice (some ⟨w.heap.size,0,none⟩) len len) (w.alloc (.cells out e)) ∧ fq (g.N C) w out cs:=by
 obtain ⟨i,z',hi,hz',hs1,hs2,hs3⟩:=hT.info
 rw [hi] at hz
 simp only [Option.bind_some] at hz
 rw [hz'] at hz;cases hz
 have hpos:0 < len * k:=Nat.mul_pos hlen hk
 have hbase:fq (g.N C) w ((Array.range (len * k)).map (z.cells[· % z.cells.size]!)) (tL k len z.cells.toList):=by
  refine ⟨by simp [tL],fun j A hj=>?_⟩
  unfold tL at hj
  rw [List.getElem?_map] at hj
  cases hr:(List.range (len * k))[j]? with
  | none=>rw [hr] at hj;cases hj
  | some q=>
   rw [hr] at hj;cases hj
   have hjl:j < len * k:=by
    rcases Nat.lt_or_ge j (len * k) with h|h
    ·exact h
    ·rw [List.getElem?_eq_none (by simpa using h)] at hr;cases hr
   have hq:q = j:=by simpa [hjl] using hr.symm
   subst hq
   have hm:q % z.cells.size < z.cells.size:=Nat.mod_lt _ (by omega)
   refine ⟨z.cells[q % z.cells.size]!,by simp [hjl],?_,?_⟩
   ·rw [List.all_eq_true] at h1
    rw [getElem!_pos z.cells _ hm]
    exact h1 _ (by simp)
   ·show _ = _
    simp [List.getD_eq_getElem?_getD,hm]
 obtain ⟨out,q1,q2⟩:=xx hpt hA hF hR hbase hf
 refine ⟨out,?_,q2⟩
 refine run_buildSlice w ty e len _ out i z hT.und hi hz' (by rw [hs1];omega) (by rw [hs1];omega) ?_
 rw [hs1]
 simpa using q1
theorem xC {place:Nat → Option (Nat × Nat)}:∀ {pps:List (Nat × List PV)} {zs cs:List PV},kY place zs pps = some cs → cs.length = zs.length:=by
 intro pps
 induction pps with
 | nil=>intro zs cs h;cases h;rfl
 | cons p l ih=>
  obtain ⟨i,ps⟩:=p
  intro zs cs h
  unfold kY at h
  cases hp:place i with
  | none=>simp only [hp] at h;cases h
  | some q=>
   obtain ⟨off,size⟩:=q
   simp only [hp] at h
   cases hb:(Nat.beq ps.length size && Nat.ble (off + size) zs.length) with
   | false=>rw [hb] at h;cases h
   | true=>
    rw [hb] at h
    rw [Bool.and_eq_true] at hb
    have h1:=aG.1 hb.1
    have h2:=Nat.le_of_ble_eq_true hb.2
    rw [ih h];simp [cG];omega
theorem DJ {ty e k bytes len:Nat} {z:Value} {parts:List (Nat × Operand)} {pps:List (Nat × List PV)} {cs:List PV} (hp:Pl n o t) (ho:o.op = .buildSlice ty len parts.toArray) (hT:TI P ty e k bytes) (hk:Nat.blt 0 k = true) (hlen:Nat.blt 0 len = true) (hz:(P.info? e).bind (·.zero) = some z)
 (h1:z.cells.toList.all (·.oneCell') = true) (hzk:z.cells.size = k) (hsm:Nat.ble (len * k) 16777216 = true) (hpt:cv S parts pps) (hf:kY (fun i=>some (i * k,k)) (tL k len z.cells.toList) pps = some cs) :
 aw n P ops o (fW parts) (.per (cD k (kZ k len cs))) [] S:=by
 refine ⟨?_⟩
 intro C T hA a w ⟨g,hR⟩
 have hk:=Nat.le_of_ble_eq_true hk
 have hlen:=Nat.le_of_ble_eq_true hlen
 obtain ⟨out,r1,r2⟩:=rG (P:=P) hT hk hlen hz h1 hzk (Nat.le_of_ble_eq_true hsm) hA (fun k h=>h) hR hpt hf
 unfold ia
 rw [if_pos (hp.wanted a)]
 unfold Oper.wp
 have hex:(execOp a.eval o).run P w = .ok (.value (.slice (some ⟨w.heap.size,0,none⟩) len len)) (w.alloc (.cells out e)):=by
  simp only [execOp,ho,Sem.run_bind]
  rw [r1];rfl
 rw [hex,Oper.upon_value]
 have hcl:cs.length = len * k:=by rw [xC hf];simp [tL]
 refine ⟨g,hR.app0 ((bw.refl w).alloc _) hp.dOk ?_⟩
 show dW (g.N C) (g.N C) k (kZ k len cs) _ _
 have hcl2:=bF k len cs
 refine ⟨_,len,w.heap.size,0,by rw [hcl2],by omega,by have:=Nat.le_of_ble_eq_true hsm;have:len ≤ len * k:=Nat.le_mul_of_pos_right _ hk;unfold maxLen;omega,by simp,fun _=>⟨rfl,ie _ _,fun hn=>?_⟩,fun i ps hi=>?_⟩
 ·rcases hn with hn|hn
  ·exact F7 hR _ (Nat.le_refl _) hn
  ·exact hn (vu hR _ (Nat.le_refl _))
 ·obtain ⟨q1,q2⟩:=uj k len cs i ps hi
  have hik:i * k + k ≤ len * k:=by have:=Nat.mul_le_mul_right k (show i + 1 ≤ len from q2);rw [Nat.succ_mul] at this;exact this
  refine ⟨by rw [q1];simp;omega,fun j A hj=>?_⟩
  rw [q1,List.getElem?_take] at hj
  split at hj
  ·rw [List.getElem?_drop] at hj
   obtain ⟨y,s1,s2,s3⟩:=r2.2 _ A hj
   refine ⟨y,?_,s2,A.mono (by simp) (fun b hb _=>Below.heap_alloc _ _ _ hb) (fun _ _ h=>h) s3⟩
   rw [Nat.zero_add,eo (heap_alloc_new w _)];exact s1
  ·cases hj
theorem tM {ty e k bytes len:Nat} {z:Value} {parts:List (Nat × Operand)} {pps:List (Nat × List PV)} {cs:List PV} (hp:Pl n o t) (ho:o.op = .buildSlice ty len parts.toArray) (hT:TI P ty e k bytes) (hk:Nat.blt 0 k = true) (hlen:Nat.blt 0 len = true) (hz:(P.info? e).bind (·.zero) = some z)
 (h1:z.cells.toList.all (·.oneCell') = true) (hzk:z.cells.size = k) (hsm:Nat.ble (len * k) 16777216 = true) (hpt:cv S parts pps) (hf:kY (fun i=>some (i * k,k)) (tL k len z.cells.toList) pps = some cs) :
 aw n P ops o ((2 * t + 1) :: fW parts) (.row t (S.ver t + 1)) [(t,S.ver t + 1,.row e k (kZ k len cs))] S:=
 rC hp (by simp) fun C T g a w hA hR=>by
  have hk:=Nat.le_of_ble_eq_true hk
  have hlen:=Nat.le_of_ble_eq_true hlen
  obtain ⟨out,r1,r2⟩:=rG (P:=P) hT hk hlen hz h1 hzk (Nat.le_of_ble_eq_true hsm) hA (fun k h=>by simp [h]) hR hpt hf
  have hcl:cs.length = len * k:=by rw [xC hf];simp [tL]
  have hcl2:=bF k len cs
  refine ⟨.slice (some ⟨w.heap.size,0,none⟩) len len,w.alloc (.cells out e),w.heap.size,?_,(bw.refl w).alloc _,Nat.le_refl _,ie _ _,fun vr' hvr hst=>⟨?_,?_⟩⟩
  ·simp only [execOp,ho,Sem.run_bind]
   rw [r1];rfl
  ·exact ⟨by rw [hvr,if_pos rfl];exact Nat.le_refl _,fun _=>(if_pos rfl).symm⟩
  ·have hph:(g.mk1 t w.heap.size (.slice (some ⟨w.heap.size,0,none⟩) len len)).ph t = w.heap.size:=if_pos rfl
   have hrh:(g.mk1 t w.heap.size (.slice (some ⟨w.heap.size,0,none⟩) len len)).rh t = .slice (some ⟨w.heap.size,0,none⟩) len len:=if_pos rfl
   refine .inr ⟨len,out,by rw [hrh,hph,hcl2],by rw [hph];exact heap_alloc_new w _,by rw [hph];exact if_pos rfl,by omega,by have:=Nat.le_of_ble_eq_true hsm;have:len ≤ len * k:=Nat.le_mul_of_pos_right _ hk;unfold maxLen;omega,by rw [r2.1,hcl],fun i ps hi=>?_⟩
   obtain ⟨q1,q2⟩:=uj k len cs i ps hi
   have hik:i * k + k ≤ len * k:=by have:=Nat.mul_le_mul_right k (show i + 1 ≤ len from q2);rw [Nat.succ_mul] at this;exact this
   refine ⟨by rw [q1];simp;omega,fun j A hj=>?_⟩
   rw [q1,List.getElem?_take] at hj
   split at hj
   ·rw [List.getElem?_drop] at hj
    obtain ⟨y,s1,s2,s3⟩:=r2.2 _ A hj
    exact ⟨y,s1,s2,A.mono hst.sz hst.keepN hst.n s3⟩
   ·cases hj
theorem Ai {ty e k bytes:Nat} (hp:Pl n o t) (ho:o.op = .buildSlice ty 0 #[]) (hT:TI P ty e k bytes) :
 aw n P ops o [2 * t + 1] (.row t (S.ver t + 1)) [(t,S.ver t + 1,.row e k [])] S:=
 rC hp (by simp) fun C T g a w hA hR=>by
  obtain ⟨i,z',hi,hz',hs1,hs2,hs3⟩:=hT.info
  refine ⟨.slice (some ⟨w.heap.size,0,none⟩) 0 0,w.alloc (.cells #[] e),w.heap.size,?_,(bw.refl w).alloc _,Nat.le_refl _,ie _ _,fun vr' hvr hst=>⟨?_,?_⟩⟩
  ·simp only [execOp,ho,Sem.run_bind,Instr.buildSlice,run_underlying hT.und,Result.andThen_ok]
   simp [sizeOf,typeInfo,program,Sem.run,hi,Instr.fill,newRow,newObj,Array.range_zero']
  ·exact ⟨by rw [hvr,if_pos rfl];exact Nat.le_refl _,fun _=>(if_pos rfl).symm⟩
  ·have hph:(g.mk1 t w.heap.size (.slice (some ⟨w.heap.size,0,none⟩) 0 0)).ph t = w.heap.size:=if_pos rfl
   have hrh:(g.mk1 t w.heap.size (.slice (some ⟨w.heap.size,0,none⟩) 0 0)).rh t = .slice (some ⟨w.heap.size,0,none⟩) 0 0:=if_pos rfl
   exact .inr ⟨0,#[],by rw [hrh,hph];rfl,by rw [hph];exact heap_alloc_new w _,by rw [hph];exact if_pos rfl,by simp,by decide,by simp,fun i ps hi=>by simp at hi⟩
end
end Go.Proofs.YtliiahjpiagdkaaGreat
namespace Go.Proofs.YtliiahjpiagdkaaGreat
open Go.RowKit
def fA (c:UInt8):List PV:=[av (.int .u8 (c.toNat:Int))]
def P4 (n:Int):List PV:=[av (.int .i64 n)]
def strP (s:ByteArray):List PV:=[av (.string s)]
section
variable {P:Program} {n:Nat} {ops:Array Oper} {o:Oper} {F:List Nat} {S T:St} {C:Ctx} {g:Gh} {a:Act} {w w':World} {t:Nat}
theorem Cj {top N:BP} {k:Nat} {es:List (List PV)} {v:Value} (h:dW top N k es w v) (lo hi:Nat) (h1:lo ≤ hi) (h2:hi ≤ es.length) :
 ∃ ad c,v = .slice ad es.length c ∧ hi ≤ c ∧ dW top N k ((es.drop lo).take (hi - lo)) w (.slice (if c = lo then ad else ad.map (·.add (lo * k))) (hi - lo) (c - lo)):=by
 obtain ⟨ad,c,b,of,rfl,g1,g2,g0,g3,g4⟩:=h
 refine ⟨ad,c,rfl,by omega,?_⟩
 have hlen:((es.drop lo).take (hi - lo)).length = hi - lo:=by simp;omega
 by_cases hz:hi = lo
 ·subst hz
  refine ⟨_,c - hi,0,0,by rw [hlen],by omega,by omega,fun hn=>?_,by rw [hlen];omega,fun i cs hx=>?_⟩
  ·by_cases hc:c = hi
   ·omega
   ·rw [if_neg hc] at hn
    cases ad with
    | none=>have:=g0 rfl;omega
    | some ad=>simp at hn
  ·rw [List.getElem?_eq_none (by rw [hlen];omega)] at hx;cases hx
 ·obtain ⟨ha,q2,q3⟩:=g3 (by omega)
  have hc:¬ c = lo:=by omega
  refine ⟨_,c - lo,b,of + lo * k,by rw [hlen],by omega,by omega,fun hn=>?_,fun _=>⟨by rw [if_neg hc,ha];simp [Addr.add_lit],q2,q3⟩,fun i cs hx=>?_⟩
  ·rw [if_neg hc,ha] at hn;simp at hn
  ·rw [List.getElem?_take] at hx
   split at hx
   ·rw [List.getElem?_drop] at hx
    obtain ⟨r1,r2⟩:=g4 _ cs hx
    refine ⟨r1,fun j A hj=>?_⟩
    obtain ⟨y,s1,s2⟩:=r2 j A hj
    exact ⟨y,by rw [show of + lo * k + i * k + j = of + (lo + i) * k + j by rw [Nat.add_mul];omega];exact s1,s2⟩
   ·cases hx
def Aj (S:St) (lo hi:Option Operand) (len:Nat) (l h:Nat):Prop:=
 (match lo with|none=>l = 0|some x=>∃ k z,S.opd x = iC k z ∧ z = (l:Int)) ∧ (match hi with|none=>h = len|some x=>∃ k z,S.opd x = iC k z ∧ z = (h:Int)) ∧ l ≤ h ∧ h ≤ len
def jE (lo hi:Option Operand):List Nat:=(match lo with|none=>[]|some x=>aA x) ++ (match hi with|none=>[]|some x=>aA x)
theorem jQ {ty e k:Nat} {ad:Option Addr} {len c l h:Nat} {lo hi:Option Operand} (hT:P.underlying ty = some (.slice e)) (hk:P.cellsOf e = k) (h0:0 < k) (hA:dd F T S) (hF:∀ k ∈ jE lo hi,k ∈ F) (hR:RG C n T g a w) (hb:Aj S lo hi len l h) (hc:h ≤ c) :
 (Instr.sliceAt ty (.slice ad len c) (lo.map a.eval) (hi.map a.eval) none).run P w = .ok (.slice (if c = l then ad else ad.map (·.add (l * k))) (h - l) (c - l)) w:=by
 have hel:P.elem ty = e:=by unfold Program.elem;rw [hT]
 rw [run_sliceAt_slice (h:=by rw [hel];exact hT)]
 obtain ⟨h1,h2,h3,h4⟩:=hb
 have fin:∀ (r:Result Value),(r = ((sizeOf (P.elem ty)).run P w).andThen fun s w=>.ok (sliced ad l h c s) w) → r = .ok (.slice (if c = l then ad else ad.map (·.add (l * k))) (h - l) (c - l)) w:=by
  intro r hr
  rw [hr,hel,eT hk h0]
  simp [sliced,Result.andThen]
 cases lo with
 | none=>
  subst h1
  cases hi with
  | none=>
   have h2:h = len:=h2
   subst h2
   exact fin _ (by simp only [Option.map_none];rw [run_slice_all (ht:=by rw [hel];exact hT)])
  | some y=>
   obtain ⟨kk,z,hz,rfl⟩:=h2
   have:=aV (x:=y) hA (fun k hk=>hF k (by simp [jE,hk])) hR hz
   exact fin _ (by simp only [Option.map_none,Option.map_some,this];rw [run_slice_h (ht:=by rw [hel];exact hT) (h0:=by omega) (h2:=by omega)];simp)
 | some x=>
  obtain ⟨kk,z,hz,rfl⟩:=h1
  have hx:=aV (x:=x) hA (fun k hk=>hF k (by simp [jE,hk])) hR hz
  cases hi with
  | none=>
   have h2:h = len:=h2
   subst h2
   exact fin _ (by simp only [Option.map_none,Option.map_some,hx];rw [run_slice_l (ht:=by rw [hel];exact hT) (h0:=by omega) (h1:=by omega)];simp)
  | some y=>
   obtain ⟨kk',z',hz',rfl⟩:=h2
   have hy:=aV (x:=y) hA (fun k hk=>hF k (by simp [jE,hk])) hR hz'
   exact fin _ (by simp only [Option.map_some,hx,hy];rw [run_slice_lh (ht:=by rw [hel];exact hT) (h0:=by omega) (h1:=by omega) (h2:=by omega)];simp)
theorem xD {ty e k l h:Nat} {x:Operand} {lo hi:Option Operand} {es es':List (List PV)} (hp:Pl n o t) (ho:o.op = .slice ty x lo hi none) (hT:P.underlying ty = some (.slice e)) (hk:P.cellsOf e = k) (h0:Nat.blt 0 k = true)
 (hx:S.opd x = .per (cD k es)) (hb:Aj S lo hi es.length l h) (he:(es.drop l).take (h - l) = es'):aw n P ops o (aA x ++ jE lo hi) (.per (cD k es')) [] S:=
 aM hp fun C T g a w hA hR=>by
  have hr:=aD (x:=x) hA (fun k h=>by simp [h]) hR
  rw [hx] at hr
  obtain ⟨ad,c,hv,hc,hl⟩:=Cj hr l h hb.2.2.1 hb.2.2.2
  subst he
  refine ⟨_,?_,hl⟩
  simp only [execOp,ho,hv,Sem.run_bind,Option.map_none,jQ hT hk (Nat.le_of_ble_eq_true h0) hA (fun k h=>by simp [h]) hR hb hc];rfl
theorem rH {ty e k l h:Nat} {x:Operand} {lo hi:Option Operand} {es es':List (List PV)} (hp:Pl n o t) (ho:o.op = .slice ty x lo hi none) (hT:P.underlying ty = some (.slice e)) (hk:P.cellsOf e = k) (h0:Nat.blt 0 k = true)
 (hx:S.opd x = .bor k es) (hb:Aj S lo hi es.length l h) (he:(es.drop l).take (h - l) = es'):aw n P ops o (aA x ++ jE lo hi) (.bor k es') [] S:=
 aM hp fun C T g a w hA hR=>by
  have hr:=aD (x:=x) hA (fun k h=>by simp [h]) hR
  rw [hx] at hr
  obtain ⟨ad,c,hv,hc,hl⟩:=Cj hr l h hb.2.2.1 hb.2.2.2
  subst he
  refine ⟨_,?_,hl⟩
  simp only [execOp,ho,hv,Sem.run_bind,Option.map_none,jQ hT hk (Nat.le_of_ble_eq_true h0) hA (fun k h=>by simp [h]) hR hb hc];rfl
theorem DK {ty l h:Nat} {x:Operand} {lo hi:Option Operand} {s s':ByteArray} (hp:Pl n o t) (ho:o.op = .slice ty x lo hi none) (hT:P.underlying ty = some .string) (hx:S.opd x = sC s) (hb:Aj S lo hi s.size l h) (he:s.extract l h = s') :
 aw n P ops o (aA x ++ jE lo hi) (sC s') [] S:=
 aM hp fun C T g a w hA hR=>by
  have hv:=aV (x:=x) hA (fun k h=>by simp [h]) hR hx
  obtain ⟨h1,h2,h3,h4⟩:=hb
  subst he
  refine ⟨.string (s.extract l h),?_,rfl⟩
  have hs:s.extract 0 s.size = s:=by simp
  have key:(Instr.sliceAt ty (.string s) (lo.map a.eval) (hi.map a.eval) none).run P w = .ok (.string (s.extract l h)) w:=by
   rw [run_sliceAt_string (h:=hT)]
   cases lo with
   | none=>
    have h1:l = 0:=h1
    subst h1
    cases hi with
    | none=>
     have h2:h = s.size:=h2
     subst h2
     simp only [Option.map_none]
     rw [run_slice_string_all (h:=hT),hs]
    | some y=>
     obtain ⟨kk,z,hz,rfl⟩:=h2
     have:=aV (x:=y) hA (fun k hk=>by simp [jE,hk]) hR hz
     simp only [Option.map_none,Option.map_some,this]
     rw [run_slice_string_to_if (h:=hT)]
     simp
     omega
   | some x=>
    obtain ⟨kk,z,hz,rfl⟩:=h1
    have hx:=aV (x:=x) hA (fun k hk=>by simp [jE,hk]) hR hz
    cases hi with
    | none=>
     have h2:h = s.size:=h2
     subst h2
     simp only [Option.map_none,Option.map_some,hx]
     rw [run_slice_string_from_if (h:=hT)]
     simp
     omega
    | some y=>
     obtain ⟨kk',z',hz',rfl⟩:=h2
     have hy:=aV (x:=y) hA (fun k hk=>by simp [jE,hk]) hR hz'
     simp only [Option.map_some,hx,hy]
     rw [run_slice_string (h:=hT) (h0:=by omega) (h1:=by omega) (h2:=by omega)]
     simp
  simp only [execOp,ho,hv,Sem.run_bind,Option.map_none,key];rfl
theorem Nj {top N:BP} {l:List UInt8} {v:Value} (h:dW top N 1 (l.map fA) w v):Bs w v l:=by
 obtain ⟨ad,c,b,of,h1,h2,h3,h4,h5,h6⟩:=h
 simp only [List.length_map] at h1 h2 h5
 refine ⟨ad,c,b,of,h1,h2,h3,fun h0=>(h5 h0).1,h4,fun i x hx j y hy=>?_⟩
 obtain ⟨_,q⟩:=h6 i (fA x) (by rw [List.getElem?_map,hx];rfl)
 cases j with
 | zero=>
  simp [encB] at hy;subst hy
  obtain ⟨y,r1,_,r3⟩:=q 0 _ rfl
  have r3:y = .int .u8 (x.toNat:Int):=r3
  subst r3;exact r1
 | succ j=>simp [encB] at hy
theorem OY {src dst e:Nat} {x:Operand} {l:List UInt8} (hp:Pl n o t) (ho:o.op = .convert src dst x) (hs:P.underlying src = some (.slice e)) (he:P.underlying e = some (.int .u8)) (hd:P.underlying dst = some .string)
 (hx:Src F S x 1 (l.map fA)):aw n P ops o F (sC ⟨l.toArray⟩) [] S:=
 aM hp fun C T g a w hA hR=>by
  refine ⟨_,?_,rfl⟩
  simp only [execOp,ho,Sem.run_bind,Bs.toStr hs he hd (Nj (hx n C T g a w hA hR))];rfl
def pq (o:Oper) (ty ts:TypeId) (s x:Operand):Prop:=o.op = .call { callee:=.builtin .append,args:=#[s,x],argTypes:=#[ty,ts] }
theorem Gc {ty ts ty' e id:Nat} {l:List UInt8} {s:ByteArray} (hT:TI P ty e 1 1) (hz:(P.info? e).bind (·.zero) = some (.int .u8 0)) (hu:P.underlying ts = some .string) (hR:RG C n T g a w) (hfx:cV id = false) (hb:brep C T.ver g w id (.row e 1 (l.map fA)))
 (hlen:l.length + s.size ≤ 1000000000000) :
 ∃ v' w',(Builtin.append_ #[ty,ts] ty' #[g.rh id,.string s]).run P w = .ok v' w' ∧ ∀ {vr':Nat → Nat},(∀ i,vr' i = if i = id then T.ver id + 1 else T.ver i) → ∃ g',ln C (fun i=>i = id) T.ver vr' g g' w w' ∧ g'.rh id = v' ∧ brep C vr' g' w' id (.row e 1 ((l ++ s.data.toList).map fA)):=by
 obtain ⟨i,z,hi,hz',h1,h2,h3⟩:=hT.info
 rw [hi] at hz
 simp only [Option.bind_some] at hz
 rw [hz'] at hz;cases hz
 obtain ⟨xs,how,hxs⟩:=ug hb
 have hn:(l.map fA).length = l.length:=by simp
 obtain ⟨v',w',r1,r2,r3,_⟩:=Lib.run_append_own_string (P:=P) w 0 ty ts ty' e i hT.und hu hi hz' h1 h2 (g.rh id) _ xs how s (by rw [hn];unfold maxLen;omega) (by rw [hn];omega) (Nat.zero_le _)
 refine ⟨v',w',r1,fun {vr'} hvr=>?_⟩
 have n4:∀ (i:Nat) (cs:List PV),((s.data.toList).map fA)[i]? = some cs → cs.length = 1 ∧ ∀ (j:Nat) (A:PV),cs[j]? = some A → ∃ y,(Lib.strCells s)[i * 1 + j]? = some y ∧ y.oneCell' = true ∧ A.p (g.N C) w y:=by
  intro i cs hi
  rw [List.getElem?_map] at hi
  cases hc:s.data.toList[i]? with
  | none=>rw [hc] at hi;cases hi
  | some c=>
   rw [hc] at hi;cases hi
   refine ⟨rfl,fun j A hj=>?_⟩
   cases j with
   | zero=>
    simp [fA] at hj;subst hj
    exact ⟨.int .u8 (c.toNat:Int),by unfold Lib.strCells;rw [List.getElem?_map];simp only [Nat.mul_one,Nat.add_zero,hc];rfl,rfl,rfl⟩
   | succ j=>simp [fA] at hj
 have hloc:v'.ownBlock = (g.rh id).ownBlock ∨ ∀ q,v'.ownBlock = some q → w.heap.size ≤ q:=by
  rcases how.2 with ⟨q1,q2⟩|⟨q,cap,cur,q1,_,q2,q3,q4,q5,q6⟩
  ·have hx0:xs = []:=List.eq_nil_of_length_eq_zero (by rw [how.1,q2])
   have hown:w.ownsRow w.heap.size e 1 (g.rh id) (l.map fA).length xs:=⟨how.1,.inl ⟨q1,q2⟩⟩
   obtain ⟨v2,w2,s1,s2,_⟩:=Lib.run_append_own_string (P:=P) w w.heap.size ty ts ty' e i hT.und hu hi hz' h1 h2 (g.rh id) _ xs hown s (by rw [hn];unfold maxLen;omega) (by rw [hn];omega) (Nat.le_refl _)
   rw [s1] at r1;cases r1
   exact .inr (fun q hq=>(s2.lt q hq).1)
  ·by_cases hroom:(l.map fA).length + s.size ≤ cap
   ·have:=Lib.run_append_room_string (P:=P) w ty ts ty' e i hT.und hu hi h1 q _ cap cur q2 s hroom (by rw [q5];omega)
    rw [← q1,r1] at this
    injection this with e1 e2
    exact .inl (by rw [e1,q1];rfl)
   ·have hxl:xs.length = (l.map fA).length:=by rw [how.1,Nat.mul_one]
    have holds:∀ j u,xs[j]? = some u → w.cell? ((⟨q,0,none⟩:Addr).add j) = some u:=how.cells (g:=q) (by rw [q1];rfl)
    have:=Lib.run_append_grow_string (P:=P) w ty ts ty' e i (.int .u8 0) hT.und hu hi hz' ⟨q,0,none⟩ _ cap xs (by rw [h1,hxl,Nat.mul_one]) holds s (by omega) (by rw [hn];omega) (by rw [h2];exact growslice_fits (by omega) (by rw [hn];omega))
    rw [← q1,r1] at this
    injection this with e1 e2
    exact .inr (fun q' hq'=>by rw [e1] at hq';cases hq';exact Nat.le_refl _)
 have:=Ci (C:=C) (g:=g) (ns:=(s.data.toList).map fA) (m:=s.size) (by simp) hR hb how hxs n4 r2 r3 hloc hfx hvr
 rw [← List.map_append] at this
 exact this
theorem Ak {ty ts:TypeId} {s x:Operand} {id vr e:Nat} {l:List UInt8} {u:ByteArray} (hp:Pl n o t) (ho:pq o ty ts s x) (hT:TI P ty e 1 1) (hz:(P.info? e).bind (·.zero) = some (.int .u8 0)) (hu:P.underlying ts = some .string)
 (hs:S.opd s = .row id vr) (hv:S.ver id = vr) (hb:S.blk id = .row e 1 (l.map fA)) (hx:S.opd x = sC u) (hlen:l.length + u.size ≤ 1000000000000) (hfx:cV id = false:=by rfl) :
 aw n P ops o ((2 * id + 1) :: (aA s ++ aA x)) (.row id (vr + 1)) [(id,vr + 1,.row e 1 ((l ++ u.data.toList).map fA))] S:=by
 refine ⟨?_⟩
 intro C T hA a w ⟨g,hR⟩
 obtain ⟨h1,h2⟩:=ko (x:=s) hA (fun k h=>by simp [h]) (by simp) hR hs hv hb
 have hxe:=aV (x:=x) hA (fun k h=>by simp [h]) hR hx
 have hvt:=(hA.2 id (by simp)).2
 obtain ⟨v',w',r1,r2⟩:=Gc (P:=P) (ty':=o.type) (s:=u) hT hz hu hR hfx h2 hlen
 unfold ia
 rw [if_pos (hp.wanted a)]
 unfold Oper.wp
 unfold pq at ho
 have hex:(execOp a.eval o).run P w = .ok (.value v') w':=by
  simp only [execOp,ho,resolve,invoke,builtin,Sem.run_bind,Sem.run_pure,Result.andThen_ok,List.map_toArray,List.map_cons,List.map_nil,h1,hxe,r1]
 rw [hex,Oper.upon_value]
 have hvr:∀ i,(T.app o.dst (.row id (vr + 1)) [(id,vr + 1,.row e 1 ((l ++ u.data.toList).map fA))]).ver i = if i = id then T.ver id + 1 else T.ver i:=fun i=>by rw [St.app_some_ver,hvt,hv]
 obtain ⟨g',s1,s2,s3⟩:=r2 hvr
 exact ⟨g',hR.app1 hp.dOk s1 ⟨by rw [hvr,if_pos rfl,hvt,hv];exact Nat.le_refl _,fun _=>s2.symm⟩ s3⟩
end
end Go.Proofs.YtliiahjpiagdkaaGreat
namespace Go.Proofs.YtliiahjpiagdkaaGreat
open Go.RowKit
class dQ (P:Program) (t:TypeId) (d:outParam TypeDesc):Prop where h:P.underlying t = some d
class bD (P:Program) (t:TypeId) (b:outParam Bool):Prop where h:∃ d,P.underlying t = some d ∧ fV d = b
class cT (P:Program) (t:TypeId) (k:outParam Nat):Prop where h:P.cellsOf t = k
class bf (P:Program) (t f:Nat) (off:outParam Nat):Prop where h:cF P t f off
class vy (P:Program) (t:TypeId) (e k b:outParam Nat):Prop where h:TI P t e k b
class dY (P:Program) (t:TypeId) (z:outParam Value):Prop where h:(P.info? t).bind (·.zero) = some z
class ft (P:Program) (t:TypeId) (ls:outParam (List (Nat × Nat))):Prop where h:xA P t = some ls
section
variable {f:St → Prop} {Q:Exit → St → Prop} {S:St} {i j:Nat}
theorem ep (h:f S):ud f Q .normal S:=h
theorem eu (h:Q .ret S):ud f Q .ret S:=h
theorem ev (h:Q (.exit i) S):ud f Q (.exit i) S:=h
theorem jb (h:Q .normal S):ic i Q .normal S:=h
theorem jc (h:Q .ret S):ic i Q .ret S:=h
theorem ew (h:Q .normal S):ic i Q (.exit i) S:=by simp only [ic,if_true];exact h
theorem dy (hb:Nat.beq j i = false) (h:Q (.exit j) S):ic i Q (.exit j) S:=by
 simp only [ic]
 rw [if_neg (fun e=>by subst e;rw [Nat.beq_refl] at hb;cases hb)]
 exact h
end
section
variable {P:Program} {n:Nat} {ops:Array Oper} {l:List Oper} {o:Oper} {F:List Nat} {S:St} {t:Nat} {c:Cnt} {b:Upd} {Q:St → Prop}
theorem aO (hd:o.dst = some t) (h:aw n P ops o F c b S) (k:AL P n ops Q l (S.app (some t) c b)):AL P n ops Q (o :: l) S:=Cf h (by rw [hd];exact k)
theorem aP (hd:o.dst = none) (h:aw n P ops o F c b S) (k:AL P n ops Q l (S.putB b)):AL P n ops Q (o :: l) S:=Cf h (by rw [hd];exact k)
theorem aQ {done:List (List Nat × List Nat)} (hd:o.dst = some t) (h:aw n P ops o F c b S) (k:AD P n ops Q (done ++ [(F,FM (some t) b)]) l (S.app (some t) c b)):AD P n ops Q done (o :: l) S:=Ch h (by rw [hd];exact k)
theorem aR {done:List (List Nat × List Nat)} (hd:o.dst = none) (h:aw n P ops o F c b S) (k:AD P n ops Q (done ++ [(F,FM none b)]) l (S.putB b)):AD P n ops Q done (o :: l) S:=Ch h (by rw [hd];exact k)
theorem jx {S':St} (h:Le n S S') (k:AL P n ops Q l S'):AL P n ops Q l S:=⟨fun C a w hr=>k.run C a w (h C a w hr)⟩
theorem mH {ty:TypeId} {x:Operand} {id vr off:Nat} {e:TypeId} {cells:List Cnt} (hp:Pl n o t) (ho:o.op = .load ty x) (hT:bD P ty false) (hx:S.opd x = .ptr id vr off) (hv:S.ver id = vr) (hb:S.blk id = .box e cells) (hc:cells[off]? = some c) :
 aw n P ops o ((2 * id + 1) :: aA x) c [] S:=by obtain ⟨d,h1,h2⟩:=hT.h;exact FZ hp ho h1 h2 hx hv hb hc
theorem kq {ty:TypeId} {x:Operand} {id vr off k:Nat} {e:TypeId} {cells:List Cnt} {As:List PV} (hp:Pl n o t) (ho:o.op = .load ty x) (hT:bD P ty true) (hk:cT P ty k) (hx:S.opd x = .ptr id vr off) (hv:S.ver id = vr) (hb:S.blk id = .box e cells)
 (h0:Nat.blt 0 k = true) (hl:Nat.ble (off + k) cells.length = true) (hc:po ((cells.drop off).take k) = some As):aw n P ops o ((2 * id + 1) :: aA x) (.per (bX As)) [] S:=by
 obtain ⟨d,h1,h2⟩:=hT.h;exact F0 hp ho h1 h2 hk.h h0 hx hv hb hl hc
theorem ks {ty:TypeId} {x:Operand} {cs:List PV} {A:PV} (hp:Pl n o t) (ho:o.op = .load ty x) (hT:bD P ty false) (hx:S.opd x = .per (dw cs)) (hA:cs[0]? = some A):aw n P ops o (aA x) (.per A) [] S:=by
 obtain ⟨d,h1,h2⟩:=hT.h;exact xd hp ho h1 h2 hx hA
theorem kt {ty:TypeId} {x:Operand} {cs:List PV} {k:Nat} (hp:Pl n o t) (ho:o.op = .load ty x) (hT:bD P ty true) (hk:cT P ty k) (hx:S.opd x = .per (dw cs)) (hl:cs.length = k) (h0:Nat.blt 0 k = true):aw n P ops o (aA x) (.per (bX cs)) [] S:=by
 obtain ⟨d,h1,h2⟩:=hT.h;exact xe hp ho h1 h2 (by rw [hk.h,hl]) (by rw [hl];exact Nat.le_of_ble_eq_true h0) hx
theorem ku {ty:TypeId} {x:Operand} {cs:List PV} {A:PV} (hp:Pl n o t) (ho:o.op = .load ty x) (hT:bD P ty false) (hx:S.opd x = .bpt cs) (hA:cs[0]? = some A):aw n P ops o (aA x) (.per A) [] S:=by
 obtain ⟨d,h1,h2⟩:=hT.h;exact xi hp ho h1 h2 hx hA
theorem kv {ty:TypeId} {x:Operand} {cs:List PV} {k:Nat} (hp:Pl n o t) (ho:o.op = .load ty x) (hT:bD P ty true) (hk:cT P ty k) (hx:S.opd x = .bpt cs) (hl:cs.length = k) (h0:Nat.blt 0 k = true):aw n P ops o (aA x) (.per (bX cs)) [] S:=by
 obtain ⟨d,h1,h2⟩:=hT.h;exact xj hp ho h1 h2 (by rw [hk.h,hl]) (by rw [hl];exact Nat.le_of_ble_eq_true h0) hx
theorem bm {ty:TypeId} {x:Operand} {id vr e k i j:Nat} {es:List (List PV)} {ps:List PV} {A:PV} (hp:Pl n o t) (ho:o.op = .load ty x) (hT:bD P ty false) (hx:S.opd x = .ept id vr k i j) (hv:S.ver id = vr) (hb:S.blk id = .row e k es) (hi:es[i]? = some ps) (hj:ps[j]? = some A) :
 aw n P ops o ((2 * id + 1) :: aA x) (.per A) [] S:=by obtain ⟨d,h1,h2⟩:=hT.h;exact Ad hp ho h1 h2 hx hv hb hi hj
theorem aB {ty:TypeId} {x:Operand} {id vr e k i j m:Nat} {es:List (List PV)} {ps As:List PV} (hp:Pl n o t) (ho:o.op = .load ty x) (hT:bD P ty true) (hk:cT P ty m) (hx:S.opd x = .ept id vr k i j) (hv:S.ver id = vr) (hb:S.blk id = .row e k es) (hi:es[i]? = some ps) (hj:(ps.drop j).take m = As) (hl:As.length = m) (h0:Nat.blt 0 m = true) :
 aw n P ops o ((2 * id + 1) :: aA x) (.per (bX As)) [] S:=by obtain ⟨d,h1,h2⟩:=hT.h;exact Ae hp ho h1 h2 hk.h h0 hx hv hb hi hj hl
theorem qS {ty f fo:Nat} {x:Operand} {id vr off:Nat} (hp:Pl n o t) (ho:o.op = .fieldAddr ty x f) (hf:bf P ty f fo) (hx:S.opd x = .ptr id vr off) (hv:S.ver id = vr):aw n P ops o ((2 * id + 1) :: aA x) (.ptr id vr (off + fo)) [] S:=F1 hp ho hf.h hx hv
theorem kz {ty f fo:Nat} {x:Operand} {cs:List PV} (hp:Pl n o t) (ho:o.op = .fieldAddr ty x f) (hf:bf P ty f fo) (hx:S.opd x = .per (dw cs)):aw n P ops o (aA x) (.per (dw (cs.drop fo))) [] S:=xf hp ho hf.h hx
theorem kC {ty f fo:Nat} {x:Operand} {cs:List PV} (hp:Pl n o t) (ho:o.op = .fieldAddr ty x f) (hf:bf P ty f fo) (hx:S.opd x = .bpt cs):aw n P ops o (aA x) (.bpt (cs.drop fo)) [] S:=xg hp ho hf.h hx
theorem uk {ty f fo:Nat} {x:Operand} {id vr k i j:Nat} (hp:Pl n o t) (ho:o.op = .fieldAddr ty x f) (hf:bf P ty f fo) (hx:S.opd x = .ept id vr k i j) (hv:S.ver id = vr):aw n P ops o ((2 * id + 1) :: aA x) (.ept id vr k i (j + fo)) [] S:=Ac hp ho hf.h hx hv
theorem Ck {e:TypeId} {z:Value} (hp:Pl n o t) (ho:o.op = .alloc e) (hz:dY P e z) (h1:z.cells.toList.all (·.oneCell') = true):aw n P ops o [2 * t + 1] (.ptr t (S.ver t + 1) 0) [(t,S.ver t + 1,.box e (z.cells.toList.map FW))] S:=FY hp ho hz.h h1
theorem xE {ty:TypeId} {x y:Operand} {id vr off:Nat} {e:TypeId} {cells:List Cnt} {A:PV} (hp:Dx o) (ho:o.op = .store ty x y) (hk:cT P ty 1) (hx:S.opd x = .ptr id vr off) (hv:S.ver id = vr) (hb:S.blk id = .box e cells) (hl:Nat.ble (off + 1) cells.length = true) (hy:S.opd y = .per A) (h1:na A) :
 aw n P ops o ((2 * id + 1) :: (aA x ++ aA y)) .any [(id,vr,.box e (iM cells off [.per A]))] S:=Dy hp ho hk.h hx hv hb hl hy h1
theorem oh {ty:TypeId} {x y:Operand} {id vr off k:Nat} {e:TypeId} {cells:List Cnt} {As:List PV} (hp:Dx o) (ho:o.op = .store ty x y) (hk:cT P ty k) (hx:S.opd x = .ptr id vr off) (hv:S.ver id = vr) (hb:S.blk id = .box e cells) (h0:Nat.blt 0 k = true) (hl:Nat.ble (off + k) cells.length = true) (hy:S.opd y = .per (bX As)) (hn:As.length = k) :
 aw n P ops o ((2 * id + 1) :: (aA x ++ aA y)) .any [(id,vr,.box e (iM cells off (As.map .per)))] S:=Dz hp ho hk.h h0 hx hv hb hl hy hn
theorem kD {ty e:TypeId} {x ix:Operand} {k i:Nat} {kk:IntKind} {z:Int} {es:List (List PV)} {cs:List PV} (hp:Pl n o t) (ho:o.op = .indexAddr ty x ix) (hT:dQ P ty (.slice e)) (hk:cT P e k) (h0:Nat.blt 0 k = true) (hx:S.opd x = .per (cD k es)) (hi:S.opd ix = iC kk z) (hz:z = (i:Int)) (hc:es[i]? = some cs) :
 aw n P ops o (aA x ++ aA ix) (.per (dw cs)) [] S:=F2 hp ho hT.h hk.h h0 hx hi hz hc
theorem jR {ty e:TypeId} {x ix:Operand} {k i:Nat} {kk:IntKind} {z:Int} {es:List (List PV)} {cs:List PV} (hp:Pl n o t) (ho:o.op = .indexAddr ty x ix) (hT:dQ P ty (.slice e)) (hk:cT P e k) (h0:Nat.blt 0 k = true) (hx:S.opd x = .bor k es) (hi:S.opd ix = iC kk z) (hz:z = (i:Int)) (hc:es[i]? = some cs) :
 aw n P ops o (aA x ++ aA ix) (.bpt cs) [] S:=Aa hp ho hT.h hk.h h0 hx hi hz hc
theorem pt {ty e':TypeId} {x ix:Operand} {id vr e k i:Nat} {kk:IntKind} {z:Int} {es:List (List PV)} (hp:Pl n o t) (ho:o.op = .indexAddr ty x ix) (hT:dQ P ty (.slice e')) (hk:cT P e' k) (h0:Nat.blt 0 k = true) (hx:S.opd x = .row id vr) (hv:S.ver id = vr) (hb:S.blk id = .row e k es) (hi:S.opd ix = iC kk z) (hz:z = (i:Int)) (hlt:i < es.length) :
 aw n P ops o ((2 * id + 1) :: (aA x ++ aA ix)) (.ept id vr k i 0) [] S:=Ab hp ho hT.h hk.h h0 hx hv hb hi hz hlt
theorem jS {ty:TypeId} {x ix:Operand} {i:Nat} {kk:IntKind} {z:Int} {s:ByteArray} {c:UInt8} (hp:Pl n o t) (ho:o.op = .index ty x ix) (hT:dQ P ty .string) (hx:S.opd x = sC s) (hi:S.opd ix = iC kk z) (hz:z = (i:Int)) (hc:s.data.toList[i]? = some c) :
 aw n P ops o (aA x ++ aA ix) (iC .u8 (c.toNat:Int)) [] S:=DA hp ho hT.h hx hi hz hc
theorem xF {ty e:TypeId} {x:Operand} {k:Nat} {es:List (List PV)} (hp:Pl n o t) (ho:jw o ty x) (hT:dQ P ty (.slice e)) (hx:S.opd x = .per (cD k es)):aw n P ops o (aA x) (iC .i64 (es.length:Int)) [] S:=Nh hp ho hT.h hx
theorem oi {ty e:TypeId} {x:Operand} {k:Nat} {es:List (List PV)} (hp:Pl n o t) (ho:jw o ty x) (hT:dQ P ty (.slice e)) (hx:S.opd x = .bor k es):aw n P ops o (aA x) (iC .i64 (es.length:Int)) [] S:=F3 hp ho hT.h hx
theorem qT {ty:TypeId} {x:Operand} {s:ByteArray} (hp:Pl n o t) (ho:jw o ty x) (hT:dQ P ty .string) (hx:S.opd x = sC s):aw n P ops o (aA x) (iC .i64 (s.size:Int)) [] S:=F4 hp ho hT.h hx
theorem oj {ty e':TypeId} {x:Operand} {id vr e k:Nat} {es:List (List PV)} (hp:Pl n o t) (ho:jw o ty x) (hT:dQ P ty (.slice e')) (hx:S.opd x = .row id vr) (hv:S.ver id = vr) (hb:S.blk id = .row e k es) :
 aw n P ops o ((2 * id + 1) :: aA x) (iC .i64 (es.length:Int)) [] S:=F5 hp ho hT.h hx hv hb
theorem Gd {α:Type} {ty e:TypeId} {x:Operand} {k:Nat} {l:List α} {f:α → List PV} (hp:Pl n o t) (ho:jw o ty x) (hT:dQ P ty (.slice e)) (hx:S.opd x = .per (cD k (l.map f))):aw n P ops o (aA x) (iC .i64 (l.length:Int)) [] S:=by
 have:=xF (ops:=ops) hp ho hT hx
 rwa [List.length_map] at this
theorem xG {α:Type} {ty e:TypeId} {x:Operand} {k:Nat} {l:List α} {f:α → List PV} (hp:Pl n o t) (ho:jw o ty x) (hT:dQ P ty (.slice e)) (hx:S.opd x = .bor k (l.map f)):aw n P ops o (aA x) (iC .i64 (l.length:Int)) [] S:=by
 have:=oi (ops:=ops) hp ho hT hx
 rwa [List.length_map] at this
theorem xH {α:Type} {ty e':TypeId} {x:Operand} {id vr e k:Nat} {l:List α} {f:α → List PV} (hp:Pl n o t) (ho:jw o ty x) (hT:dQ P ty (.slice e')) (hx:S.opd x = .row id vr) (hv:S.ver id = vr) (hb:S.blk id = .row e k (l.map f)) :
 aw n P ops o ((2 * id + 1) :: aA x) (iC .i64 (l.length:Int)) [] S:=by
 have:=oj (ops:=ops) hp ho hT hx hv hb
 rwa [List.length_map] at this
theorem pu {src dst:TypeId} {d:TypeDesc} {x:Operand} {k k':IntKind} {p z:Int} (hp:Pl n o t) (ho:o.op = .convert src dst x) (hs:dQ P src d) (hd:dQ P dst (.int k)) (hx:S.opd x = iC k' p) (hz:k.wrap p = z):aw n P ops o (aA x) (iC k z) [] S:=
 KD hp ho (by rw [hs.h];rfl) hd.h hx hz
def OZ:Op → Nat
 | .move _=>0|.assign _=>1|.pick _ _ _=>2|.box _ _=>3|.alloc _=>4|.load _ _=>5|.store _ _ _=>6|.fieldAddr _ _ _=>7|.binOp _ _ _ _ _=>8|.unOp _ _ _=>9|.convert _ _ _=>10
 | .nilCheck _=>21|.makeFunc _ _ _=>22|.makeSlice _ _ _=>23
 | .slice _ _ _ _ _=>11|.indexAddr _ _ _=>12|.index _ _ _=>13|.build _ _=>14|.buildSlice _ _ _=>15|.extract _ _=>16
 | .call c=>match c.callee with
  | .builtin .len=>17
  | .builtin .append=>18
  | .builtin _=>19
  | _=>20
 | _=>99
theorem bn (k:Nat) (_:OZ o.op = k) (h:aw n P ops o F c b S):aw n P ops o F c b S:=h
theorem b8 (_:o.guard.isSome = true) (h:aw n P ops o F c b S):aw n P ops o F c b S:=h
def KN:Cnt → List Nat
 | .row id _=>[2 * id + 1]
 | _=>[]
def cJ (S:St) (x:Operand):List Nat:=aA x ++ KN (S.opd x)
def eh (S:St) (xs:List Operand):List Nat:=xs.flatMap (cJ S)
theorem bq {x:Operand} {A:PV} (hx:S.opd x = .per A):ig (cJ S x) S x (.per A):=DB hx (fun k h=>by simp [cJ,h])
theorem bI {x:Operand} {k:Nat} {es:List (List PV)} (hx:S.opd x = .per (cD k es)):ig (cJ S x) S x (.bor k es):=DC hx (fun k h=>by simp [cJ,h])
theorem bJ {x:Operand} {k:Nat} {es:List (List PV)} (hx:S.opd x = .bor k es):ig (cJ S x) S x (.bor k es):=DD hx (fun k h=>by simp [cJ,h])
theorem cP {x:Operand} {id vr e k:Nat} {es:List (List PV)} (hx:S.opd x = .row id vr) (hv:S.ver id = vr) (hb:S.blk id = .row e k es):ig (cJ S x) S x (.bor k es):=DE hx hv hb (fun k h=>by simp [cJ,h]) (by simp [cJ,hx,KN])
theorem cQ {x:Operand} {k:Nat} (hx:S.opd x = .per (av (.slice none 0 0))):ig (cJ S x) S x (.bor k []):=DF hx (fun k h=>by simp [cJ,h])
theorem ce {x:Operand} {k:Nat} (hx:S.opd x = .per (av (.slice none 0 0))):ig (cJ S x) S x (.per (cD k [])):=Af hx (fun k h=>by simp [cJ,h])
theorem ig.mono {F F':List Nat} {x:Operand} {c:Cnt} (h:ig F S x c) (hF:∀ k ∈ F,k ∈ F'):ig F' S x c:=fun n C T g a w hA hR=>h n C T g a w ⟨fun t ht=>hA.1 t (hF _ ht),fun i hi=>hA.2 i (hF _ hi)⟩ hR
inductive GL (S:St):List Operand → List Cnt → Prop
 | nil:GL S [] []
 | cons {x:Operand} {c:Cnt} {xs:List Operand} {cs:List Cnt} (h:ig (cJ S x) S x c) (t:GL S xs cs):GL S (x :: xs) (c :: cs)
theorem GL.gives {xs:List Operand} {cs:List Cnt} (h:GL S xs cs) {F:List Nat} (hF:∀ k ∈ eh S xs,k ∈ F):kp F S xs cs:=by
 induction h with
 | nil=>exact .nil
 | cons h t ih=>exact .cons (h.mono (fun k hk=>hF k (by simp [eh,hk]))) (ih (fun k hk=>hF k (by simp only [eh,List.flatMap_cons,List.mem_append];exact .inr hk)))
theorem gJ {f:FuncId} {xs:List Operand} {As:List Cnt} {r:Ret} (hp:Pl n o t) (ho:iE o f xs) (hf:Fn P f As r) (hpl:r.plain = true) (hg:GL S xs As):aw n P ops o (eh S xs) (rF t 0 r) [] S:=KE hp ho hf hpl (hg.gives fun _ h=>h)
theorem jd {f:FuncId} {xs:List Operand} {As:List Cnt} {e k:Nat} {es:List (List PV)} (hp:Pl n o t) (ho:iE o f xs) (hf:Fn P f As (.own e k es)) (hg:GL S xs As) :
 aw n P ops o ((2 * t + 1) :: eh S xs) (.row t (S.ver t + 1)) [(t,S.ver t + 1,.row e k es)] S:=xt hp ho hf (hg.gives fun _ h=>by simp [h]) (by simp)
theorem ii {f:FuncId} {xs:List Operand} {As:List Cnt} {e k:Nat} {es:List (List PV)} {u:Value} (hp:Pl n o t) (ho:iE o f xs) (hf:Fn P f As (.tup2 (.own e k es) (.per (av u)))) (hg:GL S xs As) :
 aw n P ops o ((2 * t + 1) :: eh S xs) (.tup2 (.row t (S.ver t + 1)) (.per (av u))) [(t,S.ver t + 1,.row e k es)] S:=vv hp ho hf (hg.gives fun _ h=>by simp [h]) (by simp)
theorem nq {x:Operand} {k:Nat} {ns:List (List PV)} (hx:S.opd x = .per (cD k ns)):Src (cJ S x) S x k ns:=KF hx (fun k h=>by simp [cJ,h])
theorem pv {x:Operand} {k:Nat} {ns:List (List PV)} (hx:S.opd x = .bor k ns):Src (cJ S x) S x k ns:=KG hx (fun k h=>by simp [cJ,h])
theorem pw {x:Operand} {id vr e k:Nat} {es:List (List PV)} (hx:S.opd x = .row id vr) (hv:S.ver id = vr) (hb:S.blk id = .row e k es):Src (cJ S x) S x k es:=KH hx hv hb (fun k h=>by simp [cJ,h]) (by simp [cJ,hx,KN])
theorem py {x:Operand} {k:Nat} (hx:S.opd x = .per (av (.slice none 0 0))):Src (cJ S x) S x k []:=KI hx (fun k h=>by simp [cJ,h])
theorem Src.mono {F F':List Nat} {x:Operand} {k:Nat} {ns:List (List PV)} (h:Src F S x k ns) (hF:∀ k ∈ F,k ∈ F'):Src F' S x k ns:=fun n C T g a w hA hR=>h n C T g a w ⟨fun t ht=>hA.1 t (hF _ ht),fun i hi=>hA.2 i (hF _ hi)⟩ hR
theorem MV {ty:TypeId} {s x:Operand} {id vr e k bytes:Nat} {es ns:List (List PV)} (hp:Pl n o t) (ho:oe o ty s x) (hT:vy P ty e k bytes) (hk:Nat.blt 0 k = true)
 (hs:S.opd s = .row id vr) (hv:S.ver id = vr) (hb:S.blk id = .row e k es) (hx:Src (cJ S x) S x k ns)
 (hlen:es.length + ns.length ≤ 1000000000000) (hby:Nat.ble bytes 140 = true) (hfx:cV id = false:=by rfl) :
 aw n P ops o ((2 * id + 1) :: (aA s ++ cJ S x)) (.row id (vr + 1)) [(id,vr + 1,.row e k (es ++ ns))] S:=DH hp ho hT.h hk hs hv hb (hx.mono fun k h=>by simp [h]) (fun k h=>by simp [h]) (by unfold maxLen;omega) (hfx:=hfx)
  (Nat.le_trans (Nat.mul_le_mul hlen (Nat.le_of_ble_eq_true hby)) (by decide))
theorem Gf {ty ts:TypeId} {s x:Operand} {id vr e:Nat} {l:List UInt8} {u:ByteArray} (hp:Pl n o t) (ho:pq o ty ts s x) (hu:dQ P ts .string) (hT:vy P ty e 1 1) (hz:dY P e (.int .u8 0))
 (hs:S.opd s = .row id vr) (hv:S.ver id = vr) (hb:S.blk id = .row e 1 (l.map fA)) (hx:S.opd x = sC u) (hlen:l.length + u.size ≤ 1000000000000) (hfx:cV id = false:=by rfl) :
 aw n P ops o ((2 * id + 1) :: (aA s ++ aA x)) (.row id (vr + 1)) [(id,vr + 1,.row e 1 ((l ++ u.data.toList).map fA))] S:=Ak hp ho hT.h hz.h hu.h hs hv hb hx hlen hfx
theorem Cm {ty:TypeId} {z:Value} {ls:List (Nat × Nat)} {parts:List (Nat × Operand)} {pps:List (Nat × List PV)} {cs:List PV} (hp:Pl n o t) (ho:o.op = .build ty parts.toArray) (hl:ft P ty ls) (hz:dY P ty z)
 (h1:z.cells.toList.all (·.oneCell') = true) (hpt:cv S parts pps) (hf:kY (fun i=>ls[i]?) (xy z.cells.toList) pps = some cs):aw n P ops o (fW parts) (.per (bX cs)) [] S:=Gb hp ho hl.h hz.h h1 hpt hf
theorem xI {ty e k bytes len:Nat} {z:Value} {parts:List (Nat × Operand)} {pps:List (Nat × List PV)} {cs:List PV} (hp:Pl n o t) (ho:o.op = .buildSlice ty len parts.toArray) (hT:vy P ty e k bytes) (hz:dY P e z) (hk:Nat.blt 0 k = true) (hlen:Nat.blt 0 len = true)
 (h1:z.cells.toList.all (·.oneCell') = true) (hzk:z.cells.size = k) (hsm:Nat.ble (len * k) 16777216 = true) (hpt:cv S parts pps) (hf:kY (fun i=>some (i * k,k)) (tL k len z.cells.toList) pps = some cs) :
 aw n P ops o (fW parts) (.per (cD k (kZ k len cs))) [] S:=DJ hp ho hT.h hk hlen hz.h h1 hzk hsm hpt hf
theorem fb {ty e k bytes len:Nat} {z:Value} {parts:List (Nat × Operand)} {pps:List (Nat × List PV)} {cs:List PV} (hp:Pl n o t) (ho:o.op = .buildSlice ty len parts.toArray) (hT:vy P ty e k bytes) (hz:dY P e z) (hk:Nat.blt 0 k = true) (hlen:Nat.blt 0 len = true)
 (h1:z.cells.toList.all (·.oneCell') = true) (hzk:z.cells.size = k) (hsm:Nat.ble (len * k) 16777216 = true) (hpt:cv S parts pps) (hf:kY (fun i=>some (i * k,k)) (tL k len z.cells.toList) pps = some cs) :
 aw n P ops o ((2 * t + 1) :: fW parts) (.row t (S.ver t + 1)) [(t,S.ver t + 1,.row e k (kZ k len cs))] S:=tM hp ho hT.h hk hlen hz.h h1 hzk hsm hpt hf
theorem ul {ty e k bytes:Nat} (hp:Pl n o t) (ho:o.op = .buildSlice ty 0 #[]) (hT:vy P ty e k bytes):aw n P ops o [2 * t + 1] (.row t (S.ver t + 1)) [(t,S.ver t + 1,.row e k [])] S:=Ai hp ho hT.h
theorem Cn {ty e k l h:Nat} {x:Operand} {lo hi:Option Operand} {es es':List (List PV)} (hp:Pl n o t) (ho:o.op = .slice ty x lo hi none) (hT:dQ P ty (.slice e)) (hk:cT P e k) (h0:Nat.blt 0 k = true) (hx:S.opd x = .per (cD k es)) (hb:Aj S lo hi es.length l h) (he:(es.drop l).take (h - l) = es') :
 aw n P ops o (aA x ++ jE lo hi) (.per (cD k es')) [] S:=xD hp ho hT.h hk.h h0 hx hb he
theorem oo {α:Type} {ty e k l h:Nat} {x:Operand} {lo hi:Option Operand} {m:List α} {f:α → List PV} (hp:Pl n o t) (ho:o.op = .slice ty x lo hi none) (hT:dQ P ty (.slice e)) (hk:cT P e k) (h0:Nat.blt 0 k = true) (hx:S.opd x = .per (cD k (m.map f))) (hb:Aj S lo hi m.length l h) :
 aw n P ops o (aA x ++ jE lo hi) (.per (cD k (((m.drop l).take (h - l)).map f))) [] S:=xD hp ho hT.h hk.h h0 hx (by rw [List.length_map];exact hb) (by rw [← List.map_drop,← List.map_take])
theorem kE {α:Type} {ty e k l h:Nat} {x:Operand} {lo hi:Option Operand} {m:List α} {f:α → List PV} (hp:Pl n o t) (ho:o.op = .slice ty x lo hi none) (hT:dQ P ty (.slice e)) (hk:cT P e k) (h0:Nat.blt 0 k = true) (hx:S.opd x = .bor k (m.map f)) (hb:Aj S lo hi m.length l h) :
 aw n P ops o (aA x ++ jE lo hi) (.bor k (((m.drop l).take (h - l)).map f)) [] S:=rH hp ho hT.h hk.h h0 hx (by rw [List.length_map];exact hb) (by rw [← List.map_drop,← List.map_take])
theorem um {α:Type} (m:List α) (l:Nat):(m.drop l).take (m.length - l) = m.drop l:=List.take_of_length_le (by simp)
theorem xJ {α:Type} {ty e k l h:Nat} {x:Operand} {lo:Option Operand} {m:List α} {f:α → List PV} (hp:Pl n o t) (ho:o.op = .slice ty x lo none none) (hT:dQ P ty (.slice e)) (hk:cT P e k) (h0:Nat.blt 0 k = true) (hx:S.opd x = .per (cD k (m.map f))) (hb:Aj S lo none m.length l h) (hh:h = m.length) :
 aw n P ops o (aA x ++ jE lo none) (.per (cD k ((m.drop l).map f))) [] S:=by
 have:=oo (ops:=ops) hp ho hT hk h0 hx hb
 rw [hh,um] at this;exact this
theorem rI {α:Type} {ty e k l h:Nat} {x:Operand} {lo:Option Operand} {m:List α} {f:α → List PV} (hp:Pl n o t) (ho:o.op = .slice ty x lo none none) (hT:dQ P ty (.slice e)) (hk:cT P e k) (h0:Nat.blt 0 k = true) (hx:S.opd x = .bor k (m.map f)) (hb:Aj S lo none m.length l h) (hh:h = m.length) :
 aw n P ops o (aA x ++ jE lo none) (.bor k ((m.drop l).map f)) [] S:=by
 have:=kE (ops:=ops) hp ho hT hk h0 hx hb
 rw [hh,um] at this;exact this
theorem xK {α:Type} {ty e k h:Nat} {x:Operand} {hi:Option Operand} {m:List α} {f:α → List PV} (hp:Pl n o t) (ho:o.op = .slice ty x none hi none) (hT:dQ P ty (.slice e)) (hk:cT P e k) (h0:Nat.blt 0 k = true) (hx:S.opd x = .per (cD k (m.map f))) (hb:Aj S none hi m.length 0 h) :
 aw n P ops o (aA x ++ jE none hi) (.per (cD k ((m.take h).map f))) [] S:=oo hp ho hT hk h0 hx hb
theorem rJ {α:Type} {ty e k h:Nat} {x:Operand} {hi:Option Operand} {m:List α} {f:α → List PV} (hp:Pl n o t) (ho:o.op = .slice ty x none hi none) (hT:dQ P ty (.slice e)) (hk:cT P e k) (h0:Nat.blt 0 k = true) (hx:S.opd x = .bor k (m.map f)) (hb:Aj S none hi m.length 0 h) :
 aw n P ops o (aA x ++ jE none hi) (.bor k ((m.take h).map f)) [] S:=kE hp ho hT hk h0 hx hb
theorem un {ty e k l h:Nat} {x:Operand} {lo hi:Option Operand} {es es':List (List PV)} (hp:Pl n o t) (ho:o.op = .slice ty x lo hi none) (hT:dQ P ty (.slice e)) (hk:cT P e k) (h0:Nat.blt 0 k = true) (hx:S.opd x = .bor k es) (hb:Aj S lo hi es.length l h) (he:(es.drop l).take (h - l) = es') :
 aw n P ops o (aA x ++ jE lo hi) (.bor k es') [] S:=rH hp ho hT.h hk.h h0 hx hb he
theorem xL {ty l h:Nat} {x:Operand} {lo hi:Option Operand} {s s':ByteArray} (hp:Pl n o t) (ho:o.op = .slice ty x lo hi none) (hT:dQ P ty .string) (hx:S.opd x = sC s) (hb:Aj S lo hi s.size l h) (he:s.extract l h = s') :
 aw n P ops o (aA x ++ jE lo hi) (sC s') [] S:=DK hp ho hT.h hx hb he
theorem Nk {src dst e:Nat} {x:Operand} {l:List UInt8} (hp:Pl n o t) (ho:o.op = .convert src dst x) (hs:dQ P src (.slice e)) (he:dQ P e (.int .u8)) (hd:dQ P dst .string) (hx:Src (cJ S x) S x 1 (l.map fA)):aw n P ops o (cJ S x) (sC ⟨l.toArray⟩) [] S:=OY hp ho hs.h he.h hd.h hx
theorem gX {α β:Type} {l:List α} {f:α → β} {i:Nat} (h:i < l.length):(l.map f)[i]? = some (f l[i]):=by simp [h]
theorem fN {α:Type} {f:α → List PV} {t id vr e k:Nat} {l l':List α} (h:S.get t = .row id vr) (hv:S.ver id = vr) (hb:S.blk id = .row e k (l.map f)) (hl:l = l'):cM P n S (.tmp t) (.own e k (l'.map f)):=cI h hv (hl ▸ hb)
theorem aH {t:Nat} {k:IntKind} {z z':Int} (h:S.get t = .per (av (.int k z))) (hz:z = z'):cM P n S (.tmp t) (.per (av (.int k z'))):=ct (hz ▸ h)
theorem af {t:Nat} {z z':Bool} (h:S.get t = .per (av (.bool z))) (hz:z = z'):cM P n S (.tmp t) (.per (av (.bool z'))):=ct (hz ▸ h)
theorem qU {α:Type} {f:α → List PV} {t k:Nat} {l l':List α} (h:S.get t = .per (cD k (l.map f))) (hl:l = l'):cM P n S (.tmp t) (.per (cD k (l'.map f))):=ct (hl ▸ h)
theorem KO {k:IntKind} {z z':Int} (h:z = z'):(Cnt.per (av (.int k z))) = .per (av (.int k z')):=by rw [h]
theorem vz {z z':Bool} (h:z = z'):(Cnt.per (av (.bool z))) = .per (av (.bool z')):=by rw [h]
theorem oq {e:Nat} {D D':List PV} {c:Cnt} (h:D = D'):Blk.mix e D c = .mix e D' c:=by rw [h]
theorem vA {e k:Nat} {es es':List (List PV)} (h:es = es'):Blk.row e k es = .row e k es':=by rw [h]
theorem an {P:Program} {n:Nat} {Q:Exit → St → Prop} {S:St} {c:Code} {X:Type} (pre:X → Prop) (I:X → St) (mu:X → Nat) (x0:X) (hp:pre x0) (h0:Le n S (I x0))
 (round:∀ x,pre x → AW P n c (ud (fun S'=>∃ x',pre x' ∧ mu x' < mu x ∧ Le n S' (I x')) Q) (I x)):AW P n (.loop c) Q S:=by
 refine KC (X:={ x:X // pre x }) (fun x=>I x.1) (fun x=>mu x.1) ⟨x0,hp⟩ h0 (fun ⟨x,hx⟩=>⟨fun C a w hr=>?_⟩)
 refine wp_mono ((round x hx).run C a w hr) (fun e a w ⟨S',hq,hr⟩=>⟨S',?_,hr⟩)
 cases e with
 | normal=>obtain ⟨x',h1,h2,h3⟩:=hq;exact ⟨⟨x',h1⟩,h2,h3⟩
 | _=>exact hq
end
end Go.Proofs.YtliiahjpiagdkaaGreat
