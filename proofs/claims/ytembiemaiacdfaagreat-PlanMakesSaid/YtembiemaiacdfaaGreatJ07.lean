/- Texts joined: AbsY AbsX. -/
import Derived.Test.YtembiemaiacdfaaGreatJ04
import Derived.WalkSpells
import Derived.Test.YtembiemaiacdfaaGreatJ05
import Derived.Test.YtembiemaiacdfaaGreatJ06
set_option maxRecDepth 10000
set_option maxHeartbeats 8000000
namespace Go.Proofs.YtembiemaiacdfaaGreat
open Go.RowKit
section
variable {n:Nat} {S:St}
end
def JV (es:List (List PV)):PV:=⟨fun _ _ u=>∃ b,u = .bool b ∧ (b = true → es = []),fun _ _ _ h=>h⟩
section
variable {P:Program} {n:Nat} {ops:Array Oper} {o:Oper} {S:St} {t:Nat}
theorem zp {ty e:TypeId} {x y:Operand} {a:Option Addr} {l c:Nat} (hT:P.underlying ty = some (.slice e)) (w:World):(do eqGuard .eql ty x y (.slice a l c) (.slice none 0 0);binOp .eql ty (.slice a l c) (.slice none 0 0)).run P w = .ok (.bool a.isNone) w:=by
 rw [show eqGuard .eql ty x y (.slice a l c) (.slice none 0 0) = pure () from rfl]
 exact Lib.run_eql_slice_nil w _ _ a l c 0 0 hT
theorem KT {ty ty' e:TypeId} {x:Operand} {k:Nat} {es:List (List PV)} (hp:Pl n o t) (ho:o.op = .binOp .eql ty x (.const (.slice none 0 0)) ty') (hT:dC P ty (.slice e)) (hx:uI (cT S x) S x k es) :
   ak n P ops o (cT S x) (.per (JV es)) [] S:=
 aA hp fun C T g a w hA hR=>by
   obtain ⟨ad,c,b,of,hv,_,_,_,h5,_⟩:=hx n C T g a w hA hR
   refine ⟨.bool ad.isNone,d9 ho hv rfl (zp hT.h w),_,rfl,fun hn=>?_⟩
   rcases Nat.eq_zero_or_pos es.length with q|q
   · exact List.eq_nil_of_length_eq_zero q
   · rw [(h5 q).1] at hn;cases hn
theorem JW {ty ty' e:TypeId} {x:Operand} {k:Nat} {es:List (List PV)} (hp:Pl n o t) (ho:o.op = .binOp .eql ty x (.const (.slice none 0 0)) ty') (hT:dC P ty (.slice e)) (hx:uI (cT S x) S x k es) (h0:0 < es.length) :
   ak n P ops o (cT S x) (bC false) [] S:=
 aA hp fun C T g a w hA hR=>by
   obtain ⟨ad,c,b,of,hv,_,_,_,h5,_⟩:=hx n C T g a w hA hR
   exact ⟨.bool false,d9 ho hv rfl ((zp hT.h w).trans (by rw [(h5 h0).1];rfl)),rfl⟩
theorem aZ {Q:Exit → St → Prop} {c:Operand} {x y:Code} {es:List (List PV)} (hc:c = .tmp t) (hb:S.get t = .per (JV es))
   (h1:es = [] → AW P n x Q S) (h2:AW P n y Q S):AW P n (.cond c x y) Q S:=⟨fun C a w hr=>by
 obtain ⟨g,hg⟩:=hr
 have:=hg.slots t
 rw [hb] at this
 obtain ⟨b,hv,hn⟩:=this
 subst hc
 exact wp_cond_split (t:=b) hv (fun h=>(h1 (hn h)).run C a w ⟨g,hg⟩) (fun _=>h2.run C a w ⟨g,hg⟩)⟩
theorem te {w:World} {ty e:TypeId} {k len i:Nat} {kk:IntKind} {b of:Nat} (hT:P.underlying ty = some (.array len e)) (hk:P.cellsOf e = k) (h0:0 < k) (hi:i < len) :
   (Instr.indexAt ty (.pointer (some ⟨b,of,none⟩)) (.int kk (i:Int))).run P w = .ok (.pointer (some ⟨b,of + i * k,none⟩)) w:=by
 have hel:P.elem ty = e:=by unfold Program.elem;rw [hT]
 have hal:P.arrayLen ty = len:=by unfold Program.arrayLen;rw [hT]
 rw [run_indexAt_array (h:=by rw [hel,hal];exact hT),hal,if_pos ⟨by omega,by omega⟩,hel,d7 hk h0]
 simp [Result.andThen,Addr.add_lit]
theorem Dn {ty e:TypeId} {x ix:Operand} {id vr off k i len:Nat} {kk:IntKind} {z:Int} (hp:Pl n o t) (ho:o.op = .indexAddr ty x ix) (hT:dC P ty (.array len e)) (hk:ct P e k) (h0:Nat.blt 0 k = true)
   (hx:S.opd x = .ptr id vr off) (hv:S.ver id = vr) (hi:S.opd ix = iC kk z) (hz:z = (i:Int)) (hlt:i < len):ak n P ops o ((2 * id + 1) :: (ap x ++ ap ix)) (.ptr id vr (off + i * k)) [] S:=
 aA hp fun C T g a w hA hR=>by
   have h:=aw (x:=x) hA (fun k h=>by simp [h]) hR
   rw [hx] at h
   have h3:=aK (x:=ix) hA (fun k h=>by simp [h]) hR hi
   have hv':=(hA.2 id (by simp)).2
   have hev:=h.2 (by omega)
   refine ⟨.pointer (some ⟨g.ph id,off + i * k,none⟩),?_,⟨by omega,fun _=>rfl⟩⟩
   subst hz
   simp only [execOp,ho,hev,h3,Sem.run_bind,te hT.h hk.h (Nat.le_of_ble_eq_true h0) hlt];rfl
theorem mJ {ty e:TypeId} {x ix:Operand} {i len:Nat} {kk:IntKind} {z:Int} {As:List PV} {A:PV} (hp:Pl n o t) (ho:o.op = .index ty x ix) (hT:dC P ty (.array len e)) (hk:ct P e 1) (hE:bc P e false)
   (hx:S.opd x = .per (bW As)) (hi:S.opd ix = iC kk z) (hz:z = (i:Int)) (hlt:i < len) (hA0:As[i]? = some A):ak n P ops o (ap x ++ ap ix) (.per A) [] S:=
 aA hp fun C T g a w hA hR=>by
   have h:=aw (x:=x) hA (fun k h=>by simp [h]) hR
   rw [hx] at h
   obtain ⟨vs,hev,_,q⟩:=h
   obtain ⟨y,q1,_,q3⟩:=q i A hA0
   have h3:=aK (x:=ix) hA (fun k h=>by simp [h]) hR hi
   obtain ⟨d,hd,hd'⟩:=hE.h
   refine ⟨y,?_,q3⟩
   subst hz
   simp only [execOp,ho,hev,h3,Instr.index,asIntOf,Sem.run_bind,Sem.run_pure,Result.andThen_ok,run_underlying hT.h]
   rw [if_pos ⟨by omega,by omega⟩]
   simp only [Sem.run_bind,d7 hk.h (by decide),Result.andThen_ok,part,k5 hd,hd']
   simp [q1]
end
theorem vk (l:List Cnt) (j:Nat) (c:Cnt) (h:j < l.length):gL l j [c] = l.set j c:=by
 unfold gL
 rw [List.set_eq_take_append_cons_drop,if_pos h]
 rfl
def KU (c c':Cnt):Prop:=∀ (C:Ctx) (vr:Nat → Nat) (g:Gh) (w:World) (v:Value),crep C vr g w v c → crep C vr g w v c'
theorem Hw {k:Nat}:KU (.per (ao (.slice none 0 0))) (.per (bK k [])):=fun C vr g w v h=>by
 have h:v = .slice none 0 0:=h
 rw [h]
 exact ⟨none,0,0,0,rfl,by simp,by decide,fun _=>rfl,by simp,fun i cs hi=>by simp at hi⟩
theorem Dp {n:Nat} {S:St} (id e:Nat) {cells cells':List Cnt} (hb:S.blk id = .box e cells) (hl:cells'.length = cells.length) (h:∀ (j:Nat) (c c':Cnt),cells[j]? = some c → cells'[j]? = some c' → KU c c') :
   Le n S (S.app none .any [(id,S.ver id,.box e cells')]):=by
 rintro C a w ⟨g,hR⟩
 have hvr:∀ i,(S.app none .any [(id,S.ver id,.box e cells')]).ver i = S.ver i:=fun i=>by
   rw [St.app_some_ver];split
   · rename_i e;rw [e]
   · rfl
 refine ⟨g,hR.defers,hR.tsz,hR.nle,hR.keep,hR.os,hR.tape,hR.output,hR.size,hR.old,hR.n0,hR.n0l,hR.dom,fun t=>?_,fun i=>?_⟩
 · rw [show (S.app none .any [(id,S.ver id,.box e cells')]).ver = S.ver from funext hvr,St.app_get]
   exact hR.slots t
 · rw [show (S.app none .any [(id,S.ver id,.box e cells')]).ver = S.ver from funext hvr,St.app_some_blk]
   split
   · rename_i hi
     subst hi
     have h0:=hR.blks i
     rw [hb] at h0
     obtain ⟨cs,q1,q2,q3,q4⟩:=h0
     refine ⟨cs,q1,q2,by rw [q3,hl],fun j c' hj=>?_⟩
     have hjl:j < cells.length:=by have:=(List.getElem?_eq_some_iff.1 hj).1;omega
     obtain ⟨y,r1,r2,r3⟩:=q4 j _ (List.getElem?_eq_getElem hjl)
     exact ⟨y,r1,r2,h j _ c' (List.getElem?_eq_getElem hjl) hj C _ g w y r3⟩
   · exact hR.blks i
end Go.Proofs.YtembiemaiacdfaaGreat
namespace Go.Proofs.YtembiemaiacdfaaGreat
open Go.RowKit
variable {P:Program} {n:Nat} {ops:Array Oper} {o:Oper} {F:List Nat} {S:St} {c:Cnt} {b:Upd}
def KV:Op → Bool
 | .binOp p _ _ _ _=>match p with
   | .lss|.leq|.gtr|.geq|.eql|.neq=>true
   | _=>false
 | _=>false
def KW:Op → Bool
 | .binOp .sub _ _ _ _=>true
 | _=>false
theorem Mi (_:KV o.op = true) (h:ak n P ops o F c b S):ak n P ops o F c b S:=h
theorem Mj (_:KW o.op = true) (h:ak n P ops o F c b S):ak n P ops o F c b S:=h
theorem Hx (h:ak n P ops o F c b S:=by
   first
     | exact bU (c:=.per _) ⟨rfl,rfl,rfl⟩ rfl rfl
     | exact bU (c:=.row _ _) ⟨rfl,rfl,rfl⟩ rfl rfl
     | exact bU (c:=.bor _ _) ⟨rfl,rfl,rfl⟩ rfl rfl
     | exact bU (c:=.ptr _ _ _) ⟨rfl,rfl,rfl⟩ rfl rfl
     | exact bU (c:=.tup2 _ _) ⟨rfl,rfl,rfl⟩ rfl rfl
     | exact bU (c:=.tup3 _ _ _) ⟨rfl,rfl,rfl⟩ rfl rfl
     | exact bU (c:=.ept _ _ _ _ _) ⟨rfl,rfl,rfl⟩ rfl rfl
     | exact bU (c:=.vw _ _ _ _ _) ⟨rfl,rfl,rfl⟩ rfl rfl
     | exact bU (c:=.bpt _) ⟨rfl,rfl,rfl⟩ rfl rfl
     | exact bU (c:=.clo1 _ _) ⟨rfl,rfl,rfl⟩ rfl rfl
     | exact bU (c:=.clo2 _ _ _) ⟨rfl,rfl,rfl⟩ rfl rfl
     | exact bU (c:=.clo3 _ _ _ _) ⟨rfl,rfl,rfl⟩ rfl rfl
     | exact bU (c:=.aggK _ _) ⟨rfl,rfl,rfl⟩ rfl rfl
     | exact bU (c:=.any) ⟨rfl,rfl,rfl⟩ rfl rfl
     | fail):ak n P ops o F c b S:=h
theorem Hy (h:ak n P ops o F c b S:=by
   first
     | exact b7 (c:=.per _) ⟨rfl,rfl,rfl⟩ rfl rfl
     | exact b7 (c:=.row _ _) ⟨rfl,rfl,rfl⟩ rfl rfl
     | exact b7 (c:=.bor _ _) ⟨rfl,rfl,rfl⟩ rfl rfl
     | exact b7 (c:=.ptr _ _ _) ⟨rfl,rfl,rfl⟩ rfl rfl
     | exact b7 (c:=.tup3 _ _ _) ⟨rfl,rfl,rfl⟩ rfl rfl
     | exact b7 (c:=.ept _ _ _ _ _) ⟨rfl,rfl,rfl⟩ rfl rfl
     | exact b7 (c:=.vw _ _ _ _ _) ⟨rfl,rfl,rfl⟩ rfl rfl
     | exact b7 (c:=.bpt _) ⟨rfl,rfl,rfl⟩ rfl rfl
     | exact b7 (c:=.tup2 _ _) ⟨rfl,rfl,rfl⟩ rfl rfl
     | exact b7 (c:=.clo1 _ _) ⟨rfl,rfl,rfl⟩ rfl rfl
     | exact b7 (c:=.clo2 _ _ _) ⟨rfl,rfl,rfl⟩ rfl rfl
     | exact b7 (c:=.clo3 _ _ _ _) ⟨rfl,rfl,rfl⟩ rfl rfl
     | exact b7 (c:=.aggK _ _) ⟨rfl,rfl,rfl⟩ rfl rfl
     | exact b7 (c:=.any) ⟨rfl,rfl,rfl⟩ rfl rfl
     | fail):ak n P ops o F c b S:=h
theorem Hz (h:ak n P ops o F c b S:=by
   first
     | (apply k4 <;> first|exact ⟨rfl,rfl,rfl⟩|rfl|(intro hb0;first|rfl|exact aj rfl (by rw [hb0];rfl)|exact aj rfl (by simp_all)))
     | fail):ak n P ops o F c b S:=h
theorem HC (h:ak n P ops o F c b S:=by
   first
     | exact pv ⟨rfl,rfl,rfl⟩ rfl rfl
     | exact pw ⟨rfl,rfl,rfl⟩ rfl rfl (by first|exact ca rfl rfl|exact cb|exact cF)
     | exact vd ⟨rfl,rfl,rfl⟩ rfl rfl
     | exact sZ (c:=.ptr _ _ _) ⟨rfl,rfl,rfl⟩ rfl rfl (by first|exact cL (by first|exact ca rfl rfl|exact cb|exact cF)|exact cM rfl|exact cN rfl rfl|exact cO rfl rfl|exact cp|exact cq|exact cr)
     | exact sZ (c:=.row _ _) ⟨rfl,rfl,rfl⟩ rfl rfl (by first|exact cL (by first|exact ca rfl rfl|exact cb|exact cF)|exact cM rfl|exact cN rfl rfl|exact cO rfl rfl|exact cp|exact cq|exact cr)
     | exact sZ (c:=.clo1 _ _) ⟨rfl,rfl,rfl⟩ rfl rfl (by first|exact cL (by first|exact ca rfl rfl|exact cb|exact cF)|exact cM rfl|exact cN rfl rfl|exact cO rfl rfl|exact cp|exact cq|exact cr)
     | fail):ak n P ops o F c b S:=h
theorem HG (h:ak n P ops o F c b S:=by
   first
     | exact zd ⟨rfl,rfl,rfl⟩ rfl inferInstance rfl
     | fail):ak n P ops o F c b S:=h
theorem HH (h:ak n P ops o F c b S:=by
   first
     | exact iK ⟨rfl,rfl,rfl⟩ rfl inferInstance rfl rfl rfl rfl
     | exact fS ⟨rfl,rfl,rfl⟩ rfl inferInstance inferInstance rfl rfl rfl rfl rfl rfl
     | exact jM ⟨rfl,rfl,rfl⟩ rfl inferInstance rfl rfl
     | exact jN ⟨rfl,rfl,rfl⟩ rfl inferInstance inferInstance rfl rfl rfl
     | exact jO ⟨rfl,rfl,rfl⟩ rfl inferInstance rfl rfl
     | exact jP ⟨rfl,rfl,rfl⟩ rfl inferInstance inferInstance rfl rfl rfl
     | exact Ho ⟨rfl,rfl,rfl⟩ rfl inferInstance inferInstance rfl rfl rfl rfl rfl rfl
     | fail):ak n P ops o F c b S:=h
theorem HM (h:ak n P ops o F c b S:=by
   first
     | exact uV ⟨rfl,rfl⟩ rfl inferInstance rfl rfl rfl rfl rfl (by first|exact ca rfl rfl|exact cb|exact cF)
     | exact jh ⟨rfl,rfl⟩ rfl inferInstance rfl rfl rfl rfl rfl rfl rfl
     | exact fL (c:=.ptr _ _ _) ⟨rfl,rfl⟩ rfl inferInstance rfl rfl rfl rfl rfl (by first|exact cL (by first|exact ca rfl rfl|exact cb|exact cF)|exact cM rfl|exact cN rfl rfl|exact cO rfl rfl|exact cp|exact cq|exact cr)
     | exact fL (c:=.row _ _) ⟨rfl,rfl⟩ rfl inferInstance rfl rfl rfl rfl rfl (by first|exact cL (by first|exact ca rfl rfl|exact cb|exact cF)|exact cM rfl|exact cN rfl rfl|exact cO rfl rfl|exact cp|exact cq|exact cr)
     | exact fL (c:=.clo1 _ _) ⟨rfl,rfl⟩ rfl inferInstance rfl rfl rfl rfl rfl (by first|exact cL (by first|exact ca rfl rfl|exact cb|exact cF)|exact cM rfl|exact cN rfl rfl|exact cO rfl rfl|exact cp|exact cq|exact cr)
     | exact s7 ⟨rfl,rfl⟩ rfl inferInstance rfl rfl rfl rfl rfl rfl rfl
     | fail):ak n P ops o F c b S:=h
theorem HN (h:ak n P ops o F c b S:=by
   first
     | exact o0 ⟨rfl,rfl,rfl⟩ rfl inferInstance rfl rfl
     | exact jQ ⟨rfl,rfl,rfl⟩ rfl inferInstance rfl
     | exact jR ⟨rfl,rfl,rfl⟩ rfl inferInstance rfl
     | exact rL ⟨rfl,rfl,rfl⟩ rfl inferInstance rfl rfl
     | fail):ak n P ops o F c b S:=h
theorem HU (h:ak n P ops o F c b S:=by
   first
     | (apply Mi;(focus rfl);exact nx ⟨rfl,rfl,rfl⟩ rfl rfl rfl rfl)
     | (apply Mj;(focus rfl);first|exact fH ⟨rfl,rfl,rfl⟩ rfl rfl rfl rfl (by with_reducible exact Hn (by omega))|exact fH ⟨rfl,rfl,rfl⟩ rfl rfl rfl rfl (by with_reducible exact Dg (by omega)))
     | exact fH ⟨rfl,rfl,rfl⟩ rfl rfl rfl rfl (bP (by first|omega|(simp;omega)|(simp [aq];omega)) (by first|omega|(simp;omega)|(simp [aq];omega)))
     | exact nx ⟨rfl,rfl,rfl⟩ rfl rfl rfl rfl
     | exact Hq ⟨rfl,rfl,rfl⟩ rfl rfl rfl (by first|omega|(simp;omega)|(simp [aq];omega))
     | exact Hr ⟨rfl,rfl,rfl⟩ rfl inferInstance (by first|exact Dd rfl rfl|exact Js rfl)
     | exact Hs ⟨rfl,rfl,rfl⟩ rfl inferInstance (by first|exact Dd rfl rfl|exact Js rfl)
     | exact Dj ⟨rfl,rfl,rfl⟩ rfl inferInstance rfl
     | exact Dk ⟨rfl,rfl,rfl⟩ rfl inferInstance rfl
     | exact CF ⟨rfl,rfl,rfl⟩ rfl rfl rfl (by first|decide|omega|(simp;omega)) (Hm (by first|omega|(simp;omega)|(simp [aq];omega)) (by first|omega|(simp;omega)|(simp [aq];omega)) (by first|omega|(simp;omega)|(simp [aq];omega)))
     | exact ny ⟨rfl,rfl,rfl⟩ rfl rfl rfl (by first|decide|omega|(simp;omega)) (Hl (by first|omega|(simp;omega)|(simp [aq];omega)))
     | exact CF ⟨rfl,rfl,rfl⟩ rfl rfl rfl (by first|decide|omega|(simp;omega)) (bP (by first|omega|(simp;omega)|(simp [aq];omega)) (by first|omega|(simp;omega)|(simp [aq];omega)))
     | exact ny ⟨rfl,rfl,rfl⟩ rfl rfl rfl (by first|decide|omega|(simp;omega)) rfl
     | exact JW ⟨rfl,rfl,rfl⟩ rfl inferInstance (by first|exact nG rfl|exact nI rfl rfl rfl|exact nH rfl|exact nJ rfl) (by first|assumption|omega|(simp;done)|(simp;omega))
     | exact KT ⟨rfl,rfl,rfl⟩ rfl inferInstance (by first|exact nG rfl|exact nI rfl rfl rfl|exact nH rfl|exact nJ rfl)
     | fail):ak n P ops o F c b S:=h
theorem HV (h:ak n P ops o F c b S:=by
   first
     | exact sN ⟨rfl,rfl,rfl⟩ rfl rfl
     | fail):ak n P ops o F c b S:=h
theorem Dq (h:ak n P ops o F c b S:=by
   first
     | exact gz ⟨rfl,rfl,rfl⟩ rfl inferInstance inferInstance rfl (by with_reducible exact AR _)
     | exact gz ⟨rfl,rfl,rfl⟩ rfl inferInstance inferInstance rfl (bP (by omega) (by omega))
     | exact gz ⟨rfl,rfl,rfl⟩ rfl inferInstance inferInstance rfl rfl
     | exact KP ⟨rfl,rfl,rfl⟩ rfl inferInstance inferInstance inferInstance (by first|exact nG rfl|exact nI rfl rfl rfl|exact nH rfl|exact nJ rfl)
     | fail):ak n P ops o F c b S:=h
theorem Dr (h:ak n P ops o F c b S:=by
   first
     | exact u0 ⟨rfl,rfl,rfl⟩ rfl inferInstance inferInstance rfl rfl (by refine ⟨?_,?_,?_,?_⟩ <;> first|rfl|exact ⟨_,_,rfl,rfl⟩|omega|(simp;done)|(simp;omega)) rfl
     | exact pE ⟨rfl,rfl,rfl⟩ rfl inferInstance inferInstance rfl rfl (by refine ⟨?_,?_,?_,?_⟩ <;> first|rfl|exact ⟨_,_,rfl,rfl⟩|omega|(simp;done)|(simp;omega)) rfl
     | exact u3 ⟨rfl,rfl,rfl⟩ rfl inferInstance inferInstance rfl rfl (by refine ⟨?_,?_,?_,?_⟩ <;> first|rfl|exact ⟨_,_,rfl,rfl⟩|omega|(simp;done)|(simp;omega))
     | exact pF ⟨rfl,rfl,rfl⟩ rfl inferInstance inferInstance rfl rfl (by refine ⟨?_,?_,?_,?_⟩ <;> first|rfl|exact ⟨_,_,rfl,rfl⟩|omega|(simp;done)|(simp;omega))
     | exact ew ⟨rfl,rfl,rfl⟩ rfl inferInstance inferInstance rfl rfl (by refine ⟨?_,?_,?_,?_⟩ <;> first|rfl|exact ⟨_,_,rfl,rfl⟩|omega|(simp;done)|(simp;omega))
     | exact jS ⟨rfl,rfl,rfl⟩ rfl inferInstance inferInstance rfl rfl (by refine ⟨?_,?_,?_,?_⟩ <;> first|rfl|exact ⟨_,_,rfl,rfl⟩|omega|(simp;done)|(simp;omega))
     | exact zf ⟨rfl,rfl,rfl⟩ rfl inferInstance inferInstance rfl rfl (by refine ⟨?_,?_,?_,?_⟩ <;> first|rfl|exact ⟨_,_,rfl,rfl⟩|omega|(simp;done)|(simp;omega)) rfl
     | exact rO ⟨rfl,rfl,rfl⟩ rfl inferInstance inferInstance rfl rfl (by refine ⟨?_,?_,?_,?_⟩ <;> first|rfl|exact ⟨_,_,rfl,rfl⟩|omega|(simp;done)|(simp;omega)) rfl
     | exact u4 ⟨rfl,rfl,rfl⟩ rfl inferInstance rfl (by refine ⟨?_,?_,?_,?_⟩ <;> first|rfl|exact ⟨_,_,rfl,rfl⟩|omega|(simp;done)|(simp;omega)) rfl
     | fail):ak n P ops o F c b S:=h
theorem Ds (h:ak n P ops o F c b S:=by
   first
     | exact fe ⟨rfl,rfl,rfl⟩ rfl inferInstance inferInstance rfl rfl rfl rfl (fT (by first|assumption|omega|(simp;done)|(simp;omega)))
     | exact ji ⟨rfl,rfl,rfl⟩ rfl inferInstance inferInstance rfl rfl rfl rfl (fT (by first|assumption|omega|(simp;done)|(simp;omega)))
     | exact nF ⟨rfl,rfl,rfl⟩ rfl inferInstance inferInstance rfl rfl rfl rfl rfl rfl (by first|assumption|omega|(simp;done)|(simp;omega))
     | exact fe ⟨rfl,rfl,rfl⟩ rfl inferInstance inferInstance rfl rfl rfl rfl rfl
     | exact Di ⟨rfl,rfl,rfl⟩ rfl inferInstance inferInstance rfl rfl rfl (by first|omega|(simp;omega)|(simp [aq];omega)) (by first|assumption|omega|(simp;done)|(simp;omega))
     | exact xt ⟨rfl,rfl,rfl⟩ rfl inferInstance inferInstance rfl rfl rfl (by first|omega|(simp;omega)|(simp [aq];omega)) (by first|assumption|omega|(simp;done)|(simp;omega))
     | exact xu ⟨rfl,rfl,rfl⟩ rfl inferInstance inferInstance rfl rfl rfl rfl rfl (by first|omega|(simp;omega)|(simp [aq];omega)) (by first|assumption|omega|(simp;done)|(simp;omega))
     | exact Dn ⟨rfl,rfl,rfl⟩ rfl inferInstance inferInstance rfl rfl rfl rfl rfl (by first|assumption|omega|(simp;done)|(simp;omega))
     | fail):ak n P ops o F c b S:=h
theorem Du (h:ak n P ops o F c b S:=by
   first
     | exact gk ⟨rfl,rfl,rfl⟩ rfl inferInstance rfl rfl rfl (List.getElem?_eq_getElem (by first|assumption|omega|(simp;done)|(simp;omega)))
     | exact jn ⟨rfl,rfl,rfl⟩ rfl inferInstance rfl rfl (by first|omega|(simp;omega)|(simp [aq];omega)) (by first|assumption|omega|(simp;done)|(simp;omega))
     | fail):ak n P ops o F c b S:=h
theorem Dv (h:ak n P ops o F c b S:=by
   first
     | (solve|(apply ze <;> first|exact ⟨rfl,rfl,rfl⟩|rfl|infer_instance|(repeat (first|exact cA.nil|(apply cA.cons;(focus (first|exact aG rfl rfl rfl|exact gi rfl|exact gj rfl)))))))
     | (solve|(apply Dh <;> first|exact ⟨rfl,rfl,rfl⟩|rfl|infer_instance|(repeat (first|exact kE.nil|(apply kE.cons;(focus (first|exact AU rfl|exact gX (c:=.per _) rfl (by first|exact cL (by first|exact ca rfl rfl|exact cb|exact cF)|exact cM rfl|exact cN rfl rfl|exact cO rfl rfl|exact cp|exact cq|exact cr)|exact gX (c:=.ptr _ _ _) rfl (by first|exact cL (by first|exact ca rfl rfl|exact cb|exact cF)|exact cM rfl|exact cN rfl rfl|exact cO rfl rfl|exact cp|exact cq|exact cr)|exact gX (c:=.row _ _) rfl (by first|exact cL (by first|exact ca rfl rfl|exact cb|exact cF)|exact cM rfl|exact cN rfl rfl|exact cO rfl rfl|exact cp|exact cq|exact cr)|exact gX (c:=.clo1 _ _) rfl (by first|exact cL (by first|exact ca rfl rfl|exact cb|exact cF)|exact cM rfl|exact cN rfl rfl|exact cO rfl rfl|exact cp|exact cq|exact cr)|exact gX (c:=.clo2 _ _ _) rfl (by first|exact cL (by first|exact ca rfl rfl|exact cb|exact cF)|exact cM rfl|exact cN rfl rfl|exact cO rfl rfl|exact cp|exact cq|exact cr)|exact gX (c:=.clo3 _ _ _ _) rfl (by first|exact cL (by first|exact ca rfl rfl|exact cb|exact cF)|exact cM rfl|exact cN rfl rfl|exact cO rfl rfl|exact cp|exact cq|exact cr)|exact Hp rfl)))))))
     | fail):ak n P ops o F c b S:=h
theorem Dw (h:ak n P ops o F c b S:=by
   first
     | exact rM ⟨rfl,rfl,rfl⟩ rfl inferInstance
     | (solve|(apply uZ <;> first|exact ⟨rfl,rfl,rfl⟩|rfl|infer_instance|(repeat (first|exact cA.nil|(apply cA.cons;(focus (first|exact aG rfl rfl rfl|exact gi rfl|exact gj rfl)))))))
     | fail):ak n P ops o F c b S:=h
theorem Dx (h:ak n P ops o F c b S:=by
   first
     | exact uC ⟨rfl,rfl,rfl⟩ rfl rfl
     | exact uD ⟨rfl,rfl,rfl⟩ rfl rfl
     | exact uE ⟨rfl,rfl,rfl⟩ rfl rfl
     | exact uF ⟨rfl,rfl,rfl⟩ rfl rfl
     | exact uG ⟨rfl,rfl,rfl⟩ rfl rfl
     | fail):ak n P ops o F c b S:=h
theorem Dy (h:ak n P ops o F c b S:=by
   first
     | exact o3 ⟨rfl,rfl,rfl⟩ rfl inferInstance rfl
     | exact CZ ⟨rfl,rfl,rfl⟩ rfl inferInstance rfl
     | exact uX ⟨rfl,rfl,rfl⟩ rfl inferInstance rfl
     | exact uY ⟨rfl,rfl,rfl⟩ rfl inferInstance rfl rfl rfl
     | exact uW ⟨rfl,rfl,rfl⟩ rfl inferInstance rfl
     | exact mB ⟨rfl,rfl,rfl⟩ rfl inferInstance rfl rfl rfl
     | exact mA ⟨rfl,rfl,rfl⟩ rfl inferInstance rfl
     | fail):ak n P ops o F c b S:=h
theorem Dz (h:ak n P ops o F c b S:=by
   first
     | exact Jr ⟨rfl,rfl,rfl⟩ rfl inferInstance rfl rfl rfl rfl (by first|exact nG rfl|exact nI rfl rfl rfl|exact nH rfl|exact nJ rfl) (by first|omega|(simp;done)|(simp;omega)|(simp [aq];done)|(simp [aq];omega)|(simp at *;omega)) rfl
     | exact C0 ⟨rfl,rfl,rfl⟩ rfl inferInstance inferInstance inferInstance rfl rfl rfl rfl (by first|omega|(simp;done)|(simp;omega)|(simp [aq];done)|(simp [aq];omega)|(simp at *;omega))
     | fail):ak n P ops o F c b S:=h
theorem DA (h:ak n P ops o F c b S:=by
   first
     | exact Dm ⟨rfl,rfl,rfl⟩ rfl rfl rfl
     | exact JS ⟨rfl,rfl,rfl⟩ rfl rfl rfl
     | fail):ak n P ops o F c b S:=h
theorem DB (h:ak n P ops o F c b S:=by
   first
     | exact Hg ⟨rfl,rfl,rfl⟩ rfl rfl rfl
     | exact xm ⟨rfl,rfl,rfl⟩ rfl rfl
     | fail):ak n P ops o F c b S:=h
theorem DC (h:ak n P ops o F c b S:=by
   first
     | exact Hh ⟨rfl,rfl,rfl⟩ rfl
     | exact Hi ⟨rfl,rfl,rfl⟩ rfl
     | exact Hj ⟨rfl,rfl,rfl⟩ rfl
     | exact Hk ⟨rfl,rfl,rfl⟩ rfl
     | fail):ak n P ops o F c b S:=h
theorem DD (h:ak n P ops o F c b S:=by
   first
     | (apply ax 8;(focus rfl);exact HU)
     | (apply ax 5;(focus rfl);exact HH)
     | (apply ax 0;(focus rfl);exact Hx)
     | (apply ax 1;(focus rfl);exact Hy)
     | (apply ax 7;(focus rfl);exact HN)
     | (apply ax 12;(focus rfl);exact Ds)
     | (apply ax 2;(focus rfl);exact Hz)
     | (apply ax 6;(focus rfl);exact HM)
     | (apply ax 10;(focus rfl);exact Dq)
     | (apply ax 14;(focus rfl);exact Dv)
     | (apply ax 3;(focus rfl);exact HC)
     | (apply ax 4;(focus rfl);exact HG)
     | (apply ax 9;(focus rfl);exact HV)
     | (apply ax 11;(focus rfl);exact Dr)
     | (apply ax 13;(focus rfl);exact Du)
     | (apply ax 15;(focus rfl);exact Dw)
     | (apply ax 16;(focus rfl);exact Dx)
     | (apply ax 17;(focus rfl);exact Dy)
     | (apply ax 18;(focus rfl);exact Dz)
     | (apply ax 19;(focus rfl);exact DA)
     | (apply ax 21;(focus rfl);exact DB)
     | (apply ax 22;(focus rfl);exact DC)
     | fail):ak n P ops o F c b S:=h
theorem dn (h:ak n P ops o F c b S:=by
   first
     | (apply bt;(focus rfl);first|(apply ag rfl rfl rfl rfl rfl;first|(apply ax 2;(focus rfl);first|exact rR ⟨rfl,rfl,rfl⟩ rfl rfl rfl rfl|exact rS ⟨rfl,rfl,rfl⟩ rfl rfl rfl rfl)|exact DD)|exact JR rfl rfl rfl rfl rfl rfl rfl|exact Dl rfl rfl rfl rfl rfl rfl)
     | (apply ax 2;(focus rfl);first|exact rR ⟨rfl,rfl,rfl⟩ rfl rfl rfl rfl|exact rS ⟨rfl,rfl,rfl⟩ rfl rfl rfl rfl)
     | exact DD):ak n P ops o F c b S:=h
end Go.Proofs.YtembiemaiacdfaaGreat
namespace Go.Proofs.YtembiemaiacdfaaGreat
open Go.RowKit
def Ret.frz:Ret → Ret
 | .per A=>.per A
 | .own _ k es=>.per (bK k es)
 | .tup2 c d=>.tup2 c.frz d.frz
 | .tup3 c d e=>.tup3 c.frz d.frz e.frz
theorem Ret.frz_rep {N0:BP} {w w':World} (hN:∀ b,N0 b → b < w.heap.size):∀ {r:Ret} {v:Value},r.rep N0 w w' v → r.frz.rep N0 w w' v:=by
 intro r
 induction r with
 | per A=>intro v h;exact h
 | own e k es=>
   intro v h
   show di N0 N0 k es w' v
   rcases h with ⟨rfl,rfl⟩|⟨q,cap,cs,rfl,hq,hh,h1,h2,h3,h4⟩
   · exact ⟨none,0,0,0,rfl,by simp,by decide,fun _=>rfl,by simp,fun i cs hi=>by simp at hi⟩
   · have hlt:q < w'.heap.size:=by
       rcases Nat.lt_or_ge q w'.heap.size with h|h
       · exact h
       · rw [Array.getElem?_eq_none h] at hh;cases hh
     refine ⟨_,cap,q,0,rfl,h1,h2,by simp,fun _=>⟨rfl,hlt,fun hn=>by have:=hN q hn;omega⟩,fun i ps hi=>?_⟩
     obtain ⟨r1,r2⟩:=h4 i ps hi
     refine ⟨r1,fun j A hj=>?_⟩
     obtain ⟨y,s1,s2,s3⟩:=r2 j A hj
     exact ⟨y,by rw [Nat.zero_add,dE hh];exact s1,s2,A.mono (Nat.le_refl _) (fun _ _ _=>rfl) (fun b _ hb=>.inl hb) s3⟩
 | tup2 c d ih1 ih2=>rintro v ⟨x,y,rfl,h1,h2⟩;exact ⟨x,y,rfl,ih1 h1,ih2 h2⟩
 | tup3 c d e ih1 ih2 ih3=>rintro v ⟨x,y,z,rfl,h1,h2,h3⟩;exact ⟨x,y,z,rfl,ih1 h1,ih2 h2,ih3 h3⟩
theorem Fn.frz {P:Program} {f:FuncId} {As:List Cnt} {r:Ret} (h:Fn P f As r):Fn P f As r.frz:=
 ⟨h.ent,fun N0 w vs hN ha=>Calls.mono (h.run N0 w vs hN ha) fun _ _ ⟨v,h1,h2,h3⟩=>⟨v,h1,h2,Ret.frz_rep hN h3⟩⟩
section
variable {P:Program} {n:Nat} {ops:Array Oper} {o:Oper} {S:St}
theorem vm {f:FuncId} {x0:Operand} {xs:List Operand} {As:List Cnt} {pre post:List (Nat × Blk)} {r:Cnt} (sg:List (Nat × Nat)) (hf:dY P f As pre r post) (hp:AI n o:=by exact ⟨rfl,rfl⟩) (ho:gP o x0 xs:=by exact ⟨_,rfl⟩) (hx:S.opd x0 = .per (ao (.func (.func f) #[] #[])):=by rfl) (hok:C5 sg = true:=by rfl)
   (hg:ov S sg xs As:=by first|((repeat (first|exact ov.nil|(refine ov.cons ?_ ?_;focus (first|exact lQ rfl|exact lR rfl|exact lU rfl rfl rfl rfl|exact lS rfl|exact lV rfl|exact jV rfl|exact kF rfl rfl))));done)|fail) (hpre:kj S sg pre:=by first|((repeat (first|exact kj.nil|(refine kj.cons rfl rfl ?_)));done)|fail):ak n P ops o (ap x0 ++ (dR S xs ++ s8 sg)) (r.mp false (iB sg) z0 (ra S.ver sg)) (kA S post sg sg) S:=
 jl (cs:=[]) sg hp ho (vc hx (fun k h=>by simp [h])) (by simpa using hf) hok (fun p h=>by simp [pL p h]) (hg.gives (fun _ h=>by simp at h ⊢;exact .inr (.inl h)) (fun _ h=>by simp [h])) hpre
end
end Go.Proofs.YtembiemaiacdfaaGreat
namespace Go.Proofs.YtembiemaiacdfaaGreat
open Go.RowKit
class Cl (b:Bool) (p q:outParam Prop):Prop where
 t:b = true → p
 f:b = false → q
instance (priority:=low) {b:Bool}:Cl b (b = true) (b = false):=⟨fun h=>h,fun h=>h⟩
instance {p:Prop} [d:Decidable p]:Cl (decide p) p (¬ p):=⟨of_decide_eq_true,of_decide_eq_false⟩
instance {α:Type} [BEq α] [LawfulBEq α] {a b:α}:Cl (a == b) (a = b) (a ≠ b):=⟨beq_iff_eq.1,beq_eq_false_iff_ne.1⟩
instance {α:Type} [BEq α] [LawfulBEq α] {a b:α}:Cl (a != b) (a ≠ b) (a = b):=⟨bne_iff_ne.1,bne_eq_false_iff_eq.1⟩
instance {b:Bool} {p q:Prop} [h:Cl b p q]:Cl (!b) q p:=⟨fun e=>h.f (by simpa using e),fun e=>h.t (by simpa using e)⟩
section
variable {P:Program} {n t:Nat} {ops:Array Oper} {o:Oper} {F:List Nat} {S:St} {c:Cnt} {b:Upd}
theorem eU {Q:Exit → St → Prop} {c:Operand} {x y:Code} {b:Bool} {p q:Prop} (hc:c = .tmp t) (hb:S.get t = bC b) [h:Cl b p q] (k:(p → AW P n x Q S) ∧ (q → AW P n y Q S)):AW P n (.cond c x y) Q S:=
 cV hc hb (fun e=>k.1 (h.t e)) (fun e=>k.2 (h.f e))
theorem eV {l:List Oper} {Q:St → Prop} {j tg:Nat} {want b:Bool} {p q:Prop} (h1:o.guard = some (j,want)) (h2:(ops[j]?).bind (·.dst) = some tg) (hb:S.get tg = bC b) [h:Cl b p q]
   (k:(p → AL P n ops Q (o :: l) (S.put (some tg) (bC true))) ∧ (q → AL P n ops Q (o :: l) (S.put (some tg) (bC false)))):AL P n ops Q (o :: l) S:=
 la h1 h2 hb (fun e=>k.1 (h.t e)) (fun e=>k.2 (h.f e))
theorem eW {l:List Oper} {Q:St → Prop} {done:List (List Nat × List Nat)} {j tg:Nat} {want b:Bool} {p q:Prop} (h1:o.guard = some (j,want)) (h2:(ops[j]?).bind (·.dst) = some tg) (hb:S.get tg = bC b) [h:Cl b p q]
   (k:(p → AD P n ops Q done (o :: l) (S.put (some tg) (bC true))) ∧ (q → AD P n ops Q done (o :: l) (S.put (some tg) (bC false)))):AD P n ops Q done (o :: l) S:=
 lb h1 h2 hb (fun e=>k.1 (h.t e)) (fun e=>k.2 (h.f e))
theorem cP {p G:Prop} (hc:p) (h:p → False:=by
   intro hc
   first
     | contradiction
     | omega
     | (simp [*] at hc;done)
     | fail):G:=(h hc).elim
theorem mn {f:FuncId} {As:List Cnt} {r:Ret} (hf:Fn P f As r) (h:Fn P f As r → ak n P ops o F c b S:=by
   intro hf
   first
     | exact Lz hf
     | exact Cr hf
     | exact KR hf
     | (apply bt;(focus rfl);apply ag rfl rfl rfl rfl rfl;first|exact Lz hf|exact Cr hf|exact KR hf|fail)
     | fail):ak n P ops o F c b S:=h hf
theorem jX {f:FuncId} {As:List Cnt} {pre post:List (Nat × Blk)} {r:Cnt} (hf:dY P f As pre r post) (h:dY P f As pre r post → ak n P ops o F c b S:=by
   intro hf
   first
     | exact L5 hf
     | (apply bt;(focus rfl);apply ag rfl rfl rfl rfl rfl;exact L5 hf)
     | fail):ak n P ops o F c b S:=h hf
theorem DE {f:FuncId} {As:List Cnt} {pre post:List (Nat × Blk)} {r:Cnt} (hf:dY P f As pre r post) (h:dY P f As pre r post → ak n P ops o F c b S:=by
   intro hf
   first
     | exact L6 hf
     | (apply bt;(focus rfl);apply ag rfl rfl rfl rfl rfl;exact L6 hf)
     | fail):ak n P ops o F c b S:=h hf
def bp (_:List (Nat × Nat)) (P:Program) (f:FuncId) (As:List Cnt) (pre:List (Nat × Blk)) (r:Cnt) (post:List (Nat × Blk)):Prop:=dY P f As pre r post
theorem HW {sg:List (Nat × Nat)} {f:FuncId} {xs:List Operand} {As:List Cnt} {pre post:List (Nat × Blk)} {r:Cnt} (hf:bp sg P f As pre r post) (hp:AI n o:=by exact ⟨rfl,rfl⟩) (ho:gP o (.func f) xs:=by exact ⟨_,rfl⟩) (hok:C5 sg = true:=by rfl)
   (hg:ov S sg xs As:=by first|((repeat (first|exact ov.nil|(refine ov.cons ?_ ?_;focus (first|exact lQ rfl|exact lR rfl|exact lU rfl rfl rfl rfl|exact lS rfl|exact lV rfl|exact jV rfl|exact kF rfl rfl))));done)|fail) (hpre:kj S sg pre:=by first|((repeat (first|exact kj.nil|(refine kj.cons rfl rfl ?_)));done)|fail):ak n P ops o (dR S xs ++ s8 sg) (r.mp false (iB sg) z0 (ra S.ver sg)) (kA S post sg sg) S:=Mh sg hf hp ho hok hg hpre
theorem KX {f:FuncId} {As:List Cnt} {pre post:List (Nat × Blk)} {r:Cnt} (sg:List (Nat × Nat)) (hf:dY P f As pre r post) (h:bp sg P f As pre r post → ak n P ops o F c b S:=by
   intro hf
   first
     | exact HW hf
     | (apply bt;(focus rfl);apply ag rfl rfl rfl rfl rfl;exact HW hf)
     | fail):ak n P ops o F c b S:=h hf
end
end Go.Proofs.YtembiemaiacdfaaGreat
namespace Go.Proofs.YtembiemaiacdfaaGreat
open Go.RowKit
structure W2 (A B:Prop):Prop where
 l:A
 r:B
structure W1 (p:Prop) (A:p → Prop):Prop where
 h:∀ h:p,A h
structure Kq (A:Prop):Prop where
 h:A
theorem Kq.l {p:Prop} {A:p → Prop} (k:Kq (W1 p A)) (h:p):Kq (A h):=⟨k.h.h h⟩
theorem Kq.a {p B:Prop} {A:p → Prop} (k:Kq (W2 (W1 p A) B)) (h:p):Kq (A h):=⟨k.h.l.h h⟩
theorem Kq.b {p B:Prop} {A:p → Prop} (k:Kq (W2 B (W1 p A))) (h:p):Kq (A h):=⟨k.h.r.h h⟩
section
variable {P:Program} {n t:Nat} {ops:Array Oper} {o:Oper} {F:List Nat} {S:St} {c:Cnt} {b:Upd} {l:List Oper} {done:List (List Nat × List Nat)} {j tg:Nat} {want v:Bool} {p q:Prop} {Qa:p → Prop} {Qb:q → Prop}
section
variable {Q:Exit → St → Prop} {c:Operand} {x y:Code}
theorem xx (k:Kq (W2 (W1 p Qa) (W1 q Qb))) (hc:c = .tmp t) (hb:S.get t = bC v) [h:Cl v p q] (ka:(h:p) → Kq (Qa h) → AW P n x Q S) (kb:(h:q) → Kq (Qb h) → AW P n y Q S):AW P n (.cond c x y) Q S:=
 cV hc hb (fun e=>ka (h.t e) (k.a (h.t e))) (fun e=>kb (h.f e) (k.b (h.f e)))
theorem xy (k:Kq (W1 p Qa)) (hc:c = .tmp t) (hb:S.get t = bC v) [h:Cl v p q] (hq:q → False) (ka:(h:p) → Kq (Qa h) → AW P n x Q S):AW P n (.cond c x y) Q S:=
 cV hc hb (fun e=>ka (h.t e) (k.l (h.t e))) (fun e=>(hq (h.f e)).elim)
theorem xz (k:Kq (W1 q Qb)) (hc:c = .tmp t) (hb:S.get t = bC v) [h:Cl v p q] (hp:p → False) (kb:(h:q) → Kq (Qb h) → AW P n y Q S):AW P n (.cond c x y) Q S:=
 cV hc hb (fun e=>(hp (h.t e)).elim) (fun e=>kb (h.f e) (k.l (h.f e)))
theorem xA {es:List (List PV)} {Qa:es = [] → Prop} {Qb:Prop} (k:Kq (W2 (W1 (es = []) Qa) Qb)) (hc:c = .tmp t) (hb:S.get t = .per (JV es)) (ka:(h:es = []) → Kq (Qa h) → AW P n x Q S) (kb:Kq Qb → AW P n y Q S):AW P n (.cond c x y) Q S:=
 aZ hc hb (fun e=>ka e (k.a e)) (kb ⟨k.h.r⟩)
end
variable {Q:St → Prop}
theorem DF (k:Kq (W2 (W1 p Qa) (W1 q Qb))) (h1:o.guard = some (j,want)) (h2:(ops[j]?).bind (·.dst) = some tg) (hb:S.get tg = bC v) [h:Cl v p q]
   (ka:(h:p) → Kq (Qa h) → AL P n ops Q (o :: l) (S.put (some tg) (bC true))) (kb:(h:q) → Kq (Qb h) → AL P n ops Q (o :: l) (S.put (some tg) (bC false))):AL P n ops Q (o :: l) S:=
 la h1 h2 hb (fun e=>ka (h.t e) (k.a (h.t e))) (fun e=>kb (h.f e) (k.b (h.f e)))
theorem DG (k:Kq (W1 p Qa)) (h1:o.guard = some (j,want)) (h2:(ops[j]?).bind (·.dst) = some tg) (hb:S.get tg = bC v) [h:Cl v p q]
   (hq:q → False) (ka:(h:p) → Kq (Qa h) → AL P n ops Q (o :: l) (S.put (some tg) (bC true))):AL P n ops Q (o :: l) S:=
 la h1 h2 hb (fun e=>ka (h.t e) (k.l (h.t e))) (fun e=>(hq (h.f e)).elim)
theorem DH (k:Kq (W1 q Qb)) (h1:o.guard = some (j,want)) (h2:(ops[j]?).bind (·.dst) = some tg) (hb:S.get tg = bC v) [h:Cl v p q]
   (hp:p → False) (kb:(h:q) → Kq (Qb h) → AL P n ops Q (o :: l) (S.put (some tg) (bC false))):AL P n ops Q (o :: l) S:=
 la h1 h2 hb (fun e=>(hp (h.t e)).elim) (fun e=>kb (h.f e) (k.l (h.f e)))
theorem DI (k:Kq (W2 (W1 p Qa) (W1 q Qb))) (h1:o.guard = some (j,want)) (h2:(ops[j]?).bind (·.dst) = some tg) (hb:S.get tg = bC v) [h:Cl v p q]
   (ka:(h:p) → Kq (Qa h) → AD P n ops Q done (o :: l) (S.put (some tg) (bC true))) (kb:(h:q) → Kq (Qb h) → AD P n ops Q done (o :: l) (S.put (some tg) (bC false))):AD P n ops Q done (o :: l) S:=
 lb h1 h2 hb (fun e=>ka (h.t e) (k.a (h.t e))) (fun e=>kb (h.f e) (k.b (h.f e)))
theorem DJ (k:Kq (W1 p Qa)) (h1:o.guard = some (j,want)) (h2:(ops[j]?).bind (·.dst) = some tg) (hb:S.get tg = bC v) [h:Cl v p q]
   (hq:q → False) (ka:(h:p) → Kq (Qa h) → AD P n ops Q done (o :: l) (S.put (some tg) (bC true))):AD P n ops Q done (o :: l) S:=
 lb h1 h2 hb (fun e=>ka (h.t e) (k.l (h.t e))) (fun e=>(hq (h.f e)).elim)
theorem DK (k:Kq (W1 q Qb)) (h1:o.guard = some (j,want)) (h2:(ops[j]?).bind (·.dst) = some tg) (hb:S.get tg = bC v) [h:Cl v p q]
   (hp:p → False) (kb:(h:q) → Kq (Qb h) → AD P n ops Q done (o :: l) (S.put (some tg) (bC false))):AD P n ops Q done (o :: l) S:=
 lb h1 h2 hb (fun e=>(hp (h.t e)).elim) (fun e=>kb (h.f e) (k.l (h.f e)))
end
section
variable {P:Program} {n t:Nat} {ops:Array Oper} {o:Oper} {S:St}
theorem DL {ty ty':TypeId} {x y:Operand} {k k':IntKind} {p q z:Int} (hp:Pl n o t) (ho:o.op = .binOp .shr ty x y ty') (hx:S.opd x = iC k p) (hy:S.opd y = iC k' q) (hq:0 ≤ q) (hz:p / 2 ^ min q.toNat k.bits = z):ak n P ops o (ap x ++ ap y) (iC k z) [] S:=
 aA hp fun C T g a w hA hR=>by
   have h1:=aK (x:=x) hA (fun k h=>by simp [h]) hR hx
   have h2:=aK (x:=y) hA (fun k h=>by simp [h]) hR hy
   subst hz
   refine ⟨.int k (p / 2 ^ min q.toNat k.bits),d9 ho h1 h2 ?_,rfl⟩
   rw [show eqGuard .shr ty x y (.int k p) (.int k' q) = pure () from rfl]
   simp only [binOp_shr,shift_shr_any k k' p q hq]
   rfl
end
theorem wrap_u64 {z:Int} (h1:0 ≤ z) (h2:z ≤ 18446744073709551615):IntKind.u64.wrap z = z:=by
 simp [IntKind.wrap,IntKind.bits,IntKind.signed];omega
theorem DM {z h:Int} (e:z / 2 = h):z / 2 ^ min (1:Int).toNat IntKind.u64.bits = h:=by
 rw [show min (1:Int).toNat IntKind.u64.bits = 1 from rfl,Int.pow_one];exact e
section
variable {P:Program} {n t:Nat} {ops:Array Oper} {o:Oper} {F:List Nat} {S:St} {c:Cnt} {b:Upd}
theorem AY {sg:List (Nat × Nat)} {f:FuncId} {As:List Cnt} {pre post:List (Nat × Blk)} {r:Cnt} (hf:bp sg P f As pre r post) (h:bp sg P f As pre r post → ak n P ops o F c b S:=by
   intro hf
   first
     | exact HW hf
     | (apply bt;(focus rfl);apply ag rfl rfl rfl rfl rfl;exact HW hf)
     | fail):ak n P ops o F c b S:=h hf
theorem AZ {f:FuncId} {As:List Cnt} {r:Ret} (hf:Fn P f As r) (h:Fn P f As r → ak n P ops o F c b S:=by
   intro hf
   first
     | (refine Cr (hf) (hg:=?_);((repeat (first|exact GL.nil|(refine GL.cons ?_ ?_;focus (first|exact aL rfl|exact aR rfl|exact bM rfl rfl rfl|exact aU rfl|exact bN rfl|exact bf rfl))));done))
     | (apply bt;(focus rfl);apply ag rfl rfl rfl rfl rfl;(refine Cr (hf) (hg:=?_);((repeat (first|exact GL.nil|(refine GL.cons ?_ ?_;focus (first|exact aL rfl|exact aR rfl|exact bM rfl rfl rfl|exact aU rfl|exact bN rfl|exact bf rfl))));done)))
     | fail):ak n P ops o F c b S:=h hf
theorem tf {f:FuncId} {As:List Cnt} {r:Ret} (hf:Fn P f As r) (h:Fn P f As r → ak n P ops o F c b S:=by
   intro hf
   first
     | (refine Lz (hf) (hg:=?_);((repeat (first|exact GL.nil|(refine GL.cons ?_ ?_;focus (first|exact aL rfl|exact aR rfl|exact bM rfl rfl rfl|exact aU rfl|exact bN rfl|exact bf rfl))));done))
     | (apply bt;(focus rfl);apply ag rfl rfl rfl rfl rfl;(refine Lz (hf) (hg:=?_);((repeat (first|exact GL.nil|(refine GL.cons ?_ ?_;focus (first|exact aL rfl|exact aR rfl|exact bM rfl rfl rfl|exact aU rfl|exact bN rfl|exact bf rfl))));done)))
     | fail):ak n P ops o F c b S:=h hf
theorem xB (h:ak n P ops o F c b S:=by
   first
     | (apply ax 20;(focus rfl);first|exact mn kc1|exact mn kc2|exact mn kc3|exact mn kc4|exact mn kc5|exact mn kc6|exact mn kc7|exact mn kc8|exact mn kc9|exact mn kc10|exact mn kc11|exact mn kc12|exact mn kc13|exact mn kc14|exact mn kc15|exact mn kc16|exact tf kf1|exact tf kf2|exact tf kf3|exact tf kf4|exact tf kf5|exact tf kf6|exact tf kf7|exact tf kf8|exact tf kf9|exact AZ ko1|exact AZ ko2|exact AZ ko3|exact AZ ko4|exact AZ ko5|exact AZ ko6|exact jX kr1|exact jX kr2|exact jX kr3|exact jX kr4|exact jX kr5|exact jX kr6|exact jX kr7|exact jX kr8|exact jX kr9|exact DE kn1|exact DE kn2|exact DE kn3|exact AY km1|exact AY km2|exact AY km3|exact AY km4|exact AY km5|exact AY km6|fail)
     | fail):ak n P ops o F c b S:=h
theorem HZ (h:ak n P ops o F c b S:=by
   first|exact fH ⟨rfl,rfl,rfl⟩ rfl rfl rfl rfl ((bP (by omega) (by omega)).trans ke1.out)|exact fH ⟨rfl,rfl,rfl⟩ rfl rfl rfl rfl ((bP (by omega) (by omega)).trans ke2.out)|exact fH ⟨rfl,rfl,rfl⟩ rfl rfl rfl rfl ((bP (by omega) (by omega)).trans ke3.out)|fail):ak n P ops o F c b S:=h
theorem H3 (h:ak n P ops o F c b S:=by
   first|exact ay ⟨rfl,rfl,rfl⟩ rfl inferInstance rfl rfl rfl kL1.out rfl|exact ae ⟨rfl,rfl,rfl⟩ rfl inferInstance inferInstance rfl rfl rfl kL1.out rfl rfl rfl|exact ay ⟨rfl,rfl,rfl⟩ rfl inferInstance rfl rfl rfl kL2.out rfl|exact ae ⟨rfl,rfl,rfl⟩ rfl inferInstance inferInstance rfl rfl rfl kL2.out rfl rfl rfl|exact ay ⟨rfl,rfl,rfl⟩ rfl inferInstance rfl rfl rfl kL3.out rfl|exact ae ⟨rfl,rfl,rfl⟩ rfl inferInstance inferInstance rfl rfl rfl kL3.out rfl rfl rfl|fail):ak n P ops o F c b S:=h
theorem H4 (h:ak n P ops o F c b S:=by
   first|exact al ⟨rfl,rfl⟩ rfl inferInstance rfl rfl rfl rfl kL1.out rfl (by first|exact aG rfl rfl rfl|exact .inl rfl) rfl kS1.out|exact al ⟨rfl,rfl⟩ rfl inferInstance rfl rfl rfl rfl kL1.out rfl (by first|exact aG rfl rfl rfl|exact .inl rfl) rfl kS2.out|exact al ⟨rfl,rfl⟩ rfl inferInstance rfl rfl rfl rfl kL2.out rfl (by first|exact aG rfl rfl rfl|exact .inl rfl) rfl kS1.out|exact al ⟨rfl,rfl⟩ rfl inferInstance rfl rfl rfl rfl kL2.out rfl (by first|exact aG rfl rfl rfl|exact .inl rfl) rfl kS2.out|fail):ak n P ops o F c b S:=h
theorem H5 (h:ak n P ops o F c b S:=by
   first|exact DL ⟨rfl,rfl,rfl⟩ rfl rfl rfl (by decide) (DM kh1.out)|exact DL ⟨rfl,rfl,rfl⟩ rfl rfl rfl (by decide) (DM kh2.out)|fail):ak n P ops o F c b S:=h
theorem JX (h:ak n P ops o F c b S:=by
   first
     | (apply ax 8;(focus rfl);have e:=kh1;exact H5)
     | (apply ax 10;(focus rfl);have e:=kh1;exact gz ⟨rfl,rfl,rfl⟩ rfl inferInstance inferInstance rfl (by with_reducible exact wrap_u64 (by omega) (by omega)))
     | (apply ax 8;(focus rfl);have e:=ke1;exact HZ)
     | (apply ax 5;(focus rfl);have e:=kL1;exact H3)
     | (apply ax 6;(focus rfl);have e:=kS1;exact H4)
     | fail):ak n P ops o F c b S:=h
end
theorem Mk {G:Prop} (h:G:=by
   repeat' (first
     | refine cl ?_
     | refine bh ?_
     | refine bx ?_
     | refine bz ?_
     | refine cm ?_
     | refine aW ?_
     | refine cv dm ?_
     | refine cj ?_
     | refine ck (by kernel_rfl) ?_
     | ((first|apply aB rfl|apply aC rfl|apply aD rfl|apply aF rfl);focus (first|exact dn|exact xB|fail))
     | (apply xy k rfl rfl;(focus (clear k;intro hc;(repeat rw [List.length_map] at hc);exact cP hc));intro hc k;(repeat rw [List.length_map] at hc))
     | (apply xz k rfl rfl;(focus (clear k;intro hc;(repeat rw [List.length_map] at hc);exact cP hc));intro hc k;(repeat rw [List.length_map] at hc))
     | (apply xx k rfl rfl;(case' ka=>intro hc k;(repeat rw [List.length_map] at hc));(case' kb=>intro hc k;(repeat rw [List.length_map] at hc)))
     | with_reducible refine bB ?_
     | with_reducible refine bD ?_
     | with_reducible refine bF ?_
     | with_reducible refine dv ?_
     | with_reducible refine dw ?_
     | with_reducible refine bG ?_
     | refine bi rfl ?_
     | ((first|apply DG k rfl rfl rfl|apply DJ k rfl rfl rfl);(focus (clear k;intro hc;(repeat rw [List.length_map] at hc);exact cP hc));intro hc k;(fail_if_success (have q:(true = true):=hc));(fail_if_success (have q:(false = false):=hc)))
     | ((first|apply DH k rfl rfl rfl|apply DK k rfl rfl rfl);(focus (clear k;intro hc;(repeat rw [List.length_map] at hc);exact cP hc));intro hc k;(fail_if_success (have q:(true = true):=hc));(fail_if_success (have q:(false = false):=hc)))
     | ((first|apply DF k rfl rfl rfl|apply DI k rfl rfl rfl);(case' ka=>intro hc k;(fail_if_success (have q:(true = true):=hc));(fail_if_success (have q:(false = false):=hc)));(case' kb=>intro hc k;(fail_if_success (have q:(true = true):=hc));(fail_if_success (have q:(false = false):=hc))))
     | (apply xA k rfl rfl;(case' ka=>intro hc k);(case' kb=>intro k))
     | exact k.h)):G:=h
theorem LN {G:Prop} (h:G:=by
   repeat' (first
     | refine cl ?_
     | refine bh ?_
     | refine bx ?_
     | refine bz ?_
     | refine cm ?_
     | refine aW ?_
     | refine cv dm ?_
     | refine cj ?_
     | refine ck (by kernel_rfl) ?_
     | ((first|apply aB rfl|apply aC rfl|apply aD rfl|apply aF rfl);focus (first|exact JX|exact dn|exact xB|fail))
     | (apply xy k rfl rfl;(focus (clear k;intro hc;(repeat rw [List.length_map] at hc);exact cP hc));intro hc k;(repeat rw [List.length_map] at hc))
     | (apply xz k rfl rfl;(focus (clear k;intro hc;(repeat rw [List.length_map] at hc);exact cP hc));intro hc k;(repeat rw [List.length_map] at hc))
     | (apply xx k rfl rfl;(case' ka=>intro hc k;(repeat rw [List.length_map] at hc));(case' kb=>intro hc k;(repeat rw [List.length_map] at hc)))
     | with_reducible refine bB ?_
     | with_reducible refine bD ?_
     | with_reducible refine bF ?_
     | with_reducible refine dv ?_
     | with_reducible refine dw ?_
     | with_reducible refine bG ?_
     | refine bi rfl ?_
     | ((first|apply DG k rfl rfl rfl|apply DJ k rfl rfl rfl);(focus (clear k;intro hc;(repeat rw [List.length_map] at hc);exact cP hc));intro hc k;(fail_if_success (have q:(true = true):=hc));(fail_if_success (have q:(false = false):=hc)))
     | ((first|apply DH k rfl rfl rfl|apply DK k rfl rfl rfl);(focus (clear k;intro hc;(repeat rw [List.length_map] at hc);exact cP hc));intro hc k;(fail_if_success (have q:(true = true):=hc));(fail_if_success (have q:(false = false):=hc)))
     | ((first|apply DF k rfl rfl rfl|apply DI k rfl rfl rfl);(case' ka=>intro hc k;(fail_if_success (have q:(true = true):=hc));(fail_if_success (have q:(false = false):=hc)));(case' kb=>intro hc k;(fail_if_success (have q:(true = true):=hc));(fail_if_success (have q:(false = false):=hc))))
     | (apply xA k rfl rfl;(case' ka=>intro hc k);(case' kb=>intro k))
     | exact k.h)):G:=h
theorem LO {G:Prop} (h:G:=by
   repeat' (first
     | refine cl ?_
     | refine bh ?_
     | refine bx ?_
     | refine bz ?_
     | refine cm ?_
     | refine aW ?_
     | refine cv dm ?_
     | refine cj ?_
     | refine ck (by kernel_rfl) ?_
     | ((first|apply aB rfl|apply aC rfl|apply aD rfl|apply aF rfl);focus (first|exact lW|exact xB|fail))
     | (apply xy k rfl rfl;(focus (clear k;intro hc;(repeat rw [List.length_map] at hc);exact cP hc));intro hc k;(repeat rw [List.length_map] at hc))
     | (apply xz k rfl rfl;(focus (clear k;intro hc;(repeat rw [List.length_map] at hc);exact cP hc));intro hc k;(repeat rw [List.length_map] at hc))
     | (apply xx k rfl rfl;(case' ka=>intro hc k;(repeat rw [List.length_map] at hc));(case' kb=>intro hc k;(repeat rw [List.length_map] at hc)))
     | with_reducible refine bB ?_
     | with_reducible refine bD ?_
     | with_reducible refine bF ?_
     | with_reducible refine dv ?_
     | with_reducible refine dw ?_
     | with_reducible refine bG ?_
     | refine bi rfl ?_
     | (apply xA k rfl rfl;(case' ka=>intro hc k);(case' kb=>intro k))
     | exact k.h)):G:=h
theorem w0 {Q G:Prop} (k:Q) (h:Kq Q → G:=by
   intro k
   exact Mk):G:=h ⟨k⟩
theorem bm {Q G:Prop} (k:Q) (h:Kq Q → G:=by
   intro k
   exact LN):G:=h ⟨k⟩
theorem wH {Q G:Prop} (k:Q) (h:Kq Q → G:=by
   intro k
   exact LO):G:=h ⟨k⟩
end Go.Proofs.YtembiemaiacdfaaGreat
