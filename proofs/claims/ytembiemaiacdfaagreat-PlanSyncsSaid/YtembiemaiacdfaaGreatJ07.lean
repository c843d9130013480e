/- Texts joined: AbsY AbsX. -/
import Derived.Test.YtembiemaiacdfaaGreatJ04
import Derived.WalkSpells
import Derived.Test.YtembiemaiacdfaaGreatJ05
import Derived.Test.YtembiemaiacdfaaGreatJ06
set_option maxRecDepth 10000
set_option maxHeartbeats 8000000
namespace Go.Proofs.YtembiemaiacdfaaGreat
open Go.RowKit
section
variable {n:Nat} {S:St}
end
def Kx (es:List (List PV)):PV:=⟨fun _ _ u=>∃ b,u = .bool b ∧ (b = true → es = []),fun _ _ _ h=>h⟩
section
variable {P:Program} {n:Nat} {ops:Array Oper} {o:Oper} {S:St} {t:Nat}
theorem Ai {ty e:TypeId} {x y:Operand} {a:Option Addr} {l c:Nat} (hT:P.underlying ty = some (.slice e)) (w:World):(do eqGuard .eql ty x y (.slice a l c) (.slice none 0 0);binOp .eql ty (.slice a l c) (.slice none 0 0)).run P w = .ok (.bool a.isNone) w:=by
 rw [show eqGuard .eql ty x y (.slice a l c) (.slice none 0 0) = pure () from rfl]
 exact Lib.run_eql_slice_nil w _ _ a l c 0 0 hT
theorem LD {ty ty' e:TypeId} {x:Operand} {k:Nat} {es:List (List PV)} (hp:Pl n o t) (ho:o.op = .binOp .eql ty x (.const (.slice none 0 0)) ty') (hT:fK P ty (.slice e)) (hx:x5 (ec S x) S x k es) :
   an n P ops o (ec S x) (.per (Kx es)) [] S:=
 aP hp fun C T g a w hA hR=>by
   obtain ⟨ad,c,b,of,hv,_,_,_,h5,_⟩:=hx n C T g a w hA hR
   refine ⟨.bool ad.isNone,eP ho hv rfl (Ai hT.h w),_,rfl,fun hn=>?_⟩
   rcases Nat.eq_zero_or_pos es.length with q|q
   · exact List.eq_nil_of_length_eq_zero q
   · rw [(h5 q).1] at hn;cases hn
theorem Ky {ty ty' e:TypeId} {x:Operand} {k:Nat} {es:List (List PV)} (hp:Pl n o t) (ho:o.op = .binOp .eql ty x (.const (.slice none 0 0)) ty') (hT:fK P ty (.slice e)) (hx:x5 (ec S x) S x k es) (h0:0 < es.length) :
   an n P ops o (ec S x) (bC false) [] S:=
 aP hp fun C T g a w hA hR=>by
   obtain ⟨ad,c,b,of,hv,_,_,_,h5,_⟩:=hx n C T g a w hA hR
   exact ⟨.bool false,eP ho hv rfl ((Ai hT.h w).trans (by rw [(h5 h0).1];rfl)),rfl⟩
theorem br {Q:Exit → St → Prop} {c:Operand} {x y:Code} {es:List (List PV)} (hc:c = .tmp t) (hb:S.get t = .per (Kx es))
   (h1:es = [] → AW P n x Q S) (h2:AW P n y Q S):AW P n (.cond c x y) Q S:=⟨fun C a w hr=>by
 obtain ⟨g,hg⟩:=hr
 have:=hg.slots t
 rw [hb] at this
 obtain ⟨b,hv,hn⟩:=this
 subst hc
 exact wp_cond_split (t:=b) hv (fun h=>(h1 (hn h)).run C a w ⟨g,hg⟩) (fun _=>h2.run C a w ⟨g,hg⟩)⟩
theorem tI {w:World} {ty e:TypeId} {k len i:Nat} {kk:IntKind} {b of:Nat} (hT:P.underlying ty = some (.array len e)) (hk:P.cellsOf e = k) (h0:0 < k) (hi:i < len) :
   (Instr.indexAt ty (.pointer (some ⟨b,of,none⟩)) (.int kk (i:Int))).run P w = .ok (.pointer (some ⟨b,of + i * k,none⟩)) w:=by
 have hel:P.elem ty = e:=by unfold Program.elem;rw [hT]
 have hal:P.arrayLen ty = len:=by unfold Program.arrayLen;rw [hT]
 rw [run_indexAt_array (h:=by rw [hel,hal];exact hT),hal,if_pos ⟨by omega,by omega⟩,hel,er hk h0]
 simp [Result.andThen,Addr.add_lit]
theorem En {ty e:TypeId} {x ix:Operand} {id vr off k i len:Nat} {kk:IntKind} {z:Int} (hp:Pl n o t) (ho:o.op = .indexAddr ty x ix) (hT:fK P ty (.array len e)) (hk:gI P e k) (h0:Nat.blt 0 k = true)
   (hx:S.opd x = .ptr id vr off) (hv:S.ver id = vr) (hi:S.opd ix = iC kk z) (hz:z = (i:Int)) (hlt:i < len):an n P ops o ((2 * id + 1) :: (ax x ++ ax ix)) (.ptr id vr (off + i * k)) [] S:=
 aP hp fun C T g a w hA hR=>by
   have h:=aB (x:=x) hA (fun k h=>by simp [h]) hR
   rw [hx] at h
   have h3:=aW (x:=ix) hA (fun k h=>by simp [h]) hR hi
   have hv':=(hA.2 id (by simp)).2
   have hev:=h.2 (by omega)
   refine ⟨.pointer (some ⟨g.ph id,off + i * k,none⟩),?_,⟨by omega,fun _=>rfl⟩⟩
   subst hz
   simp only [execOp,ho,hev,h3,Sem.run_bind,tI hT.h hk.h (Nat.le_of_ble_eq_true h0) hlt];rfl
theorem mV {ty e:TypeId} {x ix:Operand} {i len:Nat} {kk:IntKind} {z:Int} {As:List PV} {A:PV} (hp:Pl n o t) (ho:o.op = .index ty x ix) (hT:fK P ty (.array len e)) (hk:gI P e 1) (hE:dx P e false)
   (hx:S.opd x = .per (bP As)) (hi:S.opd ix = iC kk z) (hz:z = (i:Int)) (hlt:i < len) (hA0:As[i]? = some A):an n P ops o (ax x ++ ax ix) (.per A) [] S:=
 aP hp fun C T g a w hA hR=>by
   have h:=aB (x:=x) hA (fun k h=>by simp [h]) hR
   rw [hx] at h
   obtain ⟨vs,hev,_,q⟩:=h
   obtain ⟨y,q1,_,q3⟩:=q i A hA0
   have h3:=aW (x:=ix) hA (fun k h=>by simp [h]) hR hi
   obtain ⟨d,hd,hd'⟩:=hE.h
   refine ⟨y,?_,q3⟩
   subst hz
   simp only [execOp,ho,hev,h3,Instr.index,asIntOf,Sem.run_bind,Sem.run_pure,Result.andThen_ok,run_underlying hT.h]
   rw [if_pos ⟨by omega,by omega⟩]
   simp only [Sem.run_bind,er hk.h (by decide),Result.andThen_ok,part,lw hd,hd']
   simp [q1]
end
theorem vN (l:List Cnt) (j:Nat) (c:Cnt) (h:j < l.length):gW l j [c] = l.set j c:=by
 unfold gW
 rw [List.set_eq_take_append_cons_drop,if_pos h]
 rfl
def LF (c c':Cnt):Prop:=∀ (C:Ctx) (vr:Nat → Nat) (g:Gh) (w:World) (v:Value),crep C vr g w v c → crep C vr g w v c'
theorem Iq {k:Nat}:LF (.per (aq (.slice none 0 0))) (.per (ct k [])):=fun C vr g w v h=>by
 have h:v = .slice none 0 0:=h
 rw [h]
 exact ⟨none,0,0,0,rfl,by simp,by decide,fun _=>rfl,by simp,fun i cs hi=>by simp at hi⟩
theorem Eo {n:Nat} {S:St} (id e:Nat) {cells cells':List Cnt} (hb:S.blk id = .box e cells) (hl:cells'.length = cells.length) (h:∀ (j:Nat) (c c':Cnt),cells[j]? = some c → cells'[j]? = some c' → LF c c') :
   Le n S (S.app none .any [(id,S.ver id,.box e cells')]):=by
 rintro C a w ⟨g,hR⟩
 have hvr:∀ i,(S.app none .any [(id,S.ver id,.box e cells')]).ver i = S.ver i:=fun i=>by
   rw [St.app_some_ver];split
   · rename_i e;rw [e]
   · rfl
 refine ⟨g,hR.defers,hR.tsz,hR.nle,hR.keep,hR.os,hR.tape,hR.output,hR.size,hR.old,hR.n0,hR.n0l,hR.dom,fun t=>?_,fun i=>?_⟩
 · rw [show (S.app none .any [(id,S.ver id,.box e cells')]).ver = S.ver from funext hvr,St.app_get]
   exact hR.slots t
 · rw [show (S.app none .any [(id,S.ver id,.box e cells')]).ver = S.ver from funext hvr,St.app_some_blk]
   split
   · rename_i hi
     subst hi
     have h0:=hR.blks i
     rw [hb] at h0
     obtain ⟨cs,q1,q2,q3,q4⟩:=h0
     refine ⟨cs,q1,q2,by rw [q3,hl],fun j c' hj=>?_⟩
     have hjl:j < cells.length:=by have:=(List.getElem?_eq_some_iff.1 hj).1;omega
     obtain ⟨y,r1,r2,r3⟩:=q4 j _ (List.getElem?_eq_getElem hjl)
     exact ⟨y,r1,r2,h j _ c' (List.getElem?_eq_getElem hjl) hj C _ g w y r3⟩
   · exact hR.blks i
end Go.Proofs.YtembiemaiacdfaaGreat
namespace Go.Proofs.YtembiemaiacdfaaGreat
open Go.RowKit
variable {P:Program} {n:Nat} {ops:Array Oper} {o:Oper} {F:List Nat} {S:St} {c:Cnt} {b:Upd}
def LG:Op → Bool
 | .binOp p _ _ _ _=>match p with
   | .lss|.leq|.gtr|.geq|.eql|.neq=>true
   | _=>false
 | _=>false
def LH:Op → Bool
 | .binOp .sub _ _ _ _=>true
 | _=>false
theorem MW (_:LG o.op = true) (h:an n P ops o F c b S):an n P ops o F c b S:=h
theorem MX (_:LH o.op = true) (h:an n P ops o F c b S):an n P ops o F c b S:=h
theorem Ir (h:an n P ops o F c b S:=by
   first
     | exact bT (c:=.per _) ⟨rfl,rfl,rfl⟩ rfl rfl
     | exact bT (c:=.row _ _) ⟨rfl,rfl,rfl⟩ rfl rfl
     | exact bT (c:=.bor _ _) ⟨rfl,rfl,rfl⟩ rfl rfl
     | exact bT (c:=.ptr _ _ _) ⟨rfl,rfl,rfl⟩ rfl rfl
     | exact bT (c:=.tup2 _ _) ⟨rfl,rfl,rfl⟩ rfl rfl
     | exact bT (c:=.tup3 _ _ _) ⟨rfl,rfl,rfl⟩ rfl rfl
     | exact bT (c:=.ept _ _ _ _ _) ⟨rfl,rfl,rfl⟩ rfl rfl
     | exact bT (c:=.vw _ _ _ _ _) ⟨rfl,rfl,rfl⟩ rfl rfl
     | exact bT (c:=.bpt _) ⟨rfl,rfl,rfl⟩ rfl rfl
     | exact bT (c:=.clo1 _ _) ⟨rfl,rfl,rfl⟩ rfl rfl
     | exact bT (c:=.clo2 _ _ _) ⟨rfl,rfl,rfl⟩ rfl rfl
     | exact bT (c:=.clo3 _ _ _ _) ⟨rfl,rfl,rfl⟩ rfl rfl
     | exact bT (c:=.aggK _ _) ⟨rfl,rfl,rfl⟩ rfl rfl
     | exact bT (c:=.any) ⟨rfl,rfl,rfl⟩ rfl rfl
     | fail):an n P ops o F c b S:=h
theorem Iu (h:an n P ops o F c b S:=by
   first
     | exact b8 (c:=.per _) ⟨rfl,rfl,rfl⟩ rfl rfl
     | exact b8 (c:=.row _ _) ⟨rfl,rfl,rfl⟩ rfl rfl
     | exact b8 (c:=.bor _ _) ⟨rfl,rfl,rfl⟩ rfl rfl
     | exact b8 (c:=.ptr _ _ _) ⟨rfl,rfl,rfl⟩ rfl rfl
     | exact b8 (c:=.tup3 _ _ _) ⟨rfl,rfl,rfl⟩ rfl rfl
     | exact b8 (c:=.ept _ _ _ _ _) ⟨rfl,rfl,rfl⟩ rfl rfl
     | exact b8 (c:=.vw _ _ _ _ _) ⟨rfl,rfl,rfl⟩ rfl rfl
     | exact b8 (c:=.bpt _) ⟨rfl,rfl,rfl⟩ rfl rfl
     | exact b8 (c:=.tup2 _ _) ⟨rfl,rfl,rfl⟩ rfl rfl
     | exact b8 (c:=.clo1 _ _) ⟨rfl,rfl,rfl⟩ rfl rfl
     | exact b8 (c:=.clo2 _ _ _) ⟨rfl,rfl,rfl⟩ rfl rfl
     | exact b8 (c:=.clo3 _ _ _ _) ⟨rfl,rfl,rfl⟩ rfl rfl
     | exact b8 (c:=.aggK _ _) ⟨rfl,rfl,rfl⟩ rfl rfl
     | exact b8 (c:=.any) ⟨rfl,rfl,rfl⟩ rfl rfl
     | fail):an n P ops o F c b S:=h
theorem Iv (h:an n P ops o F c b S:=by
   first
     | (apply lu <;> first|exact ⟨rfl,rfl,rfl⟩|rfl|(intro hb0;first|rfl|exact aj rfl (by rw [hb0];rfl)|exact aj rfl (by simp_all)))
     | fail):an n P ops o F c b S:=h
theorem Iw (h:an n P ops o F c b S:=by
   first
     | exact pJ ⟨rfl,rfl,rfl⟩ rfl rfl
     | exact pK ⟨rfl,rfl,rfl⟩ rfl rfl (by first|exact ca rfl rfl|exact cb|exact cJ)
     | exact vG ⟨rfl,rfl,rfl⟩ rfl rfl
     | exact u_box_c (c:=.ptr _ _ _) ⟨rfl,rfl,rfl⟩ rfl rfl (by first|exact cR (by first|exact ca rfl rfl|exact cb|exact cJ)|exact cS rfl|exact cT rfl rfl|exact cU rfl rfl|exact cw|exact cy|exact cz)
     | exact u_box_c (c:=.row _ _) ⟨rfl,rfl,rfl⟩ rfl rfl (by first|exact cR (by first|exact ca rfl rfl|exact cb|exact cJ)|exact cS rfl|exact cT rfl rfl|exact cU rfl rfl|exact cw|exact cy|exact cz)
     | exact u_box_c (c:=.clo1 _ _) ⟨rfl,rfl,rfl⟩ rfl rfl (by first|exact cR (by first|exact ca rfl rfl|exact cb|exact cJ)|exact cS rfl|exact cT rfl rfl|exact cU rfl rfl|exact cw|exact cy|exact cz)
     | fail):an n P ops o F c b S:=h
theorem Iy (h:an n P ops o F c b S:=by
   first
     | exact z8 ⟨rfl,rfl,rfl⟩ rfl inferInstance rfl
     | fail):an n P ops o F c b S:=h
theorem Iz (h:an n P ops o F c b S:=by
   first
     | exact i7 ⟨rfl,rfl,rfl⟩ rfl inferInstance rfl rfl rfl rfl
     | exact f9 ⟨rfl,rfl,rfl⟩ rfl inferInstance inferInstance rfl rfl rfl rfl rfl rfl
     | exact jY ⟨rfl,rfl,rfl⟩ rfl inferInstance rfl rfl
     | exact jZ ⟨rfl,rfl,rfl⟩ rfl inferInstance inferInstance rfl rfl rfl
     | exact j0 ⟨rfl,rfl,rfl⟩ rfl inferInstance rfl rfl
     | exact j1 ⟨rfl,rfl,rfl⟩ rfl inferInstance inferInstance rfl rfl rfl
     | exact Ih ⟨rfl,rfl,rfl⟩ rfl inferInstance inferInstance rfl rfl rfl rfl rfl rfl
     | fail):an n P ops o F c b S:=h
theorem IA (h:an n P ops o F c b S:=by
   first
     | exact vo ⟨rfl,rfl⟩ rfl inferInstance rfl rfl rfl rfl rfl (by first|exact ca rfl rfl|exact cb|exact cJ)
     | exact jt ⟨rfl,rfl⟩ rfl inferInstance rfl rfl rfl rfl rfl rfl rfl
     | exact fW (c:=.ptr _ _ _) ⟨rfl,rfl⟩ rfl inferInstance rfl rfl rfl rfl rfl (by first|exact cR (by first|exact ca rfl rfl|exact cb|exact cJ)|exact cS rfl|exact cT rfl rfl|exact cU rfl rfl|exact cw|exact cy|exact cz)
     | exact fW (c:=.row _ _) ⟨rfl,rfl⟩ rfl inferInstance rfl rfl rfl rfl rfl (by first|exact cR (by first|exact ca rfl rfl|exact cb|exact cJ)|exact cS rfl|exact cT rfl rfl|exact cU rfl rfl|exact cw|exact cy|exact cz)
     | exact fW (c:=.clo1 _ _) ⟨rfl,rfl⟩ rfl inferInstance rfl rfl rfl rfl rfl (by first|exact cR (by first|exact ca rfl rfl|exact cb|exact cJ)|exact cS rfl|exact cT rfl rfl|exact cU rfl rfl|exact cw|exact cy|exact cz)
     | exact tF ⟨rfl,rfl⟩ rfl inferInstance rfl rfl rfl rfl rfl rfl rfl
     | fail):an n P ops o F c b S:=h
theorem IB (h:an n P ops o F c b S:=by
   first
     | exact pa ⟨rfl,rfl,rfl⟩ rfl inferInstance rfl rfl
     | exact j2 ⟨rfl,rfl,rfl⟩ rfl inferInstance rfl
     | exact j3 ⟨rfl,rfl,rfl⟩ rfl inferInstance rfl
     | exact r0 ⟨rfl,rfl,rfl⟩ rfl inferInstance rfl rfl
     | fail):an n P ops o F c b S:=h
theorem IC (h:an n P ops o F c b S:=by
   first
     | (apply MW;(focus rfl);exact nP ⟨rfl,rfl,rfl⟩ rfl rfl rfl rfl)
     | (apply MX;(focus rfl);first|exact fT ⟨rfl,rfl,rfl⟩ rfl rfl rfl rfl (by with_reducible exact Ig (by omega))|exact fT ⟨rfl,rfl,rfl⟩ rfl rfl rfl rfl (by with_reducible exact sub_one' (by omega)))
     | exact fT ⟨rfl,rfl,rfl⟩ rfl rfl rfl rfl (bU (by first|omega|(simp;omega)|(simp [av];omega)) (by first|omega|(simp;omega)|(simp [av];omega)))
     | exact nP ⟨rfl,rfl,rfl⟩ rfl rfl rfl rfl
     | exact Ij ⟨rfl,rfl,rfl⟩ rfl rfl rfl (by first|omega|(simp;omega)|(simp [av];omega))
     | exact Ik ⟨rfl,rfl,rfl⟩ rfl inferInstance (by first|exact Ef rfl rfl|exact J0 rfl)
     | exact Il ⟨rfl,rfl,rfl⟩ rfl inferInstance (by first|exact Ef rfl rfl|exact J0 rfl)
     | exact Ek ⟨rfl,rfl,rfl⟩ rfl inferInstance rfl
     | exact u_nenil0 ⟨rfl,rfl,rfl⟩ rfl inferInstance rfl
     | exact DE ⟨rfl,rfl,rfl⟩ rfl rfl rfl (by first|decide|omega|(simp;omega)) (Ie (by first|omega|(simp;omega)|(simp [av];omega)) (by first|omega|(simp;omega)|(simp [av];omega)) (by first|omega|(simp;omega)|(simp [av];omega)))
     | exact nQ ⟨rfl,rfl,rfl⟩ rfl rfl rfl (by first|decide|omega|(simp;omega)) (Ic (by first|omega|(simp;omega)|(simp [av];omega)))
     | exact DE ⟨rfl,rfl,rfl⟩ rfl rfl rfl (by first|decide|omega|(simp;omega)) (bU (by first|omega|(simp;omega)|(simp [av];omega)) (by first|omega|(simp;omega)|(simp [av];omega)))
     | exact nQ ⟨rfl,rfl,rfl⟩ rfl rfl rfl (by first|decide|omega|(simp;omega)) rfl
     | exact Ky ⟨rfl,rfl,rfl⟩ rfl inferInstance (by first|exact kK rfl|exact nV rfl rfl rfl|exact nU rfl|exact sr_nil rfl) (by first|assumption|omega|(simp;done)|(simp;omega))
     | exact LD ⟨rfl,rfl,rfl⟩ rfl inferInstance (by first|exact kK rfl|exact nV rfl rfl rfl|exact nU rfl|exact sr_nil rfl)
     | fail):an n P ops o F c b S:=h
theorem IE (h:an n P ops o F c b S:=by
   first
     | exact tu ⟨rfl,rfl,rfl⟩ rfl rfl
     | fail):an n P ops o F c b S:=h
theorem Ep (h:an n P ops o F c b S:=by
   first
     | exact gJ ⟨rfl,rfl,rfl⟩ rfl inferInstance inferInstance rfl (by with_reducible exact BS _)
     | exact gJ ⟨rfl,rfl,rfl⟩ rfl inferInstance inferInstance rfl (bU (by omega) (by omega))
     | exact gJ ⟨rfl,rfl,rfl⟩ rfl inferInstance inferInstance rfl rfl
     | exact H3 ⟨rfl,rfl,rfl⟩ rfl inferInstance inferInstance inferInstance (by first|exact kK rfl|exact nV rfl rfl rfl|exact nU rfl|exact sr_nil rfl)
     | fail):an n P ops o F c b S:=h
theorem Er (h:an n P ops o F c b S:=by
   first
     | exact vv ⟨rfl,rfl,rfl⟩ rfl inferInstance inferInstance rfl rfl (by refine ⟨?_,?_,?_,?_⟩ <;> first|rfl|exact ⟨_,_,rfl,rfl⟩|omega|(simp;done)|(simp;omega)) rfl
     | exact u_sliceD_b ⟨rfl,rfl,rfl⟩ rfl inferInstance inferInstance rfl rfl (by refine ⟨?_,?_,?_,?_⟩ <;> first|rfl|exact ⟨_,_,rfl,rfl⟩|omega|(simp;done)|(simp;omega)) rfl
     | exact vx ⟨rfl,rfl,rfl⟩ rfl inferInstance inferInstance rfl rfl (by refine ⟨?_,?_,?_,?_⟩ <;> first|rfl|exact ⟨_,_,rfl,rfl⟩|omega|(simp;done)|(simp;omega))
     | exact u_sliceT_b ⟨rfl,rfl,rfl⟩ rfl inferInstance inferInstance rfl rfl (by refine ⟨?_,?_,?_,?_⟩ <;> first|rfl|exact ⟨_,_,rfl,rfl⟩|omega|(simp;done)|(simp;omega))
     | exact mP ⟨rfl,rfl,rfl⟩ rfl inferInstance inferInstance rfl rfl (by refine ⟨?_,?_,?_,?_⟩ <;> first|rfl|exact ⟨_,_,rfl,rfl⟩|omega|(simp;done)|(simp;omega))
     | exact u_sliceM_b ⟨rfl,rfl,rfl⟩ rfl inferInstance inferInstance rfl rfl (by refine ⟨?_,?_,?_,?_⟩ <;> first|rfl|exact ⟨_,_,rfl,rfl⟩|omega|(simp;done)|(simp;omega))
     | exact u_slice ⟨rfl,rfl,rfl⟩ rfl inferInstance inferInstance rfl rfl (by refine ⟨?_,?_,?_,?_⟩ <;> first|rfl|exact ⟨_,_,rfl,rfl⟩|omega|(simp;done)|(simp;omega)) rfl
     | exact u_slice_b ⟨rfl,rfl,rfl⟩ rfl inferInstance inferInstance rfl rfl (by refine ⟨?_,?_,?_,?_⟩ <;> first|rfl|exact ⟨_,_,rfl,rfl⟩|omega|(simp;done)|(simp;omega)) rfl
     | exact u_sslice ⟨rfl,rfl,rfl⟩ rfl inferInstance rfl (by refine ⟨?_,?_,?_,?_⟩ <;> first|rfl|exact ⟨_,_,rfl,rfl⟩|omega|(simp;done)|(simp;omega)) rfl
     | fail):an n P ops o F c b S:=h
theorem Es (h:an n P ops o F c b S:=by
   first
     | exact lB ⟨rfl,rfl,rfl⟩ rfl inferInstance inferInstance rfl rfl rfl rfl (i8 (by first|assumption|omega|(simp;done)|(simp;omega)))
     | exact lC ⟨rfl,rfl,rfl⟩ rfl inferInstance inferInstance rfl rfl rfl rfl (i8 (by first|assumption|omega|(simp;done)|(simp;omega)))
     | exact nT ⟨rfl,rfl,rfl⟩ rfl inferInstance inferInstance rfl rfl rfl rfl rfl rfl (by first|assumption|omega|(simp;done)|(simp;omega))
     | exact lB ⟨rfl,rfl,rfl⟩ rfl inferInstance inferInstance rfl rfl rfl rfl rfl
     | exact u_indexZ ⟨rfl,rfl,rfl⟩ rfl inferInstance inferInstance rfl rfl rfl (by first|omega|(simp;omega)|(simp [av];omega)) (by first|assumption|omega|(simp;done)|(simp;omega))
     | exact u_indexZ_b ⟨rfl,rfl,rfl⟩ rfl inferInstance inferInstance rfl rfl rfl (by first|omega|(simp;omega)|(simp [av];omega)) (by first|assumption|omega|(simp;done)|(simp;omega))
     | exact yg ⟨rfl,rfl,rfl⟩ rfl inferInstance inferInstance rfl rfl rfl rfl rfl (by first|omega|(simp;omega)|(simp [av];omega)) (by first|assumption|omega|(simp;done)|(simp;omega))
     | exact En ⟨rfl,rfl,rfl⟩ rfl inferInstance inferInstance rfl rfl rfl rfl rfl (by first|assumption|omega|(simp;done)|(simp;omega))
     | fail):an n P ops o F c b S:=h
theorem Et (h:an n P ops o F c b S:=by
   first
     | exact gu ⟨rfl,rfl,rfl⟩ rfl inferInstance rfl rfl rfl (List.getElem?_eq_getElem (by first|assumption|omega|(simp;done)|(simp;omega)))
     | exact jy ⟨rfl,rfl,rfl⟩ rfl inferInstance rfl rfl (by first|omega|(simp;omega)|(simp [av];omega)) (by first|assumption|omega|(simp;done)|(simp;omega))
     | fail):an n P ops o F c b S:=h
theorem Eu (h:an n P ops o F c b S:=by
   first
     | (solve|(apply Aa <;> first|exact ⟨rfl,rfl,rfl⟩|rfl|infer_instance|(repeat (first|exact cC.nil|(apply cC.cons;(focus (first|exact aK rfl rfl rfl|exact gq rfl|exact gr rfl)))))))
     | (solve|(apply Ej <;> first|exact ⟨rfl,rfl,rfl⟩|rfl|infer_instance|(repeat (first|exact kP.nil|(apply kP.cons;(focus (first|exact partQ_agg rfl|exact ie (c:=.per _) rfl (by first|exact cR (by first|exact ca rfl rfl|exact cb|exact cJ)|exact cS rfl|exact cT rfl rfl|exact cU rfl rfl|exact cw|exact cy|exact cz)|exact ie (c:=.ptr _ _ _) rfl (by first|exact cR (by first|exact ca rfl rfl|exact cb|exact cJ)|exact cS rfl|exact cT rfl rfl|exact cU rfl rfl|exact cw|exact cy|exact cz)|exact ie (c:=.row _ _) rfl (by first|exact cR (by first|exact ca rfl rfl|exact cb|exact cJ)|exact cS rfl|exact cT rfl rfl|exact cU rfl rfl|exact cw|exact cy|exact cz)|exact ie (c:=.clo1 _ _) rfl (by first|exact cR (by first|exact ca rfl rfl|exact cb|exact cJ)|exact cS rfl|exact cT rfl rfl|exact cU rfl rfl|exact cw|exact cy|exact cz)|exact ie (c:=.clo2 _ _ _) rfl (by first|exact cR (by first|exact ca rfl rfl|exact cb|exact cJ)|exact cS rfl|exact cT rfl rfl|exact cU rfl rfl|exact cw|exact cy|exact cz)|exact ie (c:=.clo3 _ _ _ _) rfl (by first|exact cR (by first|exact ca rfl rfl|exact cb|exact cJ)|exact cS rfl|exact cT rfl rfl|exact cU rfl rfl|exact cw|exact cy|exact cz)|exact Ii rfl)))))))
     | fail):an n P ops o F c b S:=h
theorem Ev (h:an n P ops o F c b S:=by
   first
     | exact r6 ⟨rfl,rfl,rfl⟩ rfl inferInstance
     | (solve|(apply vu <;> first|exact ⟨rfl,rfl,rfl⟩|rfl|infer_instance|(repeat (first|exact cC.nil|(apply cC.cons;(focus (first|exact aK rfl rfl rfl|exact gq rfl|exact gr rfl)))))))
     | fail):an n P ops o F c b S:=h
theorem Ew (h:an n P ops o F c b S:=by
   first
     | exact u6 ⟨rfl,rfl,rfl⟩ rfl rfl
     | exact u7 ⟨rfl,rfl,rfl⟩ rfl rfl
     | exact u9 ⟨rfl,rfl,rfl⟩ rfl rfl
     | exact va ⟨rfl,rfl,rfl⟩ rfl rfl
     | exact vb ⟨rfl,rfl,rfl⟩ rfl rfl
     | fail):an n P ops o F c b S:=h
theorem Ex (h:an n P ops o F c b S:=by
   first
     | exact pb ⟨rfl,rfl,rfl⟩ rfl inferInstance rfl
     | exact D0 ⟨rfl,rfl,rfl⟩ rfl inferInstance rfl
     | exact vq ⟨rfl,rfl,rfl⟩ rfl inferInstance rfl
     | exact vt ⟨rfl,rfl,rfl⟩ rfl inferInstance rfl rfl rfl
     | exact vp ⟨rfl,rfl,rfl⟩ rfl inferInstance rfl
     | exact mO ⟨rfl,rfl,rfl⟩ rfl inferInstance rfl rfl rfl
     | exact mN ⟨rfl,rfl,rfl⟩ rfl inferInstance rfl
     | fail):an n P ops o F c b S:=h
theorem Ey (h:an n P ops o F c b S:=by
   first
     | exact JY ⟨rfl,rfl,rfl⟩ rfl inferInstance rfl rfl rfl rfl (by first|exact kK rfl|exact nV rfl rfl rfl|exact nU rfl|exact sr_nil rfl) (by first|omega|(simp;done)|(simp;omega)|(simp [av];done)|(simp [av];omega)|(simp at *;omega)) rfl
     | exact u_appS ⟨rfl,rfl,rfl⟩ rfl inferInstance inferInstance inferInstance rfl rfl rfl rfl (by first|omega|(simp;done)|(simp;omega)|(simp [av];done)|(simp [av];omega)|(simp at *;omega))
     | fail):an n P ops o F c b S:=h
theorem Ez (h:an n P ops o F c b S:=by
   first
     | exact Em ⟨rfl,rfl,rfl⟩ rfl rfl rfl
     | exact Ku ⟨rfl,rfl,rfl⟩ rfl rfl rfl
     | fail):an n P ops o F c b S:=h
theorem EA (h:an n P ops o F c b S:=by
   first
     | exact Ia ⟨rfl,rfl,rfl⟩ rfl rfl rfl
     | exact ye ⟨rfl,rfl,rfl⟩ rfl rfl
     | fail):an n P ops o F c b S:=h
theorem EB (h:an n P ops o F c b S:=by
   first
     | exact op_mkf0 ⟨rfl,rfl,rfl⟩ rfl
     | exact op_mkf1 ⟨rfl,rfl,rfl⟩ rfl
     | exact op_mkf2 ⟨rfl,rfl,rfl⟩ rfl
     | exact op_mkf3 ⟨rfl,rfl,rfl⟩ rfl
     | fail):an n P ops o F c b S:=h
theorem EC (h:an n P ops o F c b S:=by
   first
     | (apply az 8;(focus rfl);exact IC)
     | (apply az 5;(focus rfl);exact Iz)
     | (apply az 0;(focus rfl);exact Ir)
     | (apply az 1;(focus rfl);exact Iu)
     | (apply az 7;(focus rfl);exact IB)
     | (apply az 12;(focus rfl);exact Es)
     | (apply az 2;(focus rfl);exact Iv)
     | (apply az 6;(focus rfl);exact IA)
     | (apply az 10;(focus rfl);exact Ep)
     | (apply az 14;(focus rfl);exact Eu)
     | (apply az 3;(focus rfl);exact Iw)
     | (apply az 4;(focus rfl);exact Iy)
     | (apply az 9;(focus rfl);exact IE)
     | (apply az 11;(focus rfl);exact Er)
     | (apply az 13;(focus rfl);exact Et)
     | (apply az 15;(focus rfl);exact Ev)
     | (apply az 16;(focus rfl);exact Ew)
     | (apply az 17;(focus rfl);exact Ex)
     | (apply az 18;(focus rfl);exact Ey)
     | (apply az 19;(focus rfl);exact Ez)
     | (apply az 21;(focus rfl);exact EA)
     | (apply az 22;(focus rfl);exact EB)
     | fail):an n P ops o F c b S:=h
theorem dY (h:an n P ops o F c b S:=by
   first
     | (apply bx;(focus rfl);first|(apply ag rfl rfl rfl rfl rfl;first|(apply az 2;(focus rfl);first|exact sa ⟨rfl,rfl,rfl⟩ rfl rfl rfl rfl|exact sb ⟨rfl,rfl,rfl⟩ rfl rfl rfl rfl)|exact EC)|exact Kt rfl rfl rfl rfl rfl rfl rfl|exact El rfl rfl rfl rfl rfl rfl)
     | (apply az 2;(focus rfl);first|exact sa ⟨rfl,rfl,rfl⟩ rfl rfl rfl rfl|exact sb ⟨rfl,rfl,rfl⟩ rfl rfl rfl rfl)
     | exact EC):an n P ops o F c b S:=h
end Go.Proofs.YtembiemaiacdfaaGreat
namespace Go.Proofs.YtembiemaiacdfaaGreat
open Go.RowKit
def Ret.frz:Ret → Ret
 | .per A=>.per A
 | .own _ k es=>.per (ct k es)
 | .tup2 c d=>.tup2 c.frz d.frz
 | .tup3 c d e=>.tup3 c.frz d.frz e.frz
theorem Ret.frz_rep {N0:BP} {w w':World} (hN:∀ b,N0 b → b < w.heap.size):∀ {r:Ret} {v:Value},r.rep N0 w w' v → r.frz.rep N0 w w' v:=by
 intro r
 induction r with
 | per A=>intro v h;exact h
 | own e k es=>
   intro v h
   show dH N0 N0 k es w' v
   rcases h with ⟨rfl,rfl⟩|⟨q,cap,cs,rfl,hq,hh,h1,h2,h3,h4⟩
   · exact ⟨none,0,0,0,rfl,by simp,by decide,fun _=>rfl,by simp,fun i cs hi=>by simp at hi⟩
   · have hlt:q < w'.heap.size:=by
       rcases Nat.lt_or_ge q w'.heap.size with h|h
       · exact h
       · rw [Array.getElem?_eq_none h] at hh;cases hh
     refine ⟨_,cap,q,0,rfl,h1,h2,by simp,fun _=>⟨rfl,hlt,fun hn=>by have:=hN q hn;omega⟩,fun i ps hi=>?_⟩
     obtain ⟨r1,r2⟩:=h4 i ps hi
     refine ⟨r1,fun j A hj=>?_⟩
     obtain ⟨y,s1,s2,s3⟩:=r2 j A hj
     exact ⟨y,by rw [Nat.zero_add,dV hh];exact s1,s2,A.mono (Nat.le_refl _) (fun _ _ _=>rfl) (fun b _ hb=>.inl hb) s3⟩
 | tup2 c d ih1 ih2=>rintro v ⟨x,y,rfl,h1,h2⟩;exact ⟨x,y,rfl,ih1 h1,ih2 h2⟩
 | tup3 c d e ih1 ih2 ih3=>rintro v ⟨x,y,z,rfl,h1,h2,h3⟩;exact ⟨x,y,z,rfl,ih1 h1,ih2 h2,ih3 h3⟩
theorem Fn.frz {P:Program} {f:FuncId} {As:List Cnt} {r:Ret} (h:Fn P f As r):Fn P f As r.frz:=
 ⟨h.ent,fun N0 w vs hN ha=>Calls.mono (h.run N0 w vs hN ha) fun _ _ ⟨v,h1,h2,h3⟩=>⟨v,h1,h2,Ret.frz_rep hN h3⟩⟩
section
variable {P:Program} {n:Nat} {ops:Array Oper} {o:Oper} {S:St}
theorem vO {f:FuncId} {x0:Operand} {xs:List Operand} {As:List Cnt} {pre post:List (Nat × Blk)} {r:Cnt} (sg:List (Nat × Nat)) (hf:el P f As pre r post) (hp:BK n o:=by exact ⟨rfl,rfl⟩) (ho:gZ o x0 xs:=by exact ⟨_,rfl⟩) (hx:S.opd x0 = .per (aq (.func (.func f) #[] #[])):=by rfl) (hok:D8 sg = true:=by rfl)
   (hg:oO S sg xs As:=by first|((repeat (first|exact oO.nil|(refine oO.cons ?_ ?_;focus (first|exact mg rfl|exact gq_lst rfl|exact gq_row rfl rfl rfl rfl|exact mh rfl|exact gq_nil rfl|exact gq_nil' rfl|exact kQ rfl rfl))));done)|fail) (hpre:kA S sg pre:=by first|((repeat (first|exact kA.nil|(refine kA.cons rfl rfl ?_)));done)|fail):an n P ops o (ax x0 ++ (ed S xs ++ yi sg)) (r.mp false (iQ sg) z0 (rx S.ver sg)) (kM S post sg sg) S:=
 jw (cs:=[]) sg hp ho (vF hx (fun k h=>by simp [h])) (by simpa using hf) hok (fun p h=>by simp [pT p h]) (hg.gives (fun _ h=>by simp at h ⊢;exact .inr (.inl h)) (fun _ h=>by simp [h])) hpre
end
end Go.Proofs.YtembiemaiacdfaaGreat
namespace Go.Proofs.YtembiemaiacdfaaGreat
open Go.RowKit
class Cl (b:Bool) (p q:outParam Prop):Prop where
 t:b = true → p
 f:b = false → q
instance (priority:=low) {b:Bool}:Cl b (b = true) (b = false):=⟨fun h=>h,fun h=>h⟩
instance {p:Prop} [d:Decidable p]:Cl (decide p) p (¬ p):=⟨of_decide_eq_true,of_decide_eq_false⟩
instance {α:Type} [BEq α] [LawfulBEq α] {a b:α}:Cl (a == b) (a = b) (a ≠ b):=⟨beq_iff_eq.1,beq_eq_false_iff_ne.1⟩
instance {α:Type} [BEq α] [LawfulBEq α] {a b:α}:Cl (a != b) (a ≠ b) (a = b):=⟨bne_iff_ne.1,bne_eq_false_iff_eq.1⟩
instance {b:Bool} {p q:Prop} [h:Cl b p q]:Cl (!b) q p:=⟨fun e=>h.f (by simpa using e),fun e=>h.t (by simpa using e)⟩
section
variable {P:Program} {n t:Nat} {ops:Array Oper} {o:Oper} {F:List Nat} {S:St} {c:Cnt} {b:Upd}
theorem gw {Q:Exit → St → Prop} {c:Operand} {x y:Code} {b:Bool} {p q:Prop} (hc:c = .tmp t) (hb:S.get t = bC b) [h:Cl b p q] (k:(p → AW P n x Q S) ∧ (q → AW P n y Q S)):AW P n (.cond c x y) Q S:=
 dv hc hb (fun e=>k.1 (h.t e)) (fun e=>k.2 (h.f e))
theorem gx {l:List Oper} {Q:St → Prop} {j tg:Nat} {want b:Bool} {p q:Prop} (h1:o.guard = some (j,want)) (h2:(ops[j]?).bind (·.dst) = some tg) (hb:S.get tg = bC b) [h:Cl b p q]
   (k:(p → AL P n ops Q (o :: l) (S.put (some tg) (bC true))) ∧ (q → AL P n ops Q (o :: l) (S.put (some tg) (bC false)))):AL P n ops Q (o :: l) S:=
 lG h1 h2 hb (fun e=>k.1 (h.t e)) (fun e=>k.2 (h.f e))
theorem gy {l:List Oper} {Q:St → Prop} {done:List (List Nat × List Nat)} {j tg:Nat} {want b:Bool} {p q:Prop} (h1:o.guard = some (j,want)) (h2:(ops[j]?).bind (·.dst) = some tg) (hb:S.get tg = bC b) [h:Cl b p q]
   (k:(p → AD P n ops Q done (o :: l) (S.put (some tg) (bC true))) ∧ (q → AD P n ops Q done (o :: l) (S.put (some tg) (bC false)))):AD P n ops Q done (o :: l) S:=
 lH h1 h2 hb (fun e=>k.1 (h.t e)) (fun e=>k.2 (h.f e))
theorem dy {p G:Prop} (hc:p) (h:p → False:=by
   intro hc
   first
     | contradiction
     | omega
     | (simp [*] at hc;done)
     | fail):G:=(h hc).elim
theorem oP {f:FuncId} {As:List Cnt} {r:Ret} (hf:Fn P f As r) (h:Fn P f As r → an n P ops o F c b S:=by
   intro hf
   first
     | exact Mh hf
     | exact Dq hf
     | exact LA hf
     | (apply bx;(focus rfl);apply ag rfl rfl rfl rfl rfl;first|exact Mh hf|exact Dq hf|exact LA hf|fail)
     | fail):an n P ops o F c b S:=h hf
theorem j9 {f:FuncId} {As:List Cnt} {pre post:List (Nat × Blk)} {r:Cnt} (hf:el P f As pre r post) (h:el P f As pre r post → an n P ops o F c b S:=by
   intro hf
   first
     | exact MI hf
     | (apply bx;(focus rfl);apply ag rfl rfl rfl rfl rfl;exact MI hf)
     | fail):an n P ops o F c b S:=h hf
theorem ED {f:FuncId} {As:List Cnt} {pre post:List (Nat × Blk)} {r:Cnt} (hf:el P f As pre r post) (h:el P f As pre r post → an n P ops o F c b S:=by
   intro hf
   first
     | exact MJ hf
     | (apply bx;(focus rfl);apply ag rfl rfl rfl rfl rfl;exact MJ hf)
     | fail):an n P ops o F c b S:=h hf
def bv (_:List (Nat × Nat)) (P:Program) (f:FuncId) (As:List Cnt) (pre:List (Nat × Blk)) (r:Cnt) (post:List (Nat × Blk)):Prop:=el P f As pre r post
theorem IG {sg:List (Nat × Nat)} {f:FuncId} {xs:List Operand} {As:List Cnt} {pre post:List (Nat × Blk)} {r:Cnt} (hf:bv sg P f As pre r post) (hp:BK n o:=by exact ⟨rfl,rfl⟩) (ho:gZ o (.func f) xs:=by exact ⟨_,rfl⟩) (hok:D8 sg = true:=by rfl)
   (hg:oO S sg xs As:=by first|((repeat (first|exact oO.nil|(refine oO.cons ?_ ?_;focus (first|exact mg rfl|exact gq_lst rfl|exact gq_row rfl rfl rfl rfl|exact mh rfl|exact gq_nil rfl|exact gq_nil' rfl|exact kQ rfl rfl))));done)|fail) (hpre:kA S sg pre:=by first|((repeat (first|exact kA.nil|(refine kA.cons rfl rfl ?_)));done)|fail):an n P ops o (ed S xs ++ yi sg) (r.mp false (iQ sg) z0 (rx S.ver sg)) (kM S post sg sg) S:=MV sg hf hp ho hok hg hpre
theorem LI {f:FuncId} {As:List Cnt} {pre post:List (Nat × Blk)} {r:Cnt} (sg:List (Nat × Nat)) (hf:el P f As pre r post) (h:bv sg P f As pre r post → an n P ops o F c b S:=by
   intro hf
   first
     | exact IG hf
     | (apply bx;(focus rfl);apply ag rfl rfl rfl rfl rfl;exact IG hf)
     | fail):an n P ops o F c b S:=h hf
end
end Go.Proofs.YtembiemaiacdfaaGreat
namespace Go.Proofs.YtembiemaiacdfaaGreat
open Go.RowKit
structure W2 (A B:Prop):Prop where
 l:A
 r:B
structure W1 (p:Prop) (A:p → Prop):Prop where
 h:∀ h:p,A h
structure Kq (A:Prop):Prop where
 h:A
theorem Kq.l {p:Prop} {A:p → Prop} (k:Kq (W1 p A)) (h:p):Kq (A h):=⟨k.h.h h⟩
theorem Kq.a {p B:Prop} {A:p → Prop} (k:Kq (W2 (W1 p A) B)) (h:p):Kq (A h):=⟨k.h.l.h h⟩
theorem Kq.b {p B:Prop} {A:p → Prop} (k:Kq (W2 B (W1 p A))) (h:p):Kq (A h):=⟨k.h.r.h h⟩
section
variable {P:Program} {n t:Nat} {ops:Array Oper} {o:Oper} {F:List Nat} {S:St} {c:Cnt} {b:Upd} {l:List Oper} {done:List (List Nat × List Nat)} {j tg:Nat} {want v:Bool} {p q:Prop} {Qa:p → Prop} {Qb:q → Prop}
section
variable {Q:Exit → St → Prop} {c:Operand} {x y:Code}
theorem yn (k:Kq (W2 (W1 p Qa) (W1 q Qb))) (hc:c = .tmp t) (hb:S.get t = bC v) [h:Cl v p q] (ka:(h:p) → Kq (Qa h) → AW P n x Q S) (kb:(h:q) → Kq (Qb h) → AW P n y Q S):AW P n (.cond c x y) Q S:=
 dv hc hb (fun e=>ka (h.t e) (k.a (h.t e))) (fun e=>kb (h.f e) (k.b (h.f e)))
theorem yq (k:Kq (W1 p Qa)) (hc:c = .tmp t) (hb:S.get t = bC v) [h:Cl v p q] (hq:q → False) (ka:(h:p) → Kq (Qa h) → AW P n x Q S):AW P n (.cond c x y) Q S:=
 dv hc hb (fun e=>ka (h.t e) (k.l (h.t e))) (fun e=>(hq (h.f e)).elim)
theorem yt (k:Kq (W1 q Qb)) (hc:c = .tmp t) (hb:S.get t = bC v) [h:Cl v p q] (hp:p → False) (kb:(h:q) → Kq (Qb h) → AW P n y Q S):AW P n (.cond c x y) Q S:=
 dv hc hb (fun e=>(hp (h.t e)).elim) (fun e=>kb (h.f e) (k.l (h.f e)))
theorem yu {es:List (List PV)} {Qa:es = [] → Prop} {Qb:Prop} (k:Kq (W2 (W1 (es = []) Qa) Qb)) (hc:c = .tmp t) (hb:S.get t = .per (Kx es)) (ka:(h:es = []) → Kq (Qa h) → AW P n x Q S) (kb:Kq Qb → AW P n y Q S):AW P n (.cond c x y) Q S:=
 br hc hb (fun e=>ka e (k.a e)) (kb ⟨k.h.r⟩)
end
variable {Q:St → Prop}
theorem EE (k:Kq (W2 (W1 p Qa) (W1 q Qb))) (h1:o.guard = some (j,want)) (h2:(ops[j]?).bind (·.dst) = some tg) (hb:S.get tg = bC v) [h:Cl v p q]
   (ka:(h:p) → Kq (Qa h) → AL P n ops Q (o :: l) (S.put (some tg) (bC true))) (kb:(h:q) → Kq (Qb h) → AL P n ops Q (o :: l) (S.put (some tg) (bC false))):AL P n ops Q (o :: l) S:=
 lG h1 h2 hb (fun e=>ka (h.t e) (k.a (h.t e))) (fun e=>kb (h.f e) (k.b (h.f e)))
theorem EF (k:Kq (W1 p Qa)) (h1:o.guard = some (j,want)) (h2:(ops[j]?).bind (·.dst) = some tg) (hb:S.get tg = bC v) [h:Cl v p q]
   (hq:q → False) (ka:(h:p) → Kq (Qa h) → AL P n ops Q (o :: l) (S.put (some tg) (bC true))):AL P n ops Q (o :: l) S:=
 lG h1 h2 hb (fun e=>ka (h.t e) (k.l (h.t e))) (fun e=>(hq (h.f e)).elim)
theorem EG (k:Kq (W1 q Qb)) (h1:o.guard = some (j,want)) (h2:(ops[j]?).bind (·.dst) = some tg) (hb:S.get tg = bC v) [h:Cl v p q]
   (hp:p → False) (kb:(h:q) → Kq (Qb h) → AL P n ops Q (o :: l) (S.put (some tg) (bC false))):AL P n ops Q (o :: l) S:=
 lG h1 h2 hb (fun e=>(hp (h.t e)).elim) (fun e=>kb (h.f e) (k.l (h.f e)))
theorem EH (k:Kq (W2 (W1 p Qa) (W1 q Qb))) (h1:o.guard = some (j,want)) (h2:(ops[j]?).bind (·.dst) = some tg) (hb:S.get tg = bC v) [h:Cl v p q]
   (ka:(h:p) → Kq (Qa h) → AD P n ops Q done (o :: l) (S.put (some tg) (bC true))) (kb:(h:q) → Kq (Qb h) → AD P n ops Q done (o :: l) (S.put (some tg) (bC false))):AD P n ops Q done (o :: l) S:=
 lH h1 h2 hb (fun e=>ka (h.t e) (k.a (h.t e))) (fun e=>kb (h.f e) (k.b (h.f e)))
theorem EI (k:Kq (W1 p Qa)) (h1:o.guard = some (j,want)) (h2:(ops[j]?).bind (·.dst) = some tg) (hb:S.get tg = bC v) [h:Cl v p q]
   (hq:q → False) (ka:(h:p) → Kq (Qa h) → AD P n ops Q done (o :: l) (S.put (some tg) (bC true))):AD P n ops Q done (o :: l) S:=
 lH h1 h2 hb (fun e=>ka (h.t e) (k.l (h.t e))) (fun e=>(hq (h.f e)).elim)
theorem EJ (k:Kq (W1 q Qb)) (h1:o.guard = some (j,want)) (h2:(ops[j]?).bind (·.dst) = some tg) (hb:S.get tg = bC v) [h:Cl v p q]
   (hp:p → False) (kb:(h:q) → Kq (Qb h) → AD P n ops Q done (o :: l) (S.put (some tg) (bC false))):AD P n ops Q done (o :: l) S:=
 lH h1 h2 hb (fun e=>(hp (h.t e)).elim) (fun e=>kb (h.f e) (k.l (h.f e)))
end
section
variable {P:Program} {n t:Nat} {ops:Array Oper} {o:Oper} {S:St}
theorem EK {ty ty':TypeId} {x y:Operand} {k k':IntKind} {p q z:Int} (hp:Pl n o t) (ho:o.op = .binOp .shr ty x y ty') (hx:S.opd x = iC k p) (hy:S.opd y = iC k' q) (hq:0 ≤ q) (hz:p / 2 ^ min q.toNat k.bits = z):an n P ops o (ax x ++ ax y) (iC k z) [] S:=
 aP hp fun C T g a w hA hR=>by
   have h1:=aW (x:=x) hA (fun k h=>by simp [h]) hR hx
   have h2:=aW (x:=y) hA (fun k h=>by simp [h]) hR hy
   subst hz
   refine ⟨.int k (p / 2 ^ min q.toNat k.bits),eP ho h1 h2 ?_,rfl⟩
   rw [show eqGuard .shr ty x y (.int k p) (.int k' q) = pure () from rfl]
   simp only [binOp_shr,shift_shr_any k k' p q hq]
   rfl
end
theorem wrap_u64 {z:Int} (h1:0 ≤ z) (h2:z ≤ 18446744073709551615):IntKind.u64.wrap z = z:=by
 simp [IntKind.wrap,IntKind.bits,IntKind.signed];omega
theorem EL {z h:Int} (e:z / 2 = h):z / 2 ^ min (1:Int).toNat IntKind.u64.bits = h:=by
 rw [show min (1:Int).toNat IntKind.u64.bits = 1 from rfl,Int.pow_one];exact e
section
variable {P:Program} {n t:Nat} {ops:Array Oper} {o:Oper} {F:List Nat} {S:St} {c:Cnt} {b:Upd}
theorem BX {sg:List (Nat × Nat)} {f:FuncId} {As:List Cnt} {pre post:List (Nat × Blk)} {r:Cnt} (hf:bv sg P f As pre r post) (h:bv sg P f As pre r post → an n P ops o F c b S:=by
   intro hf
   first
     | exact IG hf
     | (apply bx;(focus rfl);apply ag rfl rfl rfl rfl rfl;exact IG hf)
     | fail):an n P ops o F c b S:=h hf
theorem BZ {f:FuncId} {As:List Cnt} {r:Ret} (hf:Fn P f As r) (h:Fn P f As r → an n P ops o F c b S:=by
   intro hf
   first
     | (refine Dq (hf) (hg:=?_);((repeat (first|exact GL.nil|(refine GL.cons ?_ ?_;focus (first|exact aU rfl|exact bc rfl|exact bX rfl rfl rfl|exact bd rfl|exact bZ rfl|exact bt rfl))));done))
     | (apply bx;(focus rfl);apply ag rfl rfl rfl rfl rfl;(refine Dq (hf) (hg:=?_);((repeat (first|exact GL.nil|(refine GL.cons ?_ ?_;focus (first|exact aU rfl|exact bc rfl|exact bX rfl rfl rfl|exact bd rfl|exact bZ rfl|exact bt rfl))));done)))
     | fail):an n P ops o F c b S:=h hf
theorem tJ {f:FuncId} {As:List Cnt} {r:Ret} (hf:Fn P f As r) (h:Fn P f As r → an n P ops o F c b S:=by
   intro hf
   first
     | (refine Mh (hf) (hg:=?_);((repeat (first|exact GL.nil|(refine GL.cons ?_ ?_;focus (first|exact aU rfl|exact bc rfl|exact bX rfl rfl rfl|exact bd rfl|exact bZ rfl|exact bt rfl))));done))
     | (apply bx;(focus rfl);apply ag rfl rfl rfl rfl rfl;(refine Mh (hf) (hg:=?_);((repeat (first|exact GL.nil|(refine GL.cons ?_ ?_;focus (first|exact aU rfl|exact bc rfl|exact bX rfl rfl rfl|exact bd rfl|exact bZ rfl|exact bt rfl))));done)))
     | fail):an n P ops o F c b S:=h hf
theorem yv (h:an n P ops o F c b S:=by
   first
     | (apply az 20;(focus rfl);first|exact oP kc1|exact oP kc2|exact oP kc3|exact oP kc4|exact oP kc5|exact oP kc6|exact oP kc7|exact oP kc8|exact oP kc9|exact oP kc10|exact oP kc11|exact oP kc12|exact oP kc13|exact oP kc14|exact oP kc15|exact oP kc16|exact tJ kf1|exact tJ kf2|exact tJ kf3|exact tJ kf4|exact tJ kf5|exact tJ kf6|exact tJ kf7|exact tJ kf8|exact tJ kf9|exact BZ ko1|exact BZ ko2|exact BZ ko3|exact BZ ko4|exact BZ ko5|exact BZ ko6|exact j9 kr1|exact j9 kr2|exact j9 kr3|exact j9 kr4|exact j9 kr5|exact j9 kr6|exact j9 kr7|exact j9 kr8|exact j9 kr9|exact ED kn1|exact ED kn2|exact ED kn3|exact BX km1|exact BX km2|exact BX km3|exact BX km4|exact BX km5|exact BX km6|fail)
     | fail):an n P ops o F c b S:=h
theorem IH (h:an n P ops o F c b S:=by
   first|exact fT ⟨rfl,rfl,rfl⟩ rfl rfl rfl rfl ((bU (by omega) (by omega)).trans ke1.out)|exact fT ⟨rfl,rfl,rfl⟩ rfl rfl rfl rfl ((bU (by omega) (by omega)).trans ke2.out)|exact fT ⟨rfl,rfl,rfl⟩ rfl rfl rfl rfl ((bU (by omega) (by omega)).trans ke3.out)|fail):an n P ops o F c b S:=h
theorem II (h:an n P ops o F c b S:=by
   first|exact aw ⟨rfl,rfl,rfl⟩ rfl inferInstance rfl rfl rfl kL1.out rfl|exact ae ⟨rfl,rfl,rfl⟩ rfl inferInstance inferInstance rfl rfl rfl kL1.out rfl rfl rfl|exact aw ⟨rfl,rfl,rfl⟩ rfl inferInstance rfl rfl rfl kL2.out rfl|exact ae ⟨rfl,rfl,rfl⟩ rfl inferInstance inferInstance rfl rfl rfl kL2.out rfl rfl rfl|exact aw ⟨rfl,rfl,rfl⟩ rfl inferInstance rfl rfl rfl kL3.out rfl|exact ae ⟨rfl,rfl,rfl⟩ rfl inferInstance inferInstance rfl rfl rfl kL3.out rfl rfl rfl|fail):an n P ops o F c b S:=h
theorem IJ (h:an n P ops o F c b S:=by
   first|exact al ⟨rfl,rfl⟩ rfl inferInstance rfl rfl rfl rfl kL1.out rfl (by first|exact aK rfl rfl rfl|exact .inl rfl) rfl kS1.out|exact al ⟨rfl,rfl⟩ rfl inferInstance rfl rfl rfl rfl kL1.out rfl (by first|exact aK rfl rfl rfl|exact .inl rfl) rfl kS2.out|exact al ⟨rfl,rfl⟩ rfl inferInstance rfl rfl rfl rfl kL2.out rfl (by first|exact aK rfl rfl rfl|exact .inl rfl) rfl kS1.out|exact al ⟨rfl,rfl⟩ rfl inferInstance rfl rfl rfl rfl kL2.out rfl (by first|exact aK rfl rfl rfl|exact .inl rfl) rfl kS2.out|fail):an n P ops o F c b S:=h
theorem IK (h:an n P ops o F c b S:=by
   first|exact EK ⟨rfl,rfl,rfl⟩ rfl rfl rfl (by decide) (EL kh1.out)|exact EK ⟨rfl,rfl,rfl⟩ rfl rfl rfl (by decide) (EL kh2.out)|fail):an n P ops o F c b S:=h
theorem Kz (h:an n P ops o F c b S:=by
   first
     | (apply az 8;(focus rfl);have e:=kh1;exact IK)
     | (apply az 10;(focus rfl);have e:=kh1;exact gJ ⟨rfl,rfl,rfl⟩ rfl inferInstance inferInstance rfl (by with_reducible exact wrap_u64 (by omega) (by omega)))
     | (apply az 8;(focus rfl);have e:=ke1;exact IH)
     | (apply az 5;(focus rfl);have e:=kL1;exact II)
     | (apply az 6;(focus rfl);have e:=kS1;exact IJ)
     | fail):an n P ops o F c b S:=h
end
theorem MY {G:Prop} (h:G:=by
   repeat' (first
     | refine cN ?_
     | refine bD ?_
     | refine cc ?_
     | refine cd ?_
     | refine cO ?_
     | refine bi ?_
     | refine db dX ?_
     | refine cL ?_
     | refine cM (by kernel_rfl) ?_
     | ((first|apply aD rfl|apply aF rfl|apply aG rfl|apply aH rfl);focus (first|exact dY|exact yv|fail))
     | (apply yq k rfl rfl;(focus (clear k;intro hc;(repeat rw [List.length_map] at hc);exact dy hc));intro hc k;(repeat rw [List.length_map] at hc))
     | (apply yt k rfl rfl;(focus (clear k;intro hc;(repeat rw [List.length_map] at hc);exact dy hc));intro hc k;(repeat rw [List.length_map] at hc))
     | (apply yn k rfl rfl;(case' ka=>intro hc k;(repeat rw [List.length_map] at hc));(case' kb=>intro hc k;(repeat rw [List.length_map] at hc)))
     | with_reducible refine ce ?_
     | with_reducible refine cg ?_
     | with_reducible refine ci ?_
     | with_reducible refine d8 ?_
     | with_reducible refine d9 ?_
     | with_reducible refine cj ?_
     | refine bF rfl ?_
     | ((first|apply EF k rfl rfl rfl|apply EI k rfl rfl rfl);(focus (clear k;intro hc;(repeat rw [List.length_map] at hc);exact dy hc));intro hc k;(fail_if_success (have q:(true = true):=hc));(fail_if_success (have q:(false = false):=hc)))
     | ((first|apply EG k rfl rfl rfl|apply EJ k rfl rfl rfl);(focus (clear k;intro hc;(repeat rw [List.length_map] at hc);exact dy hc));intro hc k;(fail_if_success (have q:(true = true):=hc));(fail_if_success (have q:(false = false):=hc)))
     | ((first|apply EE k rfl rfl rfl|apply EH k rfl rfl rfl);(case' ka=>intro hc k;(fail_if_success (have q:(true = true):=hc));(fail_if_success (have q:(false = false):=hc)));(case' kb=>intro hc k;(fail_if_success (have q:(true = true):=hc));(fail_if_success (have q:(false = false):=hc))))
     | (apply yu k rfl rfl;(case' ka=>intro hc k);(case' kb=>intro k))
     | exact k.h)):G:=h
theorem Mu {G:Prop} (h:G:=by
   repeat' (first
     | refine cN ?_
     | refine bD ?_
     | refine cc ?_
     | refine cd ?_
     | refine cO ?_
     | refine bi ?_
     | refine db dX ?_
     | refine cL ?_
     | refine cM (by kernel_rfl) ?_
     | ((first|apply aD rfl|apply aF rfl|apply aG rfl|apply aH rfl);focus (first|exact Kz|exact dY|exact yv|fail))
     | (apply yq k rfl rfl;(focus (clear k;intro hc;(repeat rw [List.length_map] at hc);exact dy hc));intro hc k;(repeat rw [List.length_map] at hc))
     | (apply yt k rfl rfl;(focus (clear k;intro hc;(repeat rw [List.length_map] at hc);exact dy hc));intro hc k;(repeat rw [List.length_map] at hc))
     | (apply yn k rfl rfl;(case' ka=>intro hc k;(repeat rw [List.length_map] at hc));(case' kb=>intro hc k;(repeat rw [List.length_map] at hc)))
     | with_reducible refine ce ?_
     | with_reducible refine cg ?_
     | with_reducible refine ci ?_
     | with_reducible refine d8 ?_
     | with_reducible refine d9 ?_
     | with_reducible refine cj ?_
     | refine bF rfl ?_
     | ((first|apply EF k rfl rfl rfl|apply EI k rfl rfl rfl);(focus (clear k;intro hc;(repeat rw [List.length_map] at hc);exact dy hc));intro hc k;(fail_if_success (have q:(true = true):=hc));(fail_if_success (have q:(false = false):=hc)))
     | ((first|apply EG k rfl rfl rfl|apply EJ k rfl rfl rfl);(focus (clear k;intro hc;(repeat rw [List.length_map] at hc);exact dy hc));intro hc k;(fail_if_success (have q:(true = true):=hc));(fail_if_success (have q:(false = false):=hc)))
     | ((first|apply EE k rfl rfl rfl|apply EH k rfl rfl rfl);(case' ka=>intro hc k;(fail_if_success (have q:(true = true):=hc));(fail_if_success (have q:(false = false):=hc)));(case' kb=>intro hc k;(fail_if_success (have q:(true = true):=hc));(fail_if_success (have q:(false = false):=hc))))
     | (apply yu k rfl rfl;(case' ka=>intro hc k);(case' kb=>intro k))
     | exact k.h)):G:=h
theorem Mv {G:Prop} (h:G:=by
   repeat' (first
     | refine cN ?_
     | refine bD ?_
     | refine cc ?_
     | refine cd ?_
     | refine cO ?_
     | refine bi ?_
     | refine db dX ?_
     | refine cL ?_
     | refine cM (by kernel_rfl) ?_
     | ((first|apply aD rfl|apply aF rfl|apply aG rfl|apply aH rfl);focus (first|exact nY|exact yv|fail))
     | (apply yq k rfl rfl;(focus (clear k;intro hc;(repeat rw [List.length_map] at hc);exact dy hc));intro hc k;(repeat rw [List.length_map] at hc))
     | (apply yt k rfl rfl;(focus (clear k;intro hc;(repeat rw [List.length_map] at hc);exact dy hc));intro hc k;(repeat rw [List.length_map] at hc))
     | (apply yn k rfl rfl;(case' ka=>intro hc k;(repeat rw [List.length_map] at hc));(case' kb=>intro hc k;(repeat rw [List.length_map] at hc)))
     | with_reducible refine ce ?_
     | with_reducible refine cg ?_
     | with_reducible refine ci ?_
     | with_reducible refine d8 ?_
     | with_reducible refine d9 ?_
     | with_reducible refine cj ?_
     | refine bF rfl ?_
     | (apply yu k rfl rfl;(case' ka=>intro hc k);(case' kb=>intro k))
     | exact k.h)):G:=h
theorem w0 {Q G:Prop} (k:Q) (h:Kq Q → G:=by
   intro k
   exact MY):G:=h ⟨k⟩
theorem bq {Q G:Prop} (k:Q) (h:Kq Q → G:=by
   intro k
   exact Mu):G:=h ⟨k⟩
theorem wH {Q G:Prop} (k:Q) (h:Kq Q → G:=by
   intro k
   exact Mv):G:=h ⟨k⟩
end Go.Proofs.YtembiemaiacdfaaGreat
