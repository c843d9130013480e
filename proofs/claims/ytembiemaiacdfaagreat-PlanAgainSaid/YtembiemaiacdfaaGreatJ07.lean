/- Texts joined: AbsY AbsX. -/
import Derived.Test.YtembiemaiacdfaaGreatJ04
import Derived.WalkSpells
import Derived.Test.YtembiemaiacdfaaGreatJ05
import Derived.Test.YtembiemaiacdfaaGreatJ06
set_option maxRecDepth 10000
set_option maxHeartbeats 8000000
namespace Go.Proofs.YtembiemaiacdfaaGreat
open Go.RowKit
section
variable {n:Nat} {S:St}
end
/-! ### slices compared with nil -/
def nilQ (es:List (List PV)):PV:=⟨fun _ _ u=>∃ b,u = .bool b ∧ (b = true → es = []),fun _ _ _ h=>h⟩
section
variable {P:Program} {n:Nat} {ops:Array Oper} {o:Oper} {S:St} {t:Nat}
theorem eqs_run {ty e:TypeId} {x y:Operand} {a:Option Addr} {l c:Nat} (hT:P.underlying ty = some (.slice e)) (w:World):(do eqGuard .eql ty x y (.slice a l c) (.slice none 0 0);binOp .eql ty (.slice a l c) (.slice none 0 0)).run P w = .ok (.bool a.isNone) w:=by
 rw [show eqGuard .eql ty x y (.slice a l c) (.slice none 0 0) = pure () from rfl]
 exact Lib.run_eql_slice_nil w _ _ a l c 0 0 hT
theorem u_eqS {ty ty' e:TypeId} {x:Operand} {k:Nat} {es:List (List PV)} (hp:Pl n o t) (ho:o.op = .binOp .eql ty x (.const (.slice none 0 0)) ty') (hT:Und P ty (.slice e)) (hx:Src (srcN S x) S x k es) :
   OpOk n P ops o (srcN S x) (.per (nilQ es)) [] S:=
 op_val hp fun C T g a w hA hR=>by
   obtain ⟨ad,c,b,of,hv,_,_,_,h5,_⟩:=hx n C T g a w hA hR
   refine ⟨.bool ad.isNone,exec_bin ho hv rfl (eqs_run hT.h w),_,rfl,fun hn=>?_⟩
   rcases Nat.eq_zero_or_pos es.length with q|q
   · exact List.eq_nil_of_length_eq_zero q
   · rw [(h5 q).1] at hn;cases hn
theorem u_eqS1 {ty ty' e:TypeId} {x:Operand} {k:Nat} {es:List (List PV)} (hp:Pl n o t) (ho:o.op = .binOp .eql ty x (.const (.slice none 0 0)) ty') (hT:Und P ty (.slice e)) (hx:Src (srcN S x) S x k es) (h0:0 < es.length) :
   OpOk n P ops o (srcN S x) (bC false) [] S:=
 op_val hp fun C T g a w hA hR=>by
   obtain ⟨ad,c,b,of,hv,_,_,_,h5,_⟩:=hx n C T g a w hA hR
   exact ⟨.bool false,exec_bin ho hv rfl ((eqs_run hT.h w).trans (by rw [(h5 h0).1];rfl)),rfl⟩
theorem AW_cond_nil {Q:Exit → St → Prop} {c:Operand} {x y:Code} {es:List (List PV)} (hc:c = .tmp t) (hb:S.get t = .per (nilQ es))
   (h1:es = [] → AW P n x Q S) (h2:AW P n y Q S):AW P n (.cond c x y) Q S:=⟨fun C a w hr=>by
 obtain ⟨g,hg⟩:=hr
 have:=hg.slots t
 rw [hb] at this
 obtain ⟨b,hv,hn⟩:=this
 subst hc
 exact wp_cond_split (t:=b) hv (fun h=>(h1 (hn h)).run C a w ⟨g,hg⟩) (fun _=>h2.run C a w ⟨g,hg⟩)⟩
/-! ### arrays -/
theorem indexAtA_run {w:World} {ty e:TypeId} {k len i:Nat} {kk:IntKind} {b of:Nat} (hT:P.underlying ty = some (.array len e)) (hk:P.cellsOf e = k) (h0:0 < k) (hi:i < len) :
   (Instr.indexAt ty (.pointer (some ⟨b,of,none⟩)) (.int kk (i:Int))).run P w = .ok (.pointer (some ⟨b,of + i * k,none⟩)) w:=by
 have hel:P.elem ty = e:=by unfold Program.elem;rw [hT]
 have hal:P.arrayLen ty = len:=by unfold Program.arrayLen;rw [hT]
 rw [run_indexAt_array (h:=by rw [hel,hal];exact hT),hal,if_pos ⟨by omega,by omega⟩,hel,sizeOf_run hk h0]
 simp [Result.andThen,Addr.add_lit]
theorem u_indexA {ty e:TypeId} {x ix:Operand} {id vr off k i len:Nat} {kk:IntKind} {z:Int} (hp:Pl n o t) (ho:o.op = .indexAddr ty x ix) (hT:Und P ty (.array len e)) (hk:Siz P e k) (h0:Nat.blt 0 k = true)
   (hx:S.opd x = .ptr id vr off) (hv:S.ver id = vr) (hi:S.opd ix = iC kk z) (hz:z = (i:Int)) (hlt:i < len):OpOk n P ops o ((2 * id + 1) :: (opdN x ++ opdN ix)) (.ptr id vr (off + i * k)) [] S:=
 op_val hp fun C T g a w hA hR=>by
   have h:=opd_rep (x:=x) hA (fun k h=>by simp [h]) hR
   rw [hx] at h
   have h3:=raw_opd (x:=ix) hA (fun k h=>by simp [h]) hR hi
   have hv':=(hA.2 id (by simp)).2
   have hev:=h.2 (by omega)
   refine ⟨.pointer (some ⟨g.ph id,off + i * k,none⟩),?_,⟨by omega,fun _=>rfl⟩⟩
   subst hz
   simp only [execOp,ho,hev,h3,Sem.run_bind,indexAtA_run hT.h hk.h (Nat.le_of_ble_eq_true h0) hlt];rfl
theorem u_idxAgg {ty e:TypeId} {x ix:Operand} {i len:Nat} {kk:IntKind} {z:Int} {As:List PV} {A:PV} (hp:Pl n o t) (ho:o.op = .index ty x ix) (hT:Und P ty (.array len e)) (hk:Siz P e 1) (hE:AggC P e false)
   (hx:S.opd x = .per (aggP As)) (hi:S.opd ix = iC kk z) (hz:z = (i:Int)) (hlt:i < len) (hA0:As[i]? = some A):OpOk n P ops o (opdN x ++ opdN ix) (.per A) [] S:=
 op_val hp fun C T g a w hA hR=>by
   have h:=opd_rep (x:=x) hA (fun k h=>by simp [h]) hR
   rw [hx] at h
   obtain ⟨vs,hev,_,q⟩:=h
   obtain ⟨y,q1,_,q3⟩:=q i A hA0
   have h3:=raw_opd (x:=ix) hA (fun k h=>by simp [h]) hR hi
   obtain ⟨d,hd,hd'⟩:=hE.h
   refine ⟨y,?_,q3⟩
   subst hz
   simp only [execOp,ho,hev,h3,Instr.index,asIntOf,Sem.run_bind,Sem.run_pure,Result.andThen_ok,run_underlying hT.h]
   rw [if_pos ⟨by omega,by omega⟩]
   simp only [Sem.run_bind,sizeOf_run hk.h (by decide),Result.andThen_ok,part,isAgg_run hd,hd']
   simp [q1]
end
theorem setL_set (l:List Cnt) (j:Nat) (c:Cnt) (h:j < l.length):setL l j [c] = l.set j c:=by
 unfold setL
 rw [List.set_eq_take_append_cons_drop,if_pos h]
 rfl
/-! ### contents said in weaker words -/
def ImpC (c c':Cnt):Prop:=∀ (C:Ctx) (vr:Nat → Nat) (g:Gh) (w:World) (v:Value),crep C vr g w v c → crep C vr g w v c'
theorem imp_nil {k:Nat}:ImpC (.per (rawP (.slice none 0 0))) (.per (lstP k [])):=fun C vr g w v h=>by
 have h:v = .slice none 0 0:=h
 rw [h]
 exact ⟨none,0,0,0,rfl,by simp,by decide,fun _=>rfl,by simp,fun i cs hi=>by simp at hi⟩
theorem Le_cells {n:Nat} {S:St} (id e:Nat) {cells cells':List Cnt} (hb:S.blk id = .box e cells) (hl:cells'.length = cells.length) (h:∀ (j:Nat) (c c':Cnt),cells[j]? = some c → cells'[j]? = some c' → ImpC c c') :
   Le n S (S.app none .any [(id,S.ver id,.box e cells')]):=by
 rintro C a w ⟨g,hR⟩
 have hvr:∀ i,(S.app none .any [(id,S.ver id,.box e cells')]).ver i = S.ver i:=fun i=>by
   rw [St.app_some_ver];split
   · rename_i e;rw [e]
   · rfl
 refine ⟨g,hR.defers,hR.tsz,hR.nle,hR.keep,hR.os,hR.tape,hR.output,hR.size,hR.old,hR.n0,hR.n0l,hR.dom,fun t=>?_,fun i=>?_⟩
 · rw [show (S.app none .any [(id,S.ver id,.box e cells')]).ver = S.ver from funext hvr,St.app_get]
   exact hR.slots t
 · rw [show (S.app none .any [(id,S.ver id,.box e cells')]).ver = S.ver from funext hvr,St.app_some_blk]
   split
   · rename_i hi
     subst hi
     have h0:=hR.blks i
     rw [hb] at h0
     obtain ⟨cs,q1,q2,q3,q4⟩:=h0
     refine ⟨cs,q1,q2,by rw [q3,hl],fun j c' hj=>?_⟩
     have hjl:j < cells.length:=by have:=(List.getElem?_eq_some_iff.1 hj).1;omega
     obtain ⟨y,r1,r2,r3⟩:=q4 j _ (List.getElem?_eq_getElem hjl)
     exact ⟨y,r1,r2,h j _ c' (List.getElem?_eq_getElem hjl) hj C _ g w y r3⟩
   · exact hR.blks i
end Go.Proofs.YtembiemaiacdfaaGreat
namespace Go.Proofs.YtembiemaiacdfaaGreat
open Go.RowKit
variable {P:Program} {n:Nat} {ops:Array Oper} {o:Oper} {F:List Nat} {S:St} {c:Cnt} {b:Upd}
def isCmp:Op → Bool
 | .binOp p _ _ _ _=>match p with
   | .lss|.leq|.gtr|.geq|.eql|.neq=>true
   | _=>false
 | _=>false
def isSub:Op → Bool
 | .binOp .sub _ _ _ _=>true
 | _=>false
theorem u_c (_:isCmp o.op = true) (h:OpOk n P ops o F c b S):OpOk n P ops o F c b S:=h
theorem u_m (_:isSub o.op = true) (h:OpOk n P ops o F c b S):OpOk n P ops o F c b S:=h
theorem k0_auto (h:OpOk n P ops o F c b S:=by
   first
     | exact op_move (c:=.per _) ⟨rfl,rfl,rfl⟩ rfl rfl
     | exact op_move (c:=.row _ _) ⟨rfl,rfl,rfl⟩ rfl rfl
     | exact op_move (c:=.bor _ _) ⟨rfl,rfl,rfl⟩ rfl rfl
     | exact op_move (c:=.ptr _ _ _) ⟨rfl,rfl,rfl⟩ rfl rfl
     | exact op_move (c:=.tup2 _ _) ⟨rfl,rfl,rfl⟩ rfl rfl
     | exact op_move (c:=.tup3 _ _ _) ⟨rfl,rfl,rfl⟩ rfl rfl
     | exact op_move (c:=.ept _ _ _ _ _) ⟨rfl,rfl,rfl⟩ rfl rfl
     | exact op_move (c:=.vw _ _ _ _ _) ⟨rfl,rfl,rfl⟩ rfl rfl
     | exact op_move (c:=.bpt _) ⟨rfl,rfl,rfl⟩ rfl rfl
     | exact op_move (c:=.clo1 _ _) ⟨rfl,rfl,rfl⟩ rfl rfl
     | exact op_move (c:=.clo2 _ _ _) ⟨rfl,rfl,rfl⟩ rfl rfl
     | exact op_move (c:=.clo3 _ _ _ _) ⟨rfl,rfl,rfl⟩ rfl rfl
     | exact op_move (c:=.aggK _ _) ⟨rfl,rfl,rfl⟩ rfl rfl
     | exact op_move (c:=.any) ⟨rfl,rfl,rfl⟩ rfl rfl
     | fail):OpOk n P ops o F c b S:=h
theorem k1_auto (h:OpOk n P ops o F c b S:=by
   first
     | exact op_assign (c:=.per _) ⟨rfl,rfl,rfl⟩ rfl rfl
     | exact op_assign (c:=.row _ _) ⟨rfl,rfl,rfl⟩ rfl rfl
     | exact op_assign (c:=.bor _ _) ⟨rfl,rfl,rfl⟩ rfl rfl
     | exact op_assign (c:=.ptr _ _ _) ⟨rfl,rfl,rfl⟩ rfl rfl
     | exact op_assign (c:=.tup3 _ _ _) ⟨rfl,rfl,rfl⟩ rfl rfl
     | exact op_assign (c:=.ept _ _ _ _ _) ⟨rfl,rfl,rfl⟩ rfl rfl
     | exact op_assign (c:=.vw _ _ _ _ _) ⟨rfl,rfl,rfl⟩ rfl rfl
     | exact op_assign (c:=.bpt _) ⟨rfl,rfl,rfl⟩ rfl rfl
     | exact op_assign (c:=.tup2 _ _) ⟨rfl,rfl,rfl⟩ rfl rfl
     | exact op_assign (c:=.clo1 _ _) ⟨rfl,rfl,rfl⟩ rfl rfl
     | exact op_assign (c:=.clo2 _ _ _) ⟨rfl,rfl,rfl⟩ rfl rfl
     | exact op_assign (c:=.clo3 _ _ _ _) ⟨rfl,rfl,rfl⟩ rfl rfl
     | exact op_assign (c:=.aggK _ _) ⟨rfl,rfl,rfl⟩ rfl rfl
     | exact op_assign (c:=.any) ⟨rfl,rfl,rfl⟩ rfl rfl
     | fail):OpOk n P ops o F c b S:=h
theorem k2_auto (h:OpOk n P ops o F c b S:=by
   first
     | (apply op_pick <;> first|exact ⟨rfl,rfl,rfl⟩|rfl|(intro hb0;first|rfl|exact get_gr rfl (by rw [hb0];rfl)|exact get_gr rfl (by simp_all)))
     | fail):OpOk n P ops o F c b S:=h
theorem k3_auto (h:OpOk n P ops o F c b S:=by
   first
     | exact op_box_agg ⟨rfl,rfl,rfl⟩ rfl rfl
     | exact op_box_one ⟨rfl,rfl,rfl⟩ rfl rfl (by first|exact oneP_raw rfl rfl|exact oneP_lst|exact oneP_rp)
     | exact op_box_aggC ⟨rfl,rfl,rfl⟩ rfl rfl
     | exact u_box_c (c:=.ptr _ _ _) ⟨rfl,rfl,rfl⟩ rfl rfl (by first|exact oneQ_per (by first|exact oneP_raw rfl rfl|exact oneP_lst|exact oneP_rp)|exact oneQ_ptr rfl|exact oneQ_row rfl rfl|exact oneQ_obj rfl rfl|exact oneQ_clo1|exact oneQ_clo2|exact oneQ_clo3)
     | exact u_box_c (c:=.row _ _) ⟨rfl,rfl,rfl⟩ rfl rfl (by first|exact oneQ_per (by first|exact oneP_raw rfl rfl|exact oneP_lst|exact oneP_rp)|exact oneQ_ptr rfl|exact oneQ_row rfl rfl|exact oneQ_obj rfl rfl|exact oneQ_clo1|exact oneQ_clo2|exact oneQ_clo3)
     | exact u_box_c (c:=.clo1 _ _) ⟨rfl,rfl,rfl⟩ rfl rfl (by first|exact oneQ_per (by first|exact oneP_raw rfl rfl|exact oneP_lst|exact oneP_rp)|exact oneQ_ptr rfl|exact oneQ_row rfl rfl|exact oneQ_obj rfl rfl|exact oneQ_clo1|exact oneQ_clo2|exact oneQ_clo3)
     | fail):OpOk n P ops o F c b S:=h
theorem k4_auto (h:OpOk n P ops o F c b S:=by
   first
     | exact u_alloc ⟨rfl,rfl,rfl⟩ rfl inferInstance rfl
     | fail):OpOk n P ops o F c b S:=h
theorem k5_auto (h:OpOk n P ops o F c b S:=by
   first
     | exact u_load1 ⟨rfl,rfl,rfl⟩ rfl inferInstance rfl rfl rfl rfl
     | exact u_loadA ⟨rfl,rfl,rfl⟩ rfl inferInstance inferInstance rfl rfl rfl rfl rfl rfl
     | exact u_load_rp1 ⟨rfl,rfl,rfl⟩ rfl inferInstance rfl rfl
     | exact u_load_rpA ⟨rfl,rfl,rfl⟩ rfl inferInstance inferInstance rfl rfl rfl
     | exact u_load_bp1 ⟨rfl,rfl,rfl⟩ rfl inferInstance rfl rfl
     | exact u_load_bpA ⟨rfl,rfl,rfl⟩ rfl inferInstance inferInstance rfl rfl rfl
     | exact u_loadC ⟨rfl,rfl,rfl⟩ rfl inferInstance inferInstance rfl rfl rfl rfl rfl rfl
     | fail):OpOk n P ops o F c b S:=h
theorem k6_auto (h:OpOk n P ops o F c b S:=by
   first
     | exact u_store1 ⟨rfl,rfl⟩ rfl inferInstance rfl rfl rfl rfl rfl (by first|exact oneP_raw rfl rfl|exact oneP_lst|exact oneP_rp)
     | exact u_storeA ⟨rfl,rfl⟩ rfl inferInstance rfl rfl rfl rfl rfl rfl rfl
     | exact u_store_c (c:=.ptr _ _ _) ⟨rfl,rfl⟩ rfl inferInstance rfl rfl rfl rfl rfl (by first|exact oneQ_per (by first|exact oneP_raw rfl rfl|exact oneP_lst|exact oneP_rp)|exact oneQ_ptr rfl|exact oneQ_row rfl rfl|exact oneQ_obj rfl rfl|exact oneQ_clo1|exact oneQ_clo2|exact oneQ_clo3)
     | exact u_store_c (c:=.row _ _) ⟨rfl,rfl⟩ rfl inferInstance rfl rfl rfl rfl rfl (by first|exact oneQ_per (by first|exact oneP_raw rfl rfl|exact oneP_lst|exact oneP_rp)|exact oneQ_ptr rfl|exact oneQ_row rfl rfl|exact oneQ_obj rfl rfl|exact oneQ_clo1|exact oneQ_clo2|exact oneQ_clo3)
     | exact u_store_c (c:=.clo1 _ _) ⟨rfl,rfl⟩ rfl inferInstance rfl rfl rfl rfl rfl (by first|exact oneQ_per (by first|exact oneP_raw rfl rfl|exact oneP_lst|exact oneP_rp)|exact oneQ_ptr rfl|exact oneQ_row rfl rfl|exact oneQ_obj rfl rfl|exact oneQ_clo1|exact oneQ_clo2|exact oneQ_clo3)
     | exact u_store_aggC ⟨rfl,rfl⟩ rfl inferInstance rfl rfl rfl rfl rfl rfl rfl
     | fail):OpOk n P ops o F c b S:=h
theorem k7_auto (h:OpOk n P ops o F c b S:=by
   first
     | exact u_field ⟨rfl,rfl,rfl⟩ rfl inferInstance rfl rfl
     | exact u_field_rp ⟨rfl,rfl,rfl⟩ rfl inferInstance rfl
     | exact u_field_bp ⟨rfl,rfl,rfl⟩ rfl inferInstance rfl
     | exact u_field_r ⟨rfl,rfl,rfl⟩ rfl inferInstance rfl rfl
     | fail):OpOk n P ops o F c b S:=h
theorem k8_auto (h:OpOk n P ops o F c b S:=by
   first
     | (apply u_c;(focus rfl);exact op_bin ⟨rfl,rfl,rfl⟩ rfl rfl rfl rfl)
     | (apply u_m;(focus rfl);first|exact op_num ⟨rfl,rfl,rfl⟩ rfl rfl rfl rfl (by with_reducible exact sub_one (by omega))|exact op_num ⟨rfl,rfl,rfl⟩ rfl rfl rfl rfl (by with_reducible exact sub_one' (by omega)))
     | exact op_num ⟨rfl,rfl,rfl⟩ rfl rfl rfl rfl (wrap_id64 (by first|omega|(simp;omega)|(simp [chunk_len];omega)) (by first|omega|(simp;omega)|(simp [chunk_len];omega)))
     | exact op_bin ⟨rfl,rfl,rfl⟩ rfl rfl rfl rfl
     | exact op_scat ⟨rfl,rfl,rfl⟩ rfl rfl rfl (by first|omega|(simp;omega)|(simp [chunk_len];omega))
     | exact u_eqnil ⟨rfl,rfl,rfl⟩ rfl inferInstance (by first|exact sp_ptr rfl rfl|exact sp_rp rfl)
     | exact u_nenil ⟨rfl,rfl,rfl⟩ rfl inferInstance (by first|exact sp_ptr rfl rfl|exact sp_rp rfl)
     | exact u_eqnil0 ⟨rfl,rfl,rfl⟩ rfl inferInstance rfl
     | exact u_nenil0 ⟨rfl,rfl,rfl⟩ rfl inferInstance rfl
     | exact op_quo ⟨rfl,rfl,rfl⟩ rfl rfl rfl (by first|decide|omega|(simp;omega)) (quo_pos (by first|omega|(simp;omega)|(simp [chunk_len];omega)) (by first|omega|(simp;omega)|(simp [chunk_len];omega)) (by first|omega|(simp;omega)|(simp [chunk_len];omega)))
     | exact op_rem ⟨rfl,rfl,rfl⟩ rfl rfl rfl (by first|decide|omega|(simp;omega)) (rem_pos (by first|omega|(simp;omega)|(simp [chunk_len];omega)))
     | exact op_quo ⟨rfl,rfl,rfl⟩ rfl rfl rfl (by first|decide|omega|(simp;omega)) (wrap_id64 (by first|omega|(simp;omega)|(simp [chunk_len];omega)) (by first|omega|(simp;omega)|(simp [chunk_len];omega)))
     | exact op_rem ⟨rfl,rfl,rfl⟩ rfl rfl rfl (by first|decide|omega|(simp;omega)) rfl
     | exact u_eqS1 ⟨rfl,rfl,rfl⟩ rfl inferInstance (by first|exact sr_lst rfl|exact sr_row rfl rfl rfl|exact sr_bor rfl|exact sr_nil rfl) (by first|assumption|omega|(simp;done)|(simp;omega))
     | exact u_eqS ⟨rfl,rfl,rfl⟩ rfl inferInstance (by first|exact sr_lst rfl|exact sr_row rfl rfl rfl|exact sr_bor rfl|exact sr_nil rfl)
     | fail):OpOk n P ops o F c b S:=h
theorem k9_auto (h:OpOk n P ops o F c b S:=by
   first
     | exact op_not ⟨rfl,rfl,rfl⟩ rfl rfl
     | fail):OpOk n P ops o F c b S:=h
theorem k10_auto (h:OpOk n P ops o F c b S:=by
   first
     | exact u_conv ⟨rfl,rfl,rfl⟩ rfl inferInstance inferInstance rfl (by with_reducible exact wrap_byte _)
     | exact u_conv ⟨rfl,rfl,rfl⟩ rfl inferInstance inferInstance rfl (wrap_id64 (by omega) (by omega))
     | exact u_conv ⟨rfl,rfl,rfl⟩ rfl inferInstance inferInstance rfl rfl
     | exact u_sb ⟨rfl,rfl,rfl⟩ rfl inferInstance inferInstance inferInstance (by first|exact sr_lst rfl|exact sr_row rfl rfl rfl|exact sr_bor rfl|exact sr_nil rfl)
     | fail):OpOk n P ops o F c b S:=h
theorem k11_auto (h:OpOk n P ops o F c b S:=by
   first
     | exact u_sliceD ⟨rfl,rfl,rfl⟩ rfl inferInstance inferInstance rfl rfl (by refine ⟨?_,?_,?_,?_⟩ <;> first|rfl|exact ⟨_,_,rfl,rfl⟩|omega|(simp;done)|(simp;omega)) rfl
     | exact u_sliceD_b ⟨rfl,rfl,rfl⟩ rfl inferInstance inferInstance rfl rfl (by refine ⟨?_,?_,?_,?_⟩ <;> first|rfl|exact ⟨_,_,rfl,rfl⟩|omega|(simp;done)|(simp;omega)) rfl
     | exact u_sliceT ⟨rfl,rfl,rfl⟩ rfl inferInstance inferInstance rfl rfl (by refine ⟨?_,?_,?_,?_⟩ <;> first|rfl|exact ⟨_,_,rfl,rfl⟩|omega|(simp;done)|(simp;omega))
     | exact u_sliceT_b ⟨rfl,rfl,rfl⟩ rfl inferInstance inferInstance rfl rfl (by refine ⟨?_,?_,?_,?_⟩ <;> first|rfl|exact ⟨_,_,rfl,rfl⟩|omega|(simp;done)|(simp;omega))
     | exact u_sliceM ⟨rfl,rfl,rfl⟩ rfl inferInstance inferInstance rfl rfl (by refine ⟨?_,?_,?_,?_⟩ <;> first|rfl|exact ⟨_,_,rfl,rfl⟩|omega|(simp;done)|(simp;omega))
     | exact u_sliceM_b ⟨rfl,rfl,rfl⟩ rfl inferInstance inferInstance rfl rfl (by refine ⟨?_,?_,?_,?_⟩ <;> first|rfl|exact ⟨_,_,rfl,rfl⟩|omega|(simp;done)|(simp;omega))
     | exact u_slice ⟨rfl,rfl,rfl⟩ rfl inferInstance inferInstance rfl rfl (by refine ⟨?_,?_,?_,?_⟩ <;> first|rfl|exact ⟨_,_,rfl,rfl⟩|omega|(simp;done)|(simp;omega)) rfl
     | exact u_slice_b ⟨rfl,rfl,rfl⟩ rfl inferInstance inferInstance rfl rfl (by refine ⟨?_,?_,?_,?_⟩ <;> first|rfl|exact ⟨_,_,rfl,rfl⟩|omega|(simp;done)|(simp;omega)) rfl
     | exact u_sslice ⟨rfl,rfl,rfl⟩ rfl inferInstance rfl (by refine ⟨?_,?_,?_,?_⟩ <;> first|rfl|exact ⟨_,_,rfl,rfl⟩|omega|(simp;done)|(simp;omega)) rfl
     | fail):OpOk n P ops o F c b S:=h
theorem k12_auto (h:OpOk n P ops o F c b S:=by
   first
     | exact u_index ⟨rfl,rfl,rfl⟩ rfl inferInstance inferInstance rfl rfl rfl rfl (map_get (by first|assumption|omega|(simp;done)|(simp;omega)))
     | exact u_index_b ⟨rfl,rfl,rfl⟩ rfl inferInstance inferInstance rfl rfl rfl rfl (map_get (by first|assumption|omega|(simp;done)|(simp;omega)))
     | exact u_index_r ⟨rfl,rfl,rfl⟩ rfl inferInstance inferInstance rfl rfl rfl rfl rfl rfl (by first|assumption|omega|(simp;done)|(simp;omega))
     | exact u_index ⟨rfl,rfl,rfl⟩ rfl inferInstance inferInstance rfl rfl rfl rfl rfl
     | exact u_indexZ ⟨rfl,rfl,rfl⟩ rfl inferInstance inferInstance rfl rfl rfl (by first|omega|(simp;omega)|(simp [chunk_len];omega)) (by first|assumption|omega|(simp;done)|(simp;omega))
     | exact u_indexZ_b ⟨rfl,rfl,rfl⟩ rfl inferInstance inferInstance rfl rfl rfl (by first|omega|(simp;omega)|(simp [chunk_len];omega)) (by first|assumption|omega|(simp;done)|(simp;omega))
     | exact u_indexZ_r ⟨rfl,rfl,rfl⟩ rfl inferInstance inferInstance rfl rfl rfl rfl rfl (by first|omega|(simp;omega)|(simp [chunk_len];omega)) (by first|assumption|omega|(simp;done)|(simp;omega))
     | exact u_indexA ⟨rfl,rfl,rfl⟩ rfl inferInstance inferInstance rfl rfl rfl rfl rfl (by first|assumption|omega|(simp;done)|(simp;omega))
     | fail):OpOk n P ops o F c b S:=h
theorem k13_auto (h:OpOk n P ops o F c b S:=by
   first
     | exact u_sindex ⟨rfl,rfl,rfl⟩ rfl inferInstance rfl rfl rfl (List.getElem?_eq_getElem (by first|assumption|omega|(simp;done)|(simp;omega)))
     | exact u_sindexZ ⟨rfl,rfl,rfl⟩ rfl inferInstance rfl rfl (by first|omega|(simp;omega)|(simp [chunk_len];omega)) (by first|assumption|omega|(simp;done)|(simp;omega))
     | fail):OpOk n P ops o F c b S:=h
theorem k14_auto (h:OpOk n P ops o F c b S:=by
   first
     | (solve|(apply u_build <;> first|exact ⟨rfl,rfl,rfl⟩|rfl|infer_instance|(repeat (first|exact PartsL.nil|(apply PartsL.cons;(focus (first|exact part_raw rfl rfl rfl|exact part_agg rfl|exact part_lst rfl)))))))
     | (solve|(apply u_buildC <;> first|exact ⟨rfl,rfl,rfl⟩|rfl|infer_instance|(repeat (first|exact PartsQ.nil|(apply PartsQ.cons;(focus (first|exact partQ_agg rfl|exact partQ_one (c:=.per _) rfl (by first|exact oneQ_per (by first|exact oneP_raw rfl rfl|exact oneP_lst|exact oneP_rp)|exact oneQ_ptr rfl|exact oneQ_row rfl rfl|exact oneQ_obj rfl rfl|exact oneQ_clo1|exact oneQ_clo2|exact oneQ_clo3)|exact partQ_one (c:=.ptr _ _ _) rfl (by first|exact oneQ_per (by first|exact oneP_raw rfl rfl|exact oneP_lst|exact oneP_rp)|exact oneQ_ptr rfl|exact oneQ_row rfl rfl|exact oneQ_obj rfl rfl|exact oneQ_clo1|exact oneQ_clo2|exact oneQ_clo3)|exact partQ_one (c:=.row _ _) rfl (by first|exact oneQ_per (by first|exact oneP_raw rfl rfl|exact oneP_lst|exact oneP_rp)|exact oneQ_ptr rfl|exact oneQ_row rfl rfl|exact oneQ_obj rfl rfl|exact oneQ_clo1|exact oneQ_clo2|exact oneQ_clo3)|exact partQ_one (c:=.clo1 _ _) rfl (by first|exact oneQ_per (by first|exact oneP_raw rfl rfl|exact oneP_lst|exact oneP_rp)|exact oneQ_ptr rfl|exact oneQ_row rfl rfl|exact oneQ_obj rfl rfl|exact oneQ_clo1|exact oneQ_clo2|exact oneQ_clo3)|exact partQ_one (c:=.clo2 _ _ _) rfl (by first|exact oneQ_per (by first|exact oneP_raw rfl rfl|exact oneP_lst|exact oneP_rp)|exact oneQ_ptr rfl|exact oneQ_row rfl rfl|exact oneQ_obj rfl rfl|exact oneQ_clo1|exact oneQ_clo2|exact oneQ_clo3)|exact partQ_one (c:=.clo3 _ _ _ _) rfl (by first|exact oneQ_per (by first|exact oneP_raw rfl rfl|exact oneP_lst|exact oneP_rp)|exact oneQ_ptr rfl|exact oneQ_row rfl rfl|exact oneQ_obj rfl rfl|exact oneQ_clo1|exact oneQ_clo2|exact oneQ_clo3)|exact partQ_l rfl)))))))
     | fail):OpOk n P ops o F c b S:=h
theorem k15_auto (h:OpOk n P ops o F c b S:=by
   first
     | exact u_bslice0 ⟨rfl,rfl,rfl⟩ rfl inferInstance
     | (solve|(apply u_bslice <;> first|exact ⟨rfl,rfl,rfl⟩|rfl|infer_instance|(repeat (first|exact PartsL.nil|(apply PartsL.cons;(focus (first|exact part_raw rfl rfl rfl|exact part_agg rfl|exact part_lst rfl)))))))
     | fail):OpOk n P ops o F c b S:=h
theorem k16_auto (h:OpOk n P ops o F c b S:=by
   first
     | exact op_ext2a ⟨rfl,rfl,rfl⟩ rfl rfl
     | exact op_ext2b ⟨rfl,rfl,rfl⟩ rfl rfl
     | exact op_ext3a ⟨rfl,rfl,rfl⟩ rfl rfl
     | exact op_ext3b ⟨rfl,rfl,rfl⟩ rfl rfl
     | exact op_ext3c ⟨rfl,rfl,rfl⟩ rfl rfl
     | fail):OpOk n P ops o F c b S:=h
theorem k17_auto (h:OpOk n P ops o F c b S:=by
   first
     | exact u_len_s ⟨rfl,rfl,rfl⟩ rfl inferInstance rfl
     | exact u_lenM ⟨rfl,rfl,rfl⟩ rfl inferInstance rfl
     | exact u_lenM_b ⟨rfl,rfl,rfl⟩ rfl inferInstance rfl
     | exact u_lenM_r ⟨rfl,rfl,rfl⟩ rfl inferInstance rfl rfl rfl
     | exact u_len ⟨rfl,rfl,rfl⟩ rfl inferInstance rfl
     | exact u_len_r ⟨rfl,rfl,rfl⟩ rfl inferInstance rfl rfl rfl
     | exact u_len_b ⟨rfl,rfl,rfl⟩ rfl inferInstance rfl
     | fail):OpOk n P ops o F c b S:=h
theorem k18_auto (h:OpOk n P ops o F c b S:=by
   first
     | exact u_app ⟨rfl,rfl,rfl⟩ rfl inferInstance rfl rfl rfl rfl (by first|exact sr_lst rfl|exact sr_row rfl rfl rfl|exact sr_bor rfl|exact sr_nil rfl) (by first|omega|(simp;done)|(simp;omega)|(simp [chunk_len];done)|(simp [chunk_len];omega)|(simp at *;omega)) rfl
     | exact u_appS ⟨rfl,rfl,rfl⟩ rfl inferInstance inferInstance inferInstance rfl rfl rfl rfl (by first|omega|(simp;done)|(simp;omega)|(simp [chunk_len];done)|(simp [chunk_len];omega)|(simp at *;omega))
     | fail):OpOk n P ops o F c b S:=h
theorem k19_auto (h:OpOk n P ops o F c b S:=by
   first
     | exact op_max ⟨rfl,rfl,rfl⟩ rfl rfl rfl
     | exact op_min ⟨rfl,rfl,rfl⟩ rfl rfl rfl
     | fail):OpOk n P ops o F c b S:=h
theorem k21_auto (h:OpOk n P ops o F c b S:=by
   first
     | exact op_nilc ⟨rfl,rfl,rfl⟩ rfl rfl rfl
     | exact op_nilc_rp ⟨rfl,rfl,rfl⟩ rfl rfl
     | fail):OpOk n P ops o F c b S:=h
theorem k22_auto (h:OpOk n P ops o F c b S:=by
   first
     | exact op_mkf0 ⟨rfl,rfl,rfl⟩ rfl
     | exact op_mkf1 ⟨rfl,rfl,rfl⟩ rfl
     | exact op_mkf2 ⟨rfl,rfl,rfl⟩ rfl
     | exact op_mkf3 ⟨rfl,rfl,rfl⟩ rfl
     | fail):OpOk n P ops o F c b S:=h
theorem q_auto (h:OpOk n P ops o F c b S:=by
   first
     | (apply u_k 8;(focus rfl);exact k8_auto)
     | (apply u_k 5;(focus rfl);exact k5_auto)
     | (apply u_k 0;(focus rfl);exact k0_auto)
     | (apply u_k 1;(focus rfl);exact k1_auto)
     | (apply u_k 7;(focus rfl);exact k7_auto)
     | (apply u_k 12;(focus rfl);exact k12_auto)
     | (apply u_k 2;(focus rfl);exact k2_auto)
     | (apply u_k 6;(focus rfl);exact k6_auto)
     | (apply u_k 10;(focus rfl);exact k10_auto)
     | (apply u_k 14;(focus rfl);exact k14_auto)
     | (apply u_k 3;(focus rfl);exact k3_auto)
     | (apply u_k 4;(focus rfl);exact k4_auto)
     | (apply u_k 9;(focus rfl);exact k9_auto)
     | (apply u_k 11;(focus rfl);exact k11_auto)
     | (apply u_k 13;(focus rfl);exact k13_auto)
     | (apply u_k 15;(focus rfl);exact k15_auto)
     | (apply u_k 16;(focus rfl);exact k16_auto)
     | (apply u_k 17;(focus rfl);exact k17_auto)
     | (apply u_k 18;(focus rfl);exact k18_auto)
     | (apply u_k 19;(focus rfl);exact k19_auto)
     | (apply u_k 21;(focus rfl);exact k21_auto)
     | (apply u_k 22;(focus rfl);exact k22_auto)
     | fail):OpOk n P ops o F c b S:=h
theorem z_auto (h:OpOk n P ops o F c b S:=by
   first
     | (apply u_g;(focus rfl);first|(apply op_gyes rfl rfl rfl rfl rfl;first|(apply u_k 2;(focus rfl);first|exact op_pick_t ⟨rfl,rfl,rfl⟩ rfl rfl rfl rfl|exact op_pick_f ⟨rfl,rfl,rfl⟩ rfl rfl rfl rfl)|exact q_auto)|exact op_gno rfl rfl rfl rfl rfl rfl rfl|exact op_gnone rfl rfl rfl rfl rfl rfl)
     | (apply u_k 2;(focus rfl);first|exact op_pick_t ⟨rfl,rfl,rfl⟩ rfl rfl rfl rfl|exact op_pick_f ⟨rfl,rfl,rfl⟩ rfl rfl rfl rfl)
     | exact q_auto):OpOk n P ops o F c b S:=h
end Go.Proofs.YtembiemaiacdfaaGreat
namespace Go.Proofs.YtembiemaiacdfaaGreat
open Go.RowKit
def Ret.frz:Ret → Ret
 | .per A=>.per A
 | .own _ k es=>.per (lstP k es)
 | .tup2 c d=>.tup2 c.frz d.frz
 | .tup3 c d e=>.tup3 c.frz d.frz e.frz
theorem Ret.frz_rep {N0:BP} {w w':World} (hN:∀ b,N0 b → b < w.heap.size):∀ {r:Ret} {v:Value},r.rep N0 w w' v → r.frz.rep N0 w w' v:=by
 intro r
 induction r with
 | per A=>intro v h;exact h
 | own e k es=>
   intro v h
   show lstAt N0 N0 k es w' v
   rcases h with ⟨rfl,rfl⟩|⟨q,cap,cs,rfl,hq,hh,h1,h2,h3,h4⟩
   · exact ⟨none,0,0,0,rfl,by simp,by decide,fun _=>rfl,by simp,fun i cs hi=>by simp at hi⟩
   · have hlt:q < w'.heap.size:=by
       rcases Nat.lt_or_ge q w'.heap.size with h|h
       · exact h
       · rw [Array.getElem?_eq_none h] at hh;cases hh
     refine ⟨_,cap,q,0,rfl,h1,h2,by simp,fun _=>⟨rfl,hlt,fun hn=>by have:=hN q hn;omega⟩,fun i ps hi=>?_⟩
     obtain ⟨r1,r2⟩:=h4 i ps hi
     refine ⟨r1,fun j A hj=>?_⟩
     obtain ⟨y,s1,s2,s3⟩:=r2 j A hj
     exact ⟨y,by rw [Nat.zero_add,cell_at hh];exact s1,s2,A.mono (Nat.le_refl _) (fun _ _ _=>rfl) (fun b _ hb=>.inl hb) s3⟩
 | tup2 c d ih1 ih2=>rintro v ⟨x,y,rfl,h1,h2⟩;exact ⟨x,y,rfl,ih1 h1,ih2 h2⟩
 | tup3 c d e ih1 ih2 ih3=>rintro v ⟨x,y,z,rfl,h1,h2,h3⟩;exact ⟨x,y,z,rfl,ih1 h1,ih2 h2,ih3 h3⟩
theorem Fn.frz {P:Program} {f:FuncId} {As:List Cnt} {r:Ret} (h:Fn P f As r):Fn P f As r.frz:=
 ⟨h.ent,fun N0 w vs hN ha=>Calls.mono (h.run N0 w vs hN ha) fun _ _ ⟨v,h1,h2,h3⟩=>⟨v,h1,h2,Ret.frz_rep hN h3⟩⟩
section
variable {P:Program} {n:Nat} {ops:Array Oper} {o:Oper} {S:St}
/-- a call of a function that lies in a slot -/
theorem c_Vx {f:FuncId} {x0:Operand} {xs:List Operand} {As:List Cnt} {pre post:List (Nat × Blk)} {r:Cnt} (sg:List (Nat × Nat)) (hf:FnM P f As pre r post) (hp:PlM n o:=by exact ⟨rfl,rfl⟩) (ho:isCallV o x0 xs:=by exact ⟨_,rfl⟩) (hx:S.opd x0 = .per (rawP (.func (.func f) #[] #[])):=by rfl) (hok:okS sg = true:=by rfl)
   (hg:GMl S sg xs As:=by first|((repeat (first|exact GMl.nil|(refine GMl.cons ?_ ?_;focus (first|exact gq_per rfl|exact gq_lst rfl|exact gq_row rfl rfl rfl rfl|exact gq_bor rfl|exact gq_nil rfl|exact gq_nil' rfl|exact gq_ref rfl rfl))));done)|fail) (hpre:PreM S sg pre:=by first|((repeat (first|exact PreM.nil|(refine PreM.cons rfl rfl ?_)));done)|fail):OpOk n P ops o (opdN x0 ++ (callN S xs ++ sgN sg)) (r.mp false (lk1 sg) z0 (nvM S.ver sg)) (updM S post sg sg) S:=
 op_callM (cs:=[]) sg hp ho (head_raw hx (fun k h=>by simp [h])) (by simpa using hf) hok (fun p h=>by simp [sg_mem p h]) (hg.gives (fun _ h=>by simp at h ⊢;exact .inr (.inl h)) (fun _ h=>by simp [h])) hpre
end
end Go.Proofs.YtembiemaiacdfaaGreat
namespace Go.Proofs.YtembiemaiacdfaaGreat
open Go.RowKit
/-- what a test's two answers say -/
class Cl (b:Bool) (p q:outParam Prop):Prop where
 t:b = true → p
 f:b = false → q
instance (priority:=low) {b:Bool}:Cl b (b = true) (b = false):=⟨fun h=>h,fun h=>h⟩
instance {p:Prop} [d:Decidable p]:Cl (decide p) p (¬ p):=⟨of_decide_eq_true,of_decide_eq_false⟩
instance {α:Type} [BEq α] [LawfulBEq α] {a b:α}:Cl (a == b) (a = b) (a ≠ b):=⟨beq_iff_eq.1,beq_eq_false_iff_ne.1⟩
instance {α:Type} [BEq α] [LawfulBEq α] {a b:α}:Cl (a != b) (a ≠ b) (a = b):=⟨bne_iff_ne.1,bne_eq_false_iff_eq.1⟩
instance {b:Bool} {p q:Prop} [h:Cl b p q]:Cl (!b) q p:=⟨fun e=>h.f (by simpa using e),fun e=>h.t (by simpa using e)⟩
section
variable {P:Program} {n t:Nat} {ops:Array Oper} {o:Oper} {F:List Nat} {S:St} {c:Cnt} {b:Upd}
theorem AW_cl {Q:Exit → St → Prop} {c:Operand} {x y:Code} {b:Bool} {p q:Prop} (hc:c = .tmp t) (hb:S.get t = bC b) [h:Cl b p q] (k:(p → AW P n x Q S) ∧ (q → AW P n y Q S)):AW P n (.cond c x y) Q S:=
 AW_cond_per hc hb (fun e=>k.1 (h.t e)) (fun e=>k.2 (h.f e))
theorem AL_cl {l:List Oper} {Q:St → Prop} {j tg:Nat} {want b:Bool} {p q:Prop} (h1:o.guard = some (j,want)) (h2:(ops[j]?).bind (·.dst) = some tg) (hb:S.get tg = bC b) [h:Cl b p q]
   (k:(p → AL P n ops Q (o :: l) (S.put (some tg) (bC true))) ∧ (q → AL P n ops Q (o :: l) (S.put (some tg) (bC false)))):AL P n ops Q (o :: l) S:=
 AL_gsplit h1 h2 hb (fun e=>k.1 (h.t e)) (fun e=>k.2 (h.f e))
theorem AD_cl {l:List Oper} {Q:St → Prop} {done:List (List Nat × List Nat)} {j tg:Nat} {want b:Bool} {p q:Prop} (h1:o.guard = some (j,want)) (h2:(ops[j]?).bind (·.dst) = some tg) (hb:S.get tg = bC b) [h:Cl b p q]
   (k:(p → AD P n ops Q done (o :: l) (S.put (some tg) (bC true))) ∧ (q → AD P n ops Q done (o :: l) (S.put (some tg) (bC false)))):AD P n ops Q done (o :: l) S:=
 AD_gsplit h1 h2 hb (fun e=>k.1 (h.t e)) (fun e=>k.2 (h.f e))
theorem absd {p G:Prop} (hc:p) (h:p → False:=by
   intro hc
   first
     | contradiction
     | omega
     | (simp [*] at hc;done)
     | fail):G:=(h hc).elim
theorem c_A {f:FuncId} {As:List Cnt} {r:Ret} (hf:Fn P f As r) (h:Fn P f As r → OpOk n P ops o F c b S:=by
   intro hf
   first
     | exact c_F hf
     | exact c_O hf
     | exact c_O2 hf
     | (apply u_g;(focus rfl);apply op_gyes rfl rfl rfl rfl rfl;first|exact c_F hf|exact c_O hf|exact c_O2 hf|fail)
     | fail):OpOk n P ops o F c b S:=h hf
theorem c_RA {f:FuncId} {As:List Cnt} {pre post:List (Nat × Blk)} {r:Cnt} (hf:FnM P f As pre r post) (h:FnM P f As pre r post → OpOk n P ops o F c b S:=by
   intro hf
   first
     | exact c_R hf
     | (apply u_g;(focus rfl);apply op_gyes rfl rfl rfl rfl rfl;exact c_R hf)
     | fail):OpOk n P ops o F c b S:=h hf
theorem c_NA {f:FuncId} {As:List Cnt} {pre post:List (Nat × Blk)} {r:Cnt} (hf:FnM P f As pre r post) (h:FnM P f As pre r post → OpOk n P ops o F c b S:=by
   intro hf
   first
     | exact c_N hf
     | (apply u_g;(focus rfl);apply op_gyes rfl rfl rfl rfl rfl;exact c_N hf)
     | fail):OpOk n P ops o F c b S:=h hf
def FnMs (_:List (Nat × Nat)) (P:Program) (f:FuncId) (As:List Cnt) (pre:List (Nat × Blk)) (r:Cnt) (post:List (Nat × Blk)):Prop:=FnM P f As pre r post
theorem c_Ms {sg:List (Nat × Nat)} {f:FuncId} {xs:List Operand} {As:List Cnt} {pre post:List (Nat × Blk)} {r:Cnt} (hf:FnMs sg P f As pre r post) (hp:PlM n o:=by exact ⟨rfl,rfl⟩) (ho:isCallV o (.func f) xs:=by exact ⟨_,rfl⟩) (hok:okS sg = true:=by rfl)
   (hg:GMl S sg xs As:=by first|((repeat (first|exact GMl.nil|(refine GMl.cons ?_ ?_;focus (first|exact gq_per rfl|exact gq_lst rfl|exact gq_row rfl rfl rfl rfl|exact gq_bor rfl|exact gq_nil rfl|exact gq_nil' rfl|exact gq_ref rfl rfl))));done)|fail) (hpre:PreM S sg pre:=by first|((repeat (first|exact PreM.nil|(refine PreM.cons rfl rfl ?_)));done)|fail):OpOk n P ops o (callN S xs ++ sgN sg) (r.mp false (lk1 sg) z0 (nvM S.ver sg)) (updM S post sg sg) S:=c_M sg hf hp ho hok hg hpre
theorem c_MA {f:FuncId} {As:List Cnt} {pre post:List (Nat × Blk)} {r:Cnt} (sg:List (Nat × Nat)) (hf:FnM P f As pre r post) (h:FnMs sg P f As pre r post → OpOk n P ops o F c b S:=by
   intro hf
   first
     | exact c_Ms hf
     | (apply u_g;(focus rfl);apply op_gyes rfl rfl rfl rfl rfl;exact c_Ms hf)
     | fail):OpOk n P ops o F c b S:=h hf
end
end Go.Proofs.YtembiemaiacdfaaGreat
namespace Go.Proofs.YtembiemaiacdfaaGreat
open Go.RowKit
structure W2 (A B:Prop):Prop where
 l:A
 r:B
structure W1 (p:Prop) (A:p → Prop):Prop where
 h:∀ h:p,A h
structure Kq (A:Prop):Prop where
 h:A
theorem Kq.l {p:Prop} {A:p → Prop} (k:Kq (W1 p A)) (h:p):Kq (A h):=⟨k.h.h h⟩
theorem Kq.a {p B:Prop} {A:p → Prop} (k:Kq (W2 (W1 p A) B)) (h:p):Kq (A h):=⟨k.h.l.h h⟩
theorem Kq.b {p B:Prop} {A:p → Prop} (k:Kq (W2 B (W1 p A))) (h:p):Kq (A h):=⟨k.h.r.h h⟩
section
variable {P:Program} {n t:Nat} {ops:Array Oper} {o:Oper} {F:List Nat} {S:St} {c:Cnt} {b:Upd} {l:List Oper} {done:List (List Nat × List Nat)} {j tg:Nat} {want v:Bool} {p q:Prop} {Qa:p → Prop} {Qb:q → Prop}
section
variable {Q:Exit → St → Prop} {c:Operand} {x y:Code}
theorem AW_cl2 (k:Kq (W2 (W1 p Qa) (W1 q Qb))) (hc:c = .tmp t) (hb:S.get t = bC v) [h:Cl v p q] (ka:(h:p) → Kq (Qa h) → AW P n x Q S) (kb:(h:q) → Kq (Qb h) → AW P n y Q S):AW P n (.cond c x y) Q S:=
 AW_cond_per hc hb (fun e=>ka (h.t e) (k.a (h.t e))) (fun e=>kb (h.f e) (k.b (h.f e)))
theorem AW_clL (k:Kq (W1 p Qa)) (hc:c = .tmp t) (hb:S.get t = bC v) [h:Cl v p q] (hq:q → False) (ka:(h:p) → Kq (Qa h) → AW P n x Q S):AW P n (.cond c x y) Q S:=
 AW_cond_per hc hb (fun e=>ka (h.t e) (k.l (h.t e))) (fun e=>(hq (h.f e)).elim)
theorem AW_clR (k:Kq (W1 q Qb)) (hc:c = .tmp t) (hb:S.get t = bC v) [h:Cl v p q] (hp:p → False) (kb:(h:q) → Kq (Qb h) → AW P n y Q S):AW P n (.cond c x y) Q S:=
 AW_cond_per hc hb (fun e=>(hp (h.t e)).elim) (fun e=>kb (h.f e) (k.l (h.f e)))
theorem AW_clN {es:List (List PV)} {Qa:es = [] → Prop} {Qb:Prop} (k:Kq (W2 (W1 (es = []) Qa) Qb)) (hc:c = .tmp t) (hb:S.get t = .per (nilQ es)) (ka:(h:es = []) → Kq (Qa h) → AW P n x Q S) (kb:Kq Qb → AW P n y Q S):AW P n (.cond c x y) Q S:=
 AW_cond_nil hc hb (fun e=>ka e (k.a e)) (kb ⟨k.h.r⟩)
end
variable {Q:St → Prop}
theorem AL_cl2 (k:Kq (W2 (W1 p Qa) (W1 q Qb))) (h1:o.guard = some (j,want)) (h2:(ops[j]?).bind (·.dst) = some tg) (hb:S.get tg = bC v) [h:Cl v p q]
   (ka:(h:p) → Kq (Qa h) → AL P n ops Q (o :: l) (S.put (some tg) (bC true))) (kb:(h:q) → Kq (Qb h) → AL P n ops Q (o :: l) (S.put (some tg) (bC false))):AL P n ops Q (o :: l) S:=
 AL_gsplit h1 h2 hb (fun e=>ka (h.t e) (k.a (h.t e))) (fun e=>kb (h.f e) (k.b (h.f e)))
theorem AL_clL (k:Kq (W1 p Qa)) (h1:o.guard = some (j,want)) (h2:(ops[j]?).bind (·.dst) = some tg) (hb:S.get tg = bC v) [h:Cl v p q]
   (hq:q → False) (ka:(h:p) → Kq (Qa h) → AL P n ops Q (o :: l) (S.put (some tg) (bC true))):AL P n ops Q (o :: l) S:=
 AL_gsplit h1 h2 hb (fun e=>ka (h.t e) (k.l (h.t e))) (fun e=>(hq (h.f e)).elim)
theorem AL_clR (k:Kq (W1 q Qb)) (h1:o.guard = some (j,want)) (h2:(ops[j]?).bind (·.dst) = some tg) (hb:S.get tg = bC v) [h:Cl v p q]
   (hp:p → False) (kb:(h:q) → Kq (Qb h) → AL P n ops Q (o :: l) (S.put (some tg) (bC false))):AL P n ops Q (o :: l) S:=
 AL_gsplit h1 h2 hb (fun e=>(hp (h.t e)).elim) (fun e=>kb (h.f e) (k.l (h.f e)))
theorem AD_cl2 (k:Kq (W2 (W1 p Qa) (W1 q Qb))) (h1:o.guard = some (j,want)) (h2:(ops[j]?).bind (·.dst) = some tg) (hb:S.get tg = bC v) [h:Cl v p q]
   (ka:(h:p) → Kq (Qa h) → AD P n ops Q done (o :: l) (S.put (some tg) (bC true))) (kb:(h:q) → Kq (Qb h) → AD P n ops Q done (o :: l) (S.put (some tg) (bC false))):AD P n ops Q done (o :: l) S:=
 AD_gsplit h1 h2 hb (fun e=>ka (h.t e) (k.a (h.t e))) (fun e=>kb (h.f e) (k.b (h.f e)))
theorem AD_clL (k:Kq (W1 p Qa)) (h1:o.guard = some (j,want)) (h2:(ops[j]?).bind (·.dst) = some tg) (hb:S.get tg = bC v) [h:Cl v p q]
   (hq:q → False) (ka:(h:p) → Kq (Qa h) → AD P n ops Q done (o :: l) (S.put (some tg) (bC true))):AD P n ops Q done (o :: l) S:=
 AD_gsplit h1 h2 hb (fun e=>ka (h.t e) (k.l (h.t e))) (fun e=>(hq (h.f e)).elim)
theorem AD_clR (k:Kq (W1 q Qb)) (h1:o.guard = some (j,want)) (h2:(ops[j]?).bind (·.dst) = some tg) (hb:S.get tg = bC v) [h:Cl v p q]
   (hp:p → False) (kb:(h:q) → Kq (Qb h) → AD P n ops Q done (o :: l) (S.put (some tg) (bC false))):AD P n ops Q done (o :: l) S:=
 AD_gsplit h1 h2 hb (fun e=>(hp (h.t e)).elim) (fun e=>kb (h.f e) (k.l (h.f e)))
end
section
variable {P:Program} {n t:Nat} {ops:Array Oper} {o:Oper} {F:List Nat} {S:St} {c:Cnt} {b:Upd}
theorem c_SA {sg:List (Nat × Nat)} {f:FuncId} {As:List Cnt} {pre post:List (Nat × Blk)} {r:Cnt} (hf:FnMs sg P f As pre r post) (h:FnMs sg P f As pre r post → OpOk n P ops o F c b S:=by
   intro hf
   first
     | exact c_Ms hf
     | (apply u_g;(focus rfl);apply op_gyes rfl rfl rfl rfl rfl;exact c_Ms hf)
     | fail):OpOk n P ops o F c b S:=h hf
theorem c_OA {f:FuncId} {As:List Cnt} {r:Ret} (hf:Fn P f As r) (h:Fn P f As r → OpOk n P ops o F c b S:=by
   intro hf
   first
     | (refine c_O (hf) (hg:=?_);((repeat (first|exact GL.nil|(refine GL.cons ?_ ?_;focus (first|exact gl_per rfl|exact gl_lst rfl|exact gl_row rfl rfl rfl|exact gl_bor rfl|exact gl_nil rfl|exact gl_nil' rfl))));done))
     | (apply u_g;(focus rfl);apply op_gyes rfl rfl rfl rfl rfl;(refine c_O (hf) (hg:=?_);((repeat (first|exact GL.nil|(refine GL.cons ?_ ?_;focus (first|exact gl_per rfl|exact gl_lst rfl|exact gl_row rfl rfl rfl|exact gl_bor rfl|exact gl_nil rfl|exact gl_nil' rfl))));done)))
     | fail):OpOk n P ops o F c b S:=h hf
theorem c_FA {f:FuncId} {As:List Cnt} {r:Ret} (hf:Fn P f As r) (h:Fn P f As r → OpOk n P ops o F c b S:=by
   intro hf
   first
     | (refine c_F (hf) (hg:=?_);((repeat (first|exact GL.nil|(refine GL.cons ?_ ?_;focus (first|exact gl_per rfl|exact gl_lst rfl|exact gl_row rfl rfl rfl|exact gl_bor rfl|exact gl_nil rfl|exact gl_nil' rfl))));done))
     | (apply u_g;(focus rfl);apply op_gyes rfl rfl rfl rfl rfl;(refine c_F (hf) (hg:=?_);((repeat (first|exact GL.nil|(refine GL.cons ?_ ?_;focus (first|exact gl_per rfl|exact gl_lst rfl|exact gl_row rfl rfl rfl|exact gl_bor rfl|exact gl_nil rfl|exact gl_nil' rfl))));done)))
     | fail):OpOk n P ops o F c b S:=h hf
/-- what is called: named kc1 .. (elder contracts), kf1 .. (two of one function), ko1 .. (own rows), km1 .. (lent by pairs), kr1 .. (at box 1000), kn1 .. (new things) -/
theorem x_auto (h:OpOk n P ops o F c b S:=by
   first
     | (apply u_k 20;(focus rfl);first|exact c_A kc1|exact c_A kc2|exact c_A kc3|exact c_A kc4|exact c_A kc5|exact c_A kc6|exact c_A kc7|exact c_A kc8|exact c_A kc9|exact c_A kc10|exact c_A kc11|exact c_A kc12|exact c_A kc13|exact c_A kc14|exact c_A kc15|exact c_A kc16|exact c_FA kf1|exact c_FA kf2|exact c_FA kf3|exact c_FA kf4|exact c_FA kf5|exact c_FA kf6|exact c_FA kf7|exact c_FA kf8|exact c_FA kf9|exact c_OA ko1|exact c_OA ko2|exact c_OA ko3|exact c_OA ko4|exact c_OA ko5|exact c_OA ko6|exact c_RA kr1|exact c_RA kr2|exact c_RA kr3|exact c_RA kr4|exact c_RA kr5|exact c_RA kr6|exact c_RA kr7|exact c_RA kr8|exact c_RA kr9|exact c_NA kn1|exact c_NA kn2|exact c_NA kn3|exact c_SA km1|exact c_SA km2|exact c_SA km3|exact c_SA km4|exact c_SA km5|exact c_SA km6|fail)
     | fail):OpOk n P ops o F c b S:=h
/-- ke1 ..: what sums are; kL1 .., kS1 ..: what stands at a place of a row, and what the row is when it is set -/
theorem e8_auto (h:OpOk n P ops o F c b S:=by
   first|exact op_num ⟨rfl,rfl,rfl⟩ rfl rfl rfl rfl ((wrap_id64 (by omega) (by omega)).trans ke1.out)|exact op_num ⟨rfl,rfl,rfl⟩ rfl rfl rfl rfl ((wrap_id64 (by omega) (by omega)).trans ke2.out)|exact op_num ⟨rfl,rfl,rfl⟩ rfl rfl rfl rfl ((wrap_id64 (by omega) (by omega)).trans ke3.out)|fail):OpOk n P ops o F c b S:=h
theorem e5_auto (h:OpOk n P ops o F c b S:=by
   first|exact u_load_r1 ⟨rfl,rfl,rfl⟩ rfl inferInstance rfl rfl rfl kL1.out rfl|exact u_load_rA ⟨rfl,rfl,rfl⟩ rfl inferInstance inferInstance rfl rfl rfl kL1.out rfl rfl rfl|exact u_load_r1 ⟨rfl,rfl,rfl⟩ rfl inferInstance rfl rfl rfl kL2.out rfl|exact u_load_rA ⟨rfl,rfl,rfl⟩ rfl inferInstance inferInstance rfl rfl rfl kL2.out rfl rfl rfl|exact u_load_r1 ⟨rfl,rfl,rfl⟩ rfl inferInstance rfl rfl rfl kL3.out rfl|exact u_load_rA ⟨rfl,rfl,rfl⟩ rfl inferInstance inferInstance rfl rfl rfl kL3.out rfl rfl rfl|fail):OpOk n P ops o F c b S:=h
theorem e6_auto (h:OpOk n P ops o F c b S:=by
   first|exact u_store_r ⟨rfl,rfl⟩ rfl inferInstance rfl rfl rfl rfl kL1.out rfl (by first|exact part_raw rfl rfl rfl|exact .inl rfl) rfl kS1.out|exact u_store_r ⟨rfl,rfl⟩ rfl inferInstance rfl rfl rfl rfl kL1.out rfl (by first|exact part_raw rfl rfl rfl|exact .inl rfl) rfl kS2.out|exact u_store_r ⟨rfl,rfl⟩ rfl inferInstance rfl rfl rfl rfl kL2.out rfl (by first|exact part_raw rfl rfl rfl|exact .inl rfl) rfl kS1.out|exact u_store_r ⟨rfl,rfl⟩ rfl inferInstance rfl rfl rfl rfl kL2.out rfl (by first|exact part_raw rfl rfl rfl|exact .inl rfl) rfl kS2.out|fail):OpOk n P ops o F c b S:=h
theorem e_auto (h:OpOk n P ops o F c b S:=by
   first
     | (apply u_k 8;(focus rfl);have e:=ke1;exact e8_auto)
     | (apply u_k 5;(focus rfl);have e:=kL1;exact e5_auto)
     | (apply u_k 6;(focus rfl);have e:=kS1;exact e6_auto)
     | fail):OpOk n P ops o F c b S:=h
end
theorem drv {G:Prop} (h:G:=by
   repeat' (first
     | refine AW_seq ?_
     | refine AW_block ?_
     | refine AW_skip ?_
     | refine AW_exit ?_
     | refine AW_ret ?_
     | refine AW_region ?_
     | refine AW_draw mixed0 ?_
     | refine AL_nil ?_
     | refine AD_nil (by kernel_rfl) ?_
     | ((first|apply AL_t rfl|apply AL_0 rfl|apply AD_t rfl|apply AD_0 rfl);focus (first|exact z_auto|exact x_auto|fail))
     | (apply AW_clL k rfl rfl;(focus (clear k;intro hc;(repeat rw [List.length_map] at hc);exact absd hc));intro hc k;(repeat rw [List.length_map] at hc))
     | (apply AW_clR k rfl rfl;(focus (clear k;intro hc;(repeat rw [List.length_map] at hc);exact absd hc));intro hc k;(repeat rw [List.length_map] at hc))
     | (apply AW_cl2 k rfl rfl;(case' ka=>intro hc k;(repeat rw [List.length_map] at hc));(case' kb=>intro hc k;(repeat rw [List.length_map] at hc)))
     | with_reducible refine thenA_n ?_
     | with_reducible refine thenA_r ?_
     | with_reducible refine thenA_e ?_
     | with_reducible refine inB_n ?_
     | with_reducible refine inB_r ?_
     | with_reducible refine inB_hit ?_
     | refine inB_miss rfl ?_
     | ((first|apply AL_clL k rfl rfl rfl|apply AD_clL k rfl rfl rfl);(focus (clear k;intro hc;(repeat rw [List.length_map] at hc);exact absd hc));intro hc k;(fail_if_success (have q:(true = true):=hc));(fail_if_success (have q:(false = false):=hc)))
     | ((first|apply AL_clR k rfl rfl rfl|apply AD_clR k rfl rfl rfl);(focus (clear k;intro hc;(repeat rw [List.length_map] at hc);exact absd hc));intro hc k;(fail_if_success (have q:(true = true):=hc));(fail_if_success (have q:(false = false):=hc)))
     | ((first|apply AL_cl2 k rfl rfl rfl|apply AD_cl2 k rfl rfl rfl);(case' ka=>intro hc k;(fail_if_success (have q:(true = true):=hc));(fail_if_success (have q:(false = false):=hc)));(case' kb=>intro hc k;(fail_if_success (have q:(true = true):=hc));(fail_if_success (have q:(false = false):=hc))))
     | (apply AW_clN k rfl rfl;(case' ka=>intro hc k);(case' kb=>intro k))
     | exact k.h)):G:=h
theorem drvE {G:Prop} (h:G:=by
   repeat' (first
     | refine AW_seq ?_
     | refine AW_block ?_
     | refine AW_skip ?_
     | refine AW_exit ?_
     | refine AW_ret ?_
     | refine AW_region ?_
     | refine AW_draw mixed0 ?_
     | refine AL_nil ?_
     | refine AD_nil (by kernel_rfl) ?_
     | ((first|apply AL_t rfl|apply AL_0 rfl|apply AD_t rfl|apply AD_0 rfl);focus (first|exact e_auto|exact z_auto|exact x_auto|fail))
     | (apply AW_clL k rfl rfl;(focus (clear k;intro hc;(repeat rw [List.length_map] at hc);exact absd hc));intro hc k;(repeat rw [List.length_map] at hc))
     | (apply AW_clR k rfl rfl;(focus (clear k;intro hc;(repeat rw [List.length_map] at hc);exact absd hc));intro hc k;(repeat rw [List.length_map] at hc))
     | (apply AW_cl2 k rfl rfl;(case' ka=>intro hc k;(repeat rw [List.length_map] at hc));(case' kb=>intro hc k;(repeat rw [List.length_map] at hc)))
     | with_reducible refine thenA_n ?_
     | with_reducible refine thenA_r ?_
     | with_reducible refine thenA_e ?_
     | with_reducible refine inB_n ?_
     | with_reducible refine inB_r ?_
     | with_reducible refine inB_hit ?_
     | refine inB_miss rfl ?_
     | ((first|apply AL_clL k rfl rfl rfl|apply AD_clL k rfl rfl rfl);(focus (clear k;intro hc;(repeat rw [List.length_map] at hc);exact absd hc));intro hc k;(fail_if_success (have q:(true = true):=hc));(fail_if_success (have q:(false = false):=hc)))
     | ((first|apply AL_clR k rfl rfl rfl|apply AD_clR k rfl rfl rfl);(focus (clear k;intro hc;(repeat rw [List.length_map] at hc);exact absd hc));intro hc k;(fail_if_success (have q:(true = true):=hc));(fail_if_success (have q:(false = false):=hc)))
     | ((first|apply AL_cl2 k rfl rfl rfl|apply AD_cl2 k rfl rfl rfl);(case' ka=>intro hc k;(fail_if_success (have q:(true = true):=hc));(fail_if_success (have q:(false = false):=hc)));(case' kb=>intro hc k;(fail_if_success (have q:(true = true):=hc));(fail_if_success (have q:(false = false):=hc))))
     | (apply AW_clN k rfl rfl;(case' ka=>intro hc k);(case' kb=>intro k))
     | exact k.h)):G:=h
theorem w0 {Q G:Prop} (k:Q) (h:Kq Q → G:=by
   intro k
   exact drv):G:=h ⟨k⟩
theorem w0e {Q G:Prop} (k:Q) (h:Kq Q → G:=by
   intro k
   exact drvE):G:=h ⟨k⟩
end Go.Proofs.YtembiemaiacdfaaGreat
