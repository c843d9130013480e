/- Texts joined: AbsT Adapt So. -/
import Derived.Test.YtembiemaiacdfaaGreatJ05
import Derived.Test.YtembiemaiacdfaaGreatJ04
import Derived.Shelf.SlSortCmp.NoneTotal
set_option maxRecDepth 10000
set_option maxHeartbeats 8000000
namespace Go.Proofs.YtembiemaiacdfaaGreat
open Go.RowKit
variable {P:Program} {n:Nat} {ops:Array Oper} {o:Oper} {F:List Nat} {S:St} {c:Cnt} {b:Upd}
theorem Kv (h:an n P ops o F c b S:=by (first|(apply az 0;(focus rfl);first|exact bT (c:=.per _) ⟨rfl,rfl,rfl⟩ rfl rfl|exact bT (c:=.row _ _) ⟨rfl,rfl,rfl⟩ rfl rfl|exact bT (c:=.bor _ _) ⟨rfl,rfl,rfl⟩ rfl rfl|exact bT (c:=.ptr _ _ _) ⟨rfl,rfl,rfl⟩ rfl rfl|exact bT (c:=.tup2 _ _) ⟨rfl,rfl,rfl⟩ rfl rfl)|(apply az 1;(focus rfl);first|exact b8 (c:=.per _) ⟨rfl,rfl,rfl⟩ rfl rfl|exact b8 (c:=.row _ _) ⟨rfl,rfl,rfl⟩ rfl rfl|exact b8 (c:=.bor _ _) ⟨rfl,rfl,rfl⟩ rfl rfl|exact b8 (c:=.ptr _ _ _) ⟨rfl,rfl,rfl⟩ rfl rfl)|(apply az 2;(focus rfl);apply lu <;> first|exact ⟨rfl,rfl,rfl⟩|rfl|(intro hb0;first|rfl|exact aj rfl (by rw [hb0];rfl)|exact aj rfl (by simp_all)))|(apply az 3;(focus rfl);first|exact pJ ⟨rfl,rfl,rfl⟩ rfl rfl|exact pK ⟨rfl,rfl,rfl⟩ rfl rfl (by first|exact ca rfl rfl|exact cb|exact cJ))|(apply az 4;(focus rfl);exact z8 ⟨rfl,rfl,rfl⟩ rfl inferInstance rfl)|(apply az 5;(focus rfl);first|exact i7 ⟨rfl,rfl,rfl⟩ rfl inferInstance rfl rfl rfl rfl|exact f9 ⟨rfl,rfl,rfl⟩ rfl inferInstance inferInstance rfl rfl rfl rfl rfl rfl|exact jY ⟨rfl,rfl,rfl⟩ rfl inferInstance rfl rfl|exact jZ ⟨rfl,rfl,rfl⟩ rfl inferInstance inferInstance rfl rfl rfl|exact j0 ⟨rfl,rfl,rfl⟩ rfl inferInstance rfl rfl|exact j1 ⟨rfl,rfl,rfl⟩ rfl inferInstance inferInstance rfl rfl rfl)|(apply az 6;(focus rfl);first|exact vo ⟨rfl,rfl⟩ rfl inferInstance rfl rfl rfl rfl rfl (by first|exact ca rfl rfl|exact cb|exact cJ)|exact jt ⟨rfl,rfl⟩ rfl inferInstance rfl rfl rfl rfl rfl rfl rfl)|(apply az 7;(focus rfl);first|exact pa ⟨rfl,rfl,rfl⟩ rfl inferInstance rfl rfl|exact j2 ⟨rfl,rfl,rfl⟩ rfl inferInstance rfl|exact j3 ⟨rfl,rfl,rfl⟩ rfl inferInstance rfl|exact r0 ⟨rfl,rfl,rfl⟩ rfl inferInstance rfl rfl)|(apply az 8;(focus rfl);first|exact fT ⟨rfl,rfl,rfl⟩ rfl rfl rfl rfl (bU (by first|omega|(simp;omega)|(simp [av];omega)) (by first|omega|(simp;omega)|(simp [av];omega)))|exact nP ⟨rfl,rfl,rfl⟩ rfl rfl rfl rfl)|(apply az 9;(focus rfl);exact tu ⟨rfl,rfl,rfl⟩ rfl rfl)|(apply az 10;(focus rfl);first|exact gJ ⟨rfl,rfl,rfl⟩ rfl inferInstance inferInstance rfl (bU (by omega) (by omega))|exact gJ ⟨rfl,rfl,rfl⟩ rfl inferInstance inferInstance rfl rfl|exact H3 ⟨rfl,rfl,rfl⟩ rfl inferInstance inferInstance inferInstance (by first|exact kK rfl|exact nV rfl rfl rfl|exact nU rfl|exact sr_nil rfl))|(apply az 11;(focus rfl);first|exact vv ⟨rfl,rfl,rfl⟩ rfl inferInstance inferInstance rfl rfl (by refine ⟨?_,?_,?_,?_⟩ <;> first|rfl|exact ⟨_,_,rfl,rfl⟩|omega|(simp;done)|(simp;omega)) rfl|exact u_sliceD_b ⟨rfl,rfl,rfl⟩ rfl inferInstance inferInstance rfl rfl (by refine ⟨?_,?_,?_,?_⟩ <;> first|rfl|exact ⟨_,_,rfl,rfl⟩|omega|(simp;done)|(simp;omega)) rfl|exact vx ⟨rfl,rfl,rfl⟩ rfl inferInstance inferInstance rfl rfl (by refine ⟨?_,?_,?_,?_⟩ <;> first|rfl|exact ⟨_,_,rfl,rfl⟩|omega|(simp;done)|(simp;omega))|exact u_sliceT_b ⟨rfl,rfl,rfl⟩ rfl inferInstance inferInstance rfl rfl (by refine ⟨?_,?_,?_,?_⟩ <;> first|rfl|exact ⟨_,_,rfl,rfl⟩|omega|(simp;done)|(simp;omega))|exact mP ⟨rfl,rfl,rfl⟩ rfl inferInstance inferInstance rfl rfl (by refine ⟨?_,?_,?_,?_⟩ <;> first|rfl|exact ⟨_,_,rfl,rfl⟩|omega|(simp;done)|(simp;omega))|exact u_sliceM_b ⟨rfl,rfl,rfl⟩ rfl inferInstance inferInstance rfl rfl (by refine ⟨?_,?_,?_,?_⟩ <;> first|rfl|exact ⟨_,_,rfl,rfl⟩|omega|(simp;done)|(simp;omega))|exact u_slice ⟨rfl,rfl,rfl⟩ rfl inferInstance inferInstance rfl rfl (by refine ⟨?_,?_,?_,?_⟩ <;> first|rfl|exact ⟨_,_,rfl,rfl⟩|omega|(simp;done)|(simp;omega)) rfl|exact u_slice_b ⟨rfl,rfl,rfl⟩ rfl inferInstance inferInstance rfl rfl (by refine ⟨?_,?_,?_,?_⟩ <;> first|rfl|exact ⟨_,_,rfl,rfl⟩|omega|(simp;done)|(simp;omega)) rfl|exact u_sslice ⟨rfl,rfl,rfl⟩ rfl inferInstance rfl (by refine ⟨?_,?_,?_,?_⟩ <;> first|rfl|exact ⟨_,_,rfl,rfl⟩|omega|(simp;done)|(simp;omega)) rfl)|(apply az 12;(focus rfl);first|exact lB ⟨rfl,rfl,rfl⟩ rfl inferInstance inferInstance rfl rfl rfl rfl (i8 (by first|assumption|omega|(simp;done)|(simp;omega)))|exact lC ⟨rfl,rfl,rfl⟩ rfl inferInstance inferInstance rfl rfl rfl rfl (i8 (by first|assumption|omega|(simp;done)|(simp;omega)))|exact nT ⟨rfl,rfl,rfl⟩ rfl inferInstance inferInstance rfl rfl rfl rfl rfl rfl (by first|assumption|omega|(simp;done)|(simp;omega))|exact lB ⟨rfl,rfl,rfl⟩ rfl inferInstance inferInstance rfl rfl rfl rfl rfl)|(apply az 13;(focus rfl);exact gu ⟨rfl,rfl,rfl⟩ rfl inferInstance rfl rfl rfl (List.getElem?_eq_getElem (by first|assumption|omega|(simp;done)|(simp;omega))))|(apply az 14;(focus rfl);solve|(apply Aa <;> first|exact ⟨rfl,rfl,rfl⟩|rfl|infer_instance|(repeat (first|exact cC.nil|(apply cC.cons;(focus (first|exact aK rfl rfl rfl|exact gq rfl|exact gr rfl)))))))|(apply az 15;(focus rfl);first|exact r6 ⟨rfl,rfl,rfl⟩ rfl inferInstance|(solve|(apply vu <;> first|exact ⟨rfl,rfl,rfl⟩|rfl|infer_instance|(repeat (first|exact cC.nil|(apply cC.cons;(focus (first|exact aK rfl rfl rfl|exact gq rfl|exact gr rfl))))))))|(apply az 16;(focus rfl);first|exact u6 ⟨rfl,rfl,rfl⟩ rfl rfl|exact u7 ⟨rfl,rfl,rfl⟩ rfl rfl|exact u9 ⟨rfl,rfl,rfl⟩ rfl rfl|exact va ⟨rfl,rfl,rfl⟩ rfl rfl|exact vb ⟨rfl,rfl,rfl⟩ rfl rfl)|(apply az 17;(focus rfl);first|exact pb ⟨rfl,rfl,rfl⟩ rfl inferInstance rfl|exact D0 ⟨rfl,rfl,rfl⟩ rfl inferInstance rfl|exact vq ⟨rfl,rfl,rfl⟩ rfl inferInstance rfl|exact vt ⟨rfl,rfl,rfl⟩ rfl inferInstance rfl rfl rfl|exact vp ⟨rfl,rfl,rfl⟩ rfl inferInstance rfl|exact mO ⟨rfl,rfl,rfl⟩ rfl inferInstance rfl rfl rfl|exact mN ⟨rfl,rfl,rfl⟩ rfl inferInstance rfl)|(apply az 18;(focus rfl);first|exact JY ⟨rfl,rfl,rfl⟩ rfl inferInstance rfl rfl rfl rfl (by first|exact kK rfl|exact nV rfl rfl rfl|exact nU rfl|exact sr_nil rfl) (by first|omega|(simp;done)|(simp;omega)|(simp [av];done)|(simp [av];omega)|(simp at *;omega)) rfl|exact u_appS ⟨rfl,rfl,rfl⟩ rfl inferInstance inferInstance inferInstance rfl rfl rfl rfl (by first|omega|(simp;done)|(simp;omega)|(simp [av];done)|(simp [av];omega)|(simp at *;omega))))):an n P ops o F c b S:=h
theorem Kw (h:an n P ops o F c b S:=by
   apply bx
   (focus rfl)
   first
     | ((first|apply ez rfl rfl rfl rfl rfl (jr rfl)|apply ez rfl rfl rfl rfl rfl rfl);intro g1 g2;(first|(apply az 2;(focus rfl);apply lu <;> first|exact ⟨rfl,rfl,rfl⟩|(intro hb0;first|rfl|exact aj rfl (by rw [hb0];rfl)|exact aj rfl (by simp_all))|(first|exact aj rfl (by rw [g2];rfl)|exact ai rfl (by rw [g2];rfl)|exact aj rfl (by rw [g1,g2];rfl)|exact ai rfl (by rw [g1,g2];rfl)|rfl|exact ⟨rfl,rfl,rfl⟩|infer_instance|exact aj rfl (by simp_all)|exact ai rfl (by simp_all)))|(apply az 0;(focus rfl);first|(apply bT (c:=.per (aq _)) <;> (first|exact aj rfl (by rw [g2];rfl)|exact ai rfl (by rw [g2];rfl)|exact aj rfl (by rw [g1,g2];rfl)|exact ai rfl (by rw [g1,g2];rfl)|rfl|exact ⟨rfl,rfl,rfl⟩|infer_instance|exact aj rfl (by simp_all)|exact ai rfl (by simp_all)))|(apply bT (c:=.per _) <;> (first|exact aj rfl (by rw [g2];rfl)|exact ai rfl (by rw [g2];rfl)|exact aj rfl (by rw [g1,g2];rfl)|exact ai rfl (by rw [g1,g2];rfl)|rfl|exact ⟨rfl,rfl,rfl⟩|infer_instance|exact aj rfl (by simp_all)|exact ai rfl (by simp_all)))|(apply bT (c:=.bor _ _) <;> (first|exact aj rfl (by rw [g2];rfl)|exact ai rfl (by rw [g2];rfl)|exact aj rfl (by rw [g1,g2];rfl)|exact ai rfl (by rw [g1,g2];rfl)|rfl|exact ⟨rfl,rfl,rfl⟩|infer_instance|exact aj rfl (by simp_all)|exact ai rfl (by simp_all)))|(apply bT (c:=.row _ _) <;> (first|exact aj rfl (by rw [g2];rfl)|exact ai rfl (by rw [g2];rfl)|exact aj rfl (by rw [g1,g2];rfl)|exact ai rfl (by rw [g1,g2];rfl)|rfl|exact ⟨rfl,rfl,rfl⟩|infer_instance|exact aj rfl (by simp_all)|exact ai rfl (by simp_all))))|(apply az 5;(focus rfl);first|(apply i7 <;> (first|exact aj rfl (by rw [g2];rfl)|exact ai rfl (by rw [g2];rfl)|exact aj rfl (by rw [g1,g2];rfl)|exact ai rfl (by rw [g1,g2];rfl)|rfl|exact ⟨rfl,rfl,rfl⟩|infer_instance|exact aj rfl (by simp_all)|exact ai rfl (by simp_all)))|(apply f9 <;> (first|exact aj rfl (by rw [g2];rfl)|exact ai rfl (by rw [g2];rfl)|exact aj rfl (by rw [g1,g2];rfl)|exact ai rfl (by rw [g1,g2];rfl)|rfl|exact ⟨rfl,rfl,rfl⟩|infer_instance|exact aj rfl (by simp_all)|exact ai rfl (by simp_all)))|(apply jY <;> (first|exact aj rfl (by rw [g2];rfl)|exact ai rfl (by rw [g2];rfl)|exact aj rfl (by rw [g1,g2];rfl)|exact ai rfl (by rw [g1,g2];rfl)|rfl|exact ⟨rfl,rfl,rfl⟩|infer_instance|exact aj rfl (by simp_all)|exact ai rfl (by simp_all)))|(apply jZ <;> (first|exact aj rfl (by rw [g2];rfl)|exact ai rfl (by rw [g2];rfl)|exact aj rfl (by rw [g1,g2];rfl)|exact ai rfl (by rw [g1,g2];rfl)|rfl|exact ⟨rfl,rfl,rfl⟩|infer_instance|exact aj rfl (by simp_all)|exact ai rfl (by simp_all)))|(apply j0 <;> (first|exact aj rfl (by rw [g2];rfl)|exact ai rfl (by rw [g2];rfl)|exact aj rfl (by rw [g1,g2];rfl)|exact ai rfl (by rw [g1,g2];rfl)|rfl|exact ⟨rfl,rfl,rfl⟩|infer_instance|exact aj rfl (by simp_all)|exact ai rfl (by simp_all)))|(apply j1 <;> (first|exact aj rfl (by rw [g2];rfl)|exact ai rfl (by rw [g2];rfl)|exact aj rfl (by rw [g1,g2];rfl)|exact ai rfl (by rw [g1,g2];rfl)|rfl|exact ⟨rfl,rfl,rfl⟩|infer_instance|exact aj rfl (by simp_all)|exact ai rfl (by simp_all))))|(apply az 7;(focus rfl);first|(apply pa <;> (first|exact aj rfl (by rw [g2];rfl)|exact ai rfl (by rw [g2];rfl)|exact aj rfl (by rw [g1,g2];rfl)|exact ai rfl (by rw [g1,g2];rfl)|rfl|exact ⟨rfl,rfl,rfl⟩|infer_instance|exact aj rfl (by simp_all)|exact ai rfl (by simp_all)))|(apply j2 <;> (first|exact aj rfl (by rw [g2];rfl)|exact ai rfl (by rw [g2];rfl)|exact aj rfl (by rw [g1,g2];rfl)|exact ai rfl (by rw [g1,g2];rfl)|rfl|exact ⟨rfl,rfl,rfl⟩|infer_instance|exact aj rfl (by simp_all)|exact ai rfl (by simp_all)))|(apply j3 <;> (first|exact aj rfl (by rw [g2];rfl)|exact ai rfl (by rw [g2];rfl)|exact aj rfl (by rw [g1,g2];rfl)|exact ai rfl (by rw [g1,g2];rfl)|rfl|exact ⟨rfl,rfl,rfl⟩|infer_instance|exact aj rfl (by simp_all)|exact ai rfl (by simp_all))))|(apply az 8;(focus rfl);first|(apply fT <;> first|exact bU (by omega) (by omega)|(first|exact aj rfl (by rw [g2];rfl)|exact ai rfl (by rw [g2];rfl)|exact aj rfl (by rw [g1,g2];rfl)|exact ai rfl (by rw [g1,g2];rfl)|rfl|exact ⟨rfl,rfl,rfl⟩|infer_instance|exact aj rfl (by simp_all)|exact ai rfl (by simp_all)))|(apply nP <;> (first|exact aj rfl (by rw [g2];rfl)|exact ai rfl (by rw [g2];rfl)|exact aj rfl (by rw [g1,g2];rfl)|exact ai rfl (by rw [g1,g2];rfl)|rfl|exact ⟨rfl,rfl,rfl⟩|infer_instance|exact aj rfl (by simp_all)|exact ai rfl (by simp_all))))|(apply az 9;(focus rfl);apply tu <;> (first|exact aj rfl (by rw [g2];rfl)|exact ai rfl (by rw [g2];rfl)|exact aj rfl (by rw [g1,g2];rfl)|exact ai rfl (by rw [g1,g2];rfl)|rfl|exact ⟨rfl,rfl,rfl⟩|infer_instance|exact aj rfl (by simp_all)|exact ai rfl (by simp_all)))|(apply az 17;(focus rfl);first|(apply pb <;> (first|exact aj rfl (by rw [g2];rfl)|exact ai rfl (by rw [g2];rfl)|exact aj rfl (by rw [g1,g2];rfl)|exact ai rfl (by rw [g1,g2];rfl)|rfl|exact ⟨rfl,rfl,rfl⟩|infer_instance|exact aj rfl (by simp_all)|exact ai rfl (by simp_all)))|(apply vp <;> (first|exact aj rfl (by rw [g2];rfl)|exact ai rfl (by rw [g2];rfl)|exact aj rfl (by rw [g1,g2];rfl)|exact ai rfl (by rw [g1,g2];rfl)|rfl|exact ⟨rfl,rfl,rfl⟩|infer_instance|exact aj rfl (by simp_all)|exact ai rfl (by simp_all)))|(apply mN <;> (first|exact aj rfl (by rw [g2];rfl)|exact ai rfl (by rw [g2];rfl)|exact aj rfl (by rw [g1,g2];rfl)|exact ai rfl (by rw [g1,g2];rfl)|rfl|exact ⟨rfl,rfl,rfl⟩|infer_instance|exact aj rfl (by simp_all)|exact ai rfl (by simp_all)))|(apply mO <;> (first|exact aj rfl (by rw [g2];rfl)|exact ai rfl (by rw [g2];rfl)|exact aj rfl (by rw [g1,g2];rfl)|exact ai rfl (by rw [g1,g2];rfl)|rfl|exact ⟨rfl,rfl,rfl⟩|infer_instance|exact aj rfl (by simp_all)|exact ai rfl (by simp_all))))|(apply az 12;(focus rfl);first|(apply lB <;> first|(first|exact aj rfl (by rw [g2];rfl)|exact ai rfl (by rw [g2];rfl)|exact aj rfl (by rw [g1,g2];rfl)|exact ai rfl (by rw [g1,g2];rfl)|rfl|exact ⟨rfl,rfl,rfl⟩|infer_instance|exact aj rfl (by simp_all)|exact ai rfl (by simp_all))|exact i8 (by first|assumption|omega|(simp;done)|(simp;omega)))|(apply lC <;> first|(first|exact aj rfl (by rw [g2];rfl)|exact ai rfl (by rw [g2];rfl)|exact aj rfl (by rw [g1,g2];rfl)|exact ai rfl (by rw [g1,g2];rfl)|rfl|exact ⟨rfl,rfl,rfl⟩|infer_instance|exact aj rfl (by simp_all)|exact ai rfl (by simp_all))|exact i8 (by first|assumption|omega|(simp;done)|(simp;omega))))|(apply az 13;(focus rfl);apply gu <;> first|(first|exact aj rfl (by rw [g2];rfl)|exact ai rfl (by rw [g2];rfl)|exact aj rfl (by rw [g1,g2];rfl)|exact ai rfl (by rw [g1,g2];rfl)|rfl|exact ⟨rfl,rfl,rfl⟩|infer_instance|exact aj rfl (by simp_all)|exact ai rfl (by simp_all))|exact List.getElem?_eq_getElem (by first|assumption|omega|(simp;done)|(simp;omega)))))
     | ((first|apply jq rfl rfl rfl rfl rfl (jr rfl)|apply jq rfl rfl rfl rfl rfl rfl);intro g1 g2;(first|(apply az 2;(focus rfl);apply lu <;> first|exact ⟨rfl,rfl,rfl⟩|(intro hb0;first|rfl|exact aj rfl (by rw [hb0];rfl)|exact aj rfl (by simp_all))|(first|exact aj rfl (by rw [g2];rfl)|exact ai rfl (by rw [g2];rfl)|exact aj rfl (by rw [g1,g2];rfl)|exact ai rfl (by rw [g1,g2];rfl)|rfl|exact ⟨rfl,rfl,rfl⟩|infer_instance|exact aj rfl (by simp_all)|exact ai rfl (by simp_all)))|(apply az 0;(focus rfl);first|(apply bT (c:=.per (aq _)) <;> (first|exact aj rfl (by rw [g2];rfl)|exact ai rfl (by rw [g2];rfl)|exact aj rfl (by rw [g1,g2];rfl)|exact ai rfl (by rw [g1,g2];rfl)|rfl|exact ⟨rfl,rfl,rfl⟩|infer_instance|exact aj rfl (by simp_all)|exact ai rfl (by simp_all)))|(apply bT (c:=.per _) <;> (first|exact aj rfl (by rw [g2];rfl)|exact ai rfl (by rw [g2];rfl)|exact aj rfl (by rw [g1,g2];rfl)|exact ai rfl (by rw [g1,g2];rfl)|rfl|exact ⟨rfl,rfl,rfl⟩|infer_instance|exact aj rfl (by simp_all)|exact ai rfl (by simp_all)))|(apply bT (c:=.bor _ _) <;> (first|exact aj rfl (by rw [g2];rfl)|exact ai rfl (by rw [g2];rfl)|exact aj rfl (by rw [g1,g2];rfl)|exact ai rfl (by rw [g1,g2];rfl)|rfl|exact ⟨rfl,rfl,rfl⟩|infer_instance|exact aj rfl (by simp_all)|exact ai rfl (by simp_all)))|(apply bT (c:=.row _ _) <;> (first|exact aj rfl (by rw [g2];rfl)|exact ai rfl (by rw [g2];rfl)|exact aj rfl (by rw [g1,g2];rfl)|exact ai rfl (by rw [g1,g2];rfl)|rfl|exact ⟨rfl,rfl,rfl⟩|infer_instance|exact aj rfl (by simp_all)|exact ai rfl (by simp_all))))|(apply az 5;(focus rfl);first|(apply i7 <;> (first|exact aj rfl (by rw [g2];rfl)|exact ai rfl (by rw [g2];rfl)|exact aj rfl (by rw [g1,g2];rfl)|exact ai rfl (by rw [g1,g2];rfl)|rfl|exact ⟨rfl,rfl,rfl⟩|infer_instance|exact aj rfl (by simp_all)|exact ai rfl (by simp_all)))|(apply f9 <;> (first|exact aj rfl (by rw [g2];rfl)|exact ai rfl (by rw [g2];rfl)|exact aj rfl (by rw [g1,g2];rfl)|exact ai rfl (by rw [g1,g2];rfl)|rfl|exact ⟨rfl,rfl,rfl⟩|infer_instance|exact aj rfl (by simp_all)|exact ai rfl (by simp_all)))|(apply jY <;> (first|exact aj rfl (by rw [g2];rfl)|exact ai rfl (by rw [g2];rfl)|exact aj rfl (by rw [g1,g2];rfl)|exact ai rfl (by rw [g1,g2];rfl)|rfl|exact ⟨rfl,rfl,rfl⟩|infer_instance|exact aj rfl (by simp_all)|exact ai rfl (by simp_all)))|(apply jZ <;> (first|exact aj rfl (by rw [g2];rfl)|exact ai rfl (by rw [g2];rfl)|exact aj rfl (by rw [g1,g2];rfl)|exact ai rfl (by rw [g1,g2];rfl)|rfl|exact ⟨rfl,rfl,rfl⟩|infer_instance|exact aj rfl (by simp_all)|exact ai rfl (by simp_all)))|(apply j0 <;> (first|exact aj rfl (by rw [g2];rfl)|exact ai rfl (by rw [g2];rfl)|exact aj rfl (by rw [g1,g2];rfl)|exact ai rfl (by rw [g1,g2];rfl)|rfl|exact ⟨rfl,rfl,rfl⟩|infer_instance|exact aj rfl (by simp_all)|exact ai rfl (by simp_all)))|(apply j1 <;> (first|exact aj rfl (by rw [g2];rfl)|exact ai rfl (by rw [g2];rfl)|exact aj rfl (by rw [g1,g2];rfl)|exact ai rfl (by rw [g1,g2];rfl)|rfl|exact ⟨rfl,rfl,rfl⟩|infer_instance|exact aj rfl (by simp_all)|exact ai rfl (by simp_all))))|(apply az 7;(focus rfl);first|(apply pa <;> (first|exact aj rfl (by rw [g2];rfl)|exact ai rfl (by rw [g2];rfl)|exact aj rfl (by rw [g1,g2];rfl)|exact ai rfl (by rw [g1,g2];rfl)|rfl|exact ⟨rfl,rfl,rfl⟩|infer_instance|exact aj rfl (by simp_all)|exact ai rfl (by simp_all)))|(apply j2 <;> (first|exact aj rfl (by rw [g2];rfl)|exact ai rfl (by rw [g2];rfl)|exact aj rfl (by rw [g1,g2];rfl)|exact ai rfl (by rw [g1,g2];rfl)|rfl|exact ⟨rfl,rfl,rfl⟩|infer_instance|exact aj rfl (by simp_all)|exact ai rfl (by simp_all)))|(apply j3 <;> (first|exact aj rfl (by rw [g2];rfl)|exact ai rfl (by rw [g2];rfl)|exact aj rfl (by rw [g1,g2];rfl)|exact ai rfl (by rw [g1,g2];rfl)|rfl|exact ⟨rfl,rfl,rfl⟩|infer_instance|exact aj rfl (by simp_all)|exact ai rfl (by simp_all))))|(apply az 8;(focus rfl);first|(apply fT <;> first|exact bU (by omega) (by omega)|(first|exact aj rfl (by rw [g2];rfl)|exact ai rfl (by rw [g2];rfl)|exact aj rfl (by rw [g1,g2];rfl)|exact ai rfl (by rw [g1,g2];rfl)|rfl|exact ⟨rfl,rfl,rfl⟩|infer_instance|exact aj rfl (by simp_all)|exact ai rfl (by simp_all)))|(apply nP <;> (first|exact aj rfl (by rw [g2];rfl)|exact ai rfl (by rw [g2];rfl)|exact aj rfl (by rw [g1,g2];rfl)|exact ai rfl (by rw [g1,g2];rfl)|rfl|exact ⟨rfl,rfl,rfl⟩|infer_instance|exact aj rfl (by simp_all)|exact ai rfl (by simp_all))))|(apply az 9;(focus rfl);apply tu <;> (first|exact aj rfl (by rw [g2];rfl)|exact ai rfl (by rw [g2];rfl)|exact aj rfl (by rw [g1,g2];rfl)|exact ai rfl (by rw [g1,g2];rfl)|rfl|exact ⟨rfl,rfl,rfl⟩|infer_instance|exact aj rfl (by simp_all)|exact ai rfl (by simp_all)))|(apply az 17;(focus rfl);first|(apply pb <;> (first|exact aj rfl (by rw [g2];rfl)|exact ai rfl (by rw [g2];rfl)|exact aj rfl (by rw [g1,g2];rfl)|exact ai rfl (by rw [g1,g2];rfl)|rfl|exact ⟨rfl,rfl,rfl⟩|infer_instance|exact aj rfl (by simp_all)|exact ai rfl (by simp_all)))|(apply vp <;> (first|exact aj rfl (by rw [g2];rfl)|exact ai rfl (by rw [g2];rfl)|exact aj rfl (by rw [g1,g2];rfl)|exact ai rfl (by rw [g1,g2];rfl)|rfl|exact ⟨rfl,rfl,rfl⟩|infer_instance|exact aj rfl (by simp_all)|exact ai rfl (by simp_all)))|(apply mN <;> (first|exact aj rfl (by rw [g2];rfl)|exact ai rfl (by rw [g2];rfl)|exact aj rfl (by rw [g1,g2];rfl)|exact ai rfl (by rw [g1,g2];rfl)|rfl|exact ⟨rfl,rfl,rfl⟩|infer_instance|exact aj rfl (by simp_all)|exact ai rfl (by simp_all)))|(apply mO <;> (first|exact aj rfl (by rw [g2];rfl)|exact ai rfl (by rw [g2];rfl)|exact aj rfl (by rw [g1,g2];rfl)|exact ai rfl (by rw [g1,g2];rfl)|rfl|exact ⟨rfl,rfl,rfl⟩|infer_instance|exact aj rfl (by simp_all)|exact ai rfl (by simp_all))))|(apply az 12;(focus rfl);first|(apply lB <;> first|(first|exact aj rfl (by rw [g2];rfl)|exact ai rfl (by rw [g2];rfl)|exact aj rfl (by rw [g1,g2];rfl)|exact ai rfl (by rw [g1,g2];rfl)|rfl|exact ⟨rfl,rfl,rfl⟩|infer_instance|exact aj rfl (by simp_all)|exact ai rfl (by simp_all))|exact i8 (by first|assumption|omega|(simp;done)|(simp;omega)))|(apply lC <;> first|(first|exact aj rfl (by rw [g2];rfl)|exact ai rfl (by rw [g2];rfl)|exact aj rfl (by rw [g1,g2];rfl)|exact ai rfl (by rw [g1,g2];rfl)|rfl|exact ⟨rfl,rfl,rfl⟩|infer_instance|exact aj rfl (by simp_all)|exact ai rfl (by simp_all))|exact i8 (by first|assumption|omega|(simp;done)|(simp;omega))))|(apply az 13;(focus rfl);apply gu <;> first|(first|exact aj rfl (by rw [g2];rfl)|exact ai rfl (by rw [g2];rfl)|exact aj rfl (by rw [g1,g2];rfl)|exact ai rfl (by rw [g1,g2];rfl)|rfl|exact ⟨rfl,rfl,rfl⟩|infer_instance|exact aj rfl (by simp_all)|exact ai rfl (by simp_all))|exact List.getElem?_eq_getElem (by first|assumption|omega|(simp;done)|(simp;omega)))))):an n P ops o F c b S:=h
theorem nY (h:an n P ops o F c b S:=by first|exact Kw|exact Kv):an n P ops o F c b S:=h
section
theorem ab {n:Nat} {S S':St} (h:Le n S S':=by
   (refine oL ?_ ?_;(focus ((repeat (first|exact iO.nil|(refine iO.cons ?_ ?_;rotate_left)));(all_goals try (first|rfl|(refine JZ ?_;first|omega|(simp;done)|(simp;omega))|(refine vy ?_;first|(simp;done)|(simp [*];done))))));(focus ((repeat (first|exact iP.nil|(refine iP.cons ?_ ?_;rotate_left)));(all_goals try (first|rfl|(refine tD ?_;(rw [List.map_append] <;> rfl);done)|(refine oM ?_;(rw [List.map_append] <;> rfl);done))))))):Le n S S':=h
end
end Go.Proofs.YtembiemaiacdfaaGreat
namespace Go.Proofs.YtembiemaiacdfaaGreat
open Go.RowKit
def dI {α:Type} (enc:α → List Value) (x:α):List PV:=(enc x).map aq
theorem yj {α:Type} {top N:BP} {k:Nat} {enc:α → List Value} {l:List α} {w:World} {v:Value} (h:dH top N k (l.map (dI enc)) w v):Sl k enc w v l:=by
 obtain ⟨ad,c,b,of,h1,h2,h3,h4,h5,h6⟩:=h
 simp only [List.length_map] at h1 h2 h5
 refine ⟨ad,c,b,of,h1,h2,h3,fun h0=>(h5 h0).1,h4,fun i x hx j y hy=>?_⟩
 obtain ⟨_,q⟩:=h6 i (dI enc x) (by rw [List.getElem?_map,hx];rfl)
 obtain ⟨u,r1,_,r3⟩:=q j (aq y) (by unfold dI;rw [List.getElem?_map,hy];rfl)
 have r3:u = y:=r3
 subst r3;exact r1
theorem ym {α:Type} {e k:Nat} {enc:α → List Value} (hE:Dn k enc) {N0:BP} {w w':World} {v:Value} {l:List α} (h:iV e k enc w w' v l):(Ret.own e k (l.map (dI enc))).rep N0 w w' v:=by
 obtain ⟨_,hl,h2⟩:=h
 rcases h2 with ⟨h3,h4⟩|⟨q,cap,cs,h3,h4,h5,h6,h7,h8,h9⟩
 · exact .inl ⟨h3,by rw [List.eq_nil_of_length_eq_zero h4];rfl⟩
 · refine .inr ⟨q,cap,cs,by rw [List.length_map];exact h3,h4,h5,by rw [List.length_map];exact h6,h7,h8,fun i ps hi=>?_⟩
   rw [List.getElem?_map] at hi
   cases hx:l[i]? with
   | none=>rw [hx] at hi;cases hi
   | some x=>
     rw [hx] at hi;cases hi
     refine ⟨by unfold dI;rw [List.length_map,hE.len],fun j A hj=>?_⟩
     unfold dI at hj
     rw [List.getElem?_map] at hj
     cases hy:(enc x)[j]? with
     | none=>rw [hy] at hj;cases hj
     | some y=>
       rw [hy] at hj;cases hj
       have hf:=fj k enc hE.len l i x hx j y hy
       refine ⟨y,?_,hE.one x y (List.mem_of_getElem? hy),rfl⟩
       rw [← h9,List.getElem?_take] at hf
       split at hf
       · simpa using hf
       · cases hf
theorem LB {N0:BP} {w:World} {vs:List Value} {c:Cnt} (h:mI N0 w vs [c]):∃ v,vs = [v] ∧ crep ⟨w,N0,fun _=>False,g0⟩ (fun _=>0) g0 w v c:=by
 obtain ⟨h1,h2⟩:=h
 match vs,h1 with
 | [v],_=>exact ⟨v,rfl,h2 0 v c rfl rfl⟩
theorem Ag {N0:BP} {w:World} {vs:List Value} {c d:Cnt} (h:mI N0 w vs [c,d]):∃ v u,vs = [v,u] ∧ crep ⟨w,N0,fun _=>False,g0⟩ (fun _=>0) g0 w v c ∧ crep ⟨w,N0,fun _=>False,g0⟩ (fun _=>0) g0 w u d:=by
 obtain ⟨h1,h2⟩:=h
 match vs,h1 with
 | [v,u],_=>exact ⟨v,u,rfl,h2 0 v c rfl rfl,h2 1 u d rfl rfl⟩
abbrev bO (b:Bool):Ret:=.per (aq (.bool b))
abbrev fL (n:Int):Ret:=.per (aq (.int .i64 n))
abbrev iw (l:List UInt8):Cnt:=.bor 1 (l.map byteP)
abbrev vK (l:List Int):Cnt:=.bor 1 (l.map Mr)
abbrev LC (l:List ByteArray):Cnt:=.bor 1 (l.map strP)
end Go.Proofs.YtembiemaiacdfaaGreat
namespace Go.Proofs.YtembiemaiacdfaaGreat
open Go.RowKit Go.Shelf
def Gw (w w':World):Prop:=∃ (q:Nat) (os:Array Obj),w' = Sort.grow (w.drewN q) os
theorem Gw.refl (w:World):Gw w w:=⟨0,#[],by simp [World.drewN]⟩
theorem Gw.drewN {w w':World} (h:Gw w w') (n:Nat):Gw w (w'.drewN n):=by
 obtain ⟨q,os,rfl⟩:=h
 exact ⟨q + n,os,by simp [World.drewN,Sort.grow,Nat.add_assoc]⟩
theorem Gw.drew {w w':World} (h:Gw w w'):Gw w w'.drew:=h.drewN 1
theorem Gw.alloc {w w':World} (h:Gw w w') (o:Obj):Gw w (w'.alloc o):=by
 obtain ⟨q,os,rfl⟩:=h
 exact ⟨q,os ++ #[o],by rw [Sort.alloc_eq_grow,Sort.grow_grow]⟩
theorem Gw.trans {a b c:World} (h:Gw a b) (k:Gw b c):Gw a c:=by
 obtain ⟨q,os,rfl⟩:=h
 obtain ⟨q',os',rfl⟩:=k
 exact ⟨q + q',os ++ os',by simp [World.drewN,Sort.grow,Nat.add_assoc,Array.append_assoc]⟩
theorem vL {β:Type} (d:Array β):d.extract 0 d.size = d:=by simp
def iy {α:Type} [Inhabited α] (cf:α → α → Int) (l:List α):List α:=(Sort.pdq (ltOf cf) l.toArray 0 l.length (Lib.bitLen l.length) true true).toList
section
variable {α:Type} [Inhabited α] {cf:α → α → Int}
theorem fX (hO:Sort.SWO (ltOf cf)) (l:List α):(iy cf l).Perm l ∧ (iy cf l).Pairwise (fun x y=>ltOf cf y x = false):=by
 have h:=Sort.pdq_sorts (ltOf cf) hO l.toArray 0 l.length (Lib.bitLen l.length) true true (Nat.zero_le _) (by simp) (Or.inl rfl)
 unfold iy
 generalize Sort.pdq (ltOf cf) l.toArray 0 l.length (Lib.bitLen l.length) true true = d at h
 obtain ⟨⟨h1,_,h3⟩,h4⟩:=h
 have hs:d.size = l.length:=by simpa using h1
 have e1:d.extract 0 l.length = d:=by rw [← hs];exact vL d
 have e2:(l.toArray).extract 0 l.length = l.toArray:=by simp
 rw [e1,e2] at h3
 refine ⟨by simpa using h3,?_⟩
 rw [List.pairwise_iff_getElem]
 intro i j hi hj hij
 have:=h4 i j (Nat.zero_le _) hij (by rw [← hs];simpa using hj)
 rw [getElem!_pos d j (by simpa using hj),getElem!_pos d i (by simpa using hi)] at this
 simpa using this
theorem lI (hO:Sort.SWO (ltOf cf)) (l:List α):(iy cf l).length = l.length:=(fX hO l).1.length_eq
end
section
variable {P:Program}
theorem vM {α:Type} {F G:FuncId} {k e:Nat} {enc:α → List Value} (hE:Dn k enc) {l l':List α} (hlen:l'.length = l.length) (hent:JX P F)
   (hnil:∀ w,Calls P F #[.slice none 0 0,.func (.func G) #[] #[]] w fun e w'=>e = .returned (.tuple #[]) ∧ w' = w)
   (hrun:∀ (b cap:Nat) (w:World),b < w.heap.size → (∀ i x,l[i]? = some x → ∀ j v,(enc x)[j]? = some v → w.cell? ⟨b,i * k + j,none⟩ = some v ∧ w.frozen? ⟨b,i * k + j,none⟩ = false) →
     Calls P F #[.slice (some ⟨b,0,none⟩) l.length cap,.func (.func G) #[] #[]] w fun e w'=>e = .returned (.tuple #[]) ∧ ∃ (n:Nat) (os:Array Obj) (f:Array Value → Array Value),w' = Sort.grow (Sort.mapBlock (Sort.ahead w n) b f) os ∧
       ∀ cs:Array Value,(f cs).size = cs.size ∧ ∀ i x,l'[i]? = some x → ∀ j v,(enc x)[j]? = some v → i * k + j < cs.size → (f cs)[i * k + j]? = some v) :
   el P F [.row 1000 0,.per (aq (.func (.func G) #[] #[]))] [(1000,.row e k (l.map (dI enc)))] .any [(1000,.row e k (l'.map (dI enc)))]:=by
 refine ⟨hent,?_⟩
 intro C w vs hW hN hO hvl hvs hb
 obtain ⟨v0,v1,rfl⟩:∃ v0 v1,vs = [v0,v1]:=by match vs,hvl with|[a,b],_=>exact ⟨a,b,rfl⟩
 have h0:=hvs 0 v0 _ rfl rfl
 have h1:=hvs 1 v1 _ rfl rfl
 have e1:v1 = .func (.func G) #[] #[]:=h1
 have e0:v0 = C.G0.rh 1000:=h0.2 rfl
 subst e0 e1
 have other:∀ (l:List α) id,id ≠ 1000 → dw id [(1000,Blk.row e k (l.map (dI enc)))] = .none:=fun l id h=>by simp [dw,ep h]
 have this1:∀ (l:List α),dw 1000 [(1000,Blk.row e k (l.map (dI enc)))] = .row e k (l.map (dI enc)):=fun l=>rfl
 have hrow:=hb 1000
 rw [this1] at hrow
 rcases hrow with ⟨q1,q2⟩|⟨cap,cs,q1,q2,q3,q4,q5,q6,q7⟩
 · have hl0:l = []:=by simpa using q2
   have hl0':l' = []:=List.eq_nil_of_length_eq_zero (by rw [hlen,hl0];rfl)
   rw [q1]
   refine (hnil w).mono ?_
   rintro e' w' ⟨rfl,rfl⟩
   refine ⟨_,C.G0,rfl,⟨rfl,rfl,rfl,Nat.le_refl _,fun _ _ _=>rfl,fun b id h=>⟨(hO b id h).1,.inr (hO b id h).2⟩,fun _ _=>⟨rfl,rfl⟩⟩,trivial,fun id=>?_⟩
   by_cases hid:id = 1000
   · subst hid
     exact .inl ⟨q1,by rw [hl0'];rfl⟩
   · rw [other _ _ hid];trivial
 · rw [List.length_map] at q1 q4
   obtain ⟨b,hb0⟩:∃ b,b = C.G0.ph 1000:=⟨_,rfl⟩
   rw [← hb0] at q1 q2 q3
   have hbl:=hO b 1000 q3
   have hcells:∀ i x,l[i]? = some x → ∀ j v,(enc x)[j]? = some v → w.cell? ⟨b,i * k + j,none⟩ = some v ∧ w.frozen? ⟨b,i * k + j,none⟩ = false:=by
     intro i x hi j v hj
     obtain ⟨_,g⟩:=q7 i (dI enc x) (by rw [List.getElem?_map,hi];rfl)
     obtain ⟨y,y1,_,y3⟩:=g j (aq v) (by unfold dI;rw [List.getElem?_map,hj];rfl)
     have y3:y = v:=y3
     subst y3
     refine ⟨by simp [World.cell?,q2,y1],by simp [World.frozen?,q2]⟩
   rw [q1]
   refine (hrun b cap w hbl.1 hcells).mono ?_
   rintro e' w' ⟨rfl,n,os,f,rfl,hf⟩
   have hblock:∀ b',b' < w.heap.size → b' ≠ b → (Sort.grow (Sort.mapBlock (Sort.ahead w n) b f) os).heap[b']? = w.heap[b']?:=fun b' h h'=>by
     show ((w.heap.modify b (Sort.onCells f)) ++ os)[b']? = _
     rw [Array.getElem?_append_left (by simpa using h),Array.getElem?_modify,if_neg (Ne.symm h')]
   have hthis:(Sort.grow (Sort.mapBlock (Sort.ahead w n) b f) os).heap[b]? = some (.cells (f cs) e (0,0)):=by
     show ((w.heap.modify b (Sort.onCells f)) ++ os)[b]? = _
     rw [Array.getElem?_append_left (by simpa using hbl.1),Array.getElem?_modify,if_pos rfl,q2]
     rfl
   have hsz:w.heap.size ≤ (Sort.grow (Sort.mapBlock (Sort.ahead w n) b f) os).heap.size:=by
     show _ ≤ ((w.heap.modify b (Sort.onCells f)) ++ os).size
     simp
   refine ⟨_,C.G0,rfl,⟨rfl,rfl,rfl,hsz,fun b' h h'=>hblock b' h (fun e=>h' (e ▸ hbl.2)),fun b' id h=>⟨Nat.lt_of_lt_of_le (hO b' id h).1 hsz,.inr (hO b' id h).2⟩,fun _ _=>⟨rfl,rfl⟩⟩,trivial,fun id=>?_⟩
   by_cases hid:id = 1000
   · subst hid
     obtain ⟨f1,f2⟩:=hf cs
     refine .inr ⟨cap,f cs,?_,?_,?_,by simpa [hlen] using q4,q5,by rw [f1];exact q6,?_⟩
     · rw [← hb0,List.length_map,hlen];exact q1
     · rw [← hb0];exact hthis
     · rw [← hb0];exact q3
     · intro i ps hi
       rw [List.getElem?_map] at hi
       obtain ⟨x,hx,rfl⟩:=Option.map_eq_some_iff.1 hi
       refine ⟨by simp [dI,hE.len],fun j A hj=>?_⟩
       unfold dI at hj
       rw [List.getElem?_map] at hj
       obtain ⟨v,hv,rfl⟩:=Option.map_eq_some_iff.1 hj
       have hj':j < k:=by
         rw [← hE.len x];exact (List.getElem?_eq_some_iff.1 hv).1
       have hi':i < l'.length:=(List.getElem?_eq_some_iff.1 hx).1
       have hlt:i * k + j < cs.size:=by
         rw [q6]
         have h2:(i + 1) * k ≤ cap * k:=Nat.mul_le_mul_right k (by omega)
         rw [Nat.add_mul,Nat.one_mul] at h2
         omega
       exact ⟨v,f2 i x hx j v hv hlt,hE.one x v (List.mem_of_getElem? hv),rfl⟩
   · rw [other _ _ hid];trivial
theorem Ah {i j k:Nat} (h:j < k):(i * k + j) / k = i ∧ (i * k + j) % k = j:=by
 have hk:0 < k:=by omega
 refine ⟨?_,?_⟩
 · rw [Nat.add_comm,Nat.add_mul_div_right _ _ hk,Nat.div_eq_of_lt h,Nat.zero_add]
 · rw [Nat.add_comm,Nat.add_mul_mod_self_right,Nat.mod_eq_of_lt h]
theorem put_get {β:Type} [Inhabited β] (en:β → Value) (F:Array β) (cs:Array Value) (t:Nat) (h:t < cs.size) (hF:t < F.size):(Sort.putCells en 0 F cs)[t]? = some (en F[t]!):=by
 unfold Sort.putCells
 rw [Array.getElem?_mapIdx,Array.getElem?_eq_getElem h]
 simp only [Option.map_some]
 rw [if_pos ⟨Nat.zero_le _,by omega⟩,Nat.sub_zero]
theorem nZ {β:Type} [Inhabited β] (en:β → Value) (F:Array β) (cs:Array Value):(Sort.putCells en 0 F cs).size = cs.size:=by
 unfold Sort.putCells;simp
theorem n5 {α:Type} [Inhabited α] {ρ:Ren} {G k e:Nat} (L:SlLaysF0.n6 P ρ) (aE:∀ w,(isAgg (ρ.t 24)).run P w = .ok true w) (zE:∀ w,(Go.sizeOf (ρ.t 24)).run P w = .ok k w) {enc:α → List Value} (hE:Dn k enc)
   {cf:α → α → Int} (hO:Sort.SWO (ltOf cf)) (eg:∀ args w,(callFunc G args).run P w = .ok (.enter G args) w)
   (hc:∀ x y w,Calls P G #[.agg (enc x).toArray,.agg (enc y).toArray] w fun e w'=>e = .returned (.int .i64 (cf x y)) ∧ Gw w w') (hent:JX P (ρ.f 6)) (l:List α) (hl:l.length < 4611686018427387904) :
   el P (ρ.f 6) [.row 1000 0,.per (aq (.func (.func G) #[] #[]))] [(1000,.row e k (l.map (dI enc)))] .any [(1000,.row e k ((iy cf l).map (dI enc)))]:=by
 refine vM hE (lI hO l) hent (fun w=>AnyF.slices_SortFunc_none L none 0 _ w) ?_
 intro b cap w hb hcells
 have hH:Sort.HoldsK enc k w b 0 l.toArray:=by
   intro t ht
   rw [Sort.size_flatK] at ht
   have hk:0 < k:=hE.pos
   have hi:t / k < l.length:=Nat.div_lt_of_lt_mul (by rw [Nat.mul_comm];simpa using ht)
   have hj:t % k < (enc (l[t / k])).length:=by rw [hE.len];exact Nat.mod_lt _ hk
   have h1:=hcells (t / k) l[t / k] (List.getElem?_eq_getElem hi) (t % k) _ (List.getElem?_eq_getElem hj)
   rw [Sort.get_flatK _ _ _ _ ht,Nat.zero_add,show t / k * k + t % k = t from by rw [Nat.mul_comm];exact Nat.div_add_mod t k] at *
   rw [getElem!_pos l.toArray (t / k) (by simpa using hi),List.getElem_toArray,getElem!_pos _ (t % k) hj]
   exact h1
 have hcmp:CmpLays P G #[] enc k cf b 0 l.toArray.size w:=fun m os dk _ x y=>hc x y _
 have:=AnyQ.slices_SortFunc_eq (P:=P) (ρ:=ρ) L k aE zE enc hE.len hE.one cf hO G #[] b 0 cap l.toArray w eg hcmp hH hb (by simpa using hl)
 rw [List.size_toArray] at this
 refine this.mono ?_
 rintro e' w' ⟨he,n,os,hw⟩
 have hs:=lI hO l
 unfold iy at hs ⊢
 generalize Sort.pdq (ltOf cf) l.toArray 0 l.length (Lib.bitLen l.length) true true = d at *
 rw [Array.length_toList] at hs
 refine ⟨he,n,os,Sort.putCells id 0 (Sort.flatK enc k d),hw,fun cs=>⟨nZ _ _ _,fun i x hi j v hj hlt=>?_⟩⟩
 have hj':j < k:=by rw [← hE.len x];exact (List.getElem?_eq_some_iff.1 hj).1
 have hi':i < d.size:=by simpa using (List.getElem?_eq_some_iff.1 hi).1
 have hlt':i * k + j < d.size * k:=by
   have:=Nat.mul_le_mul_right k (show i + 1 ≤ d.size from hi')
   rw [Nat.add_mul,Nat.one_mul] at this
   omega
 rw [put_get _ _ _ _ hlt (by rw [Sort.size_flatK];exact hlt'),Sort.get_flatK _ _ _ _ hlt',(Ah hj').1,(Ah hj').2]
 have ex:d[i]! = x:=by
   rw [getElem!_pos d i hi']
   have:=(List.getElem?_eq_some_iff.1 hi).2
   simpa using this
 obtain ⟨q1,q2⟩:=List.getElem?_eq_some_iff.1 hj
 rw [ex,getElem!_pos _ j q1,q2]
 rfl
theorem BW {α:Type} [Inhabited α] {ρ:Ren} {G e:Nat} (L:SlLaysF.n6 P ρ) {enc:α → Value} (hE:OneCell enc)
   {cf:α → α → Int} (hO:Sort.SWO (ltOf cf)) (eg:∀ args w,(callFunc G args).run P w = .ok (.enter G args) w)
   (hc:∀ x y w,Calls P G #[enc x,enc y] w fun e w'=>e = .returned (.int .i64 (cf x y)) ∧ Gw w w') (hent:JX P (ρ.f 6)) (l:List α) (hl:l.length < 4611686018427387904) :
   el P (ρ.f 6) [.row 1000 0,.per (aq (.func (.func G) #[] #[]))] [(1000,.row e 1 (l.map (dI fun x=>[enc x])))] .any [(1000,.row e 1 ((iy cf l).map (dI fun x=>[enc x])))]:=by
 refine vM (enc:=fun x=>[enc x]) ⟨by decide,fun _=>rfl,fun x v hv=>by simp at hv;subst hv;exact hE x⟩ (lI hO l) hent (fun w=>AnyF.slices_SortFunc_none { L with } none 0 _ w) ?_
 intro b cap w hb hcells
 have hH:Sort.Holds enc w b 0 l.toArray:=by
   intro t ht
   have hi:t < l.length:=by simpa using ht
   have h1:=hcells t l[t] (List.getElem?_eq_getElem hi) 0 _ rfl
   rw [Nat.mul_one,Nat.add_zero] at h1
   rw [getElem!_pos l.toArray t (by simpa using hi),List.getElem_toArray,Nat.zero_add]
   exact h1
 have hcmp:CmpLays1 P G #[] enc cf b 0 l.toArray.size w:=fun m os dk _ x y=>hc x y _
 have:=Any.slices_SortFunc_eq (P:=P) (ρ:=ρ) L enc hE cf hO G #[] b 0 cap l.toArray w eg hcmp hH hb (by simpa using hl)
 rw [List.size_toArray] at this
 refine this.mono ?_
 rintro e' w' ⟨he,n,os,hw⟩
 have hs:=lI hO l
 unfold iy at hs ⊢
 generalize Sort.pdq (ltOf cf) l.toArray 0 l.length (Lib.bitLen l.length) true true = d at *
 rw [Array.length_toList] at hs
 refine ⟨he,n,os,Sort.putCells enc 0 d,hw,fun cs=>⟨nZ _ _ _,fun i x hi j v hj hlt=>?_⟩⟩
 obtain ⟨q1,q2⟩:=List.getElem?_eq_some_iff.1 hj
 obtain rfl:j = 0:=by simpa using q1
 have hi':i < d.size:=by simpa using (List.getElem?_eq_some_iff.1 hi).1
 rw [Nat.mul_one,Nat.add_zero] at hlt ⊢
 rw [put_get _ _ _ _ hlt hi']
 have ex:d[i]! = x:=by
   rw [getElem!_pos d i hi']
   have:=(List.getElem?_eq_some_iff.1 hi).2
   simpa using this
 rw [ex]
 simpa using q2
end
end Go.Proofs.YtembiemaiacdfaaGreat
