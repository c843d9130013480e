/- Texts joined: AbsT Adapt So. -/
import Derived.Test.YtembiemaiacdfaaGreatJ05
import Derived.Test.YtembiemaiacdfaaGreatJ04
import Derived.Shelf.SlSortCmp.NoneTotal
set_option maxRecDepth 10000
set_option maxHeartbeats 8000000
namespace Go.Proofs.YtembiemaiacdfaaGreat
open Go.RowKit
variable {P:Program} {n:Nat} {ops:Array Oper} {o:Oper} {F:List Nat} {S:St} {c:Cnt} {b:Upd}
theorem JT (h:ak n P ops o F c b S:=by (first|(apply ax 0;(focus rfl);first|exact bU (c:=.per _) ⟨rfl,rfl,rfl⟩ rfl rfl|exact bU (c:=.row _ _) ⟨rfl,rfl,rfl⟩ rfl rfl|exact bU (c:=.bor _ _) ⟨rfl,rfl,rfl⟩ rfl rfl|exact bU (c:=.ptr _ _ _) ⟨rfl,rfl,rfl⟩ rfl rfl|exact bU (c:=.tup2 _ _) ⟨rfl,rfl,rfl⟩ rfl rfl)|(apply ax 1;(focus rfl);first|exact b7 (c:=.per _) ⟨rfl,rfl,rfl⟩ rfl rfl|exact b7 (c:=.row _ _) ⟨rfl,rfl,rfl⟩ rfl rfl|exact b7 (c:=.bor _ _) ⟨rfl,rfl,rfl⟩ rfl rfl|exact b7 (c:=.ptr _ _ _) ⟨rfl,rfl,rfl⟩ rfl rfl)|(apply ax 2;(focus rfl);apply k4 <;> first|exact ⟨rfl,rfl,rfl⟩|rfl|(intro hb0;first|rfl|exact aj rfl (by rw [hb0];rfl)|exact aj rfl (by simp_all)))|(apply ax 3;(focus rfl);first|exact pv ⟨rfl,rfl,rfl⟩ rfl rfl|exact pw ⟨rfl,rfl,rfl⟩ rfl rfl (by first|exact ca rfl rfl|exact cb|exact cF))|(apply ax 4;(focus rfl);exact zd ⟨rfl,rfl,rfl⟩ rfl inferInstance rfl)|(apply ax 5;(focus rfl);first|exact iK ⟨rfl,rfl,rfl⟩ rfl inferInstance rfl rfl rfl rfl|exact fS ⟨rfl,rfl,rfl⟩ rfl inferInstance inferInstance rfl rfl rfl rfl rfl rfl|exact jM ⟨rfl,rfl,rfl⟩ rfl inferInstance rfl rfl|exact jN ⟨rfl,rfl,rfl⟩ rfl inferInstance inferInstance rfl rfl rfl|exact jO ⟨rfl,rfl,rfl⟩ rfl inferInstance rfl rfl|exact jP ⟨rfl,rfl,rfl⟩ rfl inferInstance inferInstance rfl rfl rfl)|(apply ax 6;(focus rfl);first|exact uV ⟨rfl,rfl⟩ rfl inferInstance rfl rfl rfl rfl rfl (by first|exact ca rfl rfl|exact cb|exact cF)|exact jh ⟨rfl,rfl⟩ rfl inferInstance rfl rfl rfl rfl rfl rfl rfl)|(apply ax 7;(focus rfl);first|exact o0 ⟨rfl,rfl,rfl⟩ rfl inferInstance rfl rfl|exact jQ ⟨rfl,rfl,rfl⟩ rfl inferInstance rfl|exact jR ⟨rfl,rfl,rfl⟩ rfl inferInstance rfl|exact rL ⟨rfl,rfl,rfl⟩ rfl inferInstance rfl rfl)|(apply ax 8;(focus rfl);first|exact fH ⟨rfl,rfl,rfl⟩ rfl rfl rfl rfl (bP (by first|omega|(simp;omega)|(simp [aq];omega)) (by first|omega|(simp;omega)|(simp [aq];omega)))|exact nx ⟨rfl,rfl,rfl⟩ rfl rfl rfl rfl)|(apply ax 9;(focus rfl);exact sN ⟨rfl,rfl,rfl⟩ rfl rfl)|(apply ax 10;(focus rfl);first|exact gz ⟨rfl,rfl,rfl⟩ rfl inferInstance inferInstance rfl (bP (by omega) (by omega))|exact gz ⟨rfl,rfl,rfl⟩ rfl inferInstance inferInstance rfl rfl|exact KP ⟨rfl,rfl,rfl⟩ rfl inferInstance inferInstance inferInstance (by first|exact nG rfl|exact nI rfl rfl rfl|exact nH rfl|exact nJ rfl))|(apply ax 11;(focus rfl);first|exact u0 ⟨rfl,rfl,rfl⟩ rfl inferInstance inferInstance rfl rfl (by refine ⟨?_,?_,?_,?_⟩ <;> first|rfl|exact ⟨_,_,rfl,rfl⟩|omega|(simp;done)|(simp;omega)) rfl|exact pE ⟨rfl,rfl,rfl⟩ rfl inferInstance inferInstance rfl rfl (by refine ⟨?_,?_,?_,?_⟩ <;> first|rfl|exact ⟨_,_,rfl,rfl⟩|omega|(simp;done)|(simp;omega)) rfl|exact u3 ⟨rfl,rfl,rfl⟩ rfl inferInstance inferInstance rfl rfl (by refine ⟨?_,?_,?_,?_⟩ <;> first|rfl|exact ⟨_,_,rfl,rfl⟩|omega|(simp;done)|(simp;omega))|exact pF ⟨rfl,rfl,rfl⟩ rfl inferInstance inferInstance rfl rfl (by refine ⟨?_,?_,?_,?_⟩ <;> first|rfl|exact ⟨_,_,rfl,rfl⟩|omega|(simp;done)|(simp;omega))|exact ew ⟨rfl,rfl,rfl⟩ rfl inferInstance inferInstance rfl rfl (by refine ⟨?_,?_,?_,?_⟩ <;> first|rfl|exact ⟨_,_,rfl,rfl⟩|omega|(simp;done)|(simp;omega))|exact jS ⟨rfl,rfl,rfl⟩ rfl inferInstance inferInstance rfl rfl (by refine ⟨?_,?_,?_,?_⟩ <;> first|rfl|exact ⟨_,_,rfl,rfl⟩|omega|(simp;done)|(simp;omega))|exact zf ⟨rfl,rfl,rfl⟩ rfl inferInstance inferInstance rfl rfl (by refine ⟨?_,?_,?_,?_⟩ <;> first|rfl|exact ⟨_,_,rfl,rfl⟩|omega|(simp;done)|(simp;omega)) rfl|exact rO ⟨rfl,rfl,rfl⟩ rfl inferInstance inferInstance rfl rfl (by refine ⟨?_,?_,?_,?_⟩ <;> first|rfl|exact ⟨_,_,rfl,rfl⟩|omega|(simp;done)|(simp;omega)) rfl|exact u4 ⟨rfl,rfl,rfl⟩ rfl inferInstance rfl (by refine ⟨?_,?_,?_,?_⟩ <;> first|rfl|exact ⟨_,_,rfl,rfl⟩|omega|(simp;done)|(simp;omega)) rfl)|(apply ax 12;(focus rfl);first|exact fe ⟨rfl,rfl,rfl⟩ rfl inferInstance inferInstance rfl rfl rfl rfl (fT (by first|assumption|omega|(simp;done)|(simp;omega)))|exact ji ⟨rfl,rfl,rfl⟩ rfl inferInstance inferInstance rfl rfl rfl rfl (fT (by first|assumption|omega|(simp;done)|(simp;omega)))|exact nF ⟨rfl,rfl,rfl⟩ rfl inferInstance inferInstance rfl rfl rfl rfl rfl rfl (by first|assumption|omega|(simp;done)|(simp;omega))|exact fe ⟨rfl,rfl,rfl⟩ rfl inferInstance inferInstance rfl rfl rfl rfl rfl)|(apply ax 13;(focus rfl);exact gk ⟨rfl,rfl,rfl⟩ rfl inferInstance rfl rfl rfl (List.getElem?_eq_getElem (by first|assumption|omega|(simp;done)|(simp;omega))))|(apply ax 14;(focus rfl);solve|(apply ze <;> first|exact ⟨rfl,rfl,rfl⟩|rfl|infer_instance|(repeat (first|exact cA.nil|(apply cA.cons;(focus (first|exact aG rfl rfl rfl|exact gi rfl|exact gj rfl)))))))|(apply ax 15;(focus rfl);first|exact rM ⟨rfl,rfl,rfl⟩ rfl inferInstance|(solve|(apply uZ <;> first|exact ⟨rfl,rfl,rfl⟩|rfl|infer_instance|(repeat (first|exact cA.nil|(apply cA.cons;(focus (first|exact aG rfl rfl rfl|exact gi rfl|exact gj rfl))))))))|(apply ax 16;(focus rfl);first|exact uC ⟨rfl,rfl,rfl⟩ rfl rfl|exact uD ⟨rfl,rfl,rfl⟩ rfl rfl|exact uE ⟨rfl,rfl,rfl⟩ rfl rfl|exact uF ⟨rfl,rfl,rfl⟩ rfl rfl|exact uG ⟨rfl,rfl,rfl⟩ rfl rfl)|(apply ax 17;(focus rfl);first|exact o3 ⟨rfl,rfl,rfl⟩ rfl inferInstance rfl|exact CZ ⟨rfl,rfl,rfl⟩ rfl inferInstance rfl|exact uX ⟨rfl,rfl,rfl⟩ rfl inferInstance rfl|exact uY ⟨rfl,rfl,rfl⟩ rfl inferInstance rfl rfl rfl|exact uW ⟨rfl,rfl,rfl⟩ rfl inferInstance rfl|exact mB ⟨rfl,rfl,rfl⟩ rfl inferInstance rfl rfl rfl|exact mA ⟨rfl,rfl,rfl⟩ rfl inferInstance rfl)|(apply ax 18;(focus rfl);first|exact Jr ⟨rfl,rfl,rfl⟩ rfl inferInstance rfl rfl rfl rfl (by first|exact nG rfl|exact nI rfl rfl rfl|exact nH rfl|exact nJ rfl) (by first|omega|(simp;done)|(simp;omega)|(simp [aq];done)|(simp [aq];omega)|(simp at *;omega)) rfl|exact C0 ⟨rfl,rfl,rfl⟩ rfl inferInstance inferInstance inferInstance rfl rfl rfl rfl (by first|omega|(simp;done)|(simp;omega)|(simp [aq];done)|(simp [aq];omega)|(simp at *;omega))))):ak n P ops o F c b S:=h
theorem JU (h:ak n P ops o F c b S:=by
   apply bt
   (focus rfl)
   first
     | ((first|apply dq rfl rfl rfl rfl rfl (ga rfl)|apply dq rfl rfl rfl rfl rfl rfl);intro g1 g2;(first|(apply ax 2;(focus rfl);apply k4 <;> first|exact ⟨rfl,rfl,rfl⟩|(intro hb0;first|rfl|exact aj rfl (by rw [hb0];rfl)|exact aj rfl (by simp_all))|(first|exact aj rfl (by rw [g2];rfl)|exact ai rfl (by rw [g2];rfl)|exact aj rfl (by rw [g1,g2];rfl)|exact ai rfl (by rw [g1,g2];rfl)|rfl|exact ⟨rfl,rfl,rfl⟩|infer_instance|exact aj rfl (by simp_all)|exact ai rfl (by simp_all)))|(apply ax 0;(focus rfl);first|(apply bU (c:=.per (ao _)) <;> (first|exact aj rfl (by rw [g2];rfl)|exact ai rfl (by rw [g2];rfl)|exact aj rfl (by rw [g1,g2];rfl)|exact ai rfl (by rw [g1,g2];rfl)|rfl|exact ⟨rfl,rfl,rfl⟩|infer_instance|exact aj rfl (by simp_all)|exact ai rfl (by simp_all)))|(apply bU (c:=.per _) <;> (first|exact aj rfl (by rw [g2];rfl)|exact ai rfl (by rw [g2];rfl)|exact aj rfl (by rw [g1,g2];rfl)|exact ai rfl (by rw [g1,g2];rfl)|rfl|exact ⟨rfl,rfl,rfl⟩|infer_instance|exact aj rfl (by simp_all)|exact ai rfl (by simp_all)))|(apply bU (c:=.bor _ _) <;> (first|exact aj rfl (by rw [g2];rfl)|exact ai rfl (by rw [g2];rfl)|exact aj rfl (by rw [g1,g2];rfl)|exact ai rfl (by rw [g1,g2];rfl)|rfl|exact ⟨rfl,rfl,rfl⟩|infer_instance|exact aj rfl (by simp_all)|exact ai rfl (by simp_all)))|(apply bU (c:=.row _ _) <;> (first|exact aj rfl (by rw [g2];rfl)|exact ai rfl (by rw [g2];rfl)|exact aj rfl (by rw [g1,g2];rfl)|exact ai rfl (by rw [g1,g2];rfl)|rfl|exact ⟨rfl,rfl,rfl⟩|infer_instance|exact aj rfl (by simp_all)|exact ai rfl (by simp_all))))|(apply ax 5;(focus rfl);first|(apply iK <;> (first|exact aj rfl (by rw [g2];rfl)|exact ai rfl (by rw [g2];rfl)|exact aj rfl (by rw [g1,g2];rfl)|exact ai rfl (by rw [g1,g2];rfl)|rfl|exact ⟨rfl,rfl,rfl⟩|infer_instance|exact aj rfl (by simp_all)|exact ai rfl (by simp_all)))|(apply fS <;> (first|exact aj rfl (by rw [g2];rfl)|exact ai rfl (by rw [g2];rfl)|exact aj rfl (by rw [g1,g2];rfl)|exact ai rfl (by rw [g1,g2];rfl)|rfl|exact ⟨rfl,rfl,rfl⟩|infer_instance|exact aj rfl (by simp_all)|exact ai rfl (by simp_all)))|(apply jM <;> (first|exact aj rfl (by rw [g2];rfl)|exact ai rfl (by rw [g2];rfl)|exact aj rfl (by rw [g1,g2];rfl)|exact ai rfl (by rw [g1,g2];rfl)|rfl|exact ⟨rfl,rfl,rfl⟩|infer_instance|exact aj rfl (by simp_all)|exact ai rfl (by simp_all)))|(apply jN <;> (first|exact aj rfl (by rw [g2];rfl)|exact ai rfl (by rw [g2];rfl)|exact aj rfl (by rw [g1,g2];rfl)|exact ai rfl (by rw [g1,g2];rfl)|rfl|exact ⟨rfl,rfl,rfl⟩|infer_instance|exact aj rfl (by simp_all)|exact ai rfl (by simp_all)))|(apply jO <;> (first|exact aj rfl (by rw [g2];rfl)|exact ai rfl (by rw [g2];rfl)|exact aj rfl (by rw [g1,g2];rfl)|exact ai rfl (by rw [g1,g2];rfl)|rfl|exact ⟨rfl,rfl,rfl⟩|infer_instance|exact aj rfl (by simp_all)|exact ai rfl (by simp_all)))|(apply jP <;> (first|exact aj rfl (by rw [g2];rfl)|exact ai rfl (by rw [g2];rfl)|exact aj rfl (by rw [g1,g2];rfl)|exact ai rfl (by rw [g1,g2];rfl)|rfl|exact ⟨rfl,rfl,rfl⟩|infer_instance|exact aj rfl (by simp_all)|exact ai rfl (by simp_all))))|(apply ax 7;(focus rfl);first|(apply o0 <;> (first|exact aj rfl (by rw [g2];rfl)|exact ai rfl (by rw [g2];rfl)|exact aj rfl (by rw [g1,g2];rfl)|exact ai rfl (by rw [g1,g2];rfl)|rfl|exact ⟨rfl,rfl,rfl⟩|infer_instance|exact aj rfl (by simp_all)|exact ai rfl (by simp_all)))|(apply jQ <;> (first|exact aj rfl (by rw [g2];rfl)|exact ai rfl (by rw [g2];rfl)|exact aj rfl (by rw [g1,g2];rfl)|exact ai rfl (by rw [g1,g2];rfl)|rfl|exact ⟨rfl,rfl,rfl⟩|infer_instance|exact aj rfl (by simp_all)|exact ai rfl (by simp_all)))|(apply jR <;> (first|exact aj rfl (by rw [g2];rfl)|exact ai rfl (by rw [g2];rfl)|exact aj rfl (by rw [g1,g2];rfl)|exact ai rfl (by rw [g1,g2];rfl)|rfl|exact ⟨rfl,rfl,rfl⟩|infer_instance|exact aj rfl (by simp_all)|exact ai rfl (by simp_all))))|(apply ax 8;(focus rfl);first|(apply fH <;> first|exact bP (by omega) (by omega)|(first|exact aj rfl (by rw [g2];rfl)|exact ai rfl (by rw [g2];rfl)|exact aj rfl (by rw [g1,g2];rfl)|exact ai rfl (by rw [g1,g2];rfl)|rfl|exact ⟨rfl,rfl,rfl⟩|infer_instance|exact aj rfl (by simp_all)|exact ai rfl (by simp_all)))|(apply nx <;> (first|exact aj rfl (by rw [g2];rfl)|exact ai rfl (by rw [g2];rfl)|exact aj rfl (by rw [g1,g2];rfl)|exact ai rfl (by rw [g1,g2];rfl)|rfl|exact ⟨rfl,rfl,rfl⟩|infer_instance|exact aj rfl (by simp_all)|exact ai rfl (by simp_all))))|(apply ax 9;(focus rfl);apply sN <;> (first|exact aj rfl (by rw [g2];rfl)|exact ai rfl (by rw [g2];rfl)|exact aj rfl (by rw [g1,g2];rfl)|exact ai rfl (by rw [g1,g2];rfl)|rfl|exact ⟨rfl,rfl,rfl⟩|infer_instance|exact aj rfl (by simp_all)|exact ai rfl (by simp_all)))|(apply ax 17;(focus rfl);first|(apply o3 <;> (first|exact aj rfl (by rw [g2];rfl)|exact ai rfl (by rw [g2];rfl)|exact aj rfl (by rw [g1,g2];rfl)|exact ai rfl (by rw [g1,g2];rfl)|rfl|exact ⟨rfl,rfl,rfl⟩|infer_instance|exact aj rfl (by simp_all)|exact ai rfl (by simp_all)))|(apply uW <;> (first|exact aj rfl (by rw [g2];rfl)|exact ai rfl (by rw [g2];rfl)|exact aj rfl (by rw [g1,g2];rfl)|exact ai rfl (by rw [g1,g2];rfl)|rfl|exact ⟨rfl,rfl,rfl⟩|infer_instance|exact aj rfl (by simp_all)|exact ai rfl (by simp_all)))|(apply mA <;> (first|exact aj rfl (by rw [g2];rfl)|exact ai rfl (by rw [g2];rfl)|exact aj rfl (by rw [g1,g2];rfl)|exact ai rfl (by rw [g1,g2];rfl)|rfl|exact ⟨rfl,rfl,rfl⟩|infer_instance|exact aj rfl (by simp_all)|exact ai rfl (by simp_all)))|(apply mB <;> (first|exact aj rfl (by rw [g2];rfl)|exact ai rfl (by rw [g2];rfl)|exact aj rfl (by rw [g1,g2];rfl)|exact ai rfl (by rw [g1,g2];rfl)|rfl|exact ⟨rfl,rfl,rfl⟩|infer_instance|exact aj rfl (by simp_all)|exact ai rfl (by simp_all))))|(apply ax 12;(focus rfl);first|(apply fe <;> first|(first|exact aj rfl (by rw [g2];rfl)|exact ai rfl (by rw [g2];rfl)|exact aj rfl (by rw [g1,g2];rfl)|exact ai rfl (by rw [g1,g2];rfl)|rfl|exact ⟨rfl,rfl,rfl⟩|infer_instance|exact aj rfl (by simp_all)|exact ai rfl (by simp_all))|exact fT (by first|assumption|omega|(simp;done)|(simp;omega)))|(apply ji <;> first|(first|exact aj rfl (by rw [g2];rfl)|exact ai rfl (by rw [g2];rfl)|exact aj rfl (by rw [g1,g2];rfl)|exact ai rfl (by rw [g1,g2];rfl)|rfl|exact ⟨rfl,rfl,rfl⟩|infer_instance|exact aj rfl (by simp_all)|exact ai rfl (by simp_all))|exact fT (by first|assumption|omega|(simp;done)|(simp;omega))))|(apply ax 13;(focus rfl);apply gk <;> first|(first|exact aj rfl (by rw [g2];rfl)|exact ai rfl (by rw [g2];rfl)|exact aj rfl (by rw [g1,g2];rfl)|exact ai rfl (by rw [g1,g2];rfl)|rfl|exact ⟨rfl,rfl,rfl⟩|infer_instance|exact aj rfl (by simp_all)|exact ai rfl (by simp_all))|exact List.getElem?_eq_getElem (by first|assumption|omega|(simp;done)|(simp;omega)))))
     | ((first|apply f9 rfl rfl rfl rfl rfl (ga rfl)|apply f9 rfl rfl rfl rfl rfl rfl);intro g1 g2;(first|(apply ax 2;(focus rfl);apply k4 <;> first|exact ⟨rfl,rfl,rfl⟩|(intro hb0;first|rfl|exact aj rfl (by rw [hb0];rfl)|exact aj rfl (by simp_all))|(first|exact aj rfl (by rw [g2];rfl)|exact ai rfl (by rw [g2];rfl)|exact aj rfl (by rw [g1,g2];rfl)|exact ai rfl (by rw [g1,g2];rfl)|rfl|exact ⟨rfl,rfl,rfl⟩|infer_instance|exact aj rfl (by simp_all)|exact ai rfl (by simp_all)))|(apply ax 0;(focus rfl);first|(apply bU (c:=.per (ao _)) <;> (first|exact aj rfl (by rw [g2];rfl)|exact ai rfl (by rw [g2];rfl)|exact aj rfl (by rw [g1,g2];rfl)|exact ai rfl (by rw [g1,g2];rfl)|rfl|exact ⟨rfl,rfl,rfl⟩|infer_instance|exact aj rfl (by simp_all)|exact ai rfl (by simp_all)))|(apply bU (c:=.per _) <;> (first|exact aj rfl (by rw [g2];rfl)|exact ai rfl (by rw [g2];rfl)|exact aj rfl (by rw [g1,g2];rfl)|exact ai rfl (by rw [g1,g2];rfl)|rfl|exact ⟨rfl,rfl,rfl⟩|infer_instance|exact aj rfl (by simp_all)|exact ai rfl (by simp_all)))|(apply bU (c:=.bor _ _) <;> (first|exact aj rfl (by rw [g2];rfl)|exact ai rfl (by rw [g2];rfl)|exact aj rfl (by rw [g1,g2];rfl)|exact ai rfl (by rw [g1,g2];rfl)|rfl|exact ⟨rfl,rfl,rfl⟩|infer_instance|exact aj rfl (by simp_all)|exact ai rfl (by simp_all)))|(apply bU (c:=.row _ _) <;> (first|exact aj rfl (by rw [g2];rfl)|exact ai rfl (by rw [g2];rfl)|exact aj rfl (by rw [g1,g2];rfl)|exact ai rfl (by rw [g1,g2];rfl)|rfl|exact ⟨rfl,rfl,rfl⟩|infer_instance|exact aj rfl (by simp_all)|exact ai rfl (by simp_all))))|(apply ax 5;(focus rfl);first|(apply iK <;> (first|exact aj rfl (by rw [g2];rfl)|exact ai rfl (by rw [g2];rfl)|exact aj rfl (by rw [g1,g2];rfl)|exact ai rfl (by rw [g1,g2];rfl)|rfl|exact ⟨rfl,rfl,rfl⟩|infer_instance|exact aj rfl (by simp_all)|exact ai rfl (by simp_all)))|(apply fS <;> (first|exact aj rfl (by rw [g2];rfl)|exact ai rfl (by rw [g2];rfl)|exact aj rfl (by rw [g1,g2];rfl)|exact ai rfl (by rw [g1,g2];rfl)|rfl|exact ⟨rfl,rfl,rfl⟩|infer_instance|exact aj rfl (by simp_all)|exact ai rfl (by simp_all)))|(apply jM <;> (first|exact aj rfl (by rw [g2];rfl)|exact ai rfl (by rw [g2];rfl)|exact aj rfl (by rw [g1,g2];rfl)|exact ai rfl (by rw [g1,g2];rfl)|rfl|exact ⟨rfl,rfl,rfl⟩|infer_instance|exact aj rfl (by simp_all)|exact ai rfl (by simp_all)))|(apply jN <;> (first|exact aj rfl (by rw [g2];rfl)|exact ai rfl (by rw [g2];rfl)|exact aj rfl (by rw [g1,g2];rfl)|exact ai rfl (by rw [g1,g2];rfl)|rfl|exact ⟨rfl,rfl,rfl⟩|infer_instance|exact aj rfl (by simp_all)|exact ai rfl (by simp_all)))|(apply jO <;> (first|exact aj rfl (by rw [g2];rfl)|exact ai rfl (by rw [g2];rfl)|exact aj rfl (by rw [g1,g2];rfl)|exact ai rfl (by rw [g1,g2];rfl)|rfl|exact ⟨rfl,rfl,rfl⟩|infer_instance|exact aj rfl (by simp_all)|exact ai rfl (by simp_all)))|(apply jP <;> (first|exact aj rfl (by rw [g2];rfl)|exact ai rfl (by rw [g2];rfl)|exact aj rfl (by rw [g1,g2];rfl)|exact ai rfl (by rw [g1,g2];rfl)|rfl|exact ⟨rfl,rfl,rfl⟩|infer_instance|exact aj rfl (by simp_all)|exact ai rfl (by simp_all))))|(apply ax 7;(focus rfl);first|(apply o0 <;> (first|exact aj rfl (by rw [g2];rfl)|exact ai rfl (by rw [g2];rfl)|exact aj rfl (by rw [g1,g2];rfl)|exact ai rfl (by rw [g1,g2];rfl)|rfl|exact ⟨rfl,rfl,rfl⟩|infer_instance|exact aj rfl (by simp_all)|exact ai rfl (by simp_all)))|(apply jQ <;> (first|exact aj rfl (by rw [g2];rfl)|exact ai rfl (by rw [g2];rfl)|exact aj rfl (by rw [g1,g2];rfl)|exact ai rfl (by rw [g1,g2];rfl)|rfl|exact ⟨rfl,rfl,rfl⟩|infer_instance|exact aj rfl (by simp_all)|exact ai rfl (by simp_all)))|(apply jR <;> (first|exact aj rfl (by rw [g2];rfl)|exact ai rfl (by rw [g2];rfl)|exact aj rfl (by rw [g1,g2];rfl)|exact ai rfl (by rw [g1,g2];rfl)|rfl|exact ⟨rfl,rfl,rfl⟩|infer_instance|exact aj rfl (by simp_all)|exact ai rfl (by simp_all))))|(apply ax 8;(focus rfl);first|(apply fH <;> first|exact bP (by omega) (by omega)|(first|exact aj rfl (by rw [g2];rfl)|exact ai rfl (by rw [g2];rfl)|exact aj rfl (by rw [g1,g2];rfl)|exact ai rfl (by rw [g1,g2];rfl)|rfl|exact ⟨rfl,rfl,rfl⟩|infer_instance|exact aj rfl (by simp_all)|exact ai rfl (by simp_all)))|(apply nx <;> (first|exact aj rfl (by rw [g2];rfl)|exact ai rfl (by rw [g2];rfl)|exact aj rfl (by rw [g1,g2];rfl)|exact ai rfl (by rw [g1,g2];rfl)|rfl|exact ⟨rfl,rfl,rfl⟩|infer_instance|exact aj rfl (by simp_all)|exact ai rfl (by simp_all))))|(apply ax 9;(focus rfl);apply sN <;> (first|exact aj rfl (by rw [g2];rfl)|exact ai rfl (by rw [g2];rfl)|exact aj rfl (by rw [g1,g2];rfl)|exact ai rfl (by rw [g1,g2];rfl)|rfl|exact ⟨rfl,rfl,rfl⟩|infer_instance|exact aj rfl (by simp_all)|exact ai rfl (by simp_all)))|(apply ax 17;(focus rfl);first|(apply o3 <;> (first|exact aj rfl (by rw [g2];rfl)|exact ai rfl (by rw [g2];rfl)|exact aj rfl (by rw [g1,g2];rfl)|exact ai rfl (by rw [g1,g2];rfl)|rfl|exact ⟨rfl,rfl,rfl⟩|infer_instance|exact aj rfl (by simp_all)|exact ai rfl (by simp_all)))|(apply uW <;> (first|exact aj rfl (by rw [g2];rfl)|exact ai rfl (by rw [g2];rfl)|exact aj rfl (by rw [g1,g2];rfl)|exact ai rfl (by rw [g1,g2];rfl)|rfl|exact ⟨rfl,rfl,rfl⟩|infer_instance|exact aj rfl (by simp_all)|exact ai rfl (by simp_all)))|(apply mA <;> (first|exact aj rfl (by rw [g2];rfl)|exact ai rfl (by rw [g2];rfl)|exact aj rfl (by rw [g1,g2];rfl)|exact ai rfl (by rw [g1,g2];rfl)|rfl|exact ⟨rfl,rfl,rfl⟩|infer_instance|exact aj rfl (by simp_all)|exact ai rfl (by simp_all)))|(apply mB <;> (first|exact aj rfl (by rw [g2];rfl)|exact ai rfl (by rw [g2];rfl)|exact aj rfl (by rw [g1,g2];rfl)|exact ai rfl (by rw [g1,g2];rfl)|rfl|exact ⟨rfl,rfl,rfl⟩|infer_instance|exact aj rfl (by simp_all)|exact ai rfl (by simp_all))))|(apply ax 12;(focus rfl);first|(apply fe <;> first|(first|exact aj rfl (by rw [g2];rfl)|exact ai rfl (by rw [g2];rfl)|exact aj rfl (by rw [g1,g2];rfl)|exact ai rfl (by rw [g1,g2];rfl)|rfl|exact ⟨rfl,rfl,rfl⟩|infer_instance|exact aj rfl (by simp_all)|exact ai rfl (by simp_all))|exact fT (by first|assumption|omega|(simp;done)|(simp;omega)))|(apply ji <;> first|(first|exact aj rfl (by rw [g2];rfl)|exact ai rfl (by rw [g2];rfl)|exact aj rfl (by rw [g1,g2];rfl)|exact ai rfl (by rw [g1,g2];rfl)|rfl|exact ⟨rfl,rfl,rfl⟩|infer_instance|exact aj rfl (by simp_all)|exact ai rfl (by simp_all))|exact fT (by first|assumption|omega|(simp;done)|(simp;omega))))|(apply ax 13;(focus rfl);apply gk <;> first|(first|exact aj rfl (by rw [g2];rfl)|exact ai rfl (by rw [g2];rfl)|exact aj rfl (by rw [g1,g2];rfl)|exact ai rfl (by rw [g1,g2];rfl)|rfl|exact ⟨rfl,rfl,rfl⟩|infer_instance|exact aj rfl (by simp_all)|exact ai rfl (by simp_all))|exact List.getElem?_eq_getElem (by first|assumption|omega|(simp;done)|(simp;omega)))))):ak n P ops o F c b S:=h
theorem lW (h:ak n P ops o F c b S:=by first|exact JU|exact JT):ak n P ops o F c b S:=h
section
theorem ab {n:Nat} {S S':St} (h:Le n S S':=by
   (refine lB ?_ ?_;(focus ((repeat (first|exact gd.nil|(refine gd.cons ?_ ?_;rotate_left)));(all_goals try (first|rfl|(refine GP ?_;first|omega|(simp;done)|(simp;omega))|(refine ro ?_;first|(simp;done)|(simp [*];done))))));(focus ((repeat (first|exact gg.nil|(refine gg.cons ?_ ?_;rotate_left)));(all_goals try (first|rfl|(refine nK ?_;(rw [List.map_append] <;> rfl);done)|(refine lC ?_;(rw [List.map_append] <;> rfl);done))))))):Le n S S':=h
end
end Go.Proofs.YtembiemaiacdfaaGreat
namespace Go.Proofs.YtembiemaiacdfaaGreat
open Go.RowKit
def dD {α:Type} (enc:α → List Value) (x:α):List PV:=(enc x).map ao
theorem xw {α:Type} {top N:BP} {k:Nat} {enc:α → List Value} {l:List α} {w:World} {v:Value} (h:di top N k (l.map (dD enc)) w v):Sl k enc w v l:=by
 obtain ⟨ad,c,b,of,h1,h2,h3,h4,h5,h6⟩:=h
 simp only [List.length_map] at h1 h2 h5
 refine ⟨ad,c,b,of,h1,h2,h3,fun h0=>(h5 h0).1,h4,fun i x hx j y hy=>?_⟩
 obtain ⟨_,q⟩:=h6 i (dD enc x) (by rw [List.getElem?_map,hx];rfl)
 obtain ⟨u,r1,_,r3⟩:=q j (ao y) (by unfold dD;rw [List.getElem?_map,hy];rfl)
 have r3:u = y:=r3
 subst r3;exact r1
theorem td {α:Type} {e k:Nat} {enc:α → List Value} (hE:Cp k enc) {N0:BP} {w w':World} {v:Value} {l:List α} (h:iA e k enc w w' v l):(Ret.own e k (l.map (dD enc))).rep N0 w w' v:=by
 obtain ⟨_,hl,h2⟩:=h
 rcases h2 with ⟨h3,h4⟩|⟨q,cap,cs,h3,h4,h5,h6,h7,h8,h9⟩
 · exact .inl ⟨h3,by rw [List.eq_nil_of_length_eq_zero h4];rfl⟩
 · refine .inr ⟨q,cap,cs,by rw [List.length_map];exact h3,h4,h5,by rw [List.length_map];exact h6,h7,h8,fun i ps hi=>?_⟩
   rw [List.getElem?_map] at hi
   cases hx:l[i]? with
   | none=>rw [hx] at hi;cases hi
   | some x=>
     rw [hx] at hi;cases hi
     refine ⟨by unfold dD;rw [List.length_map,hE.len],fun j A hj=>?_⟩
     unfold dD at hj
     rw [List.getElem?_map] at hj
     cases hy:(enc x)[j]? with
     | none=>rw [hy] at hj;cases hj
     | some y=>
       rw [hy] at hj;cases hj
       have hf:=eP k enc hE.len l i x hx j y hy
       refine ⟨y,?_,hE.one x y (List.mem_of_getElem? hy),rfl⟩
       rw [← h9,List.getElem?_take] at hf
       split at hf
       · simpa using hf
       · cases hf
theorem Jt {N0:BP} {w:World} {vs:List Value} {c:Cnt} (h:mr N0 w vs [c]):∃ v,vs = [v] ∧ crep ⟨w,N0,fun _=>False,g0⟩ (fun _=>0) g0 w v c:=by
 obtain ⟨h1,h2⟩:=h
 match vs,h1 with
 | [v],_=>exact ⟨v,rfl,h2 0 v c rfl rfl⟩
theorem zn {N0:BP} {w:World} {vs:List Value} {c d:Cnt} (h:mr N0 w vs [c,d]):∃ v u,vs = [v,u] ∧ crep ⟨w,N0,fun _=>False,g0⟩ (fun _=>0) g0 w v c ∧ crep ⟨w,N0,fun _=>False,g0⟩ (fun _=>0) g0 w u d:=by
 obtain ⟨h1,h2⟩:=h
 match vs,h1 with
 | [v,u],_=>exact ⟨v,u,rfl,h2 0 v c rfl rfl,h2 1 u d rfl rfl⟩
abbrev cU (b:Bool):Ret:=.per (ao (.bool b))
abbrev ig (n:Int):Ret:=.per (ao (.int .i64 n))
abbrev ii (l:List UInt8):Cnt:=.bor 1 (l.map byteP)
abbrev vh (l:List Int):Cnt:=.bor 1 (l.map LK)
abbrev KS (l:List ByteArray):Cnt:=.bor 1 (l.map strP)
end Go.Proofs.YtembiemaiacdfaaGreat
namespace Go.Proofs.YtembiemaiacdfaaGreat
open Go.RowKit Go.Shelf
def Gw (w w':World):Prop:=∃ (q:Nat) (os:Array Obj),w' = Sort.grow (w.drewN q) os
theorem Gw.refl (w:World):Gw w w:=⟨0,#[],by simp [World.drewN]⟩
theorem Gw.drewN {w w':World} (h:Gw w w') (n:Nat):Gw w (w'.drewN n):=by
 obtain ⟨q,os,rfl⟩:=h
 exact ⟨q + n,os,by simp [World.drewN,Sort.grow,Nat.add_assoc]⟩
theorem Gw.drew {w w':World} (h:Gw w w'):Gw w w'.drew:=h.drewN 1
theorem Gw.alloc {w w':World} (h:Gw w w') (o:Obj):Gw w (w'.alloc o):=by
 obtain ⟨q,os,rfl⟩:=h
 exact ⟨q,os ++ #[o],by rw [Sort.alloc_eq_grow,Sort.grow_grow]⟩
theorem Gw.trans {a b c:World} (h:Gw a b) (k:Gw b c):Gw a c:=by
 obtain ⟨q,os,rfl⟩:=h
 obtain ⟨q',os',rfl⟩:=k
 exact ⟨q + q',os ++ os',by simp [World.drewN,Sort.grow,Nat.add_assoc,Array.append_assoc]⟩
theorem vi {β:Type} (d:Array β):d.extract 0 d.size = d:=by simp
def ij {α:Type} [Inhabited α] (cf:α → α → Int) (l:List α):List α:=(Sort.pdq (ltOf cf) l.toArray 0 l.length (Lib.bitLen l.length) true true).toList
section
variable {α:Type} [Inhabited α] {cf:α → α → Int}
theorem fM (hO:Sort.SWO (ltOf cf)) (l:List α):(ij cf l).Perm l ∧ (ij cf l).Pairwise (fun x y=>ltOf cf y x = false):=by
 have h:=Sort.pdq_sorts (ltOf cf) hO l.toArray 0 l.length (Lib.bitLen l.length) true true (Nat.zero_le _) (by simp) (Or.inl rfl)
 unfold ij
 generalize Sort.pdq (ltOf cf) l.toArray 0 l.length (Lib.bitLen l.length) true true = d at h
 obtain ⟨⟨h1,_,h3⟩,h4⟩:=h
 have hs:d.size = l.length:=by simpa using h1
 have e1:d.extract 0 l.length = d:=by rw [← hs];exact vi d
 have e2:(l.toArray).extract 0 l.length = l.toArray:=by simp
 rw [e1,e2] at h3
 refine ⟨by simpa using h3,?_⟩
 rw [List.pairwise_iff_getElem]
 intro i j hi hj hij
 have:=h4 i j (Nat.zero_le _) hij (by rw [← hs];simpa using hj)
 rw [getElem!_pos d j (by simpa using hj),getElem!_pos d i (by simpa using hi)] at this
 simpa using this
theorem lc (hO:Sort.SWO (ltOf cf)) (l:List α):(ij cf l).length = l.length:=(fM hO l).1.length_eq
end
section
variable {P:Program}
theorem vj {α:Type} {F G:FuncId} {k e:Nat} {enc:α → List Value} (hE:Cp k enc) {l l':List α} (hlen:l'.length = l.length) (hent:Jq P F)
   (hnil:∀ w,Calls P F #[.slice none 0 0,.func (.func G) #[] #[]] w fun e w'=>e = .returned (.tuple #[]) ∧ w' = w)
   (hrun:∀ (b cap:Nat) (w:World),b < w.heap.size → (∀ i x,l[i]? = some x → ∀ j v,(enc x)[j]? = some v → w.cell? ⟨b,i * k + j,none⟩ = some v ∧ w.frozen? ⟨b,i * k + j,none⟩ = false) →
     Calls P F #[.slice (some ⟨b,0,none⟩) l.length cap,.func (.func G) #[] #[]] w fun e w'=>e = .returned (.tuple #[]) ∧ ∃ (n:Nat) (os:Array Obj) (f:Array Value → Array Value),w' = Sort.grow (Sort.mapBlock (Sort.ahead w n) b f) os ∧
       ∀ cs:Array Value,(f cs).size = cs.size ∧ ∀ i x,l'[i]? = some x → ∀ j v,(enc x)[j]? = some v → i * k + j < cs.size → (f cs)[i * k + j]? = some v) :
   dY P F [.row 1000 0,.per (ao (.func (.func G) #[] #[]))] [(1000,.row e k (l.map (dD enc)))] .any [(1000,.row e k (l'.map (dD enc)))]:=by
 refine ⟨hent,?_⟩
 intro C w vs hW hN hO hvl hvs hb
 obtain ⟨v0,v1,rfl⟩:∃ v0 v1,vs = [v0,v1]:=by match vs,hvl with|[a,b],_=>exact ⟨a,b,rfl⟩
 have h0:=hvs 0 v0 _ rfl rfl
 have h1:=hvs 1 v1 _ rfl rfl
 have e1:v1 = .func (.func G) #[] #[]:=h1
 have e0:v0 = C.G0.rh 1000:=h0.2 rfl
 subst e0 e1
 have other:∀ (l:List α) id,id ≠ 1000 → dr id [(1000,Blk.row e k (l.map (dD enc)))] = .none:=fun l id h=>by simp [dr,d0 h]
 have this1:∀ (l:List α),dr 1000 [(1000,Blk.row e k (l.map (dD enc)))] = .row e k (l.map (dD enc)):=fun l=>rfl
 have hrow:=hb 1000
 rw [this1] at hrow
 rcases hrow with ⟨q1,q2⟩|⟨cap,cs,q1,q2,q3,q4,q5,q6,q7⟩
 · have hl0:l = []:=by simpa using q2
   have hl0':l' = []:=List.eq_nil_of_length_eq_zero (by rw [hlen,hl0];rfl)
   rw [q1]
   refine (hnil w).mono ?_
   rintro e' w' ⟨rfl,rfl⟩
   refine ⟨_,C.G0,rfl,⟨rfl,rfl,rfl,Nat.le_refl _,fun _ _ _=>rfl,fun b id h=>⟨(hO b id h).1,.inr (hO b id h).2⟩,fun _ _=>⟨rfl,rfl⟩⟩,trivial,fun id=>?_⟩
   by_cases hid:id = 1000
   · subst hid
     exact .inl ⟨q1,by rw [hl0'];rfl⟩
   · rw [other _ _ hid];trivial
 · rw [List.length_map] at q1 q4
   obtain ⟨b,hb0⟩:∃ b,b = C.G0.ph 1000:=⟨_,rfl⟩
   rw [← hb0] at q1 q2 q3
   have hbl:=hO b 1000 q3
   have hcells:∀ i x,l[i]? = some x → ∀ j v,(enc x)[j]? = some v → w.cell? ⟨b,i * k + j,none⟩ = some v ∧ w.frozen? ⟨b,i * k + j,none⟩ = false:=by
     intro i x hi j v hj
     obtain ⟨_,g⟩:=q7 i (dD enc x) (by rw [List.getElem?_map,hi];rfl)
     obtain ⟨y,y1,_,y3⟩:=g j (ao v) (by unfold dD;rw [List.getElem?_map,hj];rfl)
     have y3:y = v:=y3
     subst y3
     refine ⟨by simp [World.cell?,q2,y1],by simp [World.frozen?,q2]⟩
   rw [q1]
   refine (hrun b cap w hbl.1 hcells).mono ?_
   rintro e' w' ⟨rfl,n,os,f,rfl,hf⟩
   have hblock:∀ b',b' < w.heap.size → b' ≠ b → (Sort.grow (Sort.mapBlock (Sort.ahead w n) b f) os).heap[b']? = w.heap[b']?:=fun b' h h'=>by
     show ((w.heap.modify b (Sort.onCells f)) ++ os)[b']? = _
     rw [Array.getElem?_append_left (by simpa using h),Array.getElem?_modify,if_neg (Ne.symm h')]
   have hthis:(Sort.grow (Sort.mapBlock (Sort.ahead w n) b f) os).heap[b]? = some (.cells (f cs) e (0,0)):=by
     show ((w.heap.modify b (Sort.onCells f)) ++ os)[b]? = _
     rw [Array.getElem?_append_left (by simpa using hbl.1),Array.getElem?_modify,if_pos rfl,q2]
     rfl
   have hsz:w.heap.size ≤ (Sort.grow (Sort.mapBlock (Sort.ahead w n) b f) os).heap.size:=by
     show _ ≤ ((w.heap.modify b (Sort.onCells f)) ++ os).size
     simp
   refine ⟨_,C.G0,rfl,⟨rfl,rfl,rfl,hsz,fun b' h h'=>hblock b' h (fun e=>h' (e ▸ hbl.2)),fun b' id h=>⟨Nat.lt_of_lt_of_le (hO b' id h).1 hsz,.inr (hO b' id h).2⟩,fun _ _=>⟨rfl,rfl⟩⟩,trivial,fun id=>?_⟩
   by_cases hid:id = 1000
   · subst hid
     obtain ⟨f1,f2⟩:=hf cs
     refine .inr ⟨cap,f cs,?_,?_,?_,by simpa [hlen] using q4,q5,by rw [f1];exact q6,?_⟩
     · rw [← hb0,List.length_map,hlen];exact q1
     · rw [← hb0];exact hthis
     · rw [← hb0];exact q3
     · intro i ps hi
       rw [List.getElem?_map] at hi
       obtain ⟨x,hx,rfl⟩:=Option.map_eq_some_iff.1 hi
       refine ⟨by simp [dD,hE.len],fun j A hj=>?_⟩
       unfold dD at hj
       rw [List.getElem?_map] at hj
       obtain ⟨v,hv,rfl⟩:=Option.map_eq_some_iff.1 hj
       have hj':j < k:=by
         rw [← hE.len x];exact (List.getElem?_eq_some_iff.1 hv).1
       have hi':i < l'.length:=(List.getElem?_eq_some_iff.1 hx).1
       have hlt:i * k + j < cs.size:=by
         rw [q6]
         have h2:(i + 1) * k ≤ cap * k:=Nat.mul_le_mul_right k (by omega)
         rw [Nat.add_mul,Nat.one_mul] at h2
         omega
       exact ⟨v,f2 i x hx j v hv hlt,hE.one x v (List.mem_of_getElem? hv),rfl⟩
   · rw [other _ _ hid];trivial
theorem zo {i j k:Nat} (h:j < k):(i * k + j) / k = i ∧ (i * k + j) % k = j:=by
 have hk:0 < k:=by omega
 refine ⟨?_,?_⟩
 · rw [Nat.add_comm,Nat.add_mul_div_right _ _ hk,Nat.div_eq_of_lt h,Nat.zero_add]
 · rw [Nat.add_comm,Nat.add_mul_mod_self_right,Nat.mod_eq_of_lt h]
theorem put_get {β:Type} [Inhabited β] (en:β → Value) (F:Array β) (cs:Array Value) (t:Nat) (h:t < cs.size) (hF:t < F.size):(Sort.putCells en 0 F cs)[t]? = some (en F[t]!):=by
 unfold Sort.putCells
 rw [Array.getElem?_mapIdx,Array.getElem?_eq_getElem h]
 simp only [Option.map_some]
 rw [if_pos ⟨Nat.zero_le _,by omega⟩,Nat.sub_zero]
theorem nN {β:Type} [Inhabited β] (en:β → Value) (F:Array β) (cs:Array Value):(Sort.putCells en 0 F cs).size = cs.size:=by
 unfold Sort.putCells;simp
theorem nP {α:Type} [Inhabited α] {ρ:Ren} {G k e:Nat} (L:SlLaysF0.n6 P ρ) (aE:∀ w,(isAgg (ρ.t 24)).run P w = .ok true w) (zE:∀ w,(Go.sizeOf (ρ.t 24)).run P w = .ok k w) {enc:α → List Value} (hE:Cp k enc)
   {cf:α → α → Int} (hO:Sort.SWO (ltOf cf)) (eg:∀ args w,(callFunc G args).run P w = .ok (.enter G args) w)
   (hc:∀ x y w,Calls P G #[.agg (enc x).toArray,.agg (enc y).toArray] w fun e w'=>e = .returned (.int .i64 (cf x y)) ∧ Gw w w') (hent:Jq P (ρ.f 6)) (l:List α) (hl:l.length < 4611686018427387904) :
   dY P (ρ.f 6) [.row 1000 0,.per (ao (.func (.func G) #[] #[]))] [(1000,.row e k (l.map (dD enc)))] .any [(1000,.row e k ((ij cf l).map (dD enc)))]:=by
 refine vj hE (lc hO l) hent (fun w=>AnyF.slices_SortFunc_none L none 0 _ w) ?_
 intro b cap w hb hcells
 have hH:Sort.HoldsK enc k w b 0 l.toArray:=by
   intro t ht
   rw [Sort.size_flatK] at ht
   have hk:0 < k:=hE.pos
   have hi:t / k < l.length:=Nat.div_lt_of_lt_mul (by rw [Nat.mul_comm];simpa using ht)
   have hj:t % k < (enc (l[t / k])).length:=by rw [hE.len];exact Nat.mod_lt _ hk
   have h1:=hcells (t / k) l[t / k] (List.getElem?_eq_getElem hi) (t % k) _ (List.getElem?_eq_getElem hj)
   rw [Sort.get_flatK _ _ _ _ ht,Nat.zero_add,show t / k * k + t % k = t from by rw [Nat.mul_comm];exact Nat.div_add_mod t k] at *
   rw [getElem!_pos l.toArray (t / k) (by simpa using hi),List.getElem_toArray,getElem!_pos _ (t % k) hj]
   exact h1
 have hcmp:CmpLays P G #[] enc k cf b 0 l.toArray.size w:=fun m os dk _ x y=>hc x y _
 have:=AnyQ.slices_SortFunc_eq (P:=P) (ρ:=ρ) L k aE zE enc hE.len hE.one cf hO G #[] b 0 cap l.toArray w eg hcmp hH hb (by simpa using hl)
 rw [List.size_toArray] at this
 refine this.mono ?_
 rintro e' w' ⟨he,n,os,hw⟩
 have hs:=lc hO l
 unfold ij at hs ⊢
 generalize Sort.pdq (ltOf cf) l.toArray 0 l.length (Lib.bitLen l.length) true true = d at *
 rw [Array.length_toList] at hs
 refine ⟨he,n,os,Sort.putCells id 0 (Sort.flatK enc k d),hw,fun cs=>⟨nN _ _ _,fun i x hi j v hj hlt=>?_⟩⟩
 have hj':j < k:=by rw [← hE.len x];exact (List.getElem?_eq_some_iff.1 hj).1
 have hi':i < d.size:=by simpa using (List.getElem?_eq_some_iff.1 hi).1
 have hlt':i * k + j < d.size * k:=by
   have:=Nat.mul_le_mul_right k (show i + 1 ≤ d.size from hi')
   rw [Nat.add_mul,Nat.one_mul] at this
   omega
 rw [put_get _ _ _ _ hlt (by rw [Sort.size_flatK];exact hlt'),Sort.get_flatK _ _ _ _ hlt',(zo hj').1,(zo hj').2]
 have ex:d[i]! = x:=by
   rw [getElem!_pos d i hi']
   have:=(List.getElem?_eq_some_iff.1 hi).2
   simpa using this
 obtain ⟨q1,q2⟩:=List.getElem?_eq_some_iff.1 hj
 rw [ex,getElem!_pos _ j q1,q2]
 rfl
theorem AX {α:Type} [Inhabited α] {ρ:Ren} {G e:Nat} (L:SlLaysF.n6 P ρ) {enc:α → Value} (hE:OneCell enc)
   {cf:α → α → Int} (hO:Sort.SWO (ltOf cf)) (eg:∀ args w,(callFunc G args).run P w = .ok (.enter G args) w)
   (hc:∀ x y w,Calls P G #[enc x,enc y] w fun e w'=>e = .returned (.int .i64 (cf x y)) ∧ Gw w w') (hent:Jq P (ρ.f 6)) (l:List α) (hl:l.length < 4611686018427387904) :
   dY P (ρ.f 6) [.row 1000 0,.per (ao (.func (.func G) #[] #[]))] [(1000,.row e 1 (l.map (dD fun x=>[enc x])))] .any [(1000,.row e 1 ((ij cf l).map (dD fun x=>[enc x])))]:=by
 refine vj (enc:=fun x=>[enc x]) ⟨by decide,fun _=>rfl,fun x v hv=>by simp at hv;subst hv;exact hE x⟩ (lc hO l) hent (fun w=>AnyF.slices_SortFunc_none { L with } none 0 _ w) ?_
 intro b cap w hb hcells
 have hH:Sort.Holds enc w b 0 l.toArray:=by
   intro t ht
   have hi:t < l.length:=by simpa using ht
   have h1:=hcells t l[t] (List.getElem?_eq_getElem hi) 0 _ rfl
   rw [Nat.mul_one,Nat.add_zero] at h1
   rw [getElem!_pos l.toArray t (by simpa using hi),List.getElem_toArray,Nat.zero_add]
   exact h1
 have hcmp:CmpLays1 P G #[] enc cf b 0 l.toArray.size w:=fun m os dk _ x y=>hc x y _
 have:=Any.slices_SortFunc_eq (P:=P) (ρ:=ρ) L enc hE cf hO G #[] b 0 cap l.toArray w eg hcmp hH hb (by simpa using hl)
 rw [List.size_toArray] at this
 refine this.mono ?_
 rintro e' w' ⟨he,n,os,hw⟩
 have hs:=lc hO l
 unfold ij at hs ⊢
 generalize Sort.pdq (ltOf cf) l.toArray 0 l.length (Lib.bitLen l.length) true true = d at *
 rw [Array.length_toList] at hs
 refine ⟨he,n,os,Sort.putCells enc 0 d,hw,fun cs=>⟨nN _ _ _,fun i x hi j v hj hlt=>?_⟩⟩
 obtain ⟨q1,q2⟩:=List.getElem?_eq_some_iff.1 hj
 obtain rfl:j = 0:=by simpa using q1
 have hi':i < d.size:=by simpa using (List.getElem?_eq_some_iff.1 hi).1
 rw [Nat.mul_one,Nat.add_zero] at hlt ⊢
 rw [put_get _ _ _ _ hlt hi']
 have ex:d[i]! = x:=by
   rw [getElem!_pos d i hi']
   have:=(List.getElem?_eq_some_iff.1 hi).2
   simpa using this
 rw [ex]
 simpa using q2
end
end Go.Proofs.YtembiemaiacdfaaGreat
