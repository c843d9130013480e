/- Texts joined: Rd IcR Law19P IcLR. -/
import Derived.Test.YtfcpkegmdlchhaaGreatJ06
import Derived.Test.YtfcpkegmdlchhaaGreatJ10
import Derived.Test.YtfcpkegmdlchhaaGreatJ07
import Derived.Test.YtfcpkegmdlchhaaGreatJ08
set_option maxRecDepth 10000
set_option maxHeartbeats 8000000
namespace Go.Proofs.YtfcpkegmdlchhaaGreat
open Go.RowKit
abbrev bysP (l:List UInt8):PV:=lstP 1 (l.map byteP)
abbrev rdBox (l:List UInt8) (e:Int):Blk:=.box 140 [.per (bysP l),iC .i64 e]
abbrev rdC:Cnt:=.ptr 1000 0 0
section
theorem n_Err (l:List UInt8) (e:Int):FnM Tryz.prog 148 [rdC] [(1000,rdBox l e)] (iC .i64 e) [(1000,rdBox l e)]:=by
 refine fmi Tryz.func148 Tryz.ntmps148 ?_
 (refine w0 ?_;(repeat' first|refine W2.mk ?_ ?_|refine W1.mk fun hc=>?_))
 (refine ⟨(by first|exact .inl rfl|exact .inr rfl),resM1 [(1000,1000)] rfl rfl ?_ ?_⟩;(focus (repeat (first|exact AllX.nil|(refine AllX.cons rfl ?_ ?_;(focus first|rfl|skip))))))
 exact rvm_int rfl rfl
theorem n_Left (l:List UInt8) (e:Int):FnM Tryz.prog 150 [rdC] [(1000,rdBox l e)] (iC .i64 (l.length:Int)) [(1000,rdBox l e)]:=by
 refine fmi Tryz.func150 Tryz.ntmps150 ?_
 (refine w0 ?_;(repeat' first|refine W2.mk ?_ ?_|refine W1.mk fun hc=>?_))
 (refine ⟨(by first|exact .inl rfl|exact .inr rfl),resM1 [(1000,1000)] rfl rfl ?_ ?_⟩;(focus (repeat (first|exact AllX.nil|(refine AllX.cons rfl ?_ ?_;(focus first|rfl|skip))))))
 exact rvm_int rfl (by simp)
theorem n_Fail (l:List UInt8) (e x:Int):FnM Tryz.prog 149 [rdC,iC .i64 x] [(1000,rdBox l e)] .any [(1000,rdBox l (failSt x l e).2)]:=by
 unfold failSt
 by_cases h0:e = 0
 · subst h0
   refine fmi Tryz.func149 Tryz.ntmps149 ?_
   (refine w0 ?_;(repeat' first|refine W2.mk ?_ ?_|refine W1.mk fun hc=>?_))
   (refine ⟨(by first|exact .inl rfl|exact .inr rfl),resM0 [(1000,1000)] rfl rfl ?_⟩;(focus (repeat (first|exact AllX.nil|(refine AllX.cons rfl ?_ ?_;(focus first|rfl|skip))))))
 · rw [if_neg h0]
   refine fmi Tryz.func149 Tryz.ntmps149 ?_
   (refine w0 ?_;(repeat' first|refine W2.mk ?_ ?_|refine W1.mk fun hc=>?_))
   (refine ⟨(by first|exact .inl rfl|exact .inr rfl),resM0 [(1000,1000)] rfl rfl ?_⟩;(focus (repeat (first|exact AllX.nil|(refine AllX.cons rfl ?_ ?_;(focus first|rfl|skip))))))
def sizeSt (l:List UInt8):Nat × Int:=if 8 ≤ lead l then (0,11) else if l.length ≤ lead l then (0,10) else (lead l + 1,0)
theorem n_size (l:List UInt8) (e:Int):FnM Tryz.prog 181 [rdC] [(1000,rdBox l e)] (.tup2 (iC .i64 ((sizeSt l).1:Nat)) (iC .i64 (sizeSt l).2)) [(1000,rdBox l e)]:=by
 have hll:=lead_le l
 refine fmi Tryz.func181 Tryz.ntmps181 ?_
 (refine w0 ?_;(repeat' first|refine W2.mk ?_ ?_|refine W1.mk fun hc=>?_))
 refine AW_loopP (fun k=>k ≤ lead l ∧ k ≤ 8) (fun k=>mkSt [(0,rdC),(10,iC .i64 (if 8 < l.length then 8 else l.length:Int)),(11,iC .i64 (k:Nat))] [(1000,rdBox l e)]) (fun k=>8 - k) 0 ⟨Nat.zero_le _,by omega⟩ ?_ ?_
 · exact le_auto
 · rintro k ⟨hk,hk8⟩
   have hst:=lead_step l k
   (refine w0 ?_;(repeat' first|refine W2.mk ?_ ?_|refine W1.mk fun hc=>?_))
   · have hkl:k < l.length:=by omega
     have h1:=(hst hkl hk).2 (by omega)
     (refine ⟨(by first|exact .inl rfl|exact .inr rfl),resM2 [(1000,1000)] rfl rfl ?_ ?_ ?_⟩;(focus (repeat (first|exact AllX.nil|(refine AllX.cons rfl ?_ ?_;(focus first|rfl|skip))))))
     · exact rvm_int rfl (by unfold sizeSt;rw [if_neg (by omega),if_neg (by omega)];simp;omega)
     · exact rvm_int rfl (by unfold sizeSt;rw [if_neg (by omega),if_neg (by omega)])
   · have hkl:k < l.length:=by omega
     have h1:=(hst hkl hk).1 (by omega)
     refine ⟨k + 1,⟨by omega,by omega⟩,by omega,?_⟩
     exact le_auto
   · (refine ⟨(by first|exact .inl rfl|exact .inr rfl),resM2 [(1000,1000)] rfl rfl ?_ ?_ ?_⟩;(focus (repeat (first|exact AllX.nil|(refine AllX.cons rfl ?_ ?_;(focus first|rfl|skip))))))
     · exact rvm_int rfl (by unfold sizeSt;rw [if_pos (by omega)];rfl)
     · exact rvm_int rfl (by unfold sizeSt;rw [if_pos (by omega)])
   · (refine ⟨(by first|exact .inl rfl|exact .inr rfl),resM2 [(1000,1000)] rfl rfl ?_ ?_ ?_⟩;(focus (repeat (first|exact AllX.nil|(refine AllX.cons rfl ?_ ?_;(focus first|rfl|skip))))))
     · exact rvm_int rfl (by unfold sizeSt;rw [if_neg (by omega),if_pos (by omega)];rfl)
     · exact rvm_int rfl (by unfold sizeSt;rw [if_neg (by omega),if_pos (by omega)])
theorem leVal_drop (l:List UInt8) (k:Nat) (h:k < l.length):leVal (l.drop k) = l[k].toNat % 128 + 128 * leVal (l.drop (k + 1)):=by
 rw [List.drop_eq_getElem_cons h];rfl
theorem n_Number (l:List UInt8) (e:Int):FnM Tryz.prog 147 [rdC] [(1000,rdBox l e)] (iC .i64 (numSt l e).1) [(1000,rdBox (numSt l e).2.1 (numSt l e).2.2)]:=by
 have hll:=lead_le l
 by_cases he:e = 0
 · subst he
   by_cases hs:(sizeSt l).2 = 0
   · have hz:lead l < 8 ∧ lead l < l.length ∧ sizeSt l = (lead l + 1,0):=by
       unfold sizeSt at hs ⊢
       split at hs
       · simp at hs
       · split at hs
         · simp at hs
         · rename_i h1 h2;rw [if_neg h1,if_neg h2];exact ⟨by omega,by omega,rfl⟩
     obtain ⟨z1,z2,z3⟩:=hz
     have hns:=n_size l 0
     rw [z3] at hns
     have hb:numSt l 0 = if rdBad l then (0,l,11) else (((leVal (l.take (lead l + 1)):Nat):Int),l.drop (lead l + 1),0):=by
       unfold numSt rdNum
       rw [if_neg (by simp),if_neg (show ¬ 8 ≤ lead l by omega),if_neg (show ¬ l.length ≤ lead l by omega)]
       by_cases hb:rdBad l
       · simp [hb]
       · simp [hb]
     rw [hb]
     clear hb z3 hs
     have h128:∀ k,k ≤ lead l + 1 → leVal ((l.take (lead l + 1)).drop k) ≤ 72057594037927935:=by
       intro k hk
       have h1:=leVal_lt ((l.take (lead l + 1)).drop k)
       have h2:(128:Nat) ^ ((l.take (lead l + 1)).drop k).length ≤ 128 ^ 8:=Nat.pow_le_pow_right (by decide) (by simp;omega)
       have h3:(128:Nat) ^ 8 = 72057594037927936:=by decide
       omega
     have hbad:rdBad l ↔ ((lead l + 1 > 1 ∧ l[lead l].toNat = 0) ∨ leVal (l.take (lead l + 1)) > 281474976710656):=by
       unfold rdBad
       have h0:l[lead l]? = some 0 ↔ l[lead l].toNat = 0:=by
         rw [List.getElem?_eq_getElem z2,Option.some.injEq,← UInt8.toNat_inj];rfl
       rw [h0]
       constructor
       · rintro (⟨a,b⟩|a)
         · exact .inl ⟨by omega,b⟩
         · exact .inr a
       · rintro (⟨a,b⟩|a)
         · exact .inl ⟨by omega,b⟩
         · exact .inr a
     refine fmi Tryz.func147 Tryz.ntmps147 ?_
     (have kr1:=n_Err l 0;have kr2:=hns;refine w0 ?_;(repeat' first|refine W2.mk ?_ ?_|refine W1.mk fun hc=>?_);all_goals clear kr2 kr1)
     refine AW_loopP (fun j=>j ≤ lead l + 1) (fun j=>mkSt [(0,rdC),(3,iC .i64 ((lead l + 1:Nat):Int)),(5,iC .i64 (leVal ((l.take (lead l + 1)).drop j):Nat)),(6,iC .i64 ((j:Int) - 1))] [(1000,rdBox l 0)]) (fun j=>j) (lead l + 1) (Nat.le_refl _) ?_ ?_
     · have h0:(l.take (lead l + 1)).drop (lead l + 1) = []:=by simp
       rw [h0]
       exact le_auto
     · intro j hj
       cases j with
       | succ j=>
         have hv:=leVal_drop (l.take (lead l + 1)) j (by simp;omega)
         have hb1:=h128 j (by omega)
         have hb2:=h128 (j + 1) (by omega)
         rw [List.getElem_take] at hv
         rw [show ((j + 1:Nat):Int) - 1 = (j:Int) by omega]
         (refine w0 ?_;(repeat' first|refine W2.mk ?_ ?_|refine W1.mk fun hc=>?_))
         refine ⟨j,by omega,by omega,?_⟩
         exact le_auto
       | zero=>
         rw [List.drop_zero]
         have hb1:=h128 0 (by omega)
         rw [List.drop_zero] at hb1
         have hnb:∀ h:¬ rdBad l,(if rdBad l then ((0:Int),l,(11:Int)) else (((leVal (l.take (lead l + 1)):Nat):Int),l.drop (lead l + 1),0)) = (((leVal (l.take (lead l + 1)):Nat):Int),l.drop (lead l + 1),0):=fun h=>if_neg h
         by_cases h1:lead l + 1 > 1
         · (have kr1:=n_Fail l 0 11;refine w0 ?_;(repeat' first|refine W2.mk ?_ ?_|refine W1.mk fun hc=>?_);all_goals clear kr1)
           · rw [if_pos (hbad.2 (.inl ⟨h1,by omega⟩))]
             (refine ⟨(by first|exact .inl rfl|exact .inr rfl),resM1 [(1000,1000)] rfl rfl ?_ ?_⟩;(focus (repeat (first|exact AllX.nil|(refine AllX.cons rfl ?_ ?_;(focus first|rfl|skip))))))
             exact rvm_int rfl rfl
           · rw [if_pos (hbad.2 (.inr (by omega)))]
             (refine ⟨(by first|exact .inl rfl|exact .inr rfl),resM1 [(1000,1000)] rfl rfl ?_ ?_⟩;(focus (repeat (first|exact AllX.nil|(refine AllX.cons rfl ?_ ?_;(focus first|rfl|skip))))))
             exact rvm_int rfl rfl
           · rw [hnb (fun h=>by have:=hbad.1 h;omega)]
             (refine ⟨(by first|exact .inl rfl|exact .inr rfl),resM1 [(1000,1000)] rfl rfl ?_ ?_⟩;(focus (repeat (first|exact AllX.nil|(refine AllX.cons rfl ?_ ?_;(focus first|rfl|skip))))))
             exact rvm_int rfl rfl
         · (have kr1:=n_Fail l 0 11;refine w0 ?_;(repeat' first|refine W2.mk ?_ ?_|refine W1.mk fun hc=>?_);all_goals clear kr1)
           · rw [if_pos (hbad.2 (.inr (by omega)))]
             (refine ⟨(by first|exact .inl rfl|exact .inr rfl),resM1 [(1000,1000)] rfl rfl ?_ ?_⟩;(focus (repeat (first|exact AllX.nil|(refine AllX.cons rfl ?_ ?_;(focus first|rfl|skip))))))
             exact rvm_int rfl rfl
           · rw [hnb (fun h=>by have:=hbad.1 h;omega)]
             (refine ⟨(by first|exact .inl rfl|exact .inr rfl),resM1 [(1000,1000)] rfl rfl ?_ ?_⟩;(focus (repeat (first|exact AllX.nil|(refine AllX.cons rfl ?_ ?_;(focus first|rfl|skip))))))
             exact rvm_int rfl rfl
   · have hb:numSt l 0 = (0,l,(sizeSt l).2):=by
       unfold numSt rdNum sizeSt at *
       rw [if_neg (by simp)]
       by_cases h1:8 ≤ lead l
       · simp [h1]
       · by_cases h2:l.length ≤ lead l
         · simp [h1,h2]
         · rw [if_neg h1,if_neg h2] at hs;exact absurd rfl hs
     rw [hb]
     refine fmi Tryz.func147 Tryz.ntmps147 ?_
     (have kr1:=n_Err l 0;have kr2:=n_size l 0;refine w0 ?_;(repeat' (first|refine W2.mk ?_ ?_|refine W1.mk fun hc=>?_|((first|apply AL_t rfl|apply AL_0 rfl|apply AD_t rfl|apply AD_0 rfl);(focus (first|exact c_RA (n_Fail l 0 _)|(apply u_g;(focus rfl);apply op_gyes rfl rfl rfl rfl rfl;first|exact c_RA (n_Fail l 0 _))));refine w0 ?_)));all_goals clear kr2 kr1)
     rw [show sizeSt l = sizeSt l from rfl]
     (refine ⟨(by first|exact .inl rfl|exact .inr rfl),resM1 [(1000,1000)] rfl rfl ?_ ?_⟩;(focus (repeat (first|exact AllX.nil|(refine AllX.cons rfl ?_ ?_;(focus first|rfl|skip))))))
     exact rvm_int rfl rfl
 · have hb:numSt l e = (0,l,e):=by unfold numSt;rw [if_pos he]
   rw [hb]
   refine fmi Tryz.func147 Tryz.ntmps147 ?_
   (have kr1:=n_Err l e;refine w0 ?_;(repeat' first|refine W2.mk ?_ ?_|refine W1.mk fun hc=>?_);all_goals clear kr1)
   (refine ⟨(by first|exact .inl rfl|exact .inr rfl),resM1 [(1000,1000)] rfl rfl ?_ ?_⟩;(focus (repeat (first|exact AllX.nil|(refine AllX.cons rfl ?_ ?_;(focus first|rfl|skip))))))
   exact rvm_int rfl rfl
end
end Go.Proofs.YtfcpkegmdlchhaaGreat
namespace Go.Proofs.YtfcpkegmdlchhaaGreat
open Go.RowKit
section
variable (l:List UInt8) (e:Int)
theorem r_at:FnM Tryz.prog 146 [rdC] [(1000,rdBox l e)] rdC [(1000,rdBox l e)]:=by
 refine fmi Tryz.func146 Tryz.ntmps146 ?_
 (refine w0 ?_;(repeat' first|refine W2.mk ?_ ?_|refine W1.mk fun hc=>?_))
 (refine ⟨(by first|exact .inl rfl|exact .inr rfl),resM1 [(1000,1000)] rfl rfl ?_ ?_⟩;(focus (repeat (first|exact AllX.nil|(refine AllX.cons rfl ?_ ?_;(focus first|rfl|skip))))))
 exact rvm rfl rfl
theorem r_Err:FnM Tryz.prog 95 [rdC] [(1000,rdBox l e)] (iC .i64 e) [(1000,rdBox l e)]:=by
 refine fmi Tryz.func95 Tryz.ntmps95 ?_
 (have kr1:=r_at l e;have kr2:=n_Err l e;refine w0 ?_;(repeat' first|refine W2.mk ?_ ?_|refine W1.mk fun hc=>?_);all_goals clear kr2 kr1)
 (refine ⟨(by first|exact .inl rfl|exact .inr rfl),resM1 [(1000,1000)] rfl rfl ?_ ?_⟩;(focus (repeat (first|exact AllX.nil|(refine AllX.cons rfl ?_ ?_;(focus first|rfl|skip))))))
 exact rvm_int rfl rfl
theorem r_Left:FnM Tryz.prog 97 [rdC] [(1000,rdBox l e)] (iC .i64 (l.length:Int)) [(1000,rdBox l e)]:=by
 refine fmi Tryz.func97 Tryz.ntmps97 ?_
 (have kr1:=r_at l e;have kr2:=n_Left l e;refine w0 ?_;(repeat' first|refine W2.mk ?_ ?_|refine W1.mk fun hc=>?_);all_goals clear kr2 kr1)
 (refine ⟨(by first|exact .inl rfl|exact .inr rfl),resM1 [(1000,1000)] rfl rfl ?_ ?_⟩;(focus (repeat (first|exact AllX.nil|(refine AllX.cons rfl ?_ ?_;(focus first|rfl|skip))))))
 exact rvm_int rfl rfl
theorem r_Fail (x:Int):FnM Tryz.prog 96 [rdC,iC .i64 x] [(1000,rdBox l e)] .any [(1000,rdBox l (failSt x l e).2)]:=by
 refine fmi Tryz.func96 Tryz.ntmps96 ?_
 (have kr1:=r_at l e;have kr2:=n_Fail l e x;refine w0 ?_;(repeat' first|refine W2.mk ?_ ?_|refine W1.mk fun hc=>?_);all_goals clear kr2 kr1)
 (refine ⟨(by first|exact .inl rfl|exact .inr rfl),resM0 [(1000,1000)] rfl rfl ?_⟩;(focus (repeat (first|exact AllX.nil|(refine AllX.cons rfl ?_ ?_;(focus first|rfl|skip))))))
theorem r_Number:FnM Tryz.prog 94 [rdC] [(1000,rdBox l e)] (iC .i64 (numSt l e).1) [(1000,rdBox (numSt l e).2.1 (numSt l e).2.2)]:=by
 refine fmi Tryz.func94 Tryz.ntmps94 ?_
 (have kr1:=r_at l e;have kr2:=n_Number l e;refine w0 ?_;(repeat' first|refine W2.mk ?_ ?_|refine W1.mk fun hc=>?_);all_goals clear kr2 kr1)
 (refine ⟨(by first|exact .inl rfl|exact .inr rfl),resM1 [(1000,1000)] rfl rfl ?_ ?_⟩;(focus (repeat (first|exact AllX.nil|(refine AllX.cons rfl ?_ ?_;(focus first|rfl|skip))))))
 exact rvm_int rfl rfl
theorem r_keep:FnM Tryz.prog 93 [rdC] [(1000,rdBox l e)] (.per (bysP l)) [(1000,rdBox l e)]:=by
 refine fmi Tryz.func93 Tryz.ntmps93 ?_
 (refine w0 ?_;(repeat' first|refine W2.mk ?_ ?_|refine W1.mk fun hc=>?_))
 (refine ⟨(by first|exact .inl rfl|exact .inr rfl),resM1 [(1000,1000)] rfl rfl ?_ ?_⟩;(focus (repeat (first|exact AllX.nil|(refine AllX.cons rfl ?_ ?_;(focus first|rfl|skip))))))
 exact rvm_per rfl rfl
theorem r_Within (lo hi:Int):FnM Tryz.prog 42 [rdC,iC .i64 lo,iC .i64 hi] [(1000,rdBox l e)] (iC .i64 (withinSt lo hi l e).1) [(1000,rdBox (withinSt lo hi l e).2.1 (withinSt lo hi l e).2.2)]:=by
 have hN:=r_Number l e
 generalize hQ:withinSt lo hi l e = Q at *
 unfold withinSt at hQ
 generalize numSt l e = q at *
 obtain ⟨m,l',e'⟩:=q
 simp only at hN hQ
 refine fmi Tryz.func42 Tryz.ntmps42 ?_
 (have kr1:=r_keep l e;have kr2:=hN;have kr3:=r_Err l' e';have kr4:=r_Fail l e' 11;refine w0 ?_;(repeat' first|refine W2.mk ?_ ?_|refine W1.mk fun hc=>?_);all_goals clear kr4 kr3 kr2 kr1)
 · rw [if_pos ⟨by assumption,.inl (by assumption)⟩] at hQ
   subst hQ
   have h0:e' = 0:=by assumption
   subst h0
   (refine ⟨(by first|exact .inl rfl|exact .inr rfl),resM1 [(1000,1000)] rfl rfl ?_ ?_⟩;(focus (repeat (first|exact AllX.nil|(refine AllX.cons rfl ?_ ?_;(focus first|rfl|skip))))))
   exact rvm_int rfl rfl
 · rw [if_pos ⟨by assumption,.inr (by omega)⟩] at hQ
   subst hQ
   have h0:e' = 0:=by assumption
   subst h0
   (refine ⟨(by first|exact .inl rfl|exact .inr rfl),resM1 [(1000,1000)] rfl rfl ?_ ?_⟩;(focus (repeat (first|exact AllX.nil|(refine AllX.cons rfl ?_ ?_;(focus first|rfl|skip))))))
   exact rvm_int rfl rfl
 · rw [if_neg (by omega)] at hQ
   subst hQ
   (refine ⟨(by first|exact .inl rfl|exact .inr rfl),resM1 [(1000,1000)] rfl rfl ?_ ?_⟩;(focus (repeat (first|exact AllX.nil|(refine AllX.cons rfl ?_ ?_;(focus first|rfl|skip))))))
   exact rvm_int rfl rfl
 · rw [if_neg (by omega)] at hQ
   subst hQ
   (refine ⟨(by first|exact .inl rfl|exact .inr rfl),resM1 [(1000,1000)] rfl rfl ?_ ?_⟩;(focus (repeat (first|exact AllX.nil|(refine AllX.cons rfl ?_ ?_;(focus first|rfl|skip))))))
   exact rvm_int rfl rfl
theorem r_Bool:FnM Tryz.prog 151 [rdC] [(1000,rdBox l e)] (bC ((withinSt 0 1 l e).1 == 1)) [(1000,rdBox (withinSt 0 1 l e).2.1 (withinSt 0 1 l e).2.2)]:=by
 refine fmi Tryz.func151 Tryz.ntmps151 ?_
 (have kr1:=r_Within l e 0 1;refine w0 ?_;(repeat' first|refine W2.mk ?_ ?_|refine W1.mk fun hc=>?_);all_goals clear kr1)
 (refine ⟨(by first|exact .inl rfl|exact .inr rfl),resM1 [(1000,1000)] rfl rfl ?_ ?_⟩;(focus (repeat (first|exact AllX.nil|(refine AllX.cons rfl ?_ ?_;(focus first|rfl|skip))))))
 exact rvm_bool rfl rfl
theorem r_End:FnM Tryz.prog 44 [rdC] [(1000,rdBox l e)] (iC .i64 (endSt l e)) [(1000,rdBox l e)]:=by
 unfold endSt
 refine fmi Tryz.func44 Tryz.ntmps44 ?_
 (have kr1:=r_Err l e;have kr2:=r_Left l e;refine w0 ?_;(repeat' first|refine W2.mk ?_ ?_|refine W1.mk fun hc=>?_);all_goals clear kr2 kr1)
 all_goals (refine ⟨(by first|exact .inl rfl|exact .inr rfl),resM1 [(1000,1000)] rfl rfl ?_ ?_⟩;(focus (repeat (first|exact AllX.nil|(refine AllX.cons rfl ?_ ?_;(focus first|rfl|skip))))))
 · exact rvm_int rfl (by rw [if_pos (by omega)])
 · exact rvm_int rfl (by rw [if_neg (by omega)])
 · exact rvm_int rfl (by rw [if_neg (by omega)])
theorem withinSt_rng (most:Int) (h0:(withinSt 0 most l e).2.2 = 0):0 ≤ (withinSt 0 most l e).1 ∧ (withinSt 0 most l e).1 ≤ most:=by
 unfold withinSt at *
 split at h0
 · simp at h0
 · rename_i h
   rw [if_neg h]
   omega
theorem r_Text (most:Int):FnM Tryz.prog 43 [rdC,iC .i64 most] [(1000,rdBox l e)] (sC ⟨(textSt most l e).1.toArray⟩) [(1000,rdBox (textSt most l e).2.1 (textSt most l e).2.2)]:=by
 have hN:=r_Within l e 0 most
 have hrg:=withinSt_rng l e most
 generalize hQ:textSt most l e = Q at *
 unfold textSt at hQ
 generalize withinSt 0 most l e = q at *
 obtain ⟨m,l',e'⟩:=q
 simp only at hN hQ hrg
 by_cases h0:e' = 0
 · subst h0
   obtain ⟨h1,h2⟩:=hrg rfl
   rw [if_neg (by simp)] at hQ
   by_cases h3:(l'.length:Int) < m
   · rw [if_pos h3] at hQ
     subst hQ
     refine fmi Tryz.func43 Tryz.ntmps43 ?_
     (have kr1:=r_keep l e;have kr2:=hN;have kr3:=r_Err l' 0;have kr4:=r_Left l' 0;have kr5:=r_Fail l 0 10;refine w0 ?_;(repeat' first|refine W2.mk ?_ ?_|refine W1.mk fun hc=>?_);all_goals clear kr5 kr4 kr3 kr2 kr1)
     (refine ⟨(by first|exact .inl rfl|exact .inr rfl),resM1 [(1000,1000)] rfl rfl ?_ ?_⟩;(focus (repeat (first|exact AllX.nil|(refine AllX.cons rfl ?_ ?_;(focus first|rfl|skip))))))
     exact rvm_str rfl rfl
   · rw [if_neg h3] at hQ
     subst hQ
     obtain ⟨k,rfl⟩:=Int.eq_ofNat_of_zero_le h1
     have hk:k ≤ l'.length:=by omega
     refine fmi Tryz.func43 Tryz.ntmps43 ?_
     (have kr1:=r_keep l e;have kr2:=hN;have kr3:=r_Err l' 0;have kr4:=r_Left l' 0;refine w0 ?_;(repeat' first|refine W2.mk ?_ ?_|refine W1.mk fun hc=>?_);all_goals clear kr4 kr3 kr2 kr1)
     (refine ⟨(by first|exact .inl rfl|exact .inr rfl),resM1 [(1000,1000)] rfl rfl ?_ ?_⟩;(focus (repeat (first|exact AllX.nil|(refine AllX.cons rfl ?_ ?_;(focus first|rfl|skip))))))
     · exact rvm_str rfl rfl
 · rw [if_pos h0] at hQ
   subst hQ
   refine fmi Tryz.func43 Tryz.ntmps43 ?_
   (have kr1:=r_keep l e;have kr2:=hN;have kr3:=r_Err l' e';refine w0 ?_;(repeat' first|refine W2.mk ?_ ?_|refine W1.mk fun hc=>?_);all_goals clear kr3 kr2 kr1)
   (refine ⟨(by first|exact .inl rfl|exact .inr rfl),resM1 [(1000,1000)] rfl rfl ?_ ?_⟩;(focus (repeat (first|exact AllX.nil|(refine AllX.cons rfl ?_ ?_;(focus first|rfl|skip))))))
   exact rvm_str rfl rfl
theorem v_New (hl:l.length ≤ 1000000000):FnM Tryz.prog 41 [bytesB l] [] (.ptr 3000 0 0) [(3000,rdBox l 0)]:=by
 refine fmi Tryz.func41 Tryz.ntmps41 ?_
 (refine w0 ?_;(repeat' first|refine W2.mk ?_ ?_|refine W1.mk fun hc=>?_))
 refine ⟨.inl rfl,ResM_le (Le_fz 3 _ 5 1 rfl rfl) ?_⟩
 refine resM1 [(8,3000)] rfl rfl ?_ (rvm rfl rfl)
 (repeat (first|exact AllX.nil|(refine AllX.cons rfl ?_ ?_;(focus first|rfl|skip))))
end
end Go.Proofs.YtfcpkegmdlchhaaGreat
namespace Go.Proofs.YtfcpkegmdlchhaaGreat
open Go.RowKit
/-! what is left is always the end of the bytes -/
theorem numSt_suf (l:List UInt8) (e:Int):(numSt l e).2.1 <:+ l:=by
 unfold numSt
 split
 · exact List.suffix_refl l
 · split
   · exact List.suffix_refl l
   · exact List.drop_suffix _ _
theorem withinSt_suf (lo hi:Int) (l:List UInt8) (e:Int):(withinSt lo hi l e).2.1 <:+ l:=by
 unfold withinSt
 split
 · exact List.suffix_refl l
 · exact numSt_suf l e
theorem textSt_suf (most:Int) (l:List UInt8) (e:Int):(textSt most l e).2.1 <:+ l:=by
 unfold textSt
 split
 · exact withinSt_suf 0 most l e
 · split
   · exact List.suffix_refl l
   · exact (List.drop_suffix _ _).trans (withinSt_suf 0 most l e)
theorem suf_drop {b l:List UInt8} (h:l <:+ b):b.drop (b.length - l.length) = l ∧ l.length ≤ b.length:=by
 obtain ⟨t,rfl⟩:=h
 simp
/-- the references' reader: all bytes, where it stands, the first error -/
abbrev rrBox (b l:List UInt8) (e:Int):Blk:=.box 105 [.per (bysP b),iC .i64 ((b.length - l.length:Nat):Int),iC .i64 e]
theorem rdNum_rng (l:List UInt8):(rdNum l).1 ≤ 281474976710656 ∧ (rdNum l).2.1 ≤ l.length ∧ (rdNum l).2.1 ≤ 8 ∧ ((rdNum l).2.2 ≠ 0 → (rdNum l).1 = 0 ∧ (rdNum l).2.1 = 0):=by
 unfold rdNum
 have:=lead_le l
 split
 · simp
 · split
   · simp
   · split
     · simp
     · rename_i h1 h2 h3
       refine ⟨?_,by simp only;omega,by simp only;omega,fun h=>absurd rfl h⟩
       unfold rdBad at h3
       simp only;omega
section
theorem rr_Right (n:Int):Fn Tryz.prog 155 [iC .i64 n] (boR (decide (0 ≤ n ∧ n ≤ 281474976710656))):=by
 refine fi Tryz.func155 Tryz.ntmps155 ?_
 (refine w0 ?_;(repeat' first|refine W2.mk ?_ ?_|refine W1.mk fun hc=>?_))
 all_goals refine rt1 ?_
 · exact rv_bool rfl (by simp;omega)
 · exact rv_bool rfl (by simp;omega)
theorem rr_num (b:List UInt8):Fn Tryz.prog 109 [bytesB b] (.tup3 (.per (rawP (.int .i64 ((rdNum b).1:Nat)))) (.per (rawP (.int .i64 ((rdNum b).2.1:Nat)))) (.per (rawP (.int .i64 (rdNum b).2.2)))):=by
 have hll:=lead_le b
 generalize hQ:rdNum b = Q at *
 refine fi Tryz.func109 Tryz.ntmps109 ?_
 (refine w0 ?_;(repeat' first|refine W2.mk ?_ ?_|refine W1.mk fun hc=>?_))
 refine AW_loopP (fun k=>k ≤ lead b ∧ k ≤ 8) (fun k=>mkSt [(0,bytesB b),(5,iC .i64 (k:Nat))] []) (fun k=>8 - k) 0 ⟨Nat.zero_le _,by omega⟩ ?_ ?_
 · exact le_auto
 · rintro k ⟨hk,hk8⟩
   have hst:=lead_step b k
   by_cases hkl:k < b.length
   · have h1:=hst hkl hk
     by_cases hk7:k < 8
     · by_cases hbig:128 ≤ b[k].toNat
       · have h2:=h1.1 hbig
         (refine w0 ?_;(repeat' first|refine W2.mk ?_ ?_|refine W1.mk fun hc=>?_))
         refine ⟨k + 1,⟨by omega,by omega⟩,by omega,?_⟩
         exact le_auto
       · have h2:=h1.2 (by omega)
         clear h1 hst
         have h128:∀ k,k ≤ lead b + 1 → leVal ((b.take (lead b + 1)).drop k) ≤ 72057594037927935:=by
           intro k hk
           have h1:=leVal_lt ((b.take (lead b + 1)).drop k)
           have h2:(128:Nat) ^ ((b.take (lead b + 1)).drop k).length ≤ 128 ^ 8:=Nat.pow_le_pow_right (by decide) (by simp;omega)
           have h3:(128:Nat) ^ 8 = 72057594037927936:=by decide
           omega
         have hbad:rdBad b ↔ ((k > 0 ∧ b[k].toNat = 0) ∨ leVal (b.take (k + 1)) > 281474976710656):=by
           unfold rdBad
           have h0:b[lead b]? = some 0 ↔ b[k].toNat = 0:=by
             rw [h2,List.getElem?_eq_getElem hkl,Option.some.injEq,← UInt8.toNat_inj];rfl
           rw [h0,h2]
         rw [h2] at h128
         have hQ2:Q = if rdBad b then (0,0,11) else (leVal (b.take (k + 1)),k + 1,0):=by
           rw [← hQ]
           unfold rdNum
           rw [if_neg (by omega),if_neg (by omega),h2]
         clear hQ
         (refine w0 ?_;(repeat' first|refine W2.mk ?_ ?_|refine W1.mk fun hc=>?_))
         refine AW_loopP (fun j=>j ≤ k + 1) (fun j=>mkSt [(0,bytesB b),(5,iC .i64 (k:Nat)),(6,iC .i64 (leVal ((b.take (k + 1)).drop j):Nat)),(7,iC .i64 ((j:Int) - 1))] []) (fun j=>j) (k + 1) (Nat.le_refl _) ?_ ?_
         · have h0:(b.take (k + 1)).drop (k + 1) = []:=by simp
           rw [h0]
           exact le_auto
         · intro j hj
           cases j with
           | succ j=>
             have hv:=leVal_drop (b.take (k + 1)) j (by simp;omega)
             have hb1:=h128 j (by omega)
             have hb2:=h128 (j + 1) (by omega)
             rw [List.getElem_take] at hv
             rw [show ((j + 1:Nat):Int) - 1 = (j:Int) by omega]
             (refine w0 ?_;(repeat' first|refine W2.mk ?_ ?_|refine W1.mk fun hc=>?_))
             refine ⟨j,by omega,by omega,?_⟩
             exact le_auto
           | zero=>
             rw [List.drop_zero]
             have hb1:=h128 0 (by omega)
             rw [List.drop_zero] at hb1
             (refine w0 ?_;(repeat' (first|refine W2.mk ?_ ?_|refine W1.mk fun hc=>?_|((first|apply AL_t rfl|apply AL_0 rfl|apply AD_t rfl|apply AD_0 rfl);(focus (first|exact c_A (rr_Right _)|(apply u_g;(focus rfl);apply op_gyes rfl rfl rfl rfl rfl;first|exact c_A (rr_Right _))));refine w0 ?_))))
             · rw [if_pos (hbad.2 (.inl ⟨by omega,by omega⟩))] at hQ2
               subst hQ2
               refine ⟨.inl rfl,res3 rfl (rv_int rfl rfl) (rv_int rfl rfl) (rv_int rfl rfl)⟩
             · rw [if_pos (hbad.2 (.inr (by omega)))] at hQ2
               subst hQ2
               refine ⟨.inl rfl,res3 rfl (rv_int rfl rfl) (rv_int rfl rfl) (rv_int rfl rfl)⟩
             · rw [if_neg (fun h=>by have:=hbad.1 h;omega)] at hQ2
               subst hQ2
               refine ⟨.inl rfl,res3 rfl (rv_int rfl rfl) (rv_int rfl rfl) (rv_int rfl rfl)⟩
             · rw [if_pos (hbad.2 (.inr (by omega)))] at hQ2
               subst hQ2
               refine ⟨.inl rfl,res3 rfl (rv_int rfl rfl) (rv_int rfl rfl) (rv_int rfl rfl)⟩
             · rw [if_neg (fun h=>by have:=hbad.1 h;omega)] at hQ2
               subst hQ2
               refine ⟨.inl rfl,res3 rfl (rv_int rfl rfl) (rv_int rfl rfl) (rv_int rfl rfl)⟩
     · have hQ2:Q = (0,0,11):=by
         rw [← hQ];unfold rdNum;rw [if_pos (by omega)]
       subst hQ2
       (refine w0 ?_;(repeat' first|refine W2.mk ?_ ?_|refine W1.mk fun hc=>?_))
       refine ⟨.inl rfl,res3 rfl (rv_int rfl rfl) (rv_int rfl rfl) (rv_int rfl rfl)⟩
   · by_cases h8:k = 8
     · have hQ2:Q = (0,0,11):=by
         rw [← hQ];unfold rdNum;rw [if_pos (by omega)]
       subst hQ2
       (refine w0 ?_;(repeat' first|refine W2.mk ?_ ?_|refine W1.mk fun hc=>?_))
       refine ⟨.inl rfl,res3 rfl (rv_int rfl rfl) (rv_int rfl rfl) (rv_int rfl rfl)⟩
     · have hQ2:Q = (0,0,10):=by
         rw [← hQ];unfold rdNum;rw [if_neg (by omega),if_pos (by omega)]
       subst hQ2
       (refine w0 ?_;(repeat' first|refine W2.mk ?_ ?_|refine W1.mk fun hc=>?_))
       refine ⟨.inl rfl,res3 rfl (rv_int rfl rfl) (rv_int rfl rfl) (rv_int rfl rfl)⟩
end
end Go.Proofs.YtfcpkegmdlchhaaGreat
namespace Go.Proofs.YtfcpkegmdlchhaaGreat
open Go.RowKit
theorem adv {b l l':List UInt8} (h:l <:+ b) {k:Nat} (hk:k ≤ l.length) (h':l' = l.drop k):b.length - l.length + k = b.length - l'.length:=by
 have:=(suf_drop h).2
 rw [h',List.length_drop];omega
theorem withinSt_e {lo hi:Int} {l:List UInt8} {e:Int} (h:e ≠ 0):withinSt lo hi l e = (0,l,e):=by
 unfold withinSt numSt
 simp [h]
theorem withinSt_0 (lo hi:Int) (l:List UInt8):withinSt lo hi l 0 = if (rdNum l).2.2 ≠ 0 then (0,l,(rdNum l).2.2) else if ((rdNum l).1:Int) < lo ∨ hi < ((rdNum l).1:Int) then (0,l,11) else (((rdNum l).1:Int),l.drop (rdNum l).2.1,0):=by
 unfold withinSt numSt
 by_cases h:(rdNum l).2.2 = 0
 · simp [h]
 · simp [h]
section
variable (b l:List UInt8) (e:Int) (hs:l <:+ b) (hb:b.length ≤ 1000000000000)
include hs hb
theorem rr_Within (lo hi:Int):FnM Tryz.prog 64 [rdC,iC .i64 lo,iC .i64 hi] [(1000,rrBox b l e)] (iC .i64 (withinSt lo hi l e).1) [(1000,rrBox b (withinSt lo hi l e).2.1 (withinSt lo hi l e).2.2)]:=by
 obtain ⟨hd,hlen⟩:=suf_drop hs
 have hn:=rr_num (b.drop (b.length - l.length))
 rw [show rdNum (b.drop (b.length - l.length)) = rdNum l by rw [hd]] at hn
 obtain ⟨r1,r2,r3,r4⟩:=rdNum_rng l
 by_cases h0:e = 0
 · subst h0
   rw [withinSt_0]
   have ha:=adv hs r2 rfl
   generalize rdNum l = q at *
   obtain ⟨m,k,e'⟩:=q
   simp only at hn r1 r2 r3 r4 ha ⊢
   by_cases h1:e' = 0
   · subst h1
     rw [if_neg (by simp)]
     by_cases h2:(m:Int) < lo ∨ hi < (m:Int)
     · rw [if_pos h2]
       refine fmi Tryz.func64 Tryz.ntmps64 ?_
       (have kc1:=hn;refine w0 ?_;(repeat' first|refine W2.mk ?_ ?_|refine W1.mk fun hc=>?_);all_goals clear kc1)
       all_goals (refine ⟨(by first|exact .inl rfl|exact .inr rfl),resM1 [(1000,1000)] rfl rfl ?_ ?_⟩;(focus (repeat (first|exact AllX.nil|(refine AllX.cons rfl ?_ ?_;(focus first|rfl|skip))))))
       all_goals exact rvm_int rfl rfl
     · rw [if_neg h2]
       refine fmi Tryz.func64 Tryz.ntmps64 ?_
       (have kc1:=hn;refine w0 ?_;(repeat' first|refine W2.mk ?_ ?_|refine W1.mk fun hc=>?_);all_goals clear kc1)
       rw [show ((b.length - l.length:Nat):Int) + (k:Int) = ((b.length - (l.drop k).length:Nat):Int) by omega]
       (refine ⟨(by first|exact .inl rfl|exact .inr rfl),resM1 [(1000,1000)] rfl rfl ?_ ?_⟩;(focus (repeat (first|exact AllX.nil|(refine AllX.cons rfl ?_ ?_;(focus first|rfl|skip))))))
       exact rvm_int rfl rfl
   · rw [if_pos h1]
     obtain ⟨rfl,rfl⟩:=r4 h1
     refine fmi Tryz.func64 Tryz.ntmps64 ?_
     (have kc1:=hn;refine w0 ?_;(repeat' first|refine W2.mk ?_ ?_|refine W1.mk fun hc=>?_);all_goals clear kc1)
     (refine ⟨(by first|exact .inl rfl|exact .inr rfl),resM1 [(1000,1000)] rfl rfl ?_ ?_⟩;(focus (repeat (first|exact AllX.nil|(refine AllX.cons rfl ?_ ?_;(focus first|rfl|skip))))))
     exact rvm_int rfl rfl
 · rw [withinSt_e h0]
   refine fmi Tryz.func64 Tryz.ntmps64 ?_
   (refine w0 ?_;(repeat' first|refine W2.mk ?_ ?_|refine W1.mk fun hc=>?_))
   (refine ⟨(by first|exact .inl rfl|exact .inr rfl),resM1 [(1000,1000)] rfl rfl ?_ ?_⟩;(focus (repeat (first|exact AllX.nil|(refine AllX.cons rfl ?_ ?_;(focus first|rfl|skip))))))
   exact rvm_int rfl rfl
omit hb in
theorem rr_End:FnM Tryz.prog 66 [rdC] [(1000,rrBox b l e)] (iC .i64 (endSt l e)) [(1000,rrBox b l e)]:=by
 obtain ⟨hd,hlen⟩:=suf_drop hs
 unfold endSt
 refine fmi Tryz.func66 Tryz.ntmps66 ?_
 (refine w0 ?_;(repeat' first|refine W2.mk ?_ ?_|refine W1.mk fun hc=>?_))
 all_goals (refine ⟨(by first|exact .inl rfl|exact .inr rfl),resM1 [(1000,1000)] rfl rfl ?_ ?_⟩;(focus (repeat (first|exact AllX.nil|(refine AllX.cons rfl ?_ ?_;(focus first|rfl|skip))))))
 · exact rvm_int rfl (by rw [if_pos (by omega)])
 · exact rvm_int rfl (by rw [if_neg (by omega)])
 · exact rvm_int rfl (by rw [if_neg (by omega)])
theorem rr_Text (most:Int):FnM Tryz.prog 65 [rdC,iC .i64 most] [(1000,rrBox b l e)] (sC ⟨(textSt most l e).1.toArray⟩) [(1000,rrBox b (textSt most l e).2.1 (textSt most l e).2.2)]:=by
 obtain ⟨hd,hlen⟩:=suf_drop hs
 have hW:=rr_Within b l e hs hb 0 most
 have hrg:=withinSt_rng l e most
 have hsuf:=(withinSt_suf 0 most l e).trans hs
 generalize hQ:textSt most l e = Q at *
 unfold textSt at hQ
 generalize withinSt 0 most l e = q at *
 obtain ⟨m,l',e'⟩:=q
 simp only at hW hQ hrg hsuf
 obtain ⟨hd',hlen'⟩:=suf_drop hsuf
 by_cases h0:e' = 0
 · subst h0
   obtain ⟨h1,h2⟩:=hrg rfl
   rw [if_neg (by simp)] at hQ
   by_cases h3:(l'.length:Int) < m
   · rw [if_pos h3] at hQ
     subst hQ
     refine fmi Tryz.func65 Tryz.ntmps65 ?_
     (have kr1:=hW;refine w0 ?_;(repeat' first|refine W2.mk ?_ ?_|refine W1.mk fun hc=>?_);all_goals clear kr1)
     (refine ⟨(by first|exact .inl rfl|exact .inr rfl),resM1 [(1000,1000)] rfl rfl ?_ ?_⟩;(focus (repeat (first|exact AllX.nil|(refine AllX.cons rfl ?_ ?_;(focus first|rfl|skip))))))
     exact rvm_str rfl rfl
   · rw [if_neg h3] at hQ
     subst hQ
     obtain ⟨k,rfl⟩:=Int.eq_ofNat_of_zero_le h1
     have hk:k ≤ l'.length:=by omega
     refine fmi Tryz.func65 Tryz.ntmps65 ?_
     (have kr1:=hW;refine w0 ?_;(repeat' first|refine W2.mk ?_ ?_|refine W1.mk fun hc=>?_);all_goals clear kr1)
     rw [show ((b.length - l'.length:Nat):Int) + (k:Int) = ((b.length - (l'.drop k).length:Nat):Int) by rw [List.length_drop];omega,show b.length - l'.length + k - (b.length - l'.length) = k by omega,hd']
     (refine ⟨(by first|exact .inl rfl|exact .inr rfl),resM1 [(1000,1000)] rfl rfl ?_ ?_⟩;(focus (repeat (first|exact AllX.nil|(refine AllX.cons rfl ?_ ?_;(focus first|rfl|skip))))))
     exact rvm_str rfl rfl
 · rw [if_pos h0] at hQ
   subst hQ
   refine fmi Tryz.func65 Tryz.ntmps65 ?_
   (have kr1:=hW;refine w0 ?_;(repeat' first|refine W2.mk ?_ ?_|refine W1.mk fun hc=>?_);all_goals clear kr1)
   (refine ⟨(by first|exact .inl rfl|exact .inr rfl),resM1 [(1000,1000)] rfl rfl ?_ ?_⟩;(focus (repeat (first|exact AllX.nil|(refine AllX.cons rfl ?_ ?_;(focus first|rfl|skip))))))
   exact rvm_str rfl rfl
end
/-- all but the key, read; what is left, and the first error -/
def restSt (k:ByteArray) (l:List UInt8) (e:Int):It × List UInt8 × Int:=
 let a:=withinSt 1 16 l e
 let b:=withinSt 1 1099511627776 a.2.1 a.2.2
 let c:=withinSt 1 1099511627776 b.2.1 b.2.2
 let d:=withinSt 0 255 c.2.1 c.2.2
 let f:=withinSt 0 1 d.2.1 d.2.2
 let g:=textSt 64 f.2.1 f.2.2
 (⟨k,a.1,b.1,c.1,d.1,f.1 == 1,⟨g.1.toArray⟩⟩,g.2.1,g.2.2)
section
theorem ic_rest (k:ByteArray) (l:List UInt8) (e:Int):FnM Tryz.prog 100 [.aggK rdC .aggN,sC k] [(1000,rdBox l e)] (itC (restSt k l e).1) [(1000,rdBox (restSt k l e).2.1 (restSt k l e).2.2)]:=by
 dsimp only [restSt]
 have h1:=r_Within l e 1 16
 generalize withinSt 1 16 l e = a at *
 have h2:=r_Within a.2.1 a.2.2 1 1099511627776
 generalize withinSt 1 1099511627776 a.2.1 a.2.2 = b at *
 have h3:=r_Within b.2.1 b.2.2 1 1099511627776
 generalize withinSt 1 1099511627776 b.2.1 b.2.2 = c at *
 have h4:=r_Within c.2.1 c.2.2 0 255
 generalize withinSt 0 255 c.2.1 c.2.2 = d at *
 have h5:=r_Bool d.2.1 d.2.2
 generalize withinSt 0 1 d.2.1 d.2.2 = f at *
 have h6:=r_Text f.2.1 f.2.2 64
 generalize textSt 64 f.2.1 f.2.2 = g at *
 refine fmi Tryz.func100 Tryz.ntmps100 ?_
 (have kr1:=h1;have kr2:=h2;have kr3:=h3;have kr4:=h4;have kr5:=h5;have kr6:=h6;refine w0 ?_;(repeat' first|refine W2.mk ?_ ?_|refine W1.mk fun hc=>?_);all_goals clear kr6 kr5 kr4 kr3 kr2 kr1)
 (refine ⟨(by first|exact .inl rfl|exact .inr rfl),resM1 [(1000,1000)] rfl rfl ?_ ?_⟩;(focus (repeat (first|exact AllX.nil|(refine AllX.cons rfl ?_ ?_;(focus first|rfl|skip))))))
 exact rvm_cellA inferInstance inferInstance rfl rfl rfl rfl rfl rfl
theorem restSt_suf (k:ByteArray) (l:List UInt8) (e:Int):(restSt k l e).2.1 <:+ l:=by
 dsimp only [restSt]
 exact (textSt_suf _ _ _).trans ((withinSt_suf _ _ _ _).trans ((withinSt_suf _ _ _ _).trans ((withinSt_suf _ _ _ _).trans ((withinSt_suf _ _ _ _).trans (withinSt_suf _ _ _ _)))))
theorem ref_more (k:ByteArray) (b l:List UInt8) (e:Int) (hs:l <:+ b) (hb:b.length ≤ 1000000000000):FnM Tryz.prog 156 [rdC,sC k] [(1000,rrBox b l e)] (itC (restSt k l e).1) [(1000,rrBox b (restSt k l e).2.1 (restSt k l e).2.2)]:=by
 dsimp only [restSt]
 have h1:=rr_Within b l e hs hb 1 16
 replace hs:=(withinSt_suf 1 16 l e).trans hs
 generalize withinSt 1 16 l e = a at *
 have h2:=rr_Within b a.2.1 a.2.2 hs hb 1 1099511627776
 replace hs:=(withinSt_suf 1 1099511627776 a.2.1 a.2.2).trans hs
 generalize withinSt 1 1099511627776 a.2.1 a.2.2 = b2 at *
 have h3:=rr_Within b b2.2.1 b2.2.2 hs hb 1 1099511627776
 replace hs:=(withinSt_suf 1 1099511627776 b2.2.1 b2.2.2).trans hs
 generalize withinSt 1 1099511627776 b2.2.1 b2.2.2 = c at *
 have h4:=rr_Within b c.2.1 c.2.2 hs hb 0 255
 replace hs:=(withinSt_suf 0 255 c.2.1 c.2.2).trans hs
 generalize withinSt 0 255 c.2.1 c.2.2 = d at *
 have h5:=rr_Within b d.2.1 d.2.2 hs hb 0 1
 replace hs:=(withinSt_suf 0 1 d.2.1 d.2.2).trans hs
 generalize withinSt 0 1 d.2.1 d.2.2 = f at *
 have h6:=rr_Text b f.2.1 f.2.2 hs hb 64
 generalize textSt 64 f.2.1 f.2.2 = g at *
 refine fmi Tryz.func156 Tryz.ntmps156 ?_
 (have kr1:=h1;have kr2:=h2;have kr3:=h3;have kr4:=h4;have kr5:=h5;have kr6:=h6;refine w0 ?_;(repeat' first|refine W2.mk ?_ ?_|refine W1.mk fun hc=>?_);all_goals clear kr6 kr5 kr4 kr3 kr2 kr1)
 (refine ⟨(by first|exact .inl rfl|exact .inr rfl),resM1 [(1000,1000)] rfl rfl ?_ ?_⟩;(focus (repeat (first|exact AllX.nil|(refine AllX.cons rfl ?_ ?_;(focus first|rfl|skip))))))
 exact rvm_cellA inferInstance inferInstance rfl rfl rfl rfl rfl rfl
end
theorem rest_put {x:It} (h:itR x = true) (r:List UInt8):restSt x.key (restB x ++ r) 0 = (x,r,0):=by
 obtain ⟨h1,h2,_,_⟩:=itR_nums h
 simp only [itR,keyR,verR,Bool.and_eq_true,decide_eq_true_eq] at h
 obtain ⟨⟨_,h3⟩,h4⟩:=h
 simp only [restNums,List.mem_cons,List.not_mem_nil,or_false,forall_eq_or_imp,forall_eq] at h1
 obtain ⟨a1,a2,a3,a4,a5⟩:=h1
 have e:restB x ++ r = numI x.rep ++ (numI x.cnt ++ (numI x.rank ++ (numI x.prio ++ (numI (if x.dead then 1 else 0) ++ (textB x.body ++ r))))):=by
   simp [restB,restNums,List.append_assoc]
 rw [e]
 dsimp only [restSt]
 rw [within_put a1 (by omega) (by omega)]
 dsimp only
 rw [within_put a2 (by omega) (by omega)]
 dsimp only
 rw [within_put a3 (by omega) (by omega)]
 dsimp only
 rw [within_put a4 (by omega) (by omega)]
 dsimp only
 rw [within_put a5 (by split <;> omega) (by split <;> omega)]
 dsimp only
 rw [text_put (by omega) (by omega),ba_eta]
 obtain ⟨k,a,b,c,d,f,g⟩:=x
 cases f <;> rfl
theorem rest_back {k:ByteArray} {l:List UInt8} {e:Int} (h:(restSt k l e).2.2 = 0):e = 0 ∧ l = restB (restSt k l e).1 ++ (restSt k l e).2.1 ∧ (restSt k l e).1.key = k:=by
 dsimp only [restSt] at h ⊢
 obtain ⟨g1,_,g2⟩:=text_back h
 obtain ⟨f1,f2,f3,f4,f5⟩:=within_back g1
 obtain ⟨d1,_,_,_,d5⟩:=within_back f1
 obtain ⟨c1,_,_,_,c5⟩:=within_back d1
 obtain ⟨b1,_,_,_,b5⟩:=within_back c1
 obtain ⟨a1,_,_,_,a5⟩:=within_back b1
 refine ⟨a1,?_,rfl⟩
 generalize textSt 64 _ _ = g at *
 generalize withinSt 0 1 _ _ = f at *
 generalize withinSt 0 255 _ _ = d at *
 generalize withinSt 1 1099511627776 _ _ = c at *
 generalize withinSt 1 1099511627776 _ _ = b at *
 generalize withinSt 1 16 _ _ = a at *
 have hf:(if (f.1 == 1) = true then (1:Int) else 0) = f.1:=by
   by_cases h:f.1 = 1
   · simp [h]
   · simp [h];omega
 simp only [restB,restNums,List.flatMap_cons,List.flatMap_nil,List.append_nil,hf,List.append_assoc]
 rw [← g2,← f5,← d5,← c5,← b5]
 exact a5
theorem within_rng0 {most:Int} (h:0 ≤ most) (l:List UInt8) (e:Int):0 ≤ (withinSt 0 most l e).1 ∧ (withinSt 0 most l e).1 ≤ most:=by
 by_cases he:e = 0
 · subst he
   rw [withinSt_0]
   split
   · exact ⟨by simp,h⟩
   · split
     · exact ⟨by simp,h⟩
     · simp only;omega
 · rw [withinSt_e he];exact ⟨by simp,h⟩
theorem text_len16 (l:List UInt8) (e:Int):(textSt 16 l e).1.length ≤ 16:=by
 unfold textSt
 have:=within_rng0 (most:=16) (by omega) l e
 split
 · simp
 · split
   · simp
   · rw [List.length_take];omega
/-- the next key of a list: how much is as before, the key, what is left, and the first error -/
def rdKey (was:ByteArray) (l:List UInt8) (e:Int):Int × ByteArray × List UInt8 × Int:=
 let s:=withinSt 0 was.size l e
 let t:=textSt 16 s.2.1 s.2.2
 (s.1,was.extract 0 s.1.toNat ++ ⟨t.1.toArray⟩,t.2.1,t.2.2)
def rdsGo:Nat → ByteArray → Bool → List It → List UInt8 → Int → List It × Bool × List UInt8 × Int
 | 0,_,f,acc,l,e=>(acc,f,l,e)
 | n + 1,was,f,acc,l,e=>
   if e ≠ 0 then (acc,f,l,e) else
     let q:=rdKey was l e
     let x:=restSt q.2.1 q.2.2.1 q.2.2.2
     rdsGo n q.2.1 (f && itR x.1 && ((alike was q.2.1:Int) == q.1)) (acc ++ [x.1]) x.2.1 x.2.2
def rdIn (l:List UInt8) (e:Int):List It × Bool × List UInt8 × Int:=
 let s:=withinSt 0 4096 l e
 rdsGo s.1.toNat s0 true [] s.2.1 s.2.2
def finI (r:List It × Bool × List UInt8 × Int):List It × Int:=
 if endSt r.2.2.1 r.2.2.2 ≠ 0 then ([],endSt r.2.2.1 r.2.2.2) else if r.2.1 = false then ([],11) else (r.1,0)
def rdItems (b:List UInt8):List It × Int:=finI (rdIn b 0)
theorem rdKey_size (was:ByteArray) (l:List UInt8) (e:Int):(rdKey was l e).2.1.size ≤ was.size + 16 ∧ 0 ≤ (rdKey was l e).1 ∧ (rdKey was l e).1 ≤ was.size:=by
 dsimp only [rdKey]
 have h1:=within_rng0 (most:=(was.size:Int)) (by omega) l e
 have h2:=text_len16 (withinSt 0 was.size l e).2.1 (withinSt 0 was.size l e).2.2
 refine ⟨?_,h1⟩
 rw [ByteArray.size_append,ByteArray.size_extract]
 show _ + (textSt 16 _ _).1.toArray.size ≤ _
 rw [List.size_toArray]
 omega
section
theorem icode_ReadItems (b:List UInt8) (hb:b.length ≤ 1000000000):Fn Tryz.prog 46 [bytesB b] (.tup2 (.own 70 7 ((rdItems b).1.map itP)) (inR (rdItems b).2)):=by
 generalize hQ:rdItems b = Q at *
 dsimp only [rdItems,rdIn] at hQ
 have h1:=r_Within b 0 0 4096
 have hn:=within_rng0 (most:=4096) (by omega) b 0
 generalize withinSt 0 4096 b 0 = s at *
 obtain ⟨n,l0,e0⟩:=s
 simp only at h1 hn hQ
 obtain ⟨hn0,hn1⟩:=hn
 obtain ⟨n,rfl⟩:=Int.eq_ofNat_of_zero_le hn0
 rw [Int.toNat_natCast] at hQ
 generalize hR:rdsGo n s0 true [] l0 e0 = R at *
 refine fi Tryz.func46 Tryz.ntmps46 ?_
 (have kn1:=v_New b hb;have kr1:=h1;refine w0 ?_;(repeat' first|refine W2.mk ?_ ?_|refine W1.mk fun hc=>?_);all_goals clear kr1 kn1)
 refine AW_le (Le_nil 6 600 70 7 rfl rfl) ?_
 refine AW_loopP (X:=Nat × ByteArray × Bool × List It × List UInt8 × Int) (fun x=>x.1 ≤ n ∧ x.2.1.size ≤ 16 * x.1 ∧ x.2.2.2.1.length ≤ x.1 ∧ rdsGo (n - x.1) x.2.1 x.2.2.1 x.2.2.2.1 x.2.2.2.2.1 x.2.2.2.2.2 = R)
   (fun x=>mkSt [(4,.ptr 4 0 0),(5,iC .i64 (n:Nat)),(6,.row 600 0),(7,sC x.2.1),(8,bC x.2.2.1),(9,iC .i64 (x.1:Nat))] [(4,.box 147 [.ptr 15 0 0]),(15,rdBox x.2.2.2.2.1 x.2.2.2.2.2),(600,.row 70 7 (x.2.2.2.1.map itP))]) (fun x=>n - x.1) (0,s0,true,[],l0,e0) ⟨Nat.zero_le _,(by decide:s0.size ≤ 0),Nat.le_refl _,hR⟩ ?_ ?_
 · exact le_auto
 · rintro ⟨i,was,f,acc,l,e⟩ ⟨hi,hws,hacc,hR⟩
   simp only at hi hws hacc hR ⊢
   have hE:=r_Err l e
   have hD:=r_End l e
   by_cases hlt:i < n
   · by_cases he:e = 0
     · subst he
       obtain ⟨m,hm⟩:∃ m,n - i = m + 1:=⟨n - i - 1,by omega⟩
       rw [hm,rdsGo,if_neg (by simp)] at hR
       dsimp only at hR
       have hks:=rdKey_size was l 0
       have h2:=r_Within l 0 0 (was.size:Int)
       have h3:=r_Text (withinSt 0 was.size l 0).2.1 (withinSt 0 was.size l 0).2.2 16
       have h23:rdKey was l 0 = ((withinSt 0 was.size l 0).1,was.extract 0 (withinSt 0 was.size l 0).1.toNat ++ ⟨(textSt 16 (withinSt 0 was.size l 0).2.1 (withinSt 0 was.size l 0).2.2).1.toArray⟩,(textSt 16 (withinSt 0 was.size l 0).2.1 (withinSt 0 was.size l 0).2.2).2.1,(textSt 16 (withinSt 0 was.size l 0).2.1 (withinSt 0 was.size l 0).2.2).2.2):=rfl
       have hx:=text_len16 (withinSt 0 was.size l 0).2.1 (withinSt 0 was.size l 0).2.2
       rw [h23] at hR hks
       clear h23
       generalize withinSt 0 was.size l 0 = s at *
       generalize textSt 16 s.2.1 s.2.2 = t at *
       obtain ⟨sm,l1,e1⟩:=s
       obtain ⟨tx,l2,e2⟩:=t
       simp only at hR hks h2 h3 hx
       obtain ⟨hk1,hk2,hk3⟩:=hks
       obtain ⟨sm,rfl⟩:=Int.eq_ofNat_of_zero_le hk2
       rw [Int.toNat_natCast] at hR hk1
       have htx:(⟨tx.toArray⟩:ByteArray).size ≤ 16:=by show tx.toArray.size ≤ 16;rw [List.size_toArray];exact hx
       have hes:(was.extract 0 sm).size ≤ was.size:=by simp;omega
       have h4:=ic_rest (was.extract 0 sm ++ ⟨tx.toArray⟩) l2 e2
       have h6:=key_Common was (was.extract 0 sm ++ ⟨tx.toArray⟩) (by omega)
       have hal:=alike_le was (was.extract 0 sm ++ ⟨tx.toArray⟩)
       have hcs:(was.extract 0 (alike was (was.extract 0 sm ++ ⟨tx.toArray⟩))).size = alike was (was.extract 0 sm ++ ⟨tx.toArray⟩):=by simp;omega
       generalize was.extract 0 (alike was (was.extract 0 sm ++ ⟨tx.toArray⟩)) = cm at *
       generalize restSt (was.extract 0 sm ++ ⟨tx.toArray⟩) l2 e2 = x at *
       obtain ⟨x,l3,e3⟩:=x
       simp only at hR h4
       have h5:=item_Right x
       (have kr1:=hE;have kr2:=h2;have kr3:=h3;have km1:=(show FnMs [(1000,15)] _ _ _ _ _ _ from h4);have kc1:=h5;have kc2:=h6;refine w0 ?_;(repeat' first|refine W2.mk ?_ ?_|refine W1.mk fun hc=>?_);all_goals clear kc2 kc1 km1 kr3 kr2 kr1)
       all_goals
         refine ⟨(i + 1,was.extract 0 sm ++ ⟨tx.toArray⟩,f && itR x && ((alike was (was.extract 0 sm ++ ⟨tx.toArray⟩):Int) == sm),acc ++ [x],l3,e3),⟨by simp only;omega,by simp only;omega,by simp;omega,?_⟩,by simp only;omega,?_⟩
       all_goals first|(simp only;rw [show n - (i + 1) = m by omega];exact hR)|skip
       all_goals exact le_auto
     · have hR2:R = (acc,f,l,e):=by
         rw [← hR]
         cases n - i with
         | zero=>rfl
         | succ m=>rw [rdsGo,if_pos he]
       subst hR2
       (have kr1:=hE;have kr2:=hD;refine w0 ?_;(repeat' first|refine W2.mk ?_ ?_|refine W1.mk fun hc=>?_);all_goals clear kr2 kr1)
       · rw [finI,if_pos (by assumption)] at hQ
         subst hQ
         refine rt2 ?_ ?_
         · exact rv_nil rfl
         · exact rv_int rfl rfl
       · rw [finI,if_neg (by simp [*]),if_pos (by assumption)] at hQ
         subst hQ
         refine rt2 ?_ ?_
         · exact rv_nil rfl
         · exact rv_int rfl rfl
       · rw [finI,if_neg (by simp [*]),if_neg (by simp [*])] at hQ
         subst hQ
         refine rt2 ?_ ?_
         · exact rv_own rfl rfl rfl
         · exact rv_int rfl rfl
   · have hR2:R = (acc,f,l,e):=by
       rw [← hR,show n - i = 0 by omega];rfl
     subst hR2
     (have kr1:=hE;have kr2:=hD;refine w0 ?_;(repeat' first|refine W2.mk ?_ ?_|refine W1.mk fun hc=>?_);all_goals clear kr2 kr1)
     · rw [finI,if_pos (by assumption)] at hQ
       subst hQ
       refine rt2 ?_ ?_
       · exact rv_nil rfl
       · exact rv_int rfl rfl
     · rw [finI,if_neg (by simp [*]),if_pos (by assumption)] at hQ
       subst hQ
       refine rt2 ?_ ?_
       · exact rv_nil rfl
       · exact rv_int rfl rfl
     · rw [finI,if_neg (by simp [*]),if_neg (by simp [*])] at hQ
       subst hQ
       refine rt2 ?_ ?_
       · exact rv_own rfl rfl rfl
       · exact rv_int rfl rfl
theorem rdsGo_suf (n:Nat):∀ (was:ByteArray) (f:Bool) (acc:List It) (l:List UInt8) (e:Int),(rdsGo n was f acc l e).2.2.1 <:+ l:=by
 induction n with
 | zero=>intro was f acc l e;exact List.suffix_refl l
 | succ n ih=>
   intro was f acc l e
   unfold rdsGo
   split
   · exact List.suffix_refl l
   · exact (ih _ _ _ _ _).trans ((restSt_suf _ _ _).trans ((textSt_suf _ _ _).trans (withinSt_suf _ _ _ _)))
theorem ref_ReadIn (b l:List UInt8) (e:Int) (hs:l <:+ b) (hb:b.length ≤ 1000000000000):FnM Tryz.prog 110 [rdC] [(1000,rrBox b l e)] (.tup2 (.row 3000 0) (bC (rdIn l e).2.1)) [(1000,rrBox b (rdIn l e).2.2.1 (rdIn l e).2.2.2),(3000,.row 70 7 ((rdIn l e).1.map itP))]:=by
 dsimp only [rdIn]
 have h1:=rr_Within b l e hs hb 0 4096
 have hn:=within_rng0 (most:=4096) (by omega) l e
 replace hs:=(withinSt_suf 0 4096 l e).trans hs
 generalize withinSt 0 4096 l e = s at *
 obtain ⟨n,l0,e0⟩:=s
 simp only at h1 hn hs ⊢
 obtain ⟨hn0,hn1⟩:=hn
 obtain ⟨n,rfl⟩:=Int.eq_ofNat_of_zero_le hn0
 rw [Int.toNat_natCast]
 generalize hR:rdsGo n s0 true [] l0 e0 = R at *
 refine fmi Tryz.func110 Tryz.ntmps110 ?_
 (have kr1:=h1;refine w0 ?_;(repeat' first|refine W2.mk ?_ ?_|refine W1.mk fun hc=>?_);all_goals clear kr1)
 refine AW_le (Le_nil 5 600 70 7 rfl rfl) ?_
 refine AW_loopP (X:=Nat × ByteArray × Bool × List It × List UInt8 × Int) (fun x=>x.1 ≤ n ∧ x.2.1.size ≤ 16 * x.1 ∧ x.2.2.2.1.length ≤ x.1 ∧ x.2.2.2.2.1 <:+ b ∧ rdsGo (n - x.1) x.2.1 x.2.2.1 x.2.2.2.1 x.2.2.2.2.1 x.2.2.2.2.2 = R)
   (fun x=>mkSt [(0,rdC),(4,iC .i64 (n:Nat)),(5,.row 600 0),(6,sC x.2.1),(7,bC x.2.2.1),(8,iC .i64 (x.1:Nat))] [(1000,rrBox b x.2.2.2.2.1 x.2.2.2.2.2),(600,.row 70 7 (x.2.2.2.1.map itP))]) (fun x=>n - x.1) (0,s0,true,[],l0,e0) ⟨Nat.zero_le _,(by decide:s0.size ≤ 0),Nat.le_refl _,hs,hR⟩ ?_ ?_
 · exact le_auto
 · rintro ⟨i,was,f,acc,l,e⟩ ⟨hi,hws,hacc,hs,hR⟩
   simp only at hi hws hacc hR hs ⊢
   by_cases hlt:i < n
   · by_cases he:e = 0
     · subst he
       obtain ⟨m,hm⟩:∃ m,n - i = m + 1:=⟨n - i - 1,by omega⟩
       rw [hm,rdsGo,if_neg (by simp)] at hR
       dsimp only at hR
       have hks:=rdKey_size was l 0
       have h2:=rr_Within b l 0 hs hb 0 (was.size:Int)
       replace hs:=(withinSt_suf 0 was.size l 0).trans hs
       have h3:=rr_Text b (withinSt 0 was.size l 0).2.1 (withinSt 0 was.size l 0).2.2 hs hb 16
       replace hs:=(textSt_suf 16 (withinSt 0 was.size l 0).2.1 (withinSt 0 was.size l 0).2.2).trans hs
       have h23:rdKey was l 0 = ((withinSt 0 was.size l 0).1,was.extract 0 (withinSt 0 was.size l 0).1.toNat ++ ⟨(textSt 16 (withinSt 0 was.size l 0).2.1 (withinSt 0 was.size l 0).2.2).1.toArray⟩,(textSt 16 (withinSt 0 was.size l 0).2.1 (withinSt 0 was.size l 0).2.2).2.1,(textSt 16 (withinSt 0 was.size l 0).2.1 (withinSt 0 was.size l 0).2.2).2.2):=rfl
       have hx:=text_len16 (withinSt 0 was.size l 0).2.1 (withinSt 0 was.size l 0).2.2
       rw [h23] at hR hks
       clear h23
       generalize withinSt 0 was.size l 0 = s at *
       generalize textSt 16 s.2.1 s.2.2 = t at *
       obtain ⟨sm,l1,e1⟩:=s
       obtain ⟨tx,l2,e2⟩:=t
       simp only at hR hks h2 h3 hx hs
       obtain ⟨hk1,hk2,hk3⟩:=hks
       obtain ⟨sm,rfl⟩:=Int.eq_ofNat_of_zero_le hk2
       rw [Int.toNat_natCast] at hR hk1
       have htx:(⟨tx.toArray⟩:ByteArray).size ≤ 16:=by show tx.toArray.size ≤ 16;rw [List.size_toArray];exact hx
       have hes:(was.extract 0 sm).size ≤ was.size:=by simp;omega
       have h4:=ref_more (was.extract 0 sm ++ ⟨tx.toArray⟩) b l2 e2 hs hb
       replace hs:=(restSt_suf (was.extract 0 sm ++ ⟨tx.toArray⟩) l2 e2).trans hs
       have h6:=ref_Alike was (was.extract 0 sm ++ ⟨tx.toArray⟩) (by omega)
       have hal:=alike_le was (was.extract 0 sm ++ ⟨tx.toArray⟩)
       generalize restSt (was.extract 0 sm ++ ⟨tx.toArray⟩) l2 e2 = x at *
       obtain ⟨x,l3,e3⟩:=x
       simp only at hR h4 hs
       have h5:=ritem_Right x
       (have kr1:=h2;have kr2:=h3;have kr3:=h4;have kc1:=h5;have kc2:=h6;refine w0 ?_;(repeat' first|refine W2.mk ?_ ?_|refine W1.mk fun hc=>?_);all_goals clear kc2 kc1 kr3 kr2 kr1)
       all_goals
         refine ⟨(i + 1,was.extract 0 sm ++ ⟨tx.toArray⟩,f && itR x && ((alike was (was.extract 0 sm ++ ⟨tx.toArray⟩):Int) == sm),acc ++ [x],l3,e3),⟨by simp only;omega,by simp only;omega,by simp;omega,hs,?_⟩,by simp only;omega,?_⟩
       all_goals first|(simp only;rw [show n - (i + 1) = m by omega];exact hR)|skip
       all_goals exact le_auto
     · have hR2:R = (acc,f,l,e):=by
         rw [← hR]
         cases n - i with
         | zero=>rfl
         | succ m=>rw [rdsGo,if_pos he]
       subst hR2
       (refine w0 ?_;(repeat' first|refine W2.mk ?_ ?_|refine W1.mk fun hc=>?_))
       refine ⟨.inl rfl,resM2 [(1000,1000),(600,3000)] rfl rfl ?_ (rvm rfl rfl) (rvm_bool rfl rfl)⟩
       (repeat (first|exact AllX.nil|(refine AllX.cons rfl ?_ ?_;(focus first|rfl|skip))))
   · have hR2:R = (acc,f,l,e):=by
       rw [← hR,show n - i = 0 by omega];rfl
     subst hR2
     (refine w0 ?_;(repeat' first|refine W2.mk ?_ ?_|refine W1.mk fun hc=>?_))
     refine ⟨.inl rfl,resM2 [(1000,1000),(600,3000)] rfl rfl ?_ (rvm rfl rfl) (rvm_bool rfl rfl)⟩
     (repeat (first|exact AllX.nil|(refine AllX.cons rfl ?_ ?_;(focus first|rfl|skip))))
theorem ref_ReadItems (b:List UInt8) (hb:b.length ≤ 1000000000):Fn Tryz.prog 68 [.per (bysP b)] (.tup2 (.own 70 7 ((rdItems b).1.map itP)) (inR (rdItems b).2)):=by
 have hs:b <:+ b:=List.suffix_refl b
 have hb':b.length ≤ 1000000000000:=by omega
 have h1:=ref_ReadIn b b 0 hs hb'
 have hsuf:(rdIn b 0).2.2.1 <:+ b:=(rdsGo_suf _ _ _ _ _ _).trans (withinSt_suf _ _ _ _)
 generalize hQ:rdItems b = Q at *
 unfold rdItems at hQ
 generalize rdIn b 0 = R at *
 obtain ⟨acc,f,l,e⟩:=R
 simp only at hQ h1 hsuf
 have h3:=rr_End b l e hsuf
 have e0:((b.length - b.length:Nat):Int) = 0:=by omega
 unfold rrBox at h1
 rw [e0] at h1
 refine fi Tryz.func68 Tryz.ntmps68 ?_
 (have km1:=(show FnMs [(1000,9),(3000,700)] _ _ _ _ _ _ from h1);have kr1:=h3;refine w0 ?_;(repeat' first|refine W2.mk ?_ ?_|refine W1.mk fun hc=>?_);all_goals clear kr1 km1)
 · rw [finI,if_pos (by assumption)] at hQ
   subst hQ
   refine rt2 ?_ ?_
   · exact rv_nil rfl
   · exact rv_int rfl rfl
 · rw [finI,if_neg (by simp [*]),if_pos (by assumption)] at hQ
   subst hQ
   refine rt2 ?_ ?_
   · exact rv_nil rfl
   · exact rv_int rfl rfl
 · rw [finI,if_neg (by simp [*]),if_neg (by simp [*])] at hQ
   subst hQ
   refine rt2 ?_ ?_
   · exact rv_own rfl rfl rfl
   · exact rv_int rfl rfl
end
end Go.Proofs.YtfcpkegmdlchhaaGreat
