/- Texts joined: RgL IcL Fc Parse Rd. -/
import Derived.Test.YtembiemaiacdfaaGreatJ09
import Derived.Test.YtembiemaiacdfaaGreatJ05
import Derived.Test.YtembiemaiacdfaaGreatJ08
import Derived.Test.YtembiemaiacdfaaGreatJ07
import Derived.Test.YtembiemaiacdfaaGreatJ06
set_option maxRecDepth 10000
set_option maxHeartbeats 8000000
namespace Go.Proofs.YtembiemaiacdfaaGreat
open Go.RowKit
section
theorem ES (l m:List Rg) (hl:l.length ≤ 1000000000):Fn Tryz.prog 77 [dg l,dg m] (bO (decide (l = m))):=by
 refine fi Tryz.func77 Tryz.ntmps77 ?_
 (refine wH ?_;(repeat' first|refine W2.mk ?_ ?_|refine W1.mk fun hc=>?_))
 · refine aQ ?_
   exact af rfl (by symm;rw [decide_eq_false_iff_not];intro h;subst h;omega)
 have hlm:l.length = m.length:=by omega
 refine ah (fun k=>k ≤ l.length ∧ l.take k = m.take k) (fun k=>aN [(0,dg l),(1,dg m),(4,bC false),(5,iC .i64 (k:Nat))] []) (fun k=>l.length - k) 0 ⟨Nat.zero_le _,rfl⟩ ?_ ?_
 · exact ab
 · rintro k ⟨hk,hpre⟩
   by_cases hlt:k < l.length
   · have hltm:k < m.length:=by omega
     (refine wH ?_;(repeat' (first|refine W2.mk ?_ ?_|refine W1.mk fun hc=>?_|((first|apply aD rfl|apply aF rfl|apply aG rfl|apply aH rfl);(focus (first|(exact bJ (us:=encRg l[k]) (vs:=encRg m[k]) ⟨rfl,rfl,rfl⟩ rfl rfl rfl (.inr ⟨rfl,rfl⟩) xN rfl (vT l[k] m[k]))|(apply bx;(focus rfl);apply ag rfl rfl rfl rfl rfl;first|(exact bJ (us:=encRg l[k]) (vs:=encRg m[k]) ⟨rfl,rfl,rfl⟩ rfl rfl rfl (.inr ⟨rfl,rfl⟩) xN rfl (vT l[k] m[k])))));refine wH ?_))))
     · refine aQ ?_
       exact af rfl (by symm;rw [decide_eq_false_iff_not];intro h;subst h;simp [(kd l[k] l[k]).2 rfl] at *)
     · refine ⟨k + 1,⟨by omega,?_⟩,by omega,?_⟩
       · rw [aJ l k hlt,aJ m k hltm,hpre,(kd l[k] m[k]).1 (by simpa using hc)]
       · exact ab
   · (refine wH ?_;(repeat' first|refine W2.mk ?_ ?_|refine W1.mk fun hc=>?_))
     refine aQ ?_
     exact af rfl (by symm;rw [decide_eq_true_eq,← List.take_of_length_le (show l.length ≤ k by omega),hpre,List.take_of_length_le (by omega)])
def yE (x:Rg):Bool:=decide (x.lo.size > 40) || decide (x.hi.size > 40)
def e8 (l:List Rg) (most:Int):Bool:=decide ((l.length:Int) > most) || l.any yE
theorem p5 (l:List Rg) (most:Int) (hl:most ≤ 1000000000000):Fn Tryz.prog 34 [dg l,iC .i64 most] (bO (e8 l most)):=by
 refine fi Tryz.func34 Tryz.ntmps34 ?_
 (refine wH ?_;(repeat' first|refine W2.mk ?_ ?_|refine W1.mk fun hc=>?_))
 · refine aQ ?_
   exact af rfl (by unfold e8;rw [decide_eq_true hc];rfl)
 refine ah (fun k=>k ≤ l.length ∧ (l.take k).any yE = false) (fun k=>aN [(0,dg l),(1,iC .i64 most),(4,bC false),(5,iC .i64 (k:Nat))] []) (fun k=>l.length - k) 0 ⟨Nat.zero_le _,by simp⟩ ?_ ?_
 · exact ab
 · rintro k ⟨hk,hpre⟩
   by_cases hlt:k < l.length
   · have hsn:(l.take (k + 1)).any yE = ((l.take k).any yE || yE l[k]):=by rw [aJ l k hlt,List.any_append];simp
     (refine wH ?_;(repeat' first|refine W2.mk ?_ ?_|refine W1.mk fun hc=>?_))
     · refine aQ ?_
       exact af rfl (by symm;unfold e8;rw [Bool.or_eq_true,List.any_eq_true];refine .inr ⟨l[k],List.getElem_mem hlt,?_⟩;grind [yE])
     · refine ⟨k + 1,⟨by omega,?_⟩,by omega,?_⟩
       · rw [hsn,hpre];grind [yE]
       · exact ab
   · (refine wH ?_;(repeat' first|refine W2.mk ?_ ?_|refine W1.mk fun hc=>?_))
     refine aQ ?_
     have e:l.take k = l:=List.take_of_length_le (by omega)
     rw [e] at hpre
     exact af rfl (by symm;unfold e8;rw [hpre,Bool.or_false,decide_eq_false_iff_not];assumption)
end
def s0:ByteArray:=⟨#[]⟩
section
end
section
end
end Go.Proofs.YtembiemaiacdfaaGreat
namespace Go.Proofs.YtembiemaiacdfaaGreat
def bV (l:List UInt8):Nat:=(l.takeWhile (fun c=>decide (128 ≤ c.toNat))).length
def de:List UInt8 → Nat
 | []=>0
 | c :: r=>c.toNat % 128 + 128 * de r
def iz (l:List UInt8):Prop:=(0 < bV l ∧ l[bV l]? = some 0) ∨ 281474976710656 < de (l.take (bV l + 1))
instance (l:List UInt8):Decidable (iz l):=by unfold iz;infer_instance
def cm (l:List UInt8):Nat × Nat × Int:=
 if 8 ≤ bV l then (0,0,11) else if l.length ≤ bV l then (0,0,10) else if iz l then (0,0,11) else (de (l.take (bV l + 1)),bV l + 1,0)
theorem pg (l:List UInt8):bV l ≤ l.length:=by
 unfold bV;exact (List.takeWhile_sublist _).length_le
theorem lK:∀ (l:List UInt8) (i:Nat) (h:i < l.length),i ≤ bV l → (128 ≤ l[i].toNat → i + 1 ≤ bV l) ∧ (l[i].toNat < 128 → bV l = i):=by
 intro l
 induction l with
 | nil=>intro i h;simp at h
 | cons c r ih=>
   intro i h hi
   unfold bV at *
   rw [List.takeWhile_cons] at *
   cases i with
   | zero=>
     refine ⟨fun hc=>?_,fun hc=>?_⟩
     · simp at hc;simp [hc]
     · simp at hc;rw [if_neg (by simp;omega)];rfl
   | succ i=>
     by_cases hc:128 ≤ c.toNat
     · rw [if_pos (by simpa using hc)] at hi ⊢
       simp only [List.length_cons] at hi ⊢
       have:=ih i (by simpa using h) (by omega)
       simp only [List.getElem_cons_succ]
       omega
     · rw [if_neg (by simpa using hc)] at hi;simp at hi
theorem vW:∀ (l:List UInt8) (i:Nat) (h:i < l.length),i < bV l → 128 ≤ l[i].toNat:=by
 intro l i h hi
 rcases Nat.lt_or_ge (l[i].toNat) 128 with h1|h1
 · have:=(lK l i h (by omega)).2 h1;omega
 · exact h1
theorem IO (l:List UInt8) (h:bV l < l.length):l[bV l].toNat < 128:=by
 rcases Nat.lt_or_ge (l[bV l].toNat) 128 with h1|h1
 · exact h1
 · have:=(lK l (bV l) h (Nat.le_refl _)).1 h1;omega
theorem vX (l:List UInt8):de l < 128 ^ l.length:=by
 induction l with
 | nil=>simp [de]
 | cons c r ih=>simp only [de,List.length_cons,Nat.pow_succ];omega
def dj (l:List UInt8) (e:Int):Int × List UInt8 × Int:=
 if e ≠ 0 then (0,l,e) else if (cm l).2.2 ≠ 0 then (0,l,(cm l).2.2) else ((cm l).1,l.drop (cm l).2.1,0)
def aL (lo hi:Int) (l:List UInt8) (e:Int):Int × List UInt8 × Int:=
 if (dj l e).2.2 = 0 ∧ ((dj l e).1 < lo ∨ hi < (dj l e).1) then (0,l,11) else dj l e
def dL (most:Int) (l:List UInt8) (e:Int):List UInt8 × List UInt8 × Int:=
 if (aL 0 most l e).2.2 ≠ 0 then ([],(aL 0 most l e).2)
 else if (aL 0 most l e).2.1.length < (aL 0 most l e).1 then ([],l,10)
 else ((aL 0 most l e).2.1.take (aL 0 most l e).1.toNat,(aL 0 most l e).2.1.drop (aL 0 most l e).1.toNat,0)
def yF (x:Int) (l:List UInt8) (e:Int):List UInt8 × Int:=if e = 0 then (l,x) else (l,e)
def kS (l:List UInt8) (e:Int):Int:=if e = 0 ∧ 0 < l.length then 14 else e
end Go.Proofs.YtembiemaiacdfaaGreat
namespace Go.Proofs.YtembiemaiacdfaaGreat
open Go.RowKit
theorem yG:∀ (xs:List UInt8) (c:UInt8),(∀ x ∈ xs,128 ≤ x.toNat) → c.toNat < 128 → (xs ≠ [] → c ≠ 0) → iR (de (xs ++ [c])) = xs ++ [c]:=by
 intro xs
 induction xs with
 | nil=>
   intro c _ hc _
   have:de ([] ++ [c]) = c.toNat:=by simp [de];omega
   rw [this,kc hc];simp
 | cons x r ih=>
   intro c hx hc hne
   have hc0:=hne (by simp)
   have hr:=ih c (fun y hy=>hx y (by simp [hy])) hc (fun _=>hc0)
   have hxx:=hx x (by simp)
   have hV:0 < de (r ++ [c]):=by
     have h1:∀ r:List UInt8,0 < c.toNat → 0 < de (r ++ [c]):=by
       intro r hp
       induction r with
       | nil=>simp [de];omega
       | cons y r ih=>simp only [List.cons_append,de];omega
     apply h1
     rcases Nat.eq_zero_or_pos c.toNat with h|h
     · exact absurd (UInt8.toNat_inj.1 (by simpa using h)) hc0
     · exact h
   have hval:de (x :: r ++ [c]) = x.toNat % 128 + 128 * de (r ++ [c]):=rfl
   have hlt:=x.toNat_lt
   rw [hval,pf (by omega)]
   rw [show (x.toNat % 128 + 128 * de (r ++ [c])) / 128 = de (r ++ [c]) by omega,hr]
   rw [show 128 + (x.toNat % 128 + 128 * de (r ++ [c])) % 128 = x.toNat by omega]
   simp
theorem ET {l:List UInt8} (h:(cm l).2.2 = 0):bV l < 8 ∧ bV l < l.length ∧ ¬ iz l ∧ (cm l).1 = de (l.take (bV l + 1)) ∧ (cm l).2.1 = bV l + 1:=by
 unfold cm at h ⊢
 by_cases h1:8 ≤ bV l
 · rw [if_pos h1] at h;simp at h
 · rw [if_neg h1] at h ⊢
   by_cases h2:l.length ≤ bV l
   · rw [if_pos h2] at h;simp at h
   · rw [if_neg h2] at h ⊢
     by_cases h3:iz l
     · rw [if_pos h3] at h;simp at h
     · rw [if_neg h3];exact ⟨by omega,by omega,h3,rfl,rfl⟩
theorem KE {l:List UInt8} (h:(cm l).2.2 = 0):iR (cm l).1 = l.take (cm l).2.1 ∧ 0 < (cm l).2.1 ∧ (cm l).2.1 ≤ l.length ∧ (cm l).1 ≤ 281474976710656:=by
 obtain ⟨h8,hl,hb,e1,e2⟩:=ET h
 rw [e1,e2]
 have ht:l.take (bV l + 1) = l.take (bV l) ++ [l[bV l]]:=List.take_succ_eq_append_getElem hl
 refine ⟨?_,by omega,by omega,?_⟩
 · rw [ht]
   refine yG _ _ ?_ (IO l hl) ?_
   · intro x hx
     obtain ⟨i,hi,rfl⟩:=List.getElem_of_mem hx
     rw [List.length_take] at hi
     rw [List.getElem_take]
     exact vW l i (by omega) (by omega)
   · intro hne h0
     refine hb (.inl ⟨?_,by rw [List.getElem?_eq_getElem hl,h0]⟩)
     rcases Nat.eq_zero_or_pos (bV l) with h|h
     · rw [h] at hne;simp at hne
     · exact h
 · rcases Nat.lt_or_ge 281474976710656 (de (l.take (bV l + 1))) with h|h
   · exact absurd (.inr h) hb
   · exact h
end Go.Proofs.YtembiemaiacdfaaGreat
namespace Go.Proofs.YtembiemaiacdfaaGreat
open Go.RowKit
theorem IP {l:List UInt8} {e:Int} (h:e ≠ 0):dj l e = (0,l,e):=by unfold dj;rw [if_pos h]
theorem p6 {l:List UInt8} {e:Int} (h:(dj l e).2.2 = 0):e = 0 ∧ fC (dj l e).1 ∧ l = g8 (dj l e).1 ++ (dj l e).2.1:=by
 by_cases he:e = 0
 · subst he
   unfold dj at h ⊢
   rw [if_neg (by simp)] at h ⊢
   by_cases hr:(cm l).2.2 = 0
   · obtain ⟨h1,h2,h3,h4⟩:=KE hr
     rw [if_neg (by simp [hr])]
     refine ⟨rfl,⟨by simp only;omega,by simp only;omega⟩,?_⟩
     simp only [g8,Int.toNat_natCast]
     rw [h1,List.take_append_drop]
   · rw [if_pos hr] at h
     exact absurd h hr
 · rw [IP he] at h;exact absurd h he
abbrev p7 (l:List UInt8):PV:=ct 1 (l.map byteP)
abbrev dl (l:List UInt8) (e:Int):Blk:=.box 197 [.per (p7 l),iC .i64 e]
abbrev sf:Cnt:=.ptr 1000 0 0
section
theorem An (l:List UInt8) (e:Int):el Tryz.prog 195 [sf] [(1000,dl l e)] (iC .i64 e) [(1000,dl l e)]:=by
 refine fm Tryz.func195 Tryz.ntmps195 ?_
 (refine w0 ?_;(repeat' first|refine W2.mk ?_ ?_|refine W1.mk fun hc=>?_))
 (refine ⟨(by first|exact .inl rfl|exact .inr rfl),bR [(1000,1000)] rfl rfl ?_ ?_⟩;(focus (repeat (first|exact ay.nil|(refine ay.cons rfl ?_ ?_;(focus first|rfl|skip))))))
 exact bf rfl rfl
theorem KF (l:List UInt8) (e:Int):el Tryz.prog 197 [sf] [(1000,dl l e)] (iC .i64 (l.length:Int)) [(1000,dl l e)]:=by
 refine fm Tryz.func197 Tryz.ntmps197 ?_
 (refine w0 ?_;(repeat' first|refine W2.mk ?_ ?_|refine W1.mk fun hc=>?_))
 (refine ⟨(by first|exact .inl rfl|exact .inr rfl),bR [(1000,1000)] rfl rfl ?_ ?_⟩;(focus (repeat (first|exact ay.nil|(refine ay.cons rfl ?_ ?_;(focus first|rfl|skip))))))
 exact bf rfl (by simp)
theorem p8 (l:List UInt8) (e x:Int):el Tryz.prog 196 [sf,iC .i64 x] [(1000,dl l e)] .any [(1000,dl l (yF x l e).2)]:=by
 unfold yF
 by_cases h0:e = 0
 · subst h0
   refine fm Tryz.func196 Tryz.ntmps196 ?_
   (refine w0 ?_;(repeat' first|refine W2.mk ?_ ?_|refine W1.mk fun hc=>?_))
   (refine ⟨(by first|exact .inl rfl|exact .inr rfl),bA [(1000,1000)] rfl rfl ?_⟩;(focus (repeat (first|exact ay.nil|(refine ay.cons rfl ?_ ?_;(focus first|rfl|skip))))))
 · rw [if_neg h0]
   refine fm Tryz.func196 Tryz.ntmps196 ?_
   (refine w0 ?_;(repeat' first|refine W2.mk ?_ ?_|refine W1.mk fun hc=>?_))
   (refine ⟨(by first|exact .inl rfl|exact .inr rfl),bA [(1000,1000)] rfl rfl ?_⟩;(focus (repeat (first|exact ay.nil|(refine ay.cons rfl ?_ ?_;(focus first|rfl|skip))))))
def fe (l:List UInt8):Nat × Int:=if 8 ≤ bV l then (0,11) else if l.length ≤ bV l then (0,10) else (bV l + 1,0)
theorem EU (l:List UInt8) (e:Int):el Tryz.prog 233 [sf] [(1000,dl l e)] (.tup2 (iC .i64 ((fe l).1:Nat)) (iC .i64 (fe l).2)) [(1000,dl l e)]:=by
 have hll:=pg l
 refine fm Tryz.func233 Tryz.ntmps233 ?_
 (refine w0 ?_;(repeat' first|refine W2.mk ?_ ?_|refine W1.mk fun hc=>?_))
 refine ah (fun k=>k ≤ bV l ∧ k ≤ 8) (fun k=>aN [(0,sf),(10,iC .i64 (if 8 < l.length then 8 else l.length:Int)),(11,iC .i64 (k:Nat))] [(1000,dl l e)]) (fun k=>8 - k) 0 ⟨Nat.zero_le _,by omega⟩ ?_ ?_
 · exact ab
 · rintro k ⟨hk,hk8⟩
   have hst:=lK l k
   (refine w0 ?_;(repeat' first|refine W2.mk ?_ ?_|refine W1.mk fun hc=>?_))
   · have hkl:k < l.length:=by omega
     have h1:=(hst hkl hk).2 (by omega)
     (refine ⟨(by first|exact .inl rfl|exact .inr rfl),Ad [(1000,1000)] rfl rfl ?_ ?_ ?_⟩;(focus (repeat (first|exact ay.nil|(refine ay.cons rfl ?_ ?_;(focus first|rfl|skip))))))
     · exact bf rfl (by unfold fe;rw [if_neg (by omega),if_neg (by omega)];simp;omega)
     · exact bf rfl (by unfold fe;rw [if_neg (by omega),if_neg (by omega)])
   · have hkl:k < l.length:=by omega
     have h1:=(hst hkl hk).1 (by omega)
     refine ⟨k + 1,⟨by omega,by omega⟩,by omega,?_⟩
     exact ab
   · (refine ⟨(by first|exact .inl rfl|exact .inr rfl),Ad [(1000,1000)] rfl rfl ?_ ?_ ?_⟩;(focus (repeat (first|exact ay.nil|(refine ay.cons rfl ?_ ?_;(focus first|rfl|skip))))))
     · exact bf rfl (by unfold fe;rw [if_pos (by omega)];rfl)
     · exact bf rfl (by unfold fe;rw [if_pos (by omega)])
   · (refine ⟨(by first|exact .inl rfl|exact .inr rfl),Ad [(1000,1000)] rfl rfl ?_ ?_ ?_⟩;(focus (repeat (first|exact ay.nil|(refine ay.cons rfl ?_ ?_;(focus first|rfl|skip))))))
     · exact bf rfl (by unfold fe;rw [if_neg (by omega),if_pos (by omega)];rfl)
     · exact bf rfl (by unfold fe;rw [if_neg (by omega),if_pos (by omega)])
theorem p9 (l:List UInt8) (k:Nat) (h:k < l.length):de (l.drop k) = l[k].toNat % 128 + 128 * de (l.drop (k + 1)):=by
 rw [List.drop_eq_getElem_cons h];rfl
theorem EV (l:List UInt8) (e:Int):el Tryz.prog 194 [sf] [(1000,dl l e)] (iC .i64 (dj l e).1) [(1000,dl (dj l e).2.1 (dj l e).2.2)]:=by
 have hll:=pg l
 by_cases he:e = 0
 · subst he
   by_cases hs:(fe l).2 = 0
   · have hz:bV l < 8 ∧ bV l < l.length ∧ fe l = (bV l + 1,0):=by
       unfold fe at hs ⊢
       split at hs
       · simp at hs
       · split at hs
         · simp at hs
         · rename_i h1 h2;rw [if_neg h1,if_neg h2];exact ⟨by omega,by omega,rfl⟩
     obtain ⟨z1,z2,z3⟩:=hz
     have hns:=EU l 0
     rw [z3] at hns
     have hb:dj l 0 = if iz l then (0,l,11) else (((de (l.take (bV l + 1)):Nat):Int),l.drop (bV l + 1),0):=by
       unfold dj cm
       rw [if_neg (by simp),if_neg (show ¬ 8 ≤ bV l by omega),if_neg (show ¬ l.length ≤ bV l by omega)]
       by_cases hb:iz l
       · simp [hb]
       · simp [hb]
     rw [hb]
     clear hb z3 hs
     have h128:∀ k,k ≤ bV l + 1 → de ((l.take (bV l + 1)).drop k) ≤ 72057594037927935:=by
       intro k hk
       have h1:=vX ((l.take (bV l + 1)).drop k)
       have h2:(128:Nat) ^ ((l.take (bV l + 1)).drop k).length ≤ 128 ^ 8:=Nat.pow_le_pow_right (by decide) (by simp;omega)
       have h3:(128:Nat) ^ 8 = 72057594037927936:=by decide
       omega
     have hbad:iz l ↔ ((bV l + 1 > 1 ∧ l[bV l].toNat = 0) ∨ de (l.take (bV l + 1)) > 281474976710656):=by
       unfold iz
       have h0:l[bV l]? = some 0 ↔ l[bV l].toNat = 0:=by
         rw [List.getElem?_eq_getElem z2,Option.some.injEq,← UInt8.toNat_inj];rfl
       rw [h0]
       constructor
       · rintro (⟨a,b⟩|a)
         · exact .inl ⟨by omega,b⟩
         · exact .inr a
       · rintro (⟨a,b⟩|a)
         · exact .inl ⟨by omega,b⟩
         · exact .inr a
     refine fm Tryz.func194 Tryz.ntmps194 ?_
     (have kr1:=An l 0;have kr2:=hns;refine w0 ?_;(repeat' first|refine W2.mk ?_ ?_|refine W1.mk fun hc=>?_);all_goals clear kr2 kr1)
     refine ah (fun j=>j ≤ bV l + 1) (fun j=>aN [(0,sf),(3,iC .i64 ((bV l + 1:Nat):Int)),(5,iC .i64 (de ((l.take (bV l + 1)).drop j):Nat)),(6,iC .i64 ((j:Int) - 1))] [(1000,dl l 0)]) (fun j=>j) (bV l + 1) (Nat.le_refl _) ?_ ?_
     · have h0:(l.take (bV l + 1)).drop (bV l + 1) = []:=by simp
       rw [h0]
       exact ab
     · intro j hj
       cases j with
       | succ j=>
         have hv:=p9 (l.take (bV l + 1)) j (by simp;omega)
         have hb1:=h128 j (by omega)
         have hb2:=h128 (j + 1) (by omega)
         rw [List.getElem_take] at hv
         rw [show ((j + 1:Nat):Int) - 1 = (j:Int) by omega]
         (refine w0 ?_;(repeat' first|refine W2.mk ?_ ?_|refine W1.mk fun hc=>?_))
         refine ⟨j,by omega,by omega,?_⟩
         exact ab
       | zero=>
         rw [List.drop_zero]
         have hb1:=h128 0 (by omega)
         rw [List.drop_zero] at hb1
         have hnb:∀ h:¬ iz l,(if iz l then ((0:Int),l,(11:Int)) else (((de (l.take (bV l + 1)):Nat):Int),l.drop (bV l + 1),0)) = (((de (l.take (bV l + 1)):Nat):Int),l.drop (bV l + 1),0):=fun h=>if_neg h
         by_cases h1:bV l + 1 > 1
         · (have kr1:=p8 l 0 11;refine w0 ?_;(repeat' first|refine W2.mk ?_ ?_|refine W1.mk fun hc=>?_);all_goals clear kr1)
           · rw [if_pos (hbad.2 (.inl ⟨h1,by omega⟩))]
             (refine ⟨(by first|exact .inl rfl|exact .inr rfl),bR [(1000,1000)] rfl rfl ?_ ?_⟩;(focus (repeat (first|exact ay.nil|(refine ay.cons rfl ?_ ?_;(focus first|rfl|skip))))))
             exact bf rfl rfl
           · rw [if_pos (hbad.2 (.inr (by omega)))]
             (refine ⟨(by first|exact .inl rfl|exact .inr rfl),bR [(1000,1000)] rfl rfl ?_ ?_⟩;(focus (repeat (first|exact ay.nil|(refine ay.cons rfl ?_ ?_;(focus first|rfl|skip))))))
             exact bf rfl rfl
           · rw [hnb (fun h=>by have:=hbad.1 h;omega)]
             (refine ⟨(by first|exact .inl rfl|exact .inr rfl),bR [(1000,1000)] rfl rfl ?_ ?_⟩;(focus (repeat (first|exact ay.nil|(refine ay.cons rfl ?_ ?_;(focus first|rfl|skip))))))
             exact bf rfl rfl
         · (have kr1:=p8 l 0 11;refine w0 ?_;(repeat' first|refine W2.mk ?_ ?_|refine W1.mk fun hc=>?_);all_goals clear kr1)
           · rw [if_pos (hbad.2 (.inr (by omega)))]
             (refine ⟨(by first|exact .inl rfl|exact .inr rfl),bR [(1000,1000)] rfl rfl ?_ ?_⟩;(focus (repeat (first|exact ay.nil|(refine ay.cons rfl ?_ ?_;(focus first|rfl|skip))))))
             exact bf rfl rfl
           · rw [hnb (fun h=>by have:=hbad.1 h;omega)]
             (refine ⟨(by first|exact .inl rfl|exact .inr rfl),bR [(1000,1000)] rfl rfl ?_ ?_⟩;(focus (repeat (first|exact ay.nil|(refine ay.cons rfl ?_ ?_;(focus first|rfl|skip))))))
             exact bf rfl rfl
   · have hb:dj l 0 = (0,l,(fe l).2):=by
       unfold dj cm fe at *
       rw [if_neg (by simp)]
       by_cases h1:8 ≤ bV l
       · simp [h1]
       · by_cases h2:l.length ≤ bV l
         · simp [h1,h2]
         · rw [if_neg h1,if_neg h2] at hs;exact absurd rfl hs
     rw [hb]
     refine fm Tryz.func194 Tryz.ntmps194 ?_
     (have kr1:=An l 0;have kr2:=EU l 0;refine w0 ?_;(repeat' (first|refine W2.mk ?_ ?_|refine W1.mk fun hc=>?_|((first|apply aD rfl|apply aF rfl|apply aG rfl|apply aH rfl);(focus (first|exact j9 (p8 l 0 _)|(apply bx;(focus rfl);apply ag rfl rfl rfl rfl rfl;first|exact j9 (p8 l 0 _))));refine w0 ?_)));all_goals clear kr2 kr1)
     rw [show fe l = fe l from rfl]
     (refine ⟨(by first|exact .inl rfl|exact .inr rfl),bR [(1000,1000)] rfl rfl ?_ ?_⟩;(focus (repeat (first|exact ay.nil|(refine ay.cons rfl ?_ ?_;(focus first|rfl|skip))))))
     exact bf rfl rfl
 · have hb:dj l e = (0,l,e):=by unfold dj;rw [if_pos he]
   rw [hb]
   refine fm Tryz.func194 Tryz.ntmps194 ?_
   (have kr1:=An l e;refine w0 ?_;(repeat' first|refine W2.mk ?_ ?_|refine W1.mk fun hc=>?_);all_goals clear kr1)
   (refine ⟨(by first|exact .inl rfl|exact .inr rfl),bR [(1000,1000)] rfl rfl ?_ ?_⟩;(focus (repeat (first|exact ay.nil|(refine ay.cons rfl ?_ ?_;(focus first|rfl|skip))))))
   exact bf rfl rfl
end
end Go.Proofs.YtembiemaiacdfaaGreat
namespace Go.Proofs.YtembiemaiacdfaaGreat
open Go.RowKit
section
variable (l:List UInt8) (e:Int)
theorem IQ:el Tryz.prog 193 [sf] [(1000,dl l e)] sf [(1000,dl l e)]:=by
 refine fm Tryz.func193 Tryz.ntmps193 ?_
 (refine w0 ?_;(repeat' first|refine W2.mk ?_ ?_|refine W1.mk fun hc=>?_))
 (refine ⟨(by first|exact .inl rfl|exact .inr rfl),bR [(1000,1000)] rfl rfl ?_ ?_⟩;(focus (repeat (first|exact ay.nil|(refine ay.cons rfl ?_ ?_;(focus first|rfl|skip))))))
 exact Lr rfl rfl
theorem vY:el Tryz.prog 155 [sf] [(1000,dl l e)] (iC .i64 e) [(1000,dl l e)]:=by
 refine fm Tryz.func155 Tryz.ntmps155 ?_
 (have kr1:=IQ l e;have kr2:=An l e;refine w0 ?_;(repeat' first|refine W2.mk ?_ ?_|refine W1.mk fun hc=>?_);all_goals clear kr2 kr1)
 (refine ⟨(by first|exact .inl rfl|exact .inr rfl),bR [(1000,1000)] rfl rfl ?_ ?_⟩;(focus (repeat (first|exact ay.nil|(refine ay.cons rfl ?_ ?_;(focus first|rfl|skip))))))
 exact bf rfl rfl
theorem yH:el Tryz.prog 157 [sf] [(1000,dl l e)] (iC .i64 (l.length:Int)) [(1000,dl l e)]:=by
 refine fm Tryz.func157 Tryz.ntmps157 ?_
 (have kr1:=IQ l e;have kr2:=KF l e;refine w0 ?_;(repeat' first|refine W2.mk ?_ ?_|refine W1.mk fun hc=>?_);all_goals clear kr2 kr1)
 (refine ⟨(by first|exact .inl rfl|exact .inr rfl),bR [(1000,1000)] rfl rfl ?_ ?_⟩;(focus (repeat (first|exact ay.nil|(refine ay.cons rfl ?_ ?_;(focus first|rfl|skip))))))
 exact bf rfl rfl
theorem EW (x:Int):el Tryz.prog 156 [sf,iC .i64 x] [(1000,dl l e)] .any [(1000,dl l (yF x l e).2)]:=by
 refine fm Tryz.func156 Tryz.ntmps156 ?_
 (have kr1:=IQ l e;have kr2:=p8 l e x;refine w0 ?_;(repeat' first|refine W2.mk ?_ ?_|refine W1.mk fun hc=>?_);all_goals clear kr2 kr1)
 (refine ⟨(by first|exact .inl rfl|exact .inr rfl),bA [(1000,1000)] rfl rfl ?_⟩;(focus (repeat (first|exact ay.nil|(refine ay.cons rfl ?_ ?_;(focus first|rfl|skip))))))
theorem EX:el Tryz.prog 154 [sf] [(1000,dl l e)] (iC .i64 (dj l e).1) [(1000,dl (dj l e).2.1 (dj l e).2.2)]:=by
 refine fm Tryz.func154 Tryz.ntmps154 ?_
 (have kr1:=IQ l e;have kr2:=EV l e;refine w0 ?_;(repeat' first|refine W2.mk ?_ ?_|refine W1.mk fun hc=>?_);all_goals clear kr2 kr1)
 (refine ⟨(by first|exact .inl rfl|exact .inr rfl),bR [(1000,1000)] rfl rfl ?_ ?_⟩;(focus (repeat (first|exact ay.nil|(refine ay.cons rfl ?_ ?_;(focus first|rfl|skip))))))
 exact bf rfl rfl
theorem tN:el Tryz.prog 153 [sf] [(1000,dl l e)] (.per (p7 l)) [(1000,dl l e)]:=by
 refine fm Tryz.func153 Tryz.ntmps153 ?_
 (refine w0 ?_;(repeat' first|refine W2.mk ?_ ?_|refine W1.mk fun hc=>?_))
 (refine ⟨(by first|exact .inl rfl|exact .inr rfl),bR [(1000,1000)] rfl rfl ?_ ?_⟩;(focus (repeat (first|exact ay.nil|(refine ay.cons rfl ?_ ?_;(focus first|rfl|skip))))))
 exact H6 rfl rfl
theorem kT (lo hi:Int):el Tryz.prog 102 [sf,iC .i64 lo,iC .i64 hi] [(1000,dl l e)] (iC .i64 (aL lo hi l e).1) [(1000,dl (aL lo hi l e).2.1 (aL lo hi l e).2.2)]:=by
 have hN:=EX l e
 generalize hQ:aL lo hi l e = Q at *
 unfold aL at hQ
 generalize dj l e = q at *
 obtain ⟨m,l',e'⟩:=q
 simp only at hN hQ
 refine fm Tryz.func102 Tryz.ntmps102 ?_
 (have kr1:=tN l e;have kr2:=hN;have kr3:=vY l' e';have kr4:=EW l e' 11;refine w0 ?_;(repeat' first|refine W2.mk ?_ ?_|refine W1.mk fun hc=>?_);all_goals clear kr4 kr3 kr2 kr1)
 · rw [if_pos ⟨by assumption,.inl (by assumption)⟩] at hQ
   subst hQ
   have h0:e' = 0:=by assumption
   subst h0
   (refine ⟨(by first|exact .inl rfl|exact .inr rfl),bR [(1000,1000)] rfl rfl ?_ ?_⟩;(focus (repeat (first|exact ay.nil|(refine ay.cons rfl ?_ ?_;(focus first|rfl|skip))))))
   exact bf rfl rfl
 · rw [if_pos ⟨by assumption,.inr (by omega)⟩] at hQ
   subst hQ
   have h0:e' = 0:=by assumption
   subst h0
   (refine ⟨(by first|exact .inl rfl|exact .inr rfl),bR [(1000,1000)] rfl rfl ?_ ?_⟩;(focus (repeat (first|exact ay.nil|(refine ay.cons rfl ?_ ?_;(focus first|rfl|skip))))))
   exact bf rfl rfl
 · rw [if_neg (by omega)] at hQ
   subst hQ
   (refine ⟨(by first|exact .inl rfl|exact .inr rfl),bR [(1000,1000)] rfl rfl ?_ ?_⟩;(focus (repeat (first|exact ay.nil|(refine ay.cons rfl ?_ ?_;(focus first|rfl|skip))))))
   exact bf rfl rfl
 · rw [if_neg (by omega)] at hQ
   subst hQ
   (refine ⟨(by first|exact .inl rfl|exact .inr rfl),bR [(1000,1000)] rfl rfl ?_ ?_⟩;(focus (repeat (first|exact ay.nil|(refine ay.cons rfl ?_ ?_;(focus first|rfl|skip))))))
   exact bf rfl rfl
theorem J3:el Tryz.prog 104 [sf] [(1000,dl l e)] (iC .i64 (kS l e)) [(1000,dl l e)]:=by
 unfold kS
 refine fm Tryz.func104 Tryz.ntmps104 ?_
 (have kr1:=vY l e;have kr2:=yH l e;refine w0 ?_;(repeat' first|refine W2.mk ?_ ?_|refine W1.mk fun hc=>?_);all_goals clear kr2 kr1)
 all_goals (refine ⟨(by first|exact .inl rfl|exact .inr rfl),bR [(1000,1000)] rfl rfl ?_ ?_⟩;(focus (repeat (first|exact ay.nil|(refine ay.cons rfl ?_ ?_;(focus first|rfl|skip))))))
 · exact bf rfl (by rw [if_pos (by omega)])
 · exact bf rfl (by rw [if_neg (by omega)])
 · exact bf rfl (by rw [if_neg (by omega)])
theorem mY (most:Int) (h0:(aL 0 most l e).2.2 = 0):0 ≤ (aL 0 most l e).1 ∧ (aL 0 most l e).1 ≤ most:=by
 unfold aL at *
 split at h0
 · simp at h0
 · rename_i h
   rw [if_neg h]
   omega
theorem EY (most:Int):el Tryz.prog 103 [sf,iC .i64 most] [(1000,dl l e)] (sC ⟨(dL most l e).1.toArray⟩) [(1000,dl (dL most l e).2.1 (dL most l e).2.2)]:=by
 have hN:=kT l e 0 most
 have hrg:=mY l e most
 generalize hQ:dL most l e = Q at *
 unfold dL at hQ
 generalize aL 0 most l e = q at *
 obtain ⟨m,l',e'⟩:=q
 simp only at hN hQ hrg
 by_cases h0:e' = 0
 · subst h0
   obtain ⟨h1,h2⟩:=hrg rfl
   rw [if_neg (by simp)] at hQ
   by_cases h3:(l'.length:Int) < m
   · rw [if_pos h3] at hQ
     subst hQ
     refine fm Tryz.func103 Tryz.ntmps103 ?_
     (have kr1:=tN l e;have kr2:=hN;have kr3:=vY l' 0;have kr4:=yH l' 0;have kr5:=EW l 0 10;refine w0 ?_;(repeat' first|refine W2.mk ?_ ?_|refine W1.mk fun hc=>?_);all_goals clear kr5 kr4 kr3 kr2 kr1)
     (refine ⟨(by first|exact .inl rfl|exact .inr rfl),bR [(1000,1000)] rfl rfl ?_ ?_⟩;(focus (repeat (first|exact ay.nil|(refine ay.cons rfl ?_ ?_;(focus first|rfl|skip))))))
     exact lD rfl rfl
   · rw [if_neg h3] at hQ
     subst hQ
     obtain ⟨k,rfl⟩:=Int.eq_ofNat_of_zero_le h1
     have hk:k ≤ l'.length:=by omega
     refine fm Tryz.func103 Tryz.ntmps103 ?_
     (have kr1:=tN l e;have kr2:=hN;have kr3:=vY l' 0;have kr4:=yH l' 0;refine w0 ?_;(repeat' first|refine W2.mk ?_ ?_|refine W1.mk fun hc=>?_);all_goals clear kr4 kr3 kr2 kr1)
     (refine ⟨(by first|exact .inl rfl|exact .inr rfl),bR [(1000,1000)] rfl rfl ?_ ?_⟩;(focus (repeat (first|exact ay.nil|(refine ay.cons rfl ?_ ?_;(focus first|rfl|skip))))))
     · exact lD rfl rfl
 · rw [if_pos h0] at hQ
   subst hQ
   refine fm Tryz.func103 Tryz.ntmps103 ?_
   (have kr1:=tN l e;have kr2:=hN;have kr3:=vY l' e';refine w0 ?_;(repeat' first|refine W2.mk ?_ ?_|refine W1.mk fun hc=>?_);all_goals clear kr3 kr2 kr1)
   (refine ⟨(by first|exact .inl rfl|exact .inr rfl),bR [(1000,1000)] rfl rfl ?_ ?_⟩;(focus (repeat (first|exact ay.nil|(refine ay.cons rfl ?_ ?_;(focus first|rfl|skip))))))
   exact lD rfl rfl
theorem Ao (hl:l.length ≤ 1000000000):el Tryz.prog 101 [iw l] [] (.ptr 3000 0 0) [(3000,dl l 0)]:=by
 refine fm Tryz.func101 Tryz.ntmps101 ?_
 (refine w0 ?_;(repeat' first|refine W2.mk ?_ ?_|refine W1.mk fun hc=>?_))
 refine ⟨.inl rfl,Io (iv 3 _ 5 1 rfl rfl) ?_⟩
 refine bR [(8,3000)] rfl rfl ?_ (Lr rfl rfl)
 (repeat (first|exact ay.nil|(refine ay.cons rfl ?_ ?_;(focus first|rfl|skip))))
end
end Go.Proofs.YtembiemaiacdfaaGreat
namespace Go.Proofs.YtembiemaiacdfaaGreat
open Go.RowKit
theorem B2 (l:List UInt8) (e:Int):(dj l e).2.1 <:+ l:=by
 unfold dj
 split
 · exact List.suffix_refl l
 · split
   · exact List.suffix_refl l
   · exact List.drop_suffix _ _
theorem dz (lo hi:Int) (l:List UInt8) (e:Int):(aL lo hi l e).2.1 <:+ l:=by
 unfold aL
 split
 · exact List.suffix_refl l
 · exact B2 l e
theorem yI (most:Int) (l:List UInt8) (e:Int):(dL most l e).2.1 <:+ l:=by
 unfold dL
 split
 · exact dz 0 most l e
 · split
   · exact List.suffix_refl l
   · exact (List.drop_suffix _ _).trans (dz 0 most l e)
theorem kU {b l:List UInt8} (h:l <:+ b):b.drop (b.length - l.length) = l ∧ l.length ≤ b.length:=by
 obtain ⟨t,rfl⟩:=h
 simp
abbrev qa (b l:List UInt8) (e:Int):Blk:=.box 156 [.per (p7 b),iC .i64 ((b.length - l.length:Nat):Int),iC .i64 e]
theorem B3 (l:List UInt8):(cm l).1 ≤ 281474976710656 ∧ (cm l).2.1 ≤ l.length ∧ (cm l).2.1 ≤ 8 ∧ ((cm l).2.2 ≠ 0 → (cm l).1 = 0 ∧ (cm l).2.1 = 0):=by
 unfold cm
 have:=pg l
 split
 · simp
 · split
   · simp
   · split
     · simp
     · rename_i h1 h2 h3
       refine ⟨?_,by simp only;omega,by simp only;omega,fun h=>absurd rfl h⟩
       unfold iz at h3
       simp only;omega
section
theorem vZ (n:Int):Fn Tryz.prog 198 [iC .i64 n] (bO (decide (0 ≤ n ∧ n ≤ 281474976710656))):=by
 refine fi Tryz.func198 Tryz.ntmps198 ?_
 (refine w0 ?_;(repeat' first|refine W2.mk ?_ ?_|refine W1.mk fun hc=>?_))
 all_goals refine aQ ?_
 · exact af rfl (by simp;omega)
 · exact af rfl (by simp;omega)
theorem KG (b:List UInt8):Fn Tryz.prog 158 [iw b] (.tup3 (.per (aq (.int .i64 ((cm b).1:Nat)))) (.per (aq (.int .i64 ((cm b).2.1:Nat)))) (.per (aq (.int .i64 (cm b).2.2)))):=by
 have hll:=pg b
 generalize hQ:cm b = Q at *
 refine fi Tryz.func158 Tryz.ntmps158 ?_
 (refine w0 ?_;(repeat' first|refine W2.mk ?_ ?_|refine W1.mk fun hc=>?_))
 refine ah (fun k=>k ≤ bV b ∧ k ≤ 8) (fun k=>aN [(0,iw b),(5,iC .i64 (k:Nat))] []) (fun k=>8 - k) 0 ⟨Nat.zero_le _,by omega⟩ ?_ ?_
 · exact ab
 · rintro k ⟨hk,hk8⟩
   have hst:=lK b k
   by_cases hkl:k < b.length
   · have h1:=hst hkl hk
     by_cases hk7:k < 8
     · by_cases hbig:128 ≤ b[k].toNat
       · have h2:=h1.1 hbig
         (refine w0 ?_;(repeat' first|refine W2.mk ?_ ?_|refine W1.mk fun hc=>?_))
         refine ⟨k + 1,⟨by omega,by omega⟩,by omega,?_⟩
         exact ab
       · have h2:=h1.2 (by omega)
         clear h1 hst
         have h128:∀ k,k ≤ bV b + 1 → de ((b.take (bV b + 1)).drop k) ≤ 72057594037927935:=by
           intro k hk
           have h1:=vX ((b.take (bV b + 1)).drop k)
           have h2:(128:Nat) ^ ((b.take (bV b + 1)).drop k).length ≤ 128 ^ 8:=Nat.pow_le_pow_right (by decide) (by simp;omega)
           have h3:(128:Nat) ^ 8 = 72057594037927936:=by decide
           omega
         have hbad:iz b ↔ ((k > 0 ∧ b[k].toNat = 0) ∨ de (b.take (k + 1)) > 281474976710656):=by
           unfold iz
           have h0:b[bV b]? = some 0 ↔ b[k].toNat = 0:=by
             rw [h2,List.getElem?_eq_getElem hkl,Option.some.injEq,← UInt8.toNat_inj];rfl
           rw [h0,h2]
         rw [h2] at h128
         have hQ2:Q = if iz b then (0,0,11) else (de (b.take (k + 1)),k + 1,0):=by
           rw [← hQ]
           unfold cm
           rw [if_neg (by omega),if_neg (by omega),h2]
         clear hQ
         (refine w0 ?_;(repeat' first|refine W2.mk ?_ ?_|refine W1.mk fun hc=>?_))
         refine ah (fun j=>j ≤ k + 1) (fun j=>aN [(0,iw b),(5,iC .i64 (k:Nat)),(6,iC .i64 (de ((b.take (k + 1)).drop j):Nat)),(7,iC .i64 ((j:Int) - 1))] []) (fun j=>j) (k + 1) (Nat.le_refl _) ?_ ?_
         · have h0:(b.take (k + 1)).drop (k + 1) = []:=by simp
           rw [h0]
           exact ab
         · intro j hj
           cases j with
           | succ j=>
             have hv:=p9 (b.take (k + 1)) j (by simp;omega)
             have hb1:=h128 j (by omega)
             have hb2:=h128 (j + 1) (by omega)
             rw [List.getElem_take] at hv
             rw [show ((j + 1:Nat):Int) - 1 = (j:Int) by omega]
             (refine w0 ?_;(repeat' first|refine W2.mk ?_ ?_|refine W1.mk fun hc=>?_))
             refine ⟨j,by omega,by omega,?_⟩
             exact ab
           | zero=>
             rw [List.drop_zero]
             have hb1:=h128 0 (by omega)
             rw [List.drop_zero] at hb1
             (refine w0 ?_;(repeat' (first|refine W2.mk ?_ ?_|refine W1.mk fun hc=>?_|((first|apply aD rfl|apply aF rfl|apply aG rfl|apply aH rfl);(focus (first|exact oP (vZ _)|(apply bx;(focus rfl);apply ag rfl rfl rfl rfl rfl;first|exact oP (vZ _))));refine w0 ?_))))
             · rw [if_pos (hbad.2 (.inl ⟨by omega,by omega⟩))] at hQ2
               subst hQ2
               refine ⟨.inl rfl,vf rfl (aA rfl rfl) (aA rfl rfl) (aA rfl rfl)⟩
             · rw [if_pos (hbad.2 (.inr (by omega)))] at hQ2
               subst hQ2
               refine ⟨.inl rfl,vf rfl (aA rfl rfl) (aA rfl rfl) (aA rfl rfl)⟩
             · rw [if_neg (fun h=>by have:=hbad.1 h;omega)] at hQ2
               subst hQ2
               refine ⟨.inl rfl,vf rfl (aA rfl rfl) (aA rfl rfl) (aA rfl rfl)⟩
             · rw [if_pos (hbad.2 (.inr (by omega)))] at hQ2
               subst hQ2
               refine ⟨.inl rfl,vf rfl (aA rfl rfl) (aA rfl rfl) (aA rfl rfl)⟩
             · rw [if_neg (fun h=>by have:=hbad.1 h;omega)] at hQ2
               subst hQ2
               refine ⟨.inl rfl,vf rfl (aA rfl rfl) (aA rfl rfl) (aA rfl rfl)⟩
     · have hQ2:Q = (0,0,11):=by
         rw [← hQ];unfold cm;rw [if_pos (by omega)]
       subst hQ2
       (refine w0 ?_;(repeat' first|refine W2.mk ?_ ?_|refine W1.mk fun hc=>?_))
       refine ⟨.inl rfl,vf rfl (aA rfl rfl) (aA rfl rfl) (aA rfl rfl)⟩
   · by_cases h8:k = 8
     · have hQ2:Q = (0,0,11):=by
         rw [← hQ];unfold cm;rw [if_pos (by omega)]
       subst hQ2
       (refine w0 ?_;(repeat' first|refine W2.mk ?_ ?_|refine W1.mk fun hc=>?_))
       refine ⟨.inl rfl,vf rfl (aA rfl rfl) (aA rfl rfl) (aA rfl rfl)⟩
     · have hQ2:Q = (0,0,10):=by
         rw [← hQ];unfold cm;rw [if_neg (by omega),if_pos (by omega)]
       subst hQ2
       (refine w0 ?_;(repeat' first|refine W2.mk ?_ ?_|refine W1.mk fun hc=>?_))
       refine ⟨.inl rfl,vf rfl (aA rfl rfl) (aA rfl rfl) (aA rfl rfl)⟩
end
end Go.Proofs.YtembiemaiacdfaaGreat
namespace Go.Proofs.YtembiemaiacdfaaGreat
open Go.RowKit
theorem M0 {b l l':List UInt8} (h:l <:+ b) {k:Nat} (hk:k ≤ l.length) (h':l' = l.drop k):b.length - l.length + k = b.length - l'.length:=by
 have:=(kU h).2
 rw [h',List.length_drop];omega
theorem yJ {lo hi:Int} {l:List UInt8} {e:Int} (h:e ≠ 0):aL lo hi l e = (0,l,e):=by
 unfold aL dj
 simp [h]
theorem yK (lo hi:Int) (l:List UInt8):aL lo hi l 0 = if (cm l).2.2 ≠ 0 then (0,l,(cm l).2.2) else if ((cm l).1:Int) < lo ∨ hi < ((cm l).1:Int) then (0,l,11) else (((cm l).1:Int),l.drop (cm l).2.1,0):=by
 unfold aL dj
 by_cases h:(cm l).2.2 = 0
 · simp [h]
 · simp [h]
section
variable (b l:List UInt8) (e:Int) (hs:l <:+ b) (hb:b.length ≤ 1000000000000)
include hs hb
theorem n9 (lo hi:Int):el Tryz.prog 106 [sf,iC .i64 lo,iC .i64 hi] [(1000,qa b l e)] (iC .i64 (aL lo hi l e).1) [(1000,qa b (aL lo hi l e).2.1 (aL lo hi l e).2.2)]:=by
 obtain ⟨hd,hlen⟩:=kU hs
 have hn:=KG (b.drop (b.length - l.length))
 rw [show cm (b.drop (b.length - l.length)) = cm l by rw [hd]] at hn
 obtain ⟨r1,r2,r3,r4⟩:=B3 l
 by_cases h0:e = 0
 · subst h0
   rw [yK]
   have ha:=M0 hs r2 rfl
   generalize cm l = q at *
   obtain ⟨m,k,e'⟩:=q
   simp only at hn r1 r2 r3 r4 ha ⊢
   by_cases h1:e' = 0
   · subst h1
     rw [if_neg (by simp)]
     by_cases h2:(m:Int) < lo ∨ hi < (m:Int)
     · rw [if_pos h2]
       refine fm Tryz.func106 Tryz.ntmps106 ?_
       (have kc1:=hn;refine w0 ?_;(repeat' first|refine W2.mk ?_ ?_|refine W1.mk fun hc=>?_);all_goals clear kc1)
       all_goals (refine ⟨(by first|exact .inl rfl|exact .inr rfl),bR [(1000,1000)] rfl rfl ?_ ?_⟩;(focus (repeat (first|exact ay.nil|(refine ay.cons rfl ?_ ?_;(focus first|rfl|skip))))))
       all_goals exact bf rfl rfl
     · rw [if_neg h2]
       refine fm Tryz.func106 Tryz.ntmps106 ?_
       (have kc1:=hn;refine w0 ?_;(repeat' first|refine W2.mk ?_ ?_|refine W1.mk fun hc=>?_);all_goals clear kc1)
       rw [show ((b.length - l.length:Nat):Int) + (k:Int) = ((b.length - (l.drop k).length:Nat):Int) by omega]
       (refine ⟨(by first|exact .inl rfl|exact .inr rfl),bR [(1000,1000)] rfl rfl ?_ ?_⟩;(focus (repeat (first|exact ay.nil|(refine ay.cons rfl ?_ ?_;(focus first|rfl|skip))))))
       exact bf rfl rfl
   · rw [if_pos h1]
     obtain ⟨rfl,rfl⟩:=r4 h1
     refine fm Tryz.func106 Tryz.ntmps106 ?_
     (have kc1:=hn;refine w0 ?_;(repeat' first|refine W2.mk ?_ ?_|refine W1.mk fun hc=>?_);all_goals clear kc1)
     (refine ⟨(by first|exact .inl rfl|exact .inr rfl),bR [(1000,1000)] rfl rfl ?_ ?_⟩;(focus (repeat (first|exact ay.nil|(refine ay.cons rfl ?_ ?_;(focus first|rfl|skip))))))
     exact bf rfl rfl
 · rw [yJ h0]
   refine fm Tryz.func106 Tryz.ntmps106 ?_
   (refine w0 ?_;(repeat' first|refine W2.mk ?_ ?_|refine W1.mk fun hc=>?_))
   (refine ⟨(by first|exact .inl rfl|exact .inr rfl),bR [(1000,1000)] rfl rfl ?_ ?_⟩;(focus (repeat (first|exact ay.nil|(refine ay.cons rfl ?_ ?_;(focus first|rfl|skip))))))
   exact bf rfl rfl
omit hb in
theorem KH:el Tryz.prog 108 [sf] [(1000,qa b l e)] (iC .i64 (kS l e)) [(1000,qa b l e)]:=by
 obtain ⟨hd,hlen⟩:=kU hs
 unfold kS
 refine fm Tryz.func108 Tryz.ntmps108 ?_
 (refine w0 ?_;(repeat' first|refine W2.mk ?_ ?_|refine W1.mk fun hc=>?_))
 all_goals (refine ⟨(by first|exact .inl rfl|exact .inr rfl),bR [(1000,1000)] rfl rfl ?_ ?_⟩;(focus (repeat (first|exact ay.nil|(refine ay.cons rfl ?_ ?_;(focus first|rfl|skip))))))
 · exact bf rfl (by rw [if_pos (by omega)])
 · exact bf rfl (by rw [if_neg (by omega)])
 · exact bf rfl (by rw [if_neg (by omega)])
theorem IR (most:Int):el Tryz.prog 107 [sf,iC .i64 most] [(1000,qa b l e)] (sC ⟨(dL most l e).1.toArray⟩) [(1000,qa b (dL most l e).2.1 (dL most l e).2.2)]:=by
 obtain ⟨hd,hlen⟩:=kU hs
 have hW:=n9 b l e hs hb 0 most
 have hrg:=mY l e most
 have hsuf:=(dz 0 most l e).trans hs
 generalize hQ:dL most l e = Q at *
 unfold dL at hQ
 generalize aL 0 most l e = q at *
 obtain ⟨m,l',e'⟩:=q
 simp only at hW hQ hrg hsuf
 obtain ⟨hd',hlen'⟩:=kU hsuf
 by_cases h0:e' = 0
 · subst h0
   obtain ⟨h1,h2⟩:=hrg rfl
   rw [if_neg (by simp)] at hQ
   by_cases h3:(l'.length:Int) < m
   · rw [if_pos h3] at hQ
     subst hQ
     refine fm Tryz.func107 Tryz.ntmps107 ?_
     (have kr1:=hW;refine w0 ?_;(repeat' first|refine W2.mk ?_ ?_|refine W1.mk fun hc=>?_);all_goals clear kr1)
     (refine ⟨(by first|exact .inl rfl|exact .inr rfl),bR [(1000,1000)] rfl rfl ?_ ?_⟩;(focus (repeat (first|exact ay.nil|(refine ay.cons rfl ?_ ?_;(focus first|rfl|skip))))))
     exact lD rfl rfl
   · rw [if_neg h3] at hQ
     subst hQ
     obtain ⟨k,rfl⟩:=Int.eq_ofNat_of_zero_le h1
     have hk:k ≤ l'.length:=by omega
     refine fm Tryz.func107 Tryz.ntmps107 ?_
     (have kr1:=hW;refine w0 ?_;(repeat' first|refine W2.mk ?_ ?_|refine W1.mk fun hc=>?_);all_goals clear kr1)
     rw [show ((b.length - l'.length:Nat):Int) + (k:Int) = ((b.length - (l'.drop k).length:Nat):Int) by rw [List.length_drop];omega,show b.length - l'.length + k - (b.length - l'.length) = k by omega,hd']
     (refine ⟨(by first|exact .inl rfl|exact .inr rfl),bR [(1000,1000)] rfl rfl ?_ ?_⟩;(focus (repeat (first|exact ay.nil|(refine ay.cons rfl ?_ ?_;(focus first|rfl|skip))))))
     exact lD rfl rfl
 · rw [if_pos h0] at hQ
   subst hQ
   refine fm Tryz.func107 Tryz.ntmps107 ?_
   (have kr1:=hW;refine w0 ?_;(repeat' first|refine W2.mk ?_ ?_|refine W1.mk fun hc=>?_);all_goals clear kr1)
   (refine ⟨(by first|exact .inl rfl|exact .inr rfl),bR [(1000,1000)] rfl rfl ?_ ?_⟩;(focus (repeat (first|exact ay.nil|(refine ay.cons rfl ?_ ?_;(focus first|rfl|skip))))))
   exact lD rfl rfl
end
end Go.Proofs.YtembiemaiacdfaaGreat
