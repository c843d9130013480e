/- Texts joined: RgL IcL Fc Parse Rd. -/
import Derived.Test.YtembiemaiacdfaaGreatJ09
import Derived.Test.YtembiemaiacdfaaGreatJ05
import Derived.Test.YtembiemaiacdfaaGreatJ08
import Derived.Test.YtembiemaiacdfaaGreatJ07
import Derived.Test.YtembiemaiacdfaaGreatJ06
set_option maxRecDepth 10000
set_option maxHeartbeats 8000000
namespace Go.Proofs.YtembiemaiacdfaaGreat
open Go.RowKit
section
def xI (x:Rg):Bool:=decide (x.lo.size > 40) || decide (x.hi.size > 40)
def eF (l:List Rg) (most:Int):Bool:=decide ((l.length:Int) > most) || l.any xI
theorem pS (l:List Rg) (most:Int) (hl:most ≤ 1000000000000):Fn Tryz.prog 34 [db l,iC .i64 most] (cU (eF l most)):=by
 refine fi Tryz.func34 Tryz.ntmps34 ?_
 (refine wH ?_;(repeat' first|refine W2.mk ?_ ?_|refine W1.mk fun hc=>?_))
 · refine aO ?_
   exact af rfl (by unfold eF;rw [decide_eq_true hc];rfl)
 refine ah (fun k=>k ≤ l.length ∧ (l.take k).any xI = false) (fun k=>aJ [(0,db l),(1,iC .i64 most),(4,bC false),(5,iC .i64 (k:Nat))] []) (fun k=>l.length - k) 0 ⟨Nat.zero_le _,by simp⟩ ?_ ?_
 · exact ab
 · rintro k ⟨hk,hpre⟩
   by_cases hlt:k < l.length
   · have hsn:(l.take (k + 1)).any xI = ((l.take k).any xI || xI l[k]):=by rw [aN l k hlt,List.any_append];simp
     (refine wH ?_;(repeat' first|refine W2.mk ?_ ?_|refine W1.mk fun hc=>?_))
     · refine aO ?_
       exact af rfl (by symm;unfold eF;rw [Bool.or_eq_true,List.any_eq_true];refine .inr ⟨l[k],List.getElem_mem hlt,?_⟩;grind [xI])
     · refine ⟨k + 1,⟨by omega,?_⟩,by omega,?_⟩
       · rw [hsn,hpre];grind [xI]
       · exact ab
   · (refine wH ?_;(repeat' first|refine W2.mk ?_ ?_|refine W1.mk fun hc=>?_))
     refine aO ?_
     have e:l.take k = l:=List.take_of_length_le (by omega)
     rw [e] at hpre
     exact af rfl (by symm;unfold eF;rw [hpre,Bool.or_false,decide_eq_false_iff_not];assumption)
end
def s0:ByteArray:=⟨#[]⟩
section
end
section
end
end Go.Proofs.YtembiemaiacdfaaGreat
namespace Go.Proofs.YtembiemaiacdfaaGreat
def bV (l:List UInt8):Nat:=(l.takeWhile (fun c=>decide (128 ≤ c.toNat))).length
def cX:List UInt8 → Nat
 | []=>0
 | c :: r=>c.toNat % 128 + 128 * cX r
def io (l:List UInt8):Prop:=(0 < bV l ∧ l[bV l]? = some 0) ∨ 281474976710656 < cX (l.take (bV l + 1))
instance (l:List UInt8):Decidable (io l):=by unfold io;infer_instance
def cd (l:List UInt8):Nat × Nat × Int:=
 if 8 ≤ bV l then (0,0,11) else if l.length ≤ bV l then (0,0,10) else if io l then (0,0,11) else (cX (l.take (bV l + 1)),bV l + 1,0)
theorem o8 (l:List UInt8):bV l ≤ l.length:=by
 unfold bV;exact (List.takeWhile_sublist _).length_le
theorem lh:∀ (l:List UInt8) (i:Nat) (h:i < l.length),i ≤ bV l → (128 ≤ l[i].toNat → i + 1 ≤ bV l) ∧ (l[i].toNat < 128 → bV l = i):=by
 intro l
 induction l with
 | nil=>intro i h;simp at h
 | cons c r ih=>
   intro i h hi
   unfold bV at *
   rw [List.takeWhile_cons] at *
   cases i with
   | zero=>
     refine ⟨fun hc=>?_,fun hc=>?_⟩
     · simp at hc;simp [hc]
     · simp at hc;rw [if_neg (by simp;omega)];rfl
   | succ i=>
     by_cases hc:128 ≤ c.toNat
     · rw [if_pos (by simpa using hc)] at hi ⊢
       simp only [List.length_cons] at hi ⊢
       have:=ih i (by simpa using h) (by omega)
       simp only [List.getElem_cons_succ]
       omega
     · rw [if_neg (by simpa using hc)] at hi;simp at hi
theorem vv:∀ (l:List UInt8) (i:Nat) (h:i < l.length),i < bV l → 128 ≤ l[i].toNat:=by
 intro l i h hi
 rcases Nat.lt_or_ge (l[i].toNat) 128 with h1|h1
 · have:=(lh l i h (by omega)).2 h1;omega
 · exact h1
theorem H7 (l:List UInt8) (h:bV l < l.length):l[bV l].toNat < 128:=by
 rcases Nat.lt_or_ge (l[bV l].toNat) 128 with h1|h1
 · exact h1
 · have:=(lh l (bV l) h (Nat.le_refl _)).1 h1;omega
theorem vx (l:List UInt8):cX l < 128 ^ l.length:=by
 induction l with
 | nil=>simp [cX]
 | cons c r ih=>simp only [cX,List.length_cons,Nat.pow_succ];omega
def dc (l:List UInt8) (e:Int):Int × List UInt8 × Int:=
 if e ≠ 0 then (0,l,e) else if (cd l).2.2 ≠ 0 then (0,l,(cd l).2.2) else ((cd l).1,l.drop (cd l).2.1,0)
def aH (lo hi:Int) (l:List UInt8) (e:Int):Int × List UInt8 × Int:=
 if (dc l e).2.2 = 0 ∧ ((dc l e).1 < lo ∨ hi < (dc l e).1) then (0,l,11) else dc l e
def dG (most:Int) (l:List UInt8) (e:Int):List UInt8 × List UInt8 × Int:=
 if (aH 0 most l e).2.2 ≠ 0 then ([],(aH 0 most l e).2)
 else if (aH 0 most l e).2.1.length < (aH 0 most l e).1 then ([],l,10)
 else ((aH 0 most l e).2.1.take (aH 0 most l e).1.toNat,(aH 0 most l e).2.1.drop (aH 0 most l e).1.toNat,0)
def xJ (x:Int) (l:List UInt8) (e:Int):List UInt8 × Int:=if e = 0 then (l,x) else (l,e)
def kI (l:List UInt8) (e:Int):Int:=if e = 0 ∧ 0 < l.length then 14 else e
end Go.Proofs.YtembiemaiacdfaaGreat
namespace Go.Proofs.YtembiemaiacdfaaGreat
open Go.RowKit
theorem xK:∀ (xs:List UInt8) (c:UInt8),(∀ x ∈ xs,128 ≤ x.toNat) → c.toNat < 128 → (xs ≠ [] → c ≠ 0) → gB (cX (xs ++ [c])) = xs ++ [c]:=by
 intro xs
 induction xs with
 | nil=>
   intro c _ hc _
   have:cX ([] ++ [c]) = c.toNat:=by simp [cX];omega
   rw [this,jY hc];simp
 | cons x r ih=>
   intro c hx hc hne
   have hc0:=hne (by simp)
   have hr:=ih c (fun y hy=>hx y (by simp [hy])) hc (fun _=>hc0)
   have hxx:=hx x (by simp)
   have hV:0 < cX (r ++ [c]):=by
     have h1:∀ r:List UInt8,0 < c.toNat → 0 < cX (r ++ [c]):=by
       intro r hp
       induction r with
       | nil=>simp [cX];omega
       | cons y r ih=>simp only [List.cons_append,cX];omega
     apply h1
     rcases Nat.eq_zero_or_pos c.toNat with h|h
     · exact absurd (UInt8.toNat_inj.1 (by simpa using h)) hc0
     · exact h
   have hval:cX (x :: r ++ [c]) = x.toNat % 128 + 128 * cX (r ++ [c]):=rfl
   have hlt:=x.toNat_lt
   rw [hval,o7 (by omega)]
   rw [show (x.toNat % 128 + 128 * cX (r ++ [c])) / 128 = cX (r ++ [c]) by omega,hr]
   rw [show 128 + (x.toNat % 128 + 128 * cX (r ++ [c])) % 128 = x.toNat by omega]
   simp
theorem DY {l:List UInt8} (h:(cd l).2.2 = 0):bV l < 8 ∧ bV l < l.length ∧ ¬ io l ∧ (cd l).1 = cX (l.take (bV l + 1)) ∧ (cd l).2.1 = bV l + 1:=by
 unfold cd at h ⊢
 by_cases h1:8 ≤ bV l
 · rw [if_pos h1] at h;simp at h
 · rw [if_neg h1] at h ⊢
   by_cases h2:l.length ≤ bV l
   · rw [if_pos h2] at h;simp at h
   · rw [if_neg h2] at h ⊢
     by_cases h3:io l
     · rw [if_pos h3] at h;simp at h
     · rw [if_neg h3];exact ⟨by omega,by omega,h3,rfl,rfl⟩
theorem J0 {l:List UInt8} (h:(cd l).2.2 = 0):gB (cd l).1 = l.take (cd l).2.1 ∧ 0 < (cd l).2.1 ∧ (cd l).2.1 ≤ l.length ∧ (cd l).1 ≤ 281474976710656:=by
 obtain ⟨h8,hl,hb,e1,e2⟩:=DY h
 rw [e1,e2]
 have ht:l.take (bV l + 1) = l.take (bV l) ++ [l[bV l]]:=List.take_succ_eq_append_getElem hl
 refine ⟨?_,by omega,by omega,?_⟩
 · rw [ht]
   refine xK _ _ ?_ (H7 l hl) ?_
   · intro x hx
     obtain ⟨i,hi,rfl⟩:=List.getElem_of_mem hx
     rw [List.length_take] at hi
     rw [List.getElem_take]
     exact vv l i (by omega) (by omega)
   · intro hne h0
     refine hb (.inl ⟨?_,by rw [List.getElem?_eq_getElem hl,h0]⟩)
     rcases Nat.eq_zero_or_pos (bV l) with h|h
     · rw [h] at hne;simp at hne
     · exact h
 · rcases Nat.lt_or_ge 281474976710656 (cX (l.take (bV l + 1))) with h|h
   · exact absurd (.inr h) hb
   · exact h
end Go.Proofs.YtembiemaiacdfaaGreat
namespace Go.Proofs.YtembiemaiacdfaaGreat
open Go.RowKit
theorem H8 {l:List UInt8} {e:Int} (h:e ≠ 0):dc l e = (0,l,e):=by unfold dc;rw [if_pos h]
theorem pT {l:List UInt8} {e:Int} (h:(dc l e).2.2 = 0):e = 0 ∧ fg (dc l e).1 ∧ l = gQ (dc l e).1 ++ (dc l e).2.1:=by
 by_cases he:e = 0
 · subst he
   unfold dc at h ⊢
   rw [if_neg (by simp)] at h ⊢
   by_cases hr:(cd l).2.2 = 0
   · obtain ⟨h1,h2,h3,h4⟩:=J0 hr
     rw [if_neg (by simp [hr])]
     refine ⟨rfl,⟨by simp only;omega,by simp only;omega⟩,?_⟩
     simp only [gQ,Int.toNat_natCast]
     rw [h1,List.take_append_drop]
   · rw [if_pos hr] at h
     exact absurd h hr
 · rw [H8 he] at h;exact absurd h he
abbrev pU (l:List UInt8):PV:=bK 1 (l.map byteP)
abbrev dd (l:List UInt8) (e:Int):Blk:=.box 197 [.per (pU l),iC .i64 e]
abbrev rV:Cnt:=.ptr 1000 0 0
section
theorem zt (l:List UInt8) (e:Int):dY Tryz.prog 195 [rV] [(1000,dd l e)] (iC .i64 e) [(1000,dd l e)]:=by
 refine eT Tryz.func195 Tryz.ntmps195 ?_
 (refine w0 ?_;(repeat' first|refine W2.mk ?_ ?_|refine W1.mk fun hc=>?_))
 (refine ⟨(by first|exact .inl rfl|exact .inr rfl),bS [(1000,1000)] rfl rfl ?_ ?_⟩;(focus (repeat (first|exact ar.nil|(refine ar.cons rfl ?_ ?_;(focus first|rfl|skip))))))
 exact aY rfl rfl
theorem J1 (l:List UInt8) (e:Int):dY Tryz.prog 197 [rV] [(1000,dd l e)] (iC .i64 (l.length:Int)) [(1000,dd l e)]:=by
 refine eT Tryz.func197 Tryz.ntmps197 ?_
 (refine w0 ?_;(repeat' first|refine W2.mk ?_ ?_|refine W1.mk fun hc=>?_))
 (refine ⟨(by first|exact .inl rfl|exact .inr rfl),bS [(1000,1000)] rfl rfl ?_ ?_⟩;(focus (repeat (first|exact ar.nil|(refine ar.cons rfl ?_ ?_;(focus first|rfl|skip))))))
 exact aY rfl (by simp)
theorem pV (l:List UInt8) (e x:Int):dY Tryz.prog 196 [rV,iC .i64 x] [(1000,dd l e)] .any [(1000,dd l (xJ x l e).2)]:=by
 unfold xJ
 by_cases h0:e = 0
 · subst h0
   refine eT Tryz.func196 Tryz.ntmps196 ?_
   (refine w0 ?_;(repeat' first|refine W2.mk ?_ ?_|refine W1.mk fun hc=>?_))
   (refine ⟨(by first|exact .inl rfl|exact .inr rfl),bu [(1000,1000)] rfl rfl ?_⟩;(focus (repeat (first|exact ar.nil|(refine ar.cons rfl ?_ ?_;(focus first|rfl|skip))))))
 · rw [if_neg h0]
   refine eT Tryz.func196 Tryz.ntmps196 ?_
   (refine w0 ?_;(repeat' first|refine W2.mk ?_ ?_|refine W1.mk fun hc=>?_))
   (refine ⟨(by first|exact .inl rfl|exact .inr rfl),bu [(1000,1000)] rfl rfl ?_⟩;(focus (repeat (first|exact ar.nil|(refine ar.cons rfl ?_ ?_;(focus first|rfl|skip))))))
def eN (l:List UInt8):Nat × Int:=if 8 ≤ bV l then (0,11) else if l.length ≤ bV l then (0,10) else (bV l + 1,0)
theorem DZ (l:List UInt8) (e:Int):dY Tryz.prog 233 [rV] [(1000,dd l e)] (.tup2 (iC .i64 ((eN l).1:Nat)) (iC .i64 (eN l).2)) [(1000,dd l e)]:=by
 have hll:=o8 l
 refine eT Tryz.func233 Tryz.ntmps233 ?_
 (refine w0 ?_;(repeat' first|refine W2.mk ?_ ?_|refine W1.mk fun hc=>?_))
 refine ah (fun k=>k ≤ bV l ∧ k ≤ 8) (fun k=>aJ [(0,rV),(10,iC .i64 (if 8 < l.length then 8 else l.length:Int)),(11,iC .i64 (k:Nat))] [(1000,dd l e)]) (fun k=>8 - k) 0 ⟨Nat.zero_le _,by omega⟩ ?_ ?_
 · exact ab
 · rintro k ⟨hk,hk8⟩
   have hst:=lh l k
   (refine w0 ?_;(repeat' first|refine W2.mk ?_ ?_|refine W1.mk fun hc=>?_))
   · have hkl:k < l.length:=by omega
     have h1:=(hst hkl hk).2 (by omega)
     (refine ⟨(by first|exact .inl rfl|exact .inr rfl),zj [(1000,1000)] rfl rfl ?_ ?_ ?_⟩;(focus (repeat (first|exact ar.nil|(refine ar.cons rfl ?_ ?_;(focus first|rfl|skip))))))
     · exact aY rfl (by unfold eN;rw [if_neg (by omega),if_neg (by omega)];simp;omega)
     · exact aY rfl (by unfold eN;rw [if_neg (by omega),if_neg (by omega)])
   · have hkl:k < l.length:=by omega
     have h1:=(hst hkl hk).1 (by omega)
     refine ⟨k + 1,⟨by omega,by omega⟩,by omega,?_⟩
     exact ab
   · (refine ⟨(by first|exact .inl rfl|exact .inr rfl),zj [(1000,1000)] rfl rfl ?_ ?_ ?_⟩;(focus (repeat (first|exact ar.nil|(refine ar.cons rfl ?_ ?_;(focus first|rfl|skip))))))
     · exact aY rfl (by unfold eN;rw [if_pos (by omega)];rfl)
     · exact aY rfl (by unfold eN;rw [if_pos (by omega)])
   · (refine ⟨(by first|exact .inl rfl|exact .inr rfl),zj [(1000,1000)] rfl rfl ?_ ?_ ?_⟩;(focus (repeat (first|exact ar.nil|(refine ar.cons rfl ?_ ?_;(focus first|rfl|skip))))))
     · exact aY rfl (by unfold eN;rw [if_neg (by omega),if_pos (by omega)];rfl)
     · exact aY rfl (by unfold eN;rw [if_neg (by omega),if_pos (by omega)])
theorem pW (l:List UInt8) (k:Nat) (h:k < l.length):cX (l.drop k) = l[k].toNat % 128 + 128 * cX (l.drop (k + 1)):=by
 rw [List.drop_eq_getElem_cons h];rfl
theorem D0 (l:List UInt8) (e:Int):dY Tryz.prog 194 [rV] [(1000,dd l e)] (iC .i64 (dc l e).1) [(1000,dd (dc l e).2.1 (dc l e).2.2)]:=by
 have hll:=o8 l
 by_cases he:e = 0
 · subst he
   by_cases hs:(eN l).2 = 0
   · have hz:bV l < 8 ∧ bV l < l.length ∧ eN l = (bV l + 1,0):=by
       unfold eN at hs ⊢
       split at hs
       · simp at hs
       · split at hs
         · simp at hs
         · rename_i h1 h2;rw [if_neg h1,if_neg h2];exact ⟨by omega,by omega,rfl⟩
     obtain ⟨z1,z2,z3⟩:=hz
     have hns:=DZ l 0
     rw [z3] at hns
     have hb:dc l 0 = if io l then (0,l,11) else (((cX (l.take (bV l + 1)):Nat):Int),l.drop (bV l + 1),0):=by
       unfold dc cd
       rw [if_neg (by simp),if_neg (show ¬ 8 ≤ bV l by omega),if_neg (show ¬ l.length ≤ bV l by omega)]
       by_cases hb:io l
       · simp [hb]
       · simp [hb]
     rw [hb]
     clear hb z3 hs
     have h128:∀ k,k ≤ bV l + 1 → cX ((l.take (bV l + 1)).drop k) ≤ 72057594037927935:=by
       intro k hk
       have h1:=vx ((l.take (bV l + 1)).drop k)
       have h2:(128:Nat) ^ ((l.take (bV l + 1)).drop k).length ≤ 128 ^ 8:=Nat.pow_le_pow_right (by decide) (by simp;omega)
       have h3:(128:Nat) ^ 8 = 72057594037927936:=by decide
       omega
     have hbad:io l ↔ ((bV l + 1 > 1 ∧ l[bV l].toNat = 0) ∨ cX (l.take (bV l + 1)) > 281474976710656):=by
       unfold io
       have h0:l[bV l]? = some 0 ↔ l[bV l].toNat = 0:=by
         rw [List.getElem?_eq_getElem z2,Option.some.injEq,← UInt8.toNat_inj];rfl
       rw [h0]
       constructor
       · rintro (⟨a,b⟩|a)
         · exact .inl ⟨by omega,b⟩
         · exact .inr a
       · rintro (⟨a,b⟩|a)
         · exact .inl ⟨by omega,b⟩
         · exact .inr a
     refine eT Tryz.func194 Tryz.ntmps194 ?_
     (have kr1:=zt l 0;have kr2:=hns;refine w0 ?_;(repeat' first|refine W2.mk ?_ ?_|refine W1.mk fun hc=>?_);all_goals clear kr2 kr1)
     refine ah (fun j=>j ≤ bV l + 1) (fun j=>aJ [(0,rV),(3,iC .i64 ((bV l + 1:Nat):Int)),(5,iC .i64 (cX ((l.take (bV l + 1)).drop j):Nat)),(6,iC .i64 ((j:Int) - 1))] [(1000,dd l 0)]) (fun j=>j) (bV l + 1) (Nat.le_refl _) ?_ ?_
     · have h0:(l.take (bV l + 1)).drop (bV l + 1) = []:=by simp
       rw [h0]
       exact ab
     · intro j hj
       cases j with
       | succ j=>
         have hv:=pW (l.take (bV l + 1)) j (by simp;omega)
         have hb1:=h128 j (by omega)
         have hb2:=h128 (j + 1) (by omega)
         rw [List.getElem_take] at hv
         rw [show ((j + 1:Nat):Int) - 1 = (j:Int) by omega]
         (refine w0 ?_;(repeat' first|refine W2.mk ?_ ?_|refine W1.mk fun hc=>?_))
         refine ⟨j,by omega,by omega,?_⟩
         exact ab
       | zero=>
         rw [List.drop_zero]
         have hb1:=h128 0 (by omega)
         rw [List.drop_zero] at hb1
         have hnb:∀ h:¬ io l,(if io l then ((0:Int),l,(11:Int)) else (((cX (l.take (bV l + 1)):Nat):Int),l.drop (bV l + 1),0)) = (((cX (l.take (bV l + 1)):Nat):Int),l.drop (bV l + 1),0):=fun h=>if_neg h
         by_cases h1:bV l + 1 > 1
         · (have kr1:=pV l 0 11;refine w0 ?_;(repeat' first|refine W2.mk ?_ ?_|refine W1.mk fun hc=>?_);all_goals clear kr1)
           · rw [if_pos (hbad.2 (.inl ⟨h1,by omega⟩))]
             (refine ⟨(by first|exact .inl rfl|exact .inr rfl),bS [(1000,1000)] rfl rfl ?_ ?_⟩;(focus (repeat (first|exact ar.nil|(refine ar.cons rfl ?_ ?_;(focus first|rfl|skip))))))
             exact aY rfl rfl
           · rw [if_pos (hbad.2 (.inr (by omega)))]
             (refine ⟨(by first|exact .inl rfl|exact .inr rfl),bS [(1000,1000)] rfl rfl ?_ ?_⟩;(focus (repeat (first|exact ar.nil|(refine ar.cons rfl ?_ ?_;(focus first|rfl|skip))))))
             exact aY rfl rfl
           · rw [hnb (fun h=>by have:=hbad.1 h;omega)]
             (refine ⟨(by first|exact .inl rfl|exact .inr rfl),bS [(1000,1000)] rfl rfl ?_ ?_⟩;(focus (repeat (first|exact ar.nil|(refine ar.cons rfl ?_ ?_;(focus first|rfl|skip))))))
             exact aY rfl rfl
         · (have kr1:=pV l 0 11;refine w0 ?_;(repeat' first|refine W2.mk ?_ ?_|refine W1.mk fun hc=>?_);all_goals clear kr1)
           · rw [if_pos (hbad.2 (.inr (by omega)))]
             (refine ⟨(by first|exact .inl rfl|exact .inr rfl),bS [(1000,1000)] rfl rfl ?_ ?_⟩;(focus (repeat (first|exact ar.nil|(refine ar.cons rfl ?_ ?_;(focus first|rfl|skip))))))
             exact aY rfl rfl
           · rw [hnb (fun h=>by have:=hbad.1 h;omega)]
             (refine ⟨(by first|exact .inl rfl|exact .inr rfl),bS [(1000,1000)] rfl rfl ?_ ?_⟩;(focus (repeat (first|exact ar.nil|(refine ar.cons rfl ?_ ?_;(focus first|rfl|skip))))))
             exact aY rfl rfl
   · have hb:dc l 0 = (0,l,(eN l).2):=by
       unfold dc cd eN at *
       rw [if_neg (by simp)]
       by_cases h1:8 ≤ bV l
       · simp [h1]
       · by_cases h2:l.length ≤ bV l
         · simp [h1,h2]
         · rw [if_neg h1,if_neg h2] at hs;exact absurd rfl hs
     rw [hb]
     refine eT Tryz.func194 Tryz.ntmps194 ?_
     (have kr1:=zt l 0;have kr2:=DZ l 0;refine w0 ?_;(repeat' (first|refine W2.mk ?_ ?_|refine W1.mk fun hc=>?_|((first|apply aB rfl|apply aC rfl|apply aD rfl|apply aF rfl);(focus (first|exact jX (pV l 0 _)|(apply bt;(focus rfl);apply ag rfl rfl rfl rfl rfl;first|exact jX (pV l 0 _))));refine w0 ?_)));all_goals clear kr2 kr1)
     rw [show eN l = eN l from rfl]
     (refine ⟨(by first|exact .inl rfl|exact .inr rfl),bS [(1000,1000)] rfl rfl ?_ ?_⟩;(focus (repeat (first|exact ar.nil|(refine ar.cons rfl ?_ ?_;(focus first|rfl|skip))))))
     exact aY rfl rfl
 · have hb:dc l e = (0,l,e):=by unfold dc;rw [if_pos he]
   rw [hb]
   refine eT Tryz.func194 Tryz.ntmps194 ?_
   (have kr1:=zt l e;refine w0 ?_;(repeat' first|refine W2.mk ?_ ?_|refine W1.mk fun hc=>?_);all_goals clear kr1)
   (refine ⟨(by first|exact .inl rfl|exact .inr rfl),bS [(1000,1000)] rfl rfl ?_ ?_⟩;(focus (repeat (first|exact ar.nil|(refine ar.cons rfl ?_ ?_;(focus first|rfl|skip))))))
   exact aY rfl rfl
end
end Go.Proofs.YtembiemaiacdfaaGreat
namespace Go.Proofs.YtembiemaiacdfaaGreat
open Go.RowKit
section
variable (l:List UInt8) (e:Int)
theorem H9:dY Tryz.prog 193 [rV] [(1000,dd l e)] rV [(1000,dd l e)]:=by
 refine eT Tryz.func193 Tryz.ntmps193 ?_
 (refine w0 ?_;(repeat' first|refine W2.mk ?_ ?_|refine W1.mk fun hc=>?_))
 (refine ⟨(by first|exact .inl rfl|exact .inr rfl),bS [(1000,1000)] rfl rfl ?_ ?_⟩;(focus (repeat (first|exact ar.nil|(refine ar.cons rfl ?_ ?_;(focus first|rfl|skip))))))
 exact KG rfl rfl
theorem vy:dY Tryz.prog 155 [rV] [(1000,dd l e)] (iC .i64 e) [(1000,dd l e)]:=by
 refine eT Tryz.func155 Tryz.ntmps155 ?_
 (have kr1:=H9 l e;have kr2:=zt l e;refine w0 ?_;(repeat' first|refine W2.mk ?_ ?_|refine W1.mk fun hc=>?_);all_goals clear kr2 kr1)
 (refine ⟨(by first|exact .inl rfl|exact .inr rfl),bS [(1000,1000)] rfl rfl ?_ ?_⟩;(focus (repeat (first|exact ar.nil|(refine ar.cons rfl ?_ ?_;(focus first|rfl|skip))))))
 exact aY rfl rfl
theorem xL:dY Tryz.prog 157 [rV] [(1000,dd l e)] (iC .i64 (l.length:Int)) [(1000,dd l e)]:=by
 refine eT Tryz.func157 Tryz.ntmps157 ?_
 (have kr1:=H9 l e;have kr2:=J1 l e;refine w0 ?_;(repeat' first|refine W2.mk ?_ ?_|refine W1.mk fun hc=>?_);all_goals clear kr2 kr1)
 (refine ⟨(by first|exact .inl rfl|exact .inr rfl),bS [(1000,1000)] rfl rfl ?_ ?_⟩;(focus (repeat (first|exact ar.nil|(refine ar.cons rfl ?_ ?_;(focus first|rfl|skip))))))
 exact aY rfl rfl
theorem D4 (x:Int):dY Tryz.prog 156 [rV,iC .i64 x] [(1000,dd l e)] .any [(1000,dd l (xJ x l e).2)]:=by
 refine eT Tryz.func156 Tryz.ntmps156 ?_
 (have kr1:=H9 l e;have kr2:=pV l e x;refine w0 ?_;(repeat' first|refine W2.mk ?_ ?_|refine W1.mk fun hc=>?_);all_goals clear kr2 kr1)
 (refine ⟨(by first|exact .inl rfl|exact .inr rfl),bu [(1000,1000)] rfl rfl ?_⟩;(focus (repeat (first|exact ar.nil|(refine ar.cons rfl ?_ ?_;(focus first|rfl|skip))))))
theorem D5:dY Tryz.prog 154 [rV] [(1000,dd l e)] (iC .i64 (dc l e).1) [(1000,dd (dc l e).2.1 (dc l e).2.2)]:=by
 refine eT Tryz.func154 Tryz.ntmps154 ?_
 (have kr1:=H9 l e;have kr2:=D0 l e;refine w0 ?_;(repeat' first|refine W2.mk ?_ ?_|refine W1.mk fun hc=>?_);all_goals clear kr2 kr1)
 (refine ⟨(by first|exact .inl rfl|exact .inr rfl),bS [(1000,1000)] rfl rfl ?_ ?_⟩;(focus (repeat (first|exact ar.nil|(refine ar.cons rfl ?_ ?_;(focus first|rfl|skip))))))
 exact aY rfl rfl
theorem tt:dY Tryz.prog 153 [rV] [(1000,dd l e)] (.per (pU l)) [(1000,dd l e)]:=by
 refine eT Tryz.func153 Tryz.ntmps153 ?_
 (refine w0 ?_;(repeat' first|refine W2.mk ?_ ?_|refine W1.mk fun hc=>?_))
 (refine ⟨(by first|exact .inl rfl|exact .inr rfl),bS [(1000,1000)] rfl rfl ?_ ?_⟩;(focus (repeat (first|exact ar.nil|(refine ar.cons rfl ?_ ?_;(focus first|rfl|skip))))))
 exact Hb rfl rfl
theorem kJ (lo hi:Int):dY Tryz.prog 102 [rV,iC .i64 lo,iC .i64 hi] [(1000,dd l e)] (iC .i64 (aH lo hi l e).1) [(1000,dd (aH lo hi l e).2.1 (aH lo hi l e).2.2)]:=by
 have hN:=D5 l e
 generalize hQ:aH lo hi l e = Q at *
 unfold aH at hQ
 generalize dc l e = q at *
 obtain ⟨m,l',e'⟩:=q
 simp only at hN hQ
 refine eT Tryz.func102 Tryz.ntmps102 ?_
 (have kr1:=tt l e;have kr2:=hN;have kr3:=vy l' e';have kr4:=D4 l e' 11;refine w0 ?_;(repeat' first|refine W2.mk ?_ ?_|refine W1.mk fun hc=>?_);all_goals clear kr4 kr3 kr2 kr1)
 · rw [if_pos ⟨by assumption,.inl (by assumption)⟩] at hQ
   subst hQ
   have h0:e' = 0:=by assumption
   subst h0
   (refine ⟨(by first|exact .inl rfl|exact .inr rfl),bS [(1000,1000)] rfl rfl ?_ ?_⟩;(focus (repeat (first|exact ar.nil|(refine ar.cons rfl ?_ ?_;(focus first|rfl|skip))))))
   exact aY rfl rfl
 · rw [if_pos ⟨by assumption,.inr (by omega)⟩] at hQ
   subst hQ
   have h0:e' = 0:=by assumption
   subst h0
   (refine ⟨(by first|exact .inl rfl|exact .inr rfl),bS [(1000,1000)] rfl rfl ?_ ?_⟩;(focus (repeat (first|exact ar.nil|(refine ar.cons rfl ?_ ?_;(focus first|rfl|skip))))))
   exact aY rfl rfl
 · rw [if_neg (by omega)] at hQ
   subst hQ
   (refine ⟨(by first|exact .inl rfl|exact .inr rfl),bS [(1000,1000)] rfl rfl ?_ ?_⟩;(focus (repeat (first|exact ar.nil|(refine ar.cons rfl ?_ ?_;(focus first|rfl|skip))))))
   exact aY rfl rfl
 · rw [if_neg (by omega)] at hQ
   subst hQ
   (refine ⟨(by first|exact .inl rfl|exact .inr rfl),bS [(1000,1000)] rfl rfl ?_ ?_⟩;(focus (repeat (first|exact ar.nil|(refine ar.cons rfl ?_ ?_;(focus first|rfl|skip))))))
   exact aY rfl rfl
theorem Jw:dY Tryz.prog 104 [rV] [(1000,dd l e)] (iC .i64 (kI l e)) [(1000,dd l e)]:=by
 unfold kI
 refine eT Tryz.func104 Tryz.ntmps104 ?_
 (have kr1:=vy l e;have kr2:=xL l e;refine w0 ?_;(repeat' first|refine W2.mk ?_ ?_|refine W1.mk fun hc=>?_);all_goals clear kr2 kr1)
 all_goals (refine ⟨(by first|exact .inl rfl|exact .inr rfl),bS [(1000,1000)] rfl rfl ?_ ?_⟩;(focus (repeat (first|exact ar.nil|(refine ar.cons rfl ?_ ?_;(focus first|rfl|skip))))))
 · exact aY rfl (by rw [if_pos (by omega)])
 · exact aY rfl (by rw [if_neg (by omega)])
 · exact aY rfl (by rw [if_neg (by omega)])
theorem mN (most:Int) (h0:(aH 0 most l e).2.2 = 0):0 ≤ (aH 0 most l e).1 ∧ (aH 0 most l e).1 ≤ most:=by
 unfold aH at *
 split at h0
 · simp at h0
 · rename_i h
   rw [if_neg h]
   omega
theorem D6 (most:Int):dY Tryz.prog 103 [rV,iC .i64 most] [(1000,dd l e)] (sC ⟨(dG most l e).1.toArray⟩) [(1000,dd (dG most l e).2.1 (dG most l e).2.2)]:=by
 have hN:=kJ l e 0 most
 have hrg:=mN l e most
 generalize hQ:dG most l e = Q at *
 unfold dG at hQ
 generalize aH 0 most l e = q at *
 obtain ⟨m,l',e'⟩:=q
 simp only at hN hQ hrg
 by_cases h0:e' = 0
 · subst h0
   obtain ⟨h1,h2⟩:=hrg rfl
   rw [if_neg (by simp)] at hQ
   by_cases h3:(l'.length:Int) < m
   · rw [if_pos h3] at hQ
     subst hQ
     refine eT Tryz.func103 Tryz.ntmps103 ?_
     (have kr1:=tt l e;have kr2:=hN;have kr3:=vy l' 0;have kr4:=xL l' 0;have kr5:=D4 l 0 10;refine w0 ?_;(repeat' first|refine W2.mk ?_ ?_|refine W1.mk fun hc=>?_);all_goals clear kr5 kr4 kr3 kr2 kr1)
     (refine ⟨(by first|exact .inl rfl|exact .inr rfl),bS [(1000,1000)] rfl rfl ?_ ?_⟩;(focus (repeat (first|exact ar.nil|(refine ar.cons rfl ?_ ?_;(focus first|rfl|skip))))))
     exact k8 rfl rfl
   · rw [if_neg h3] at hQ
     subst hQ
     obtain ⟨k,rfl⟩:=Int.eq_ofNat_of_zero_le h1
     have hk:k ≤ l'.length:=by omega
     refine eT Tryz.func103 Tryz.ntmps103 ?_
     (have kr1:=tt l e;have kr2:=hN;have kr3:=vy l' 0;have kr4:=xL l' 0;refine w0 ?_;(repeat' first|refine W2.mk ?_ ?_|refine W1.mk fun hc=>?_);all_goals clear kr4 kr3 kr2 kr1)
     (refine ⟨(by first|exact .inl rfl|exact .inr rfl),bS [(1000,1000)] rfl rfl ?_ ?_⟩;(focus (repeat (first|exact ar.nil|(refine ar.cons rfl ?_ ?_;(focus first|rfl|skip))))))
     · exact k8 rfl rfl
 · rw [if_pos h0] at hQ
   subst hQ
   refine eT Tryz.func103 Tryz.ntmps103 ?_
   (have kr1:=tt l e;have kr2:=hN;have kr3:=vy l' e';refine w0 ?_;(repeat' first|refine W2.mk ?_ ?_|refine W1.mk fun hc=>?_);all_goals clear kr3 kr2 kr1)
   (refine ⟨(by first|exact .inl rfl|exact .inr rfl),bS [(1000,1000)] rfl rfl ?_ ?_⟩;(focus (repeat (first|exact ar.nil|(refine ar.cons rfl ?_ ?_;(focus first|rfl|skip))))))
   exact k8 rfl rfl
theorem zu (hl:l.length ≤ 1000000000):dY Tryz.prog 101 [ii l] [] (.ptr 3000 0 0) [(3000,dd l 0)]:=by
 refine eT Tryz.func101 Tryz.ntmps101 ?_
 (refine w0 ?_;(repeat' first|refine W2.mk ?_ ?_|refine W1.mk fun hc=>?_))
 refine ⟨.inl rfl,Hu (gl 3 _ 5 1 rfl rfl) ?_⟩
 refine bS [(8,3000)] rfl rfl ?_ (KG rfl rfl)
 (repeat (first|exact ar.nil|(refine ar.cons rfl ?_ ?_;(focus first|rfl|skip))))
end
end Go.Proofs.YtembiemaiacdfaaGreat
namespace Go.Proofs.YtembiemaiacdfaaGreat
open Go.RowKit
theorem A1 (l:List UInt8) (e:Int):(dc l e).2.1 <:+ l:=by
 unfold dc
 split
 · exact List.suffix_refl l
 · split
   · exact List.suffix_refl l
   · exact List.drop_suffix _ _
theorem dy (lo hi:Int) (l:List UInt8) (e:Int):(aH lo hi l e).2.1 <:+ l:=by
 unfold aH
 split
 · exact List.suffix_refl l
 · exact A1 l e
theorem xM (most:Int) (l:List UInt8) (e:Int):(dG most l e).2.1 <:+ l:=by
 unfold dG
 split
 · exact dy 0 most l e
 · split
   · exact List.suffix_refl l
   · exact (List.drop_suffix _ _).trans (dy 0 most l e)
theorem kK {b l:List UInt8} (h:l <:+ b):b.drop (b.length - l.length) = l ∧ l.length ≤ b.length:=by
 obtain ⟨t,rfl⟩:=h
 simp
abbrev pY (b l:List UInt8) (e:Int):Blk:=.box 156 [.per (pU b),iC .i64 ((b.length - l.length:Nat):Int),iC .i64 e]
theorem A2 (l:List UInt8):(cd l).1 ≤ 281474976710656 ∧ (cd l).2.1 ≤ l.length ∧ (cd l).2.1 ≤ 8 ∧ ((cd l).2.2 ≠ 0 → (cd l).1 = 0 ∧ (cd l).2.1 = 0):=by
 unfold cd
 have:=o8 l
 split
 · simp
 · split
   · simp
   · split
     · simp
     · rename_i h1 h2 h3
       refine ⟨?_,by simp only;omega,by simp only;omega,fun h=>absurd rfl h⟩
       unfold io at h3
       simp only;omega
section
theorem vz (n:Int):Fn Tryz.prog 198 [iC .i64 n] (cU (decide (0 ≤ n ∧ n ≤ 281474976710656))):=by
 refine fi Tryz.func198 Tryz.ntmps198 ?_
 (refine w0 ?_;(repeat' first|refine W2.mk ?_ ?_|refine W1.mk fun hc=>?_))
 all_goals refine aO ?_
 · exact af rfl (by simp;omega)
 · exact af rfl (by simp;omega)
theorem J2 (b:List UInt8):Fn Tryz.prog 158 [ii b] (.tup3 (.per (ao (.int .i64 ((cd b).1:Nat)))) (.per (ao (.int .i64 ((cd b).2.1:Nat)))) (.per (ao (.int .i64 (cd b).2.2)))):=by
 have hll:=o8 b
 generalize hQ:cd b = Q at *
 refine fi Tryz.func158 Tryz.ntmps158 ?_
 (refine w0 ?_;(repeat' first|refine W2.mk ?_ ?_|refine W1.mk fun hc=>?_))
 refine ah (fun k=>k ≤ bV b ∧ k ≤ 8) (fun k=>aJ [(0,ii b),(5,iC .i64 (k:Nat))] []) (fun k=>8 - k) 0 ⟨Nat.zero_le _,by omega⟩ ?_ ?_
 · exact ab
 · rintro k ⟨hk,hk8⟩
   have hst:=lh b k
   by_cases hkl:k < b.length
   · have h1:=hst hkl hk
     by_cases hk7:k < 8
     · by_cases hbig:128 ≤ b[k].toNat
       · have h2:=h1.1 hbig
         (refine w0 ?_;(repeat' first|refine W2.mk ?_ ?_|refine W1.mk fun hc=>?_))
         refine ⟨k + 1,⟨by omega,by omega⟩,by omega,?_⟩
         exact ab
       · have h2:=h1.2 (by omega)
         clear h1 hst
         have h128:∀ k,k ≤ bV b + 1 → cX ((b.take (bV b + 1)).drop k) ≤ 72057594037927935:=by
           intro k hk
           have h1:=vx ((b.take (bV b + 1)).drop k)
           have h2:(128:Nat) ^ ((b.take (bV b + 1)).drop k).length ≤ 128 ^ 8:=Nat.pow_le_pow_right (by decide) (by simp;omega)
           have h3:(128:Nat) ^ 8 = 72057594037927936:=by decide
           omega
         have hbad:io b ↔ ((k > 0 ∧ b[k].toNat = 0) ∨ cX (b.take (k + 1)) > 281474976710656):=by
           unfold io
           have h0:b[bV b]? = some 0 ↔ b[k].toNat = 0:=by
             rw [h2,List.getElem?_eq_getElem hkl,Option.some.injEq,← UInt8.toNat_inj];rfl
           rw [h0,h2]
         rw [h2] at h128
         have hQ2:Q = if io b then (0,0,11) else (cX (b.take (k + 1)),k + 1,0):=by
           rw [← hQ]
           unfold cd
           rw [if_neg (by omega),if_neg (by omega),h2]
         clear hQ
         (refine w0 ?_;(repeat' first|refine W2.mk ?_ ?_|refine W1.mk fun hc=>?_))
         refine ah (fun j=>j ≤ k + 1) (fun j=>aJ [(0,ii b),(5,iC .i64 (k:Nat)),(6,iC .i64 (cX ((b.take (k + 1)).drop j):Nat)),(7,iC .i64 ((j:Int) - 1))] []) (fun j=>j) (k + 1) (Nat.le_refl _) ?_ ?_
         · have h0:(b.take (k + 1)).drop (k + 1) = []:=by simp
           rw [h0]
           exact ab
         · intro j hj
           cases j with
           | succ j=>
             have hv:=pW (b.take (k + 1)) j (by simp;omega)
             have hb1:=h128 j (by omega)
             have hb2:=h128 (j + 1) (by omega)
             rw [List.getElem_take] at hv
             rw [show ((j + 1:Nat):Int) - 1 = (j:Int) by omega]
             (refine w0 ?_;(repeat' first|refine W2.mk ?_ ?_|refine W1.mk fun hc=>?_))
             refine ⟨j,by omega,by omega,?_⟩
             exact ab
           | zero=>
             rw [List.drop_zero]
             have hb1:=h128 0 (by omega)
             rw [List.drop_zero] at hb1
             (refine w0 ?_;(repeat' (first|refine W2.mk ?_ ?_|refine W1.mk fun hc=>?_|((first|apply aB rfl|apply aC rfl|apply aD rfl|apply aF rfl);(focus (first|exact mn (vz _)|(apply bt;(focus rfl);apply ag rfl rfl rfl rfl rfl;first|exact mn (vz _))));refine w0 ?_))))
             · rw [if_pos (hbad.2 (.inl ⟨by omega,by omega⟩))] at hQ2
               subst hQ2
               refine ⟨.inl rfl,pA rfl (az rfl rfl) (az rfl rfl) (az rfl rfl)⟩
             · rw [if_pos (hbad.2 (.inr (by omega)))] at hQ2
               subst hQ2
               refine ⟨.inl rfl,pA rfl (az rfl rfl) (az rfl rfl) (az rfl rfl)⟩
             · rw [if_neg (fun h=>by have:=hbad.1 h;omega)] at hQ2
               subst hQ2
               refine ⟨.inl rfl,pA rfl (az rfl rfl) (az rfl rfl) (az rfl rfl)⟩
             · rw [if_pos (hbad.2 (.inr (by omega)))] at hQ2
               subst hQ2
               refine ⟨.inl rfl,pA rfl (az rfl rfl) (az rfl rfl) (az rfl rfl)⟩
             · rw [if_neg (fun h=>by have:=hbad.1 h;omega)] at hQ2
               subst hQ2
               refine ⟨.inl rfl,pA rfl (az rfl rfl) (az rfl rfl) (az rfl rfl)⟩
     · have hQ2:Q = (0,0,11):=by
         rw [← hQ];unfold cd;rw [if_pos (by omega)]
       subst hQ2
       (refine w0 ?_;(repeat' first|refine W2.mk ?_ ?_|refine W1.mk fun hc=>?_))
       refine ⟨.inl rfl,pA rfl (az rfl rfl) (az rfl rfl) (az rfl rfl)⟩
   · by_cases h8:k = 8
     · have hQ2:Q = (0,0,11):=by
         rw [← hQ];unfold cd;rw [if_pos (by omega)]
       subst hQ2
       (refine w0 ?_;(repeat' first|refine W2.mk ?_ ?_|refine W1.mk fun hc=>?_))
       refine ⟨.inl rfl,pA rfl (az rfl rfl) (az rfl rfl) (az rfl rfl)⟩
     · have hQ2:Q = (0,0,10):=by
         rw [← hQ];unfold cd;rw [if_neg (by omega),if_pos (by omega)]
       subst hQ2
       (refine w0 ?_;(repeat' first|refine W2.mk ?_ ?_|refine W1.mk fun hc=>?_))
       refine ⟨.inl rfl,pA rfl (az rfl rfl) (az rfl rfl) (az rfl rfl)⟩
end
end Go.Proofs.YtembiemaiacdfaaGreat
namespace Go.Proofs.YtembiemaiacdfaaGreat
open Go.RowKit
theorem Ml {b l l':List UInt8} (h:l <:+ b) {k:Nat} (hk:k ≤ l.length) (h':l' = l.drop k):b.length - l.length + k = b.length - l'.length:=by
 have:=(kK h).2
 rw [h',List.length_drop];omega
theorem xN {lo hi:Int} {l:List UInt8} {e:Int} (h:e ≠ 0):aH lo hi l e = (0,l,e):=by
 unfold aH dc
 simp [h]
theorem xO (lo hi:Int) (l:List UInt8):aH lo hi l 0 = if (cd l).2.2 ≠ 0 then (0,l,(cd l).2.2) else if ((cd l).1:Int) < lo ∨ hi < ((cd l).1:Int) then (0,l,11) else (((cd l).1:Int),l.drop (cd l).2.1,0):=by
 unfold aH dc
 by_cases h:(cd l).2.2 = 0
 · simp [h]
 · simp [h]
section
variable (b l:List UInt8) (e:Int) (hs:l <:+ b) (hb:b.length ≤ 1000000000000)
include hs hb
theorem nR (lo hi:Int):dY Tryz.prog 106 [rV,iC .i64 lo,iC .i64 hi] [(1000,pY b l e)] (iC .i64 (aH lo hi l e).1) [(1000,pY b (aH lo hi l e).2.1 (aH lo hi l e).2.2)]:=by
 obtain ⟨hd,hlen⟩:=kK hs
 have hn:=J2 (b.drop (b.length - l.length))
 rw [show cd (b.drop (b.length - l.length)) = cd l by rw [hd]] at hn
 obtain ⟨r1,r2,r3,r4⟩:=A2 l
 by_cases h0:e = 0
 · subst h0
   rw [xO]
   have ha:=Ml hs r2 rfl
   generalize cd l = q at *
   obtain ⟨m,k,e'⟩:=q
   simp only at hn r1 r2 r3 r4 ha ⊢
   by_cases h1:e' = 0
   · subst h1
     rw [if_neg (by simp)]
     by_cases h2:(m:Int) < lo ∨ hi < (m:Int)
     · rw [if_pos h2]
       refine eT Tryz.func106 Tryz.ntmps106 ?_
       (have kc1:=hn;refine w0 ?_;(repeat' first|refine W2.mk ?_ ?_|refine W1.mk fun hc=>?_);all_goals clear kc1)
       all_goals (refine ⟨(by first|exact .inl rfl|exact .inr rfl),bS [(1000,1000)] rfl rfl ?_ ?_⟩;(focus (repeat (first|exact ar.nil|(refine ar.cons rfl ?_ ?_;(focus first|rfl|skip))))))
       all_goals exact aY rfl rfl
     · rw [if_neg h2]
       refine eT Tryz.func106 Tryz.ntmps106 ?_
       (have kc1:=hn;refine w0 ?_;(repeat' first|refine W2.mk ?_ ?_|refine W1.mk fun hc=>?_);all_goals clear kc1)
       rw [show ((b.length - l.length:Nat):Int) + (k:Int) = ((b.length - (l.drop k).length:Nat):Int) by omega]
       (refine ⟨(by first|exact .inl rfl|exact .inr rfl),bS [(1000,1000)] rfl rfl ?_ ?_⟩;(focus (repeat (first|exact ar.nil|(refine ar.cons rfl ?_ ?_;(focus first|rfl|skip))))))
       exact aY rfl rfl
   · rw [if_pos h1]
     obtain ⟨rfl,rfl⟩:=r4 h1
     refine eT Tryz.func106 Tryz.ntmps106 ?_
     (have kc1:=hn;refine w0 ?_;(repeat' first|refine W2.mk ?_ ?_|refine W1.mk fun hc=>?_);all_goals clear kc1)
     (refine ⟨(by first|exact .inl rfl|exact .inr rfl),bS [(1000,1000)] rfl rfl ?_ ?_⟩;(focus (repeat (first|exact ar.nil|(refine ar.cons rfl ?_ ?_;(focus first|rfl|skip))))))
     exact aY rfl rfl
 · rw [xN h0]
   refine eT Tryz.func106 Tryz.ntmps106 ?_
   (refine w0 ?_;(repeat' first|refine W2.mk ?_ ?_|refine W1.mk fun hc=>?_))
   (refine ⟨(by first|exact .inl rfl|exact .inr rfl),bS [(1000,1000)] rfl rfl ?_ ?_⟩;(focus (repeat (first|exact ar.nil|(refine ar.cons rfl ?_ ?_;(focus first|rfl|skip))))))
   exact aY rfl rfl
omit hb in
theorem J3:dY Tryz.prog 108 [rV] [(1000,pY b l e)] (iC .i64 (kI l e)) [(1000,pY b l e)]:=by
 obtain ⟨hd,hlen⟩:=kK hs
 unfold kI
 refine eT Tryz.func108 Tryz.ntmps108 ?_
 (refine w0 ?_;(repeat' first|refine W2.mk ?_ ?_|refine W1.mk fun hc=>?_))
 all_goals (refine ⟨(by first|exact .inl rfl|exact .inr rfl),bS [(1000,1000)] rfl rfl ?_ ?_⟩;(focus (repeat (first|exact ar.nil|(refine ar.cons rfl ?_ ?_;(focus first|rfl|skip))))))
 · exact aY rfl (by rw [if_pos (by omega)])
 · exact aY rfl (by rw [if_neg (by omega)])
 · exact aY rfl (by rw [if_neg (by omega)])
theorem Ia (most:Int):dY Tryz.prog 107 [rV,iC .i64 most] [(1000,pY b l e)] (sC ⟨(dG most l e).1.toArray⟩) [(1000,pY b (dG most l e).2.1 (dG most l e).2.2)]:=by
 obtain ⟨hd,hlen⟩:=kK hs
 have hW:=nR b l e hs hb 0 most
 have hrg:=mN l e most
 have hsuf:=(dy 0 most l e).trans hs
 generalize hQ:dG most l e = Q at *
 unfold dG at hQ
 generalize aH 0 most l e = q at *
 obtain ⟨m,l',e'⟩:=q
 simp only at hW hQ hrg hsuf
 obtain ⟨hd',hlen'⟩:=kK hsuf
 by_cases h0:e' = 0
 · subst h0
   obtain ⟨h1,h2⟩:=hrg rfl
   rw [if_neg (by simp)] at hQ
   by_cases h3:(l'.length:Int) < m
   · rw [if_pos h3] at hQ
     subst hQ
     refine eT Tryz.func107 Tryz.ntmps107 ?_
     (have kr1:=hW;refine w0 ?_;(repeat' first|refine W2.mk ?_ ?_|refine W1.mk fun hc=>?_);all_goals clear kr1)
     (refine ⟨(by first|exact .inl rfl|exact .inr rfl),bS [(1000,1000)] rfl rfl ?_ ?_⟩;(focus (repeat (first|exact ar.nil|(refine ar.cons rfl ?_ ?_;(focus first|rfl|skip))))))
     exact k8 rfl rfl
   · rw [if_neg h3] at hQ
     subst hQ
     obtain ⟨k,rfl⟩:=Int.eq_ofNat_of_zero_le h1
     have hk:k ≤ l'.length:=by omega
     refine eT Tryz.func107 Tryz.ntmps107 ?_
     (have kr1:=hW;refine w0 ?_;(repeat' first|refine W2.mk ?_ ?_|refine W1.mk fun hc=>?_);all_goals clear kr1)
     rw [show ((b.length - l'.length:Nat):Int) + (k:Int) = ((b.length - (l'.drop k).length:Nat):Int) by rw [List.length_drop];omega,show b.length - l'.length + k - (b.length - l'.length) = k by omega,hd']
     (refine ⟨(by first|exact .inl rfl|exact .inr rfl),bS [(1000,1000)] rfl rfl ?_ ?_⟩;(focus (repeat (first|exact ar.nil|(refine ar.cons rfl ?_ ?_;(focus first|rfl|skip))))))
     exact k8 rfl rfl
 · rw [if_pos h0] at hQ
   subst hQ
   refine eT Tryz.func107 Tryz.ntmps107 ?_
   (have kr1:=hW;refine w0 ?_;(repeat' first|refine W2.mk ?_ ?_|refine W1.mk fun hc=>?_);all_goals clear kr1)
   (refine ⟨(by first|exact .inl rfl|exact .inr rfl),bS [(1000,1000)] rfl rfl ?_ ?_⟩;(focus (repeat (first|exact ar.nil|(refine ar.cons rfl ?_ ?_;(focus first|rfl|skip))))))
   exact k8 rfl rfl
end
end Go.Proofs.YtembiemaiacdfaaGreat
