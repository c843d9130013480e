/- Texts joined: Fc Parse Rd. -/
import Derived.Test.YthlffkjpklpkfaaGreatJ10
import Derived.Test.YthlffkjpklpkfaaGreatJ07
import Derived.Test.YthlffkjpklpkfaaGreatJ08
set_option maxRecDepth 10000
set_option maxHeartbeats 8000000
namespace Go.Proofs.YthlffkjpklpkfaaGreat
open Go.RowKit
def rgB (r:Rg):List UInt8:=textB r.lo ++ (if r.op = true then numI 1 else numI 0 ++ textB r.hi)
def rgsBy (l:List Rg):List UInt8:=numI (l.length:Nat) ++ l.flatMap rgB
theorem numI_one {n:Int} (h0:0 ≤ n) (h:n < 128):(numI n).length = 1:=by
 unfold numI;rw [numB_lt (by omega)];rfl
theorem rgB_len {r:Rg} (h:rgR r = true):(rgB r).length ≤ 40:=by
 obtain ⟨h1,h2,_⟩:=(rgR_iff r).1 h
 have q1:=textB_len r.lo (by omega)
 have q2:=textB_len r.hi (by omega)
 have q3:=numI_one (n:=0) (by omega) (by omega)
 have q4:=numI_one (n:=1) (by omega) (by omega)
 unfold rgB
 split <;> simp <;> omega
theorem rgsOk_R {l:List Rg} (h:rgsOk l) {i:Nat} (hi:i < l.length):rgR l[i] = true:=(h i hi).1
section
theorem fcode_put (l:List UInt8) (ns:List Int) (hb:l.length + 9 * ns.length ≤ 1000000000000) (hok:∀ n ∈ ns,okNum n):Fn Tryz.prog 122 [bytesB l,intsB ns] (ownB (l ++ ns.flatMap numI)):=by
 have h:=varint_Put l ns hb hok
 refine fi Tryz.func122 Tryz.ntmps122 ?_
 (have kc1:=h;refine w0 ?_;(repeat' first|refine W2.mk ?_ ?_|refine W1.mk fun hc=>?_);all_goals clear kc1)
 refine rt1 ?_
 exact rv_own rfl rfl rfl
theorem numI_0:(numI 0).map byteP = [[rawP (.int .u8 0)]]:=by unfold numI;rw [numB_lt (by decide)];rfl
theorem numI_1:(numI 1).map byteP = [[rawP (.int .u8 1)]]:=by unfold numI;rw [numB_lt (by decide)];rfl
theorem ok_small {n:Int} (h0:0 ≤ n) (h:n ≤ 1000000):∀ m ∈ [n],okNum m:=fun m hm=>by simp at hm;subst hm;unfold okNum;omega
theorem fcode_Ranges (l:List Rg) (hl:l.length ≤ 4096) (b:Bool) (hb:b = true ↔ rgsOk l):Fn Tryz.prog 81 [rgsB l] (.tup2 (ownB (if b then rgsBy l else [])) (inR (if b then 0 else 2))):=by
 have h0:=rgs_Right l (by omega) b hb
 cases b with
 | false=>
   show Fn _ _ _ (.tup2 (ownB []) (inR 2))
   clear hb
   refine fi Tryz.func81 Tryz.ntmps81 ?_
   (have kc1:=h0;refine w0 ?_;(repeat' first|refine W2.mk ?_ ?_|refine W1.mk fun hc=>?_);all_goals clear kc1)
   all_goals refine rt2 ?_ ?_
   all_goals first|exact rv_nil rfl|exact rv_int rfl rfl
 | true=>
   show Fn _ _ _ (.tup2 (ownB (rgsBy l)) (inR 0))
   have hok:=hb.1 rfl
   clear hb
   have hp0:=fcode_put [] [(l.length:Int)] (by simp) (ok_small (by omega) (by omega))
   have hn0:=numI_len (l.length:Int) (by omega)
   refine fi Tryz.func81 Tryz.ntmps81 ?_
   (have kc1:=h0;have kc2:=hp0;refine w0 ?_;(repeat' first|refine W2.mk ?_ ?_|refine W1.mk fun hc=>?_);all_goals clear kc2 kc1)
   refine AW_le (Le_mv 18 600) ?_
   refine AW_loopP (X:=Nat × List UInt8) (fun x=>x.1 ≤ l.length ∧ x.2.length ≤ 10 + 40 * x.1 ∧ x.2 ++ (l.drop x.1).flatMap rgB = rgsBy l)
     (fun x=>mkSt [(4,.row 600 0),(19,rgsB l),(20,iC .i64 (l.length:Nat)),(21,iC .i64 (x.1:Nat))] [(600,.row 5 1 (x.2.map byteP))]) (fun x=>l.length - x.1) (0,[(l.length:Int)].flatMap numI) ⟨Nat.zero_le _,by simp;omega,by simp [rgsBy]⟩ ?_ ?_
   · exact le_auto
   · rintro ⟨k,acc⟩ ⟨h1,h2,h3⟩
     simp only at h1 h2 h3 ⊢
     by_cases hlt:k < l.length
     · have hr:=rgsOk_R hok hlt
       have hbl:=rgB_len hr
       have hsz:=(rgR_iff _).1 hr
       have t1:=textB_len l[k].lo (by omega)
       have t2:=textB_len l[k].hi (by omega)
       have n0:=numI_one (n:=0) (by omega) (by omega)
       rw [List.drop_eq_getElem_cons hlt,List.flatMap_cons] at h3
       have c1:=varint_Text acc [l[k].lo] (by simp;omega)
       have c2:=fcode_put (acc ++ [l[k].lo].flatMap textB) [1] (by simp;omega) (ok_small (by omega) (by omega))
       have c3:=fcode_put (acc ++ [l[k].lo].flatMap textB) [0] (by simp;omega) (ok_small (by omega) (by omega))
       have c4:=varint_Text (acc ++ [l[k].lo].flatMap textB ++ [(0:Int)].flatMap numI) [l[k].hi] (by simp;omega)
       clear hok h0
       (have kc1:=c1;have kc2:=c2;have kc3:=c3;have kc4:=c4;refine w0 ?_;(repeat' first|refine W2.mk ?_ ?_|refine W1.mk fun hc=>?_);all_goals clear kc4 kc3 kc2 kc1)
       · have e:rgB l[k] = textB l[k].lo ++ numI 1:=by unfold rgB;rw [if_pos (by assumption)]
         rw [e] at h3 hbl
         refine ⟨(k + 1,acc ++ [l[k].lo].flatMap textB ++ [(1:Int)].flatMap numI),⟨by simp only;omega,by simp at hbl ⊢;omega,by rw [← h3];simp⟩,by simp only;omega,Le_trans (Le_mv 34 600) ?_⟩
         exact le_auto
       · have e:rgB l[k] = textB l[k].lo ++ (numI 0 ++ textB l[k].hi):=by unfold rgB;rw [if_neg (by simp [*])]
         rw [e] at h3 hbl
         refine ⟨(k + 1,acc ++ [l[k].lo].flatMap textB ++ [(0:Int)].flatMap numI ++ [l[k].hi].flatMap textB),⟨by simp only;omega,by simp at hbl ⊢;omega,by rw [← h3];simp⟩,by simp only;omega,Le_trans (Le_mv 41 600) ?_⟩
         exact le_auto
     · rw [List.drop_of_length_le (by omega),List.flatMap_nil,List.append_nil] at h3
       (refine w0 ?_;(repeat' first|refine W2.mk ?_ ?_|refine W1.mk fun hc=>?_))
       refine rt2 ?_ ?_
       · exact rv_ownM rfl rfl rfl h3
       · exact rv_int rfl rfl
theorem ref_Ranges (l:List Rg) (hl:l.length ≤ 4096) (hok:rgsOk l):Fn Tryz.prog 51 [rgsB l] (ownB (rgsBy l)):=by
 have hp0:=ref_Bytes (l.length:Int) (by unfold okNum;omega)
 have hn0:=numI_len (l.length:Int) (by omega)
 refine fi Tryz.func51 Tryz.ntmps51 ?_
 (have kc1:=hp0;refine w0 ?_;(repeat' first|refine W2.mk ?_ ?_|refine W1.mk fun hc=>?_);all_goals clear kc1)
 refine AW_le (Le_mv 7 600) ?_
 refine AW_loopP (X:=Nat × List UInt8) (fun x=>x.1 ≤ l.length ∧ x.2.length ≤ 10 + 40 * x.1 ∧ x.2 ++ (l.drop x.1).flatMap rgB = rgsBy l)
   (fun x=>mkSt [(0,rgsB l),(3,.row 600 0),(4,iC .i64 (x.1:Nat))] [(600,.row 5 1 (x.2.map byteP))]) (fun x=>l.length - x.1) (0,numI (l.length:Nat)) ⟨Nat.zero_le _,by simp only;omega,by simp [rgsBy]⟩ ?_ ?_
 · exact le_auto
 · rintro ⟨k,acc⟩ ⟨h1,h2,h3⟩
   simp only at h1 h2 h3 ⊢
   by_cases hlt:k < l.length
   · have hr:=rgsOk_R hok hlt
     have hbl:=rgB_len hr
     have hsz:=(rgR_iff _).1 hr
     have t1:=textB_len l[k].lo (by omega)
     have t2:=textB_len l[k].hi (by omega)
     rw [List.drop_eq_getElem_cons hlt,List.flatMap_cons] at h3
     have c1:=ref_Text l[k].lo (by omega)
     have c2:=ref_Text l[k].hi (by omega)
     clear hok
     (have kc1:=c1;have kc2:=c2;refine w0 ?_;(repeat' first|refine W2.mk ?_ ?_|refine W1.mk fun hc=>?_);all_goals clear kc2 kc1)
     · have e:rgB l[k] = textB l[k].lo ++ numI 1:=by unfold rgB;rw [if_pos (by assumption)]
       rw [e] at h3 hbl
       refine ⟨(k + 1,acc ++ textB l[k].lo ++ numI 1),⟨by simp only;omega,by simp at hbl ⊢;omega,by rw [← h3];simp⟩,by simp only;omega,?_⟩
       (refine Le_mk ?_ ?_;(focus ((repeat (first|exact AllG.nil|(refine AllG.cons ?_ ?_;rotate_left)));(all_goals try (first|rfl|(refine eqI ?_;first|omega|(simp;done)|(simp;omega))|(refine eqBo ?_;first|(simp;done)|(simp [*];done))))));(focus ((repeat (first|exact AllB.nil|(refine AllB.cons ?_ ?_;rotate_left)));(all_goals try (first|rfl|(refine eqRw ?_;(rw [List.map_append] <;> rfl);done)|(refine eqMix ?_;(rw [List.map_append] <;> rfl);done))))))
       · show Blk.row _ _ ((acc.map byteP ++ _) ++ [[rawP (.int .u8 1)]]) = _
         rw [← numI_1,← List.map_append,← List.map_append]
     · have e:rgB l[k] = textB l[k].lo ++ (numI 0 ++ textB l[k].hi):=by unfold rgB;rw [if_neg (by simp [*])]
       rw [e] at h3 hbl
       refine ⟨(k + 1,acc ++ textB l[k].lo ++ numI 0 ++ textB l[k].hi),⟨by simp only;omega,by simp at hbl ⊢;omega,by rw [← h3];simp⟩,by simp only;omega,?_⟩
       (refine Le_mk ?_ ?_;(focus ((repeat (first|exact AllG.nil|(refine AllG.cons ?_ ?_;rotate_left)));(all_goals try (first|rfl|(refine eqI ?_;first|omega|(simp;done)|(simp;omega))|(refine eqBo ?_;first|(simp;done)|(simp [*];done))))));(focus ((repeat (first|exact AllB.nil|(refine AllB.cons ?_ ?_;rotate_left)));(all_goals try (first|rfl|(refine eqRw ?_;(rw [List.map_append] <;> rfl);done)|(refine eqMix ?_;(rw [List.map_append] <;> rfl);done))))))
       · show Blk.row _ _ (((acc.map byteP ++ _) ++ [[rawP (.int .u8 0)]]) ++ _) = _
         rw [← numI_0,← List.map_append,← List.map_append,← List.map_append]
   · rw [List.drop_of_length_le (by omega),List.flatMap_nil,List.append_nil] at h3
     (refine w0 ?_;(repeat' first|refine W2.mk ?_ ?_|refine W1.mk fun hc=>?_))
     refine rt1 ?_
     exact rv_ownM rfl rfl rfl h3
end
end Go.Proofs.YthlffkjpklpkfaaGreat
namespace Go.Proofs.YthlffkjpklpkfaaGreat

def lead (l:List UInt8):Nat:=(l.takeWhile (fun c=>decide (128 ≤ c.toNat))).length
def leVal:List UInt8 → Nat
 | []=>0
 | c :: r=>c.toNat % 128 + 128 * leVal r
def rdBad (l:List UInt8):Prop:=(0 < lead l ∧ l[lead l]? = some 0) ∨ 281474976710656 < leVal (l.take (lead l + 1))
instance (l:List UInt8):Decidable (rdBad l):=by unfold rdBad;infer_instance
/-- the number that begins some bytes, how many it has, and what is wrong -/
def rdNum (l:List UInt8):Nat × Nat × Int:=
 if 8 ≤ lead l then (0,0,11) else if l.length ≤ lead l then (0,0,10) else if rdBad l then (0,0,11) else (leVal (l.take (lead l + 1)),lead l + 1,0)

theorem lead_le (l:List UInt8):lead l ≤ l.length:=by
 unfold lead;exact (List.takeWhile_sublist _).length_le
theorem lead_step:∀ (l:List UInt8) (i:Nat) (h:i < l.length),i ≤ lead l → (128 ≤ l[i].toNat → i + 1 ≤ lead l) ∧ (l[i].toNat < 128 → lead l = i):=by
 intro l
 induction l with
 | nil=>intro i h;simp at h
 | cons c r ih=>
   intro i h hi
   unfold lead at *
   rw [List.takeWhile_cons] at *
   cases i with
   | zero=>
     refine ⟨fun hc=>?_,fun hc=>?_⟩
     · simp at hc;simp [hc]
     · simp at hc;rw [if_neg (by simp;omega)];rfl
   | succ i=>
     by_cases hc:128 ≤ c.toNat
     · rw [if_pos (by simpa using hc)] at hi ⊢
       simp only [List.length_cons] at hi ⊢
       have:=ih i (by simpa using h) (by omega)
       simp only [List.getElem_cons_succ]
       omega
     · rw [if_neg (by simpa using hc)] at hi;simp at hi
theorem lead_before:∀ (l:List UInt8) (i:Nat) (h:i < l.length),i < lead l → 128 ≤ l[i].toNat:=by
 intro l i h hi
 rcases Nat.lt_or_ge (l[i].toNat) 128 with h1|h1
 · have:=(lead_step l i h (by omega)).2 h1;omega
 · exact h1
theorem lead_at (l:List UInt8) (h:lead l < l.length):l[lead l].toNat < 128:=by
 rcases Nat.lt_or_ge (l[lead l].toNat) 128 with h1|h1
 · exact h1
 · have:=(lead_step l (lead l) h (Nat.le_refl _)).1 h1;omega

theorem leVal_lt (l:List UInt8):leVal l < 128 ^ l.length:=by
 induction l with
 | nil=>simp [leVal]
 | cons c r ih=>simp only [leVal,List.length_cons,Nat.pow_succ];omega

/-- a reader's state behind a call of Number -/
def numSt (l:List UInt8) (e:Int):Int × List UInt8 × Int:=
 if e ≠ 0 then (0,l,e) else if (rdNum l).2.2 ≠ 0 then (0,l,(rdNum l).2.2) else ((rdNum l).1,l.drop (rdNum l).2.1,0)
def withinSt (lo hi:Int) (l:List UInt8) (e:Int):Int × List UInt8 × Int:=
 if (numSt l e).2.2 = 0 ∧ ((numSt l e).1 < lo ∨ hi < (numSt l e).1) then (0,l,11) else numSt l e
def textSt (most:Int) (l:List UInt8) (e:Int):List UInt8 × List UInt8 × Int:=
 if (withinSt 0 most l e).2.2 ≠ 0 then ([],(withinSt 0 most l e).2)
 else if (withinSt 0 most l e).2.1.length < (withinSt 0 most l e).1 then ([],l,10)
 else ((withinSt 0 most l e).2.1.take (withinSt 0 most l e).1.toNat,(withinSt 0 most l e).2.1.drop (withinSt 0 most l e).1.toNat,0)
def failSt (x:Int) (l:List UInt8) (e:Int):List UInt8 × Int:=if e = 0 then (l,x) else (l,e)
def endSt (l:List UInt8) (e:Int):Int:=if e = 0 ∧ 0 < l.length then 14 else e
end Go.Proofs.YthlffkjpklpkfaaGreat
namespace Go.Proofs.YthlffkjpklpkfaaGreat
open Go.RowKit

theorem numB_leVal:∀ (xs:List UInt8) (c:UInt8),(∀ x ∈ xs,128 ≤ x.toNat) → c.toNat < 128 → (xs ≠ [] → c ≠ 0) → numB (leVal (xs ++ [c])) = xs ++ [c]:=by
 intro xs
 induction xs with
 | nil=>
   intro c _ hc _
   have:leVal ([] ++ [c]) = c.toNat:=by simp [leVal];omega
   rw [this,numB_lt hc];simp
 | cons x r ih=>
   intro c hx hc hne
   have hc0:=hne (by simp)
   have hr:=ih c (fun y hy=>hx y (by simp [hy])) hc (fun _=>hc0)
   have hxx:=hx x (by simp)
   have hV:0 < leVal (r ++ [c]):=by
     have h1:∀ r:List UInt8,0 < c.toNat → 0 < leVal (r ++ [c]):=by
       intro r hp
       induction r with
       | nil=>simp [leVal];omega
       | cons y r ih=>simp only [List.cons_append,leVal];omega
     apply h1
     rcases Nat.eq_zero_or_pos c.toNat with h|h
     · exact absurd (UInt8.toNat_inj.1 (by simpa using h)) hc0
     · exact h
   have hval:leVal (x :: r ++ [c]) = x.toNat % 128 + 128 * leVal (r ++ [c]):=rfl
   have hlt:=x.toNat_lt
   rw [hval,numB_ge (by omega)]
   rw [show (x.toNat % 128 + 128 * leVal (r ++ [c])) / 128 = leVal (r ++ [c]) by omega,hr]
   rw [show 128 + (x.toNat % 128 + 128 * leVal (r ++ [c])) % 128 = x.toNat by omega]
   simp

theorem rdNum_ok {l:List UInt8} (h:(rdNum l).2.2 = 0):lead l < 8 ∧ lead l < l.length ∧ ¬ rdBad l ∧ (rdNum l).1 = leVal (l.take (lead l + 1)) ∧ (rdNum l).2.1 = lead l + 1:=by
 unfold rdNum at h ⊢
 by_cases h1:8 ≤ lead l
 · rw [if_pos h1] at h;simp at h
 · rw [if_neg h1] at h ⊢
   by_cases h2:l.length ≤ lead l
   · rw [if_pos h2] at h;simp at h
   · rw [if_neg h2] at h ⊢
     by_cases h3:rdBad l
     · rw [if_pos h3] at h;simp at h
     · rw [if_neg h3];exact ⟨by omega,by omega,h3,rfl,rfl⟩

/-- what was read is put as it stood -/
theorem rd_put {l:List UInt8} (h:(rdNum l).2.2 = 0):numB (rdNum l).1 = l.take (rdNum l).2.1 ∧ 0 < (rdNum l).2.1 ∧ (rdNum l).2.1 ≤ l.length ∧ (rdNum l).1 ≤ 281474976710656:=by
 obtain ⟨h8,hl,hb,e1,e2⟩:=rdNum_ok h
 rw [e1,e2]
 have ht:l.take (lead l + 1) = l.take (lead l) ++ [l[lead l]]:=List.take_succ_eq_append_getElem hl
 refine ⟨?_,by omega,by omega,?_⟩
 · rw [ht]
   refine numB_leVal _ _ ?_ (lead_at l hl) ?_
   · intro x hx
     obtain ⟨i,hi,rfl⟩:=List.getElem_of_mem hx
     rw [List.length_take] at hi
     rw [List.getElem_take]
     exact lead_before l i (by omega) (by omega)
   · intro hne h0
     refine hb (.inl ⟨?_,by rw [List.getElem?_eq_getElem hl,h0]⟩)
     rcases Nat.eq_zero_or_pos (lead l) with h|h
     · rw [h] at hne;simp at hne
     · exact h
 · rcases Nat.lt_or_ge 281474976710656 (leVal (l.take (lead l + 1))) with h|h
   · exact absurd (.inr h) hb
   · exact h

/-- what was put is read as it was -/
theorem numB_shape (n:Nat):∃ xs c,numB n = xs ++ [c] ∧ (∀ x ∈ xs,128 ≤ x.toNat) ∧ c.toNat < 128 ∧ (xs ≠ [] → c ≠ 0) ∧ leVal (numB n) = n:=by
 induction n using Nat.strongRecOn with
 | ind n ih=>
   by_cases h:n < 128
   · refine ⟨[],UInt8.ofNat n,by rw [numB_lt h];rfl,by simp,by rw [UInt8.toNat_ofNat'];omega,by simp,?_⟩
     rw [numB_lt h];simp only [leVal,UInt8.toNat_ofNat'];omega
   · obtain ⟨xs,c,e,h1,h2,h3,h4⟩:=ih (n / 128) (by omega)
     refine ⟨UInt8.ofNat (128 + n % 128) :: xs,c,by rw [numB_ge h,e];rfl,?_,h2,?_,?_⟩
     · intro x hx
       rcases List.mem_cons.1 hx with rfl|hx
       · rw [UInt8.toNat_ofNat'];omega
       · exact h1 x hx
     · intro _
       by_cases hx:xs = []
       · subst hx
         intro hc
         subst hc
         rw [e] at h4
         simp [leVal] at h4
         omega
       · exact h3 hx
     · rw [numB_ge h];simp only [leVal,h4,UInt8.toNat_ofNat'];omega

theorem lead_numB (n:Nat) (r:List UInt8):lead (numB n ++ r) + 1 = (numB n).length:=by
 obtain ⟨xs,c,e,h1,h2,h3,h4⟩:=numB_shape n
 rw [e]
 have:(xs ++ [c] ++ r).takeWhile (fun c=>decide (128 ≤ c.toNat)) = xs:=by
   rw [List.append_assoc,List.takeWhile_append_of_pos (by simpa using h1)]
   rw [List.cons_append,List.takeWhile_cons,if_neg (by simp;omega)];simp
 unfold lead
 rw [this];simp

theorem put_rd (n:Nat) (r:List UInt8) (hn:n ≤ 281474976710656):rdNum (numB n ++ r) = (n,(numB n).length,0):=by
 have hl:=lead_numB n r
 have h8:=numB_len 7 n (by omega)
 obtain ⟨xs,c,e,h1,h2,h3,h4⟩:=numB_shape n
 have hlen:lead (numB n ++ r) = xs.length:=by rw [e] at hl ⊢;simp at hl ⊢;exact hl
 unfold rdNum
 rw [if_neg (by omega),if_neg (by rw [List.length_append];omega)]
 have ht:(numB n ++ r).take (lead (numB n ++ r) + 1) = numB n:=by rw [hl];simp
 rw [if_neg,ht,hl,h4]
 unfold rdBad
 rw [ht,h4]
 rintro (⟨h,h'⟩|h)
 · rw [hlen] at h h'
   rw [e,List.getElem?_append_left (by simp),List.getElem?_append_right (by omega)] at h'
   simp at h'
   exact h3 (by intro hx;subst hx;simp at h) h'
 · omega
end Go.Proofs.YthlffkjpklpkfaaGreat
namespace Go.Proofs.YthlffkjpklpkfaaGreat
open Go.RowKit
theorem num_put {n:Int} (h:okNum n) (r:List UInt8):numSt (numI n ++ r) 0 = (n,r,0):=by
 unfold numSt numI
 obtain ⟨h1,h2⟩:=h
 rw [put_rd n.toNat r (by omega)]
 rw [if_neg (by simp),if_neg (by simp)]
 simp;omega
theorem within_put {n lo hi:Int} (h:okNum n) (h1:lo ≤ n) (h2:n ≤ hi) (r:List UInt8):withinSt lo hi (numI n ++ r) 0 = (n,r,0):=by
 unfold withinSt
 rw [num_put h]
 rw [if_neg]
 simp;omega
theorem text_put {s:ByteArray} {most:Int} (h:(s.size:Int) ≤ most) (h2:s.size ≤ 281474976710656) (r:List UInt8):textSt most (textB s ++ r) 0 = (s.data.toList,r,0):=by
 have hw:withinSt 0 most (textB s ++ r) 0 = ((s.size:Int),s.data.toList ++ r,0):=by
   have:=within_put (n:=(s.size:Int)) (lo:=0) (hi:=most) ⟨by omega,by omega⟩ (by omega) h (s.data.toList ++ r)
   unfold numI at this
   rw [Int.toNat_natCast] at this
   rw [textB,List.append_assoc];exact this
 unfold textSt
 rw [hw]
 have hl:s.data.toList.length = s.size:=str_len s
 rw [if_neg (by simp),if_neg (by simp;omega),Int.toNat_natCast]
 rw [List.take_append_of_le_length (by omega),List.take_of_length_le (by omega),List.drop_append_of_le_length (by omega),List.drop_of_length_le (by omega)]
 rfl
theorem ba_eta (s:ByteArray):(⟨s.data.toList.toArray⟩:ByteArray) = s:=by cases s;simp
/-! an error stays -/
theorem num_err {l:List UInt8} {e:Int} (h:e ≠ 0):numSt l e = (0,l,e):=by unfold numSt;rw [if_pos h]
/-! what was read without an error stands so in the bytes -/
theorem num_back {l:List UInt8} {e:Int} (h:(numSt l e).2.2 = 0):e = 0 ∧ okNum (numSt l e).1 ∧ l = numI (numSt l e).1 ++ (numSt l e).2.1:=by
 by_cases he:e = 0
 · subst he
   unfold numSt at h ⊢
   rw [if_neg (by simp)] at h ⊢
   by_cases hr:(rdNum l).2.2 = 0
   · obtain ⟨h1,h2,h3,h4⟩:=rd_put hr
     rw [if_neg (by simp [hr])]
     refine ⟨rfl,⟨by simp only;omega,by simp only;omega⟩,?_⟩
     simp only [numI,Int.toNat_natCast]
     rw [h1,List.take_append_drop]
   · rw [if_pos hr] at h
     exact absurd h hr
 · rw [num_err he] at h;exact absurd h he
theorem within_back {lo hi:Int} {l:List UInt8} {e:Int} (h:(withinSt lo hi l e).2.2 = 0):e = 0 ∧ okNum (withinSt lo hi l e).1 ∧ lo ≤ (withinSt lo hi l e).1 ∧ (withinSt lo hi l e).1 ≤ hi ∧ l = numI (withinSt lo hi l e).1 ++ (withinSt lo hi l e).2.1:=by
 unfold withinSt at h ⊢
 split at h
 · simp at h
 · rename_i hc
   rw [if_neg hc]
   obtain ⟨h1,h2,h3⟩:=num_back h
   exact ⟨h1,h2,by omega,by omega,h3⟩
theorem text_back {most:Int} {l:List UInt8} {e:Int} (h:(textSt most l e).2.2 = 0):e = 0 ∧ ((textSt most l e).1.length:Int) ≤ most ∧ l = textB ⟨(textSt most l e).1.toArray⟩ ++ (textSt most l e).2.1:=by
 unfold textSt at h ⊢
 split at h
 · rename_i hc;exact absurd h hc
 · rename_i hc
   rw [if_neg hc]
   split at h
   · simp at h
   · rename_i hc2
     rw [if_neg hc2]
     have hc:(withinSt 0 most l e).2.2 = 0:=by simpa using hc
     obtain ⟨h1,h2,h3,h4,h5⟩:=within_back hc
     have hlen:((withinSt 0 most l e).2.1.take (withinSt 0 most l e).1.toNat).length = (withinSt 0 most l e).1.toNat:=by rw [List.length_take];omega
     refine ⟨h1,by simp only;rw [hlen];omega,?_⟩
     simp only
     unfold textB
     have:(⟨((withinSt 0 most l e).2.1.take (withinSt 0 most l e).1.toNat).toArray⟩:ByteArray).size = (withinSt 0 most l e).1.toNat:=by
       show (((withinSt 0 most l e).2.1.take (withinSt 0 most l e).1.toNat).toArray).size = _
       rw [List.size_toArray];exact hlen
     rw [this]
     simp only
     rw [List.append_assoc,List.take_append_drop]
     exact h5
theorem end_back {l:List UInt8} {e:Int} (h:endSt l e = 0):l = [] ∧ e = 0:=by
 unfold endSt at h
 split at h
 · simp at h
 · rename_i hc
   subst h
   refine ⟨?_,rfl⟩
   have:l.length = 0:=by omega
   exact List.eq_nil_of_length_eq_zero this
abbrev bysP (l:List UInt8):PV:=lstP 1 (l.map byteP)
abbrev rdBox (l:List UInt8) (e:Int):Blk:=.box 168 [.per (bysP l),iC .i64 e]
abbrev rdC:Cnt:=.ptr 1000 0 0
section
theorem n_Err (l:List UInt8) (e:Int):FnM Tryz.prog 145 [rdC] [(1000,rdBox l e)] (iC .i64 e) [(1000,rdBox l e)]:=by
 refine fmi Tryz.func145 Tryz.ntmps145 ?_
 (refine w0 ?_;(repeat' first|refine W2.mk ?_ ?_|refine W1.mk fun hc=>?_))
 (refine ⟨(by first|exact .inl rfl|exact .inr rfl),resM1 [(1000,1000)] rfl rfl ?_ ?_⟩;(focus (repeat (first|exact AllX.nil|(refine AllX.cons rfl ?_ ?_;(focus first|rfl|skip))))))
 exact rvm_int rfl rfl
theorem n_Left (l:List UInt8) (e:Int):FnM Tryz.prog 146 [rdC] [(1000,rdBox l e)] (iC .i64 (l.length:Int)) [(1000,rdBox l e)]:=by
 refine fmi Tryz.func146 Tryz.ntmps146 ?_
 (refine w0 ?_;(repeat' first|refine W2.mk ?_ ?_|refine W1.mk fun hc=>?_))
 (refine ⟨(by first|exact .inl rfl|exact .inr rfl),resM1 [(1000,1000)] rfl rfl ?_ ?_⟩;(focus (repeat (first|exact AllX.nil|(refine AllX.cons rfl ?_ ?_;(focus first|rfl|skip))))))
 exact rvm_int rfl (by simp)
theorem n_Fail (l:List UInt8) (e x:Int):FnM Tryz.prog 162 [rdC,iC .i64 x] [(1000,rdBox l e)] .any [(1000,rdBox l (failSt x l e).2)]:=by
 unfold failSt
 by_cases h0:e = 0
 · subst h0
   refine fmi Tryz.func162 Tryz.ntmps162 ?_
   (refine w0 ?_;(repeat' first|refine W2.mk ?_ ?_|refine W1.mk fun hc=>?_))
   (refine ⟨(by first|exact .inl rfl|exact .inr rfl),resM0 [(1000,1000)] rfl rfl ?_⟩;(focus (repeat (first|exact AllX.nil|(refine AllX.cons rfl ?_ ?_;(focus first|rfl|skip))))))
 · rw [if_neg h0]
   refine fmi Tryz.func162 Tryz.ntmps162 ?_
   (refine w0 ?_;(repeat' first|refine W2.mk ?_ ?_|refine W1.mk fun hc=>?_))
   (refine ⟨(by first|exact .inl rfl|exact .inr rfl),resM0 [(1000,1000)] rfl rfl ?_⟩;(focus (repeat (first|exact AllX.nil|(refine AllX.cons rfl ?_ ?_;(focus first|rfl|skip))))))
def sizeSt (l:List UInt8):Nat × Int:=if 8 ≤ lead l then (0,11) else if l.length ≤ lead l then (0,10) else (lead l + 1,0)
theorem n_size (l:List UInt8) (e:Int):FnM Tryz.prog 163 [rdC] [(1000,rdBox l e)] (.tup2 (iC .i64 ((sizeSt l).1:Nat)) (iC .i64 (sizeSt l).2)) [(1000,rdBox l e)]:=by
 have hll:=lead_le l
 refine fmi Tryz.func163 Tryz.ntmps163 ?_
 (refine w0 ?_;(repeat' first|refine W2.mk ?_ ?_|refine W1.mk fun hc=>?_))
 refine AW_loopP (fun k=>k ≤ lead l ∧ k ≤ 8) (fun k=>mkSt [(0,rdC),(10,iC .i64 (if 8 < l.length then 8 else l.length:Int)),(11,iC .i64 (k:Nat))] [(1000,rdBox l e)]) (fun k=>8 - k) 0 ⟨Nat.zero_le _,by omega⟩ ?_ ?_
 · exact le_auto
 · rintro k ⟨hk,hk8⟩
   have hst:=lead_step l k
   (refine w0 ?_;(repeat' first|refine W2.mk ?_ ?_|refine W1.mk fun hc=>?_))
   · have hkl:k < l.length:=by omega
     have h1:=(hst hkl hk).2 (by omega)
     (refine ⟨(by first|exact .inl rfl|exact .inr rfl),resM2 [(1000,1000)] rfl rfl ?_ ?_ ?_⟩;(focus (repeat (first|exact AllX.nil|(refine AllX.cons rfl ?_ ?_;(focus first|rfl|skip))))))
     · exact rvm_int rfl (by unfold sizeSt;rw [if_neg (by omega),if_neg (by omega)];simp;omega)
     · exact rvm_int rfl (by unfold sizeSt;rw [if_neg (by omega),if_neg (by omega)])
   · have hkl:k < l.length:=by omega
     have h1:=(hst hkl hk).1 (by omega)
     refine ⟨k + 1,⟨by omega,by omega⟩,by omega,?_⟩
     exact le_auto
   · (refine ⟨(by first|exact .inl rfl|exact .inr rfl),resM2 [(1000,1000)] rfl rfl ?_ ?_ ?_⟩;(focus (repeat (first|exact AllX.nil|(refine AllX.cons rfl ?_ ?_;(focus first|rfl|skip))))))
     · exact rvm_int rfl (by unfold sizeSt;rw [if_pos (by omega)];rfl)
     · exact rvm_int rfl (by unfold sizeSt;rw [if_pos (by omega)])
   · (refine ⟨(by first|exact .inl rfl|exact .inr rfl),resM2 [(1000,1000)] rfl rfl ?_ ?_ ?_⟩;(focus (repeat (first|exact AllX.nil|(refine AllX.cons rfl ?_ ?_;(focus first|rfl|skip))))))
     · exact rvm_int rfl (by unfold sizeSt;rw [if_neg (by omega),if_pos (by omega)];rfl)
     · exact rvm_int rfl (by unfold sizeSt;rw [if_neg (by omega),if_pos (by omega)])
theorem leVal_drop (l:List UInt8) (k:Nat) (h:k < l.length):leVal (l.drop k) = l[k].toNat % 128 + 128 * leVal (l.drop (k + 1)):=by
 rw [List.drop_eq_getElem_cons h];rfl
theorem n_Number (l:List UInt8) (e:Int):FnM Tryz.prog 144 [rdC] [(1000,rdBox l e)] (iC .i64 (numSt l e).1) [(1000,rdBox (numSt l e).2.1 (numSt l e).2.2)]:=by
 have hll:=lead_le l
 by_cases he:e = 0
 · subst he
   by_cases hs:(sizeSt l).2 = 0
   · have hz:lead l < 8 ∧ lead l < l.length ∧ sizeSt l = (lead l + 1,0):=by
       unfold sizeSt at hs ⊢
       split at hs
       · simp at hs
       · split at hs
         · simp at hs
         · rename_i h1 h2;rw [if_neg h1,if_neg h2];exact ⟨by omega,by omega,rfl⟩
     obtain ⟨z1,z2,z3⟩:=hz
     have hns:=n_size l 0
     rw [z3] at hns
     have hb:numSt l 0 = if rdBad l then (0,l,11) else (((leVal (l.take (lead l + 1)):Nat):Int),l.drop (lead l + 1),0):=by
       unfold numSt rdNum
       rw [if_neg (by simp),if_neg (show ¬ 8 ≤ lead l by omega),if_neg (show ¬ l.length ≤ lead l by omega)]
       by_cases hb:rdBad l
       · simp [hb]
       · simp [hb]
     rw [hb]
     clear hb z3 hs
     have h128:∀ k,k ≤ lead l + 1 → leVal ((l.take (lead l + 1)).drop k) ≤ 72057594037927935:=by
       intro k hk
       have h1:=leVal_lt ((l.take (lead l + 1)).drop k)
       have h2:(128:Nat) ^ ((l.take (lead l + 1)).drop k).length ≤ 128 ^ 8:=Nat.pow_le_pow_right (by decide) (by simp;omega)
       have h3:(128:Nat) ^ 8 = 72057594037927936:=by decide
       omega
     have hbad:rdBad l ↔ ((lead l + 1 > 1 ∧ l[lead l].toNat = 0) ∨ leVal (l.take (lead l + 1)) > 281474976710656):=by
       unfold rdBad
       have h0:l[lead l]? = some 0 ↔ l[lead l].toNat = 0:=by
         rw [List.getElem?_eq_getElem z2,Option.some.injEq,← UInt8.toNat_inj];rfl
       rw [h0]
       constructor
       · rintro (⟨a,b⟩|a)
         · exact .inl ⟨by omega,b⟩
         · exact .inr a
       · rintro (⟨a,b⟩|a)
         · exact .inl ⟨by omega,b⟩
         · exact .inr a
     refine fmi Tryz.func144 Tryz.ntmps144 ?_
     (have kr1:=n_Err l 0;have kr2:=hns;refine w0 ?_;(repeat' first|refine W2.mk ?_ ?_|refine W1.mk fun hc=>?_);all_goals clear kr2 kr1)
     refine AW_loopP (fun j=>j ≤ lead l + 1) (fun j=>mkSt [(0,rdC),(3,iC .i64 ((lead l + 1:Nat):Int)),(5,iC .i64 (leVal ((l.take (lead l + 1)).drop j):Nat)),(6,iC .i64 ((j:Int) - 1))] [(1000,rdBox l 0)]) (fun j=>j) (lead l + 1) (Nat.le_refl _) ?_ ?_
     · have h0:(l.take (lead l + 1)).drop (lead l + 1) = []:=by simp
       rw [h0]
       exact le_auto
     · intro j hj
       cases j with
       | succ j=>
         have hv:=leVal_drop (l.take (lead l + 1)) j (by simp;omega)
         have hb1:=h128 j (by omega)
         have hb2:=h128 (j + 1) (by omega)
         rw [List.getElem_take] at hv
         rw [show ((j + 1:Nat):Int) - 1 = (j:Int) by omega]
         (refine w0 ?_;(repeat' first|refine W2.mk ?_ ?_|refine W1.mk fun hc=>?_))
         refine ⟨j,by omega,by omega,?_⟩
         exact le_auto
       | zero=>
         rw [List.drop_zero]
         have hb1:=h128 0 (by omega)
         rw [List.drop_zero] at hb1
         have hnb:∀ h:¬ rdBad l,(if rdBad l then ((0:Int),l,(11:Int)) else (((leVal (l.take (lead l + 1)):Nat):Int),l.drop (lead l + 1),0)) = (((leVal (l.take (lead l + 1)):Nat):Int),l.drop (lead l + 1),0):=fun h=>if_neg h
         by_cases h1:lead l + 1 > 1
         · (have kr1:=n_Fail l 0 11;refine w0 ?_;(repeat' first|refine W2.mk ?_ ?_|refine W1.mk fun hc=>?_);all_goals clear kr1)
           · rw [if_pos (hbad.2 (.inl ⟨h1,by omega⟩))]
             (refine ⟨(by first|exact .inl rfl|exact .inr rfl),resM1 [(1000,1000)] rfl rfl ?_ ?_⟩;(focus (repeat (first|exact AllX.nil|(refine AllX.cons rfl ?_ ?_;(focus first|rfl|skip))))))
             exact rvm_int rfl rfl
           · rw [if_pos (hbad.2 (.inr (by omega)))]
             (refine ⟨(by first|exact .inl rfl|exact .inr rfl),resM1 [(1000,1000)] rfl rfl ?_ ?_⟩;(focus (repeat (first|exact AllX.nil|(refine AllX.cons rfl ?_ ?_;(focus first|rfl|skip))))))
             exact rvm_int rfl rfl
           · rw [hnb (fun h=>by have:=hbad.1 h;omega)]
             (refine ⟨(by first|exact .inl rfl|exact .inr rfl),resM1 [(1000,1000)] rfl rfl ?_ ?_⟩;(focus (repeat (first|exact AllX.nil|(refine AllX.cons rfl ?_ ?_;(focus first|rfl|skip))))))
             exact rvm_int rfl rfl
         · (have kr1:=n_Fail l 0 11;refine w0 ?_;(repeat' first|refine W2.mk ?_ ?_|refine W1.mk fun hc=>?_);all_goals clear kr1)
           · rw [if_pos (hbad.2 (.inr (by omega)))]
             (refine ⟨(by first|exact .inl rfl|exact .inr rfl),resM1 [(1000,1000)] rfl rfl ?_ ?_⟩;(focus (repeat (first|exact AllX.nil|(refine AllX.cons rfl ?_ ?_;(focus first|rfl|skip))))))
             exact rvm_int rfl rfl
           · rw [hnb (fun h=>by have:=hbad.1 h;omega)]
             (refine ⟨(by first|exact .inl rfl|exact .inr rfl),resM1 [(1000,1000)] rfl rfl ?_ ?_⟩;(focus (repeat (first|exact AllX.nil|(refine AllX.cons rfl ?_ ?_;(focus first|rfl|skip))))))
             exact rvm_int rfl rfl
   · have hb:numSt l 0 = (0,l,(sizeSt l).2):=by
       unfold numSt rdNum sizeSt at *
       rw [if_neg (by simp)]
       by_cases h1:8 ≤ lead l
       · simp [h1]
       · by_cases h2:l.length ≤ lead l
         · simp [h1,h2]
         · rw [if_neg h1,if_neg h2] at hs;exact absurd rfl hs
     rw [hb]
     refine fmi Tryz.func144 Tryz.ntmps144 ?_
     (have kr1:=n_Err l 0;have kr2:=n_size l 0;refine w0 ?_;(repeat' (first|refine W2.mk ?_ ?_|refine W1.mk fun hc=>?_|((first|apply AL_t rfl|apply AL_0 rfl|apply AD_t rfl|apply AD_0 rfl);(focus (first|exact c_RA (n_Fail l 0 _)|(apply u_g;(focus rfl);apply op_gyes rfl rfl rfl rfl rfl;first|exact c_RA (n_Fail l 0 _))));refine w0 ?_)));all_goals clear kr2 kr1)
     rw [show sizeSt l = sizeSt l from rfl]
     (refine ⟨(by first|exact .inl rfl|exact .inr rfl),resM1 [(1000,1000)] rfl rfl ?_ ?_⟩;(focus (repeat (first|exact AllX.nil|(refine AllX.cons rfl ?_ ?_;(focus first|rfl|skip))))))
     exact rvm_int rfl rfl
 · have hb:numSt l e = (0,l,e):=by unfold numSt;rw [if_pos he]
   rw [hb]
   refine fmi Tryz.func144 Tryz.ntmps144 ?_
   (have kr1:=n_Err l e;refine w0 ?_;(repeat' first|refine W2.mk ?_ ?_|refine W1.mk fun hc=>?_);all_goals clear kr1)
   (refine ⟨(by first|exact .inl rfl|exact .inr rfl),resM1 [(1000,1000)] rfl rfl ?_ ?_⟩;(focus (repeat (first|exact AllX.nil|(refine AllX.cons rfl ?_ ?_;(focus first|rfl|skip))))))
   exact rvm_int rfl rfl
end
end Go.Proofs.YthlffkjpklpkfaaGreat
namespace Go.Proofs.YthlffkjpklpkfaaGreat
open Go.RowKit
section
variable (l:List UInt8) (e:Int)
theorem r_at:FnM Tryz.prog 143 [rdC] [(1000,rdBox l e)] rdC [(1000,rdBox l e)]:=by
 refine fmi Tryz.func143 Tryz.ntmps143 ?_
 (refine w0 ?_;(repeat' first|refine W2.mk ?_ ?_|refine W1.mk fun hc=>?_))
 (refine ⟨(by first|exact .inl rfl|exact .inr rfl),resM1 [(1000,1000)] rfl rfl ?_ ?_⟩;(focus (repeat (first|exact AllX.nil|(refine AllX.cons rfl ?_ ?_;(focus first|rfl|skip))))))
 exact rvm rfl rfl
theorem r_Err:FnM Tryz.prog 108 [rdC] [(1000,rdBox l e)] (iC .i64 e) [(1000,rdBox l e)]:=by
 refine fmi Tryz.func108 Tryz.ntmps108 ?_
 (have kr1:=r_at l e;have kr2:=n_Err l e;refine w0 ?_;(repeat' first|refine W2.mk ?_ ?_|refine W1.mk fun hc=>?_);all_goals clear kr2 kr1)
 (refine ⟨(by first|exact .inl rfl|exact .inr rfl),resM1 [(1000,1000)] rfl rfl ?_ ?_⟩;(focus (repeat (first|exact AllX.nil|(refine AllX.cons rfl ?_ ?_;(focus first|rfl|skip))))))
 exact rvm_int rfl rfl
theorem r_Left:FnM Tryz.prog 109 [rdC] [(1000,rdBox l e)] (iC .i64 (l.length:Int)) [(1000,rdBox l e)]:=by
 refine fmi Tryz.func109 Tryz.ntmps109 ?_
 (have kr1:=r_at l e;have kr2:=n_Left l e;refine w0 ?_;(repeat' first|refine W2.mk ?_ ?_|refine W1.mk fun hc=>?_);all_goals clear kr2 kr1)
 (refine ⟨(by first|exact .inl rfl|exact .inr rfl),resM1 [(1000,1000)] rfl rfl ?_ ?_⟩;(focus (repeat (first|exact AllX.nil|(refine AllX.cons rfl ?_ ?_;(focus first|rfl|skip))))))
 exact rvm_int rfl rfl
theorem r_Fail (x:Int):FnM Tryz.prog 142 [rdC,iC .i64 x] [(1000,rdBox l e)] .any [(1000,rdBox l (failSt x l e).2)]:=by
 refine fmi Tryz.func142 Tryz.ntmps142 ?_
 (have kr1:=r_at l e;have kr2:=n_Fail l e x;refine w0 ?_;(repeat' first|refine W2.mk ?_ ?_|refine W1.mk fun hc=>?_);all_goals clear kr2 kr1)
 (refine ⟨(by first|exact .inl rfl|exact .inr rfl),resM0 [(1000,1000)] rfl rfl ?_⟩;(focus (repeat (first|exact AllX.nil|(refine AllX.cons rfl ?_ ?_;(focus first|rfl|skip))))))
theorem r_Number:FnM Tryz.prog 105 [rdC] [(1000,rdBox l e)] (iC .i64 (numSt l e).1) [(1000,rdBox (numSt l e).2.1 (numSt l e).2.2)]:=by
 refine fmi Tryz.func105 Tryz.ntmps105 ?_
 (have kr1:=r_at l e;have kr2:=n_Number l e;refine w0 ?_;(repeat' first|refine W2.mk ?_ ?_|refine W1.mk fun hc=>?_);all_goals clear kr2 kr1)
 (refine ⟨(by first|exact .inl rfl|exact .inr rfl),resM1 [(1000,1000)] rfl rfl ?_ ?_⟩;(focus (repeat (first|exact AllX.nil|(refine AllX.cons rfl ?_ ?_;(focus first|rfl|skip))))))
 exact rvm_int rfl rfl
theorem r_keep:FnM Tryz.prog 141 [rdC] [(1000,rdBox l e)] (.per (bysP l)) [(1000,rdBox l e)]:=by
 refine fmi Tryz.func141 Tryz.ntmps141 ?_
 (refine w0 ?_;(repeat' first|refine W2.mk ?_ ?_|refine W1.mk fun hc=>?_))
 (refine ⟨(by first|exact .inl rfl|exact .inr rfl),resM1 [(1000,1000)] rfl rfl ?_ ?_⟩;(focus (repeat (first|exact AllX.nil|(refine AllX.cons rfl ?_ ?_;(focus first|rfl|skip))))))
 exact rvm_per rfl rfl
theorem r_Within (lo hi:Int):FnM Tryz.prog 104 [rdC,iC .i64 lo,iC .i64 hi] [(1000,rdBox l e)] (iC .i64 (withinSt lo hi l e).1) [(1000,rdBox (withinSt lo hi l e).2.1 (withinSt lo hi l e).2.2)]:=by
 have hN:=r_Number l e
 generalize hQ:withinSt lo hi l e = Q at *
 unfold withinSt at hQ
 generalize numSt l e = q at *
 obtain ⟨m,l',e'⟩:=q
 simp only at hN hQ
 refine fmi Tryz.func104 Tryz.ntmps104 ?_
 (have kr1:=r_keep l e;have kr2:=hN;have kr3:=r_Err l' e';have kr4:=r_Fail l e' 11;refine w0 ?_;(repeat' first|refine W2.mk ?_ ?_|refine W1.mk fun hc=>?_);all_goals clear kr4 kr3 kr2 kr1)
 · rw [if_pos ⟨by assumption,.inl (by assumption)⟩] at hQ
   subst hQ
   have h0:e' = 0:=by assumption
   subst h0
   (refine ⟨(by first|exact .inl rfl|exact .inr rfl),resM1 [(1000,1000)] rfl rfl ?_ ?_⟩;(focus (repeat (first|exact AllX.nil|(refine AllX.cons rfl ?_ ?_;(focus first|rfl|skip))))))
   exact rvm_int rfl rfl
 · rw [if_pos ⟨by assumption,.inr (by omega)⟩] at hQ
   subst hQ
   have h0:e' = 0:=by assumption
   subst h0
   (refine ⟨(by first|exact .inl rfl|exact .inr rfl),resM1 [(1000,1000)] rfl rfl ?_ ?_⟩;(focus (repeat (first|exact AllX.nil|(refine AllX.cons rfl ?_ ?_;(focus first|rfl|skip))))))
   exact rvm_int rfl rfl
 · rw [if_neg (by omega)] at hQ
   subst hQ
   (refine ⟨(by first|exact .inl rfl|exact .inr rfl),resM1 [(1000,1000)] rfl rfl ?_ ?_⟩;(focus (repeat (first|exact AllX.nil|(refine AllX.cons rfl ?_ ?_;(focus first|rfl|skip))))))
   exact rvm_int rfl rfl
 · rw [if_neg (by omega)] at hQ
   subst hQ
   (refine ⟨(by first|exact .inl rfl|exact .inr rfl),resM1 [(1000,1000)] rfl rfl ?_ ?_⟩;(focus (repeat (first|exact AllX.nil|(refine AllX.cons rfl ?_ ?_;(focus first|rfl|skip))))))
   exact rvm_int rfl rfl
theorem r_Bool:FnM Tryz.prog 106 [rdC] [(1000,rdBox l e)] (bC ((withinSt 0 1 l e).1 == 1)) [(1000,rdBox (withinSt 0 1 l e).2.1 (withinSt 0 1 l e).2.2)]:=by
 refine fmi Tryz.func106 Tryz.ntmps106 ?_
 (have kr1:=r_Within l e 0 1;refine w0 ?_;(repeat' first|refine W2.mk ?_ ?_|refine W1.mk fun hc=>?_);all_goals clear kr1)
 (refine ⟨(by first|exact .inl rfl|exact .inr rfl),resM1 [(1000,1000)] rfl rfl ?_ ?_⟩;(focus (repeat (first|exact AllX.nil|(refine AllX.cons rfl ?_ ?_;(focus first|rfl|skip))))))
 exact rvm_bool rfl rfl
theorem r_End:FnM Tryz.prog 68 [rdC] [(1000,rdBox l e)] (iC .i64 (endSt l e)) [(1000,rdBox l e)]:=by
 unfold endSt
 refine fmi Tryz.func68 Tryz.ntmps68 ?_
 (have kr1:=r_Err l e;have kr2:=r_Left l e;refine w0 ?_;(repeat' first|refine W2.mk ?_ ?_|refine W1.mk fun hc=>?_);all_goals clear kr2 kr1)
 all_goals (refine ⟨(by first|exact .inl rfl|exact .inr rfl),resM1 [(1000,1000)] rfl rfl ?_ ?_⟩;(focus (repeat (first|exact AllX.nil|(refine AllX.cons rfl ?_ ?_;(focus first|rfl|skip))))))
 · exact rvm_int rfl (by rw [if_pos (by omega)])
 · exact rvm_int rfl (by rw [if_neg (by omega)])
 · exact rvm_int rfl (by rw [if_neg (by omega)])
theorem withinSt_rng (most:Int) (h0:(withinSt 0 most l e).2.2 = 0):0 ≤ (withinSt 0 most l e).1 ∧ (withinSt 0 most l e).1 ≤ most:=by
 unfold withinSt at *
 split at h0
 · simp at h0
 · rename_i h
   rw [if_neg h]
   omega
theorem r_Text (most:Int):FnM Tryz.prog 130 [rdC,iC .i64 most] [(1000,rdBox l e)] (sC ⟨(textSt most l e).1.toArray⟩) [(1000,rdBox (textSt most l e).2.1 (textSt most l e).2.2)]:=by
 have hN:=r_Within l e 0 most
 have hrg:=withinSt_rng l e most
 generalize hQ:textSt most l e = Q at *
 unfold textSt at hQ
 generalize withinSt 0 most l e = q at *
 obtain ⟨m,l',e'⟩:=q
 simp only at hN hQ hrg
 by_cases h0:e' = 0
 · subst h0
   obtain ⟨h1,h2⟩:=hrg rfl
   rw [if_neg (by simp)] at hQ
   by_cases h3:(l'.length:Int) < m
   · rw [if_pos h3] at hQ
     subst hQ
     refine fmi Tryz.func130 Tryz.ntmps130 ?_
     (have kr1:=r_keep l e;have kr2:=hN;have kr3:=r_Err l' 0;have kr4:=r_Left l' 0;have kr5:=r_Fail l 0 10;refine w0 ?_;(repeat' first|refine W2.mk ?_ ?_|refine W1.mk fun hc=>?_);all_goals clear kr5 kr4 kr3 kr2 kr1)
     (refine ⟨(by first|exact .inl rfl|exact .inr rfl),resM1 [(1000,1000)] rfl rfl ?_ ?_⟩;(focus (repeat (first|exact AllX.nil|(refine AllX.cons rfl ?_ ?_;(focus first|rfl|skip))))))
     exact rvm_str rfl rfl
   · rw [if_neg h3] at hQ
     subst hQ
     obtain ⟨k,rfl⟩:=Int.eq_ofNat_of_zero_le h1
     have hk:k ≤ l'.length:=by omega
     refine fmi Tryz.func130 Tryz.ntmps130 ?_
     (have kr1:=r_keep l e;have kr2:=hN;have kr3:=r_Err l' 0;have kr4:=r_Left l' 0;refine w0 ?_;(repeat' first|refine W2.mk ?_ ?_|refine W1.mk fun hc=>?_);all_goals clear kr4 kr3 kr2 kr1)
     (refine ⟨(by first|exact .inl rfl|exact .inr rfl),resM1 [(1000,1000)] rfl rfl ?_ ?_⟩;(focus (repeat (first|exact AllX.nil|(refine AllX.cons rfl ?_ ?_;(focus first|rfl|skip))))))
     · exact rvm_str rfl rfl
 · rw [if_pos h0] at hQ
   subst hQ
   refine fmi Tryz.func130 Tryz.ntmps130 ?_
   (have kr1:=r_keep l e;have kr2:=hN;have kr3:=r_Err l' e';refine w0 ?_;(repeat' first|refine W2.mk ?_ ?_|refine W1.mk fun hc=>?_);all_goals clear kr3 kr2 kr1)
   (refine ⟨(by first|exact .inl rfl|exact .inr rfl),resM1 [(1000,1000)] rfl rfl ?_ ?_⟩;(focus (repeat (first|exact AllX.nil|(refine AllX.cons rfl ?_ ?_;(focus first|rfl|skip))))))
   exact rvm_str rfl rfl
theorem v_New (hl:l.length ≤ 1000000000):FnM Tryz.prog 66 [bytesB l] [] (.ptr 3000 0 0) [(3000,rdBox l 0)]:=by
 refine fmi Tryz.func66 Tryz.ntmps66 ?_
 (refine w0 ?_;(repeat' first|refine W2.mk ?_ ?_|refine W1.mk fun hc=>?_))
 refine ⟨.inl rfl,ResM_le (Le_fz 3 _ 5 1 rfl rfl) ?_⟩
 refine resM1 [(8,3000)] rfl rfl ?_ (rvm rfl rfl)
 (repeat (first|exact AllX.nil|(refine AllX.cons rfl ?_ ?_;(focus first|rfl|skip))))
end
end Go.Proofs.YthlffkjpklpkfaaGreat
namespace Go.Proofs.YthlffkjpklpkfaaGreat
open Go.RowKit
/-! what is left is always the end of the bytes -/
theorem numSt_suf (l:List UInt8) (e:Int):(numSt l e).2.1 <:+ l:=by
 unfold numSt
 split
 · exact List.suffix_refl l
 · split
   · exact List.suffix_refl l
   · exact List.drop_suffix _ _
theorem withinSt_suf (lo hi:Int) (l:List UInt8) (e:Int):(withinSt lo hi l e).2.1 <:+ l:=by
 unfold withinSt
 split
 · exact List.suffix_refl l
 · exact numSt_suf l e
theorem textSt_suf (most:Int) (l:List UInt8) (e:Int):(textSt most l e).2.1 <:+ l:=by
 unfold textSt
 split
 · exact withinSt_suf 0 most l e
 · split
   · exact List.suffix_refl l
   · exact (List.drop_suffix _ _).trans (withinSt_suf 0 most l e)
theorem suf_drop {b l:List UInt8} (h:l <:+ b):b.drop (b.length - l.length) = l ∧ l.length ≤ b.length:=by
 obtain ⟨t,rfl⟩:=h
 simp
/-- the references' reader: all bytes, where it stands, the first error -/
abbrev rrBox (b l:List UInt8) (e:Int):Blk:=.box 110 [.per (bysP b),iC .i64 ((b.length - l.length:Nat):Int),iC .i64 e]
theorem rdNum_rng (l:List UInt8):(rdNum l).1 ≤ 281474976710656 ∧ (rdNum l).2.1 ≤ l.length ∧ (rdNum l).2.1 ≤ 8 ∧ ((rdNum l).2.2 ≠ 0 → (rdNum l).1 = 0 ∧ (rdNum l).2.1 = 0):=by
 unfold rdNum
 have:=lead_le l
 split
 · simp
 · split
   · simp
   · split
     · simp
     · rename_i h1 h2 h3
       refine ⟨?_,by simp only;omega,by simp only;omega,fun h=>absurd rfl h⟩
       unfold rdBad at h3
       simp only;omega
section
theorem rr_Right (n:Int):Fn Tryz.prog 138 [iC .i64 n] (boR (decide (0 ≤ n ∧ n ≤ 281474976710656))):=by
 refine fi Tryz.func138 Tryz.ntmps138 ?_
 (refine w0 ?_;(repeat' first|refine W2.mk ?_ ?_|refine W1.mk fun hc=>?_))
 all_goals refine rt1 ?_
 · exact rv_bool rfl (by simp;omega)
 · exact rv_bool rfl (by simp;omega)
theorem rr_num (b:List UInt8):Fn Tryz.prog 100 [bytesB b] (.tup3 (.per (rawP (.int .i64 ((rdNum b).1:Nat)))) (.per (rawP (.int .i64 ((rdNum b).2.1:Nat)))) (.per (rawP (.int .i64 (rdNum b).2.2)))):=by
 have hll:=lead_le b
 generalize hQ:rdNum b = Q at *
 refine fi Tryz.func100 Tryz.ntmps100 ?_
 (refine w0 ?_;(repeat' first|refine W2.mk ?_ ?_|refine W1.mk fun hc=>?_))
 refine AW_loopP (fun k=>k ≤ lead b ∧ k ≤ 8) (fun k=>mkSt [(0,bytesB b),(5,iC .i64 (k:Nat))] []) (fun k=>8 - k) 0 ⟨Nat.zero_le _,by omega⟩ ?_ ?_
 · exact le_auto
 · rintro k ⟨hk,hk8⟩
   have hst:=lead_step b k
   by_cases hkl:k < b.length
   · have h1:=hst hkl hk
     by_cases hk7:k < 8
     · by_cases hbig:128 ≤ b[k].toNat
       · have h2:=h1.1 hbig
         (refine w0 ?_;(repeat' first|refine W2.mk ?_ ?_|refine W1.mk fun hc=>?_))
         refine ⟨k + 1,⟨by omega,by omega⟩,by omega,?_⟩
         exact le_auto
       · have h2:=h1.2 (by omega)
         clear h1 hst
         have h128:∀ k,k ≤ lead b + 1 → leVal ((b.take (lead b + 1)).drop k) ≤ 72057594037927935:=by
           intro k hk
           have h1:=leVal_lt ((b.take (lead b + 1)).drop k)
           have h2:(128:Nat) ^ ((b.take (lead b + 1)).drop k).length ≤ 128 ^ 8:=Nat.pow_le_pow_right (by decide) (by simp;omega)
           have h3:(128:Nat) ^ 8 = 72057594037927936:=by decide
           omega
         have hbad:rdBad b ↔ ((k > 0 ∧ b[k].toNat = 0) ∨ leVal (b.take (k + 1)) > 281474976710656):=by
           unfold rdBad
           have h0:b[lead b]? = some 0 ↔ b[k].toNat = 0:=by
             rw [h2,List.getElem?_eq_getElem hkl,Option.some.injEq,← UInt8.toNat_inj];rfl
           rw [h0,h2]
         rw [h2] at h128
         have hQ2:Q = if rdBad b then (0,0,11) else (leVal (b.take (k + 1)),k + 1,0):=by
           rw [← hQ]
           unfold rdNum
           rw [if_neg (by omega),if_neg (by omega),h2]
         clear hQ
         (refine w0 ?_;(repeat' first|refine W2.mk ?_ ?_|refine W1.mk fun hc=>?_))
         refine AW_loopP (fun j=>j ≤ k + 1) (fun j=>mkSt [(0,bytesB b),(5,iC .i64 (k:Nat)),(6,iC .i64 (leVal ((b.take (k + 1)).drop j):Nat)),(7,iC .i64 ((j:Int) - 1))] []) (fun j=>j) (k + 1) (Nat.le_refl _) ?_ ?_
         · have h0:(b.take (k + 1)).drop (k + 1) = []:=by simp
           rw [h0]
           exact le_auto
         · intro j hj
           cases j with
           | succ j=>
             have hv:=leVal_drop (b.take (k + 1)) j (by simp;omega)
             have hb1:=h128 j (by omega)
             have hb2:=h128 (j + 1) (by omega)
             rw [List.getElem_take] at hv
             rw [show ((j + 1:Nat):Int) - 1 = (j:Int) by omega]
             (refine w0 ?_;(repeat' first|refine W2.mk ?_ ?_|refine W1.mk fun hc=>?_))
             refine ⟨j,by omega,by omega,?_⟩
             exact le_auto
           | zero=>
             rw [List.drop_zero]
             have hb1:=h128 0 (by omega)
             rw [List.drop_zero] at hb1
             (refine w0 ?_;(repeat' (first|refine W2.mk ?_ ?_|refine W1.mk fun hc=>?_|((first|apply AL_t rfl|apply AL_0 rfl|apply AD_t rfl|apply AD_0 rfl);(focus (first|exact c_A (rr_Right _)|(apply u_g;(focus rfl);apply op_gyes rfl rfl rfl rfl rfl;first|exact c_A (rr_Right _))));refine w0 ?_))))
             · rw [if_pos (hbad.2 (.inl ⟨by omega,by omega⟩))] at hQ2
               subst hQ2
               refine ⟨.inl rfl,res3 rfl (rv_int rfl rfl) (rv_int rfl rfl) (rv_int rfl rfl)⟩
             · rw [if_pos (hbad.2 (.inr (by omega)))] at hQ2
               subst hQ2
               refine ⟨.inl rfl,res3 rfl (rv_int rfl rfl) (rv_int rfl rfl) (rv_int rfl rfl)⟩
             · rw [if_neg (fun h=>by have:=hbad.1 h;omega)] at hQ2
               subst hQ2
               refine ⟨.inl rfl,res3 rfl (rv_int rfl rfl) (rv_int rfl rfl) (rv_int rfl rfl)⟩
             · rw [if_pos (hbad.2 (.inr (by omega)))] at hQ2
               subst hQ2
               refine ⟨.inl rfl,res3 rfl (rv_int rfl rfl) (rv_int rfl rfl) (rv_int rfl rfl)⟩
             · rw [if_neg (fun h=>by have:=hbad.1 h;omega)] at hQ2
               subst hQ2
               refine ⟨.inl rfl,res3 rfl (rv_int rfl rfl) (rv_int rfl rfl) (rv_int rfl rfl)⟩
     · have hQ2:Q = (0,0,11):=by
         rw [← hQ];unfold rdNum;rw [if_pos (by omega)]
       subst hQ2
       (refine w0 ?_;(repeat' first|refine W2.mk ?_ ?_|refine W1.mk fun hc=>?_))
       refine ⟨.inl rfl,res3 rfl (rv_int rfl rfl) (rv_int rfl rfl) (rv_int rfl rfl)⟩
   · by_cases h8:k = 8
     · have hQ2:Q = (0,0,11):=by
         rw [← hQ];unfold rdNum;rw [if_pos (by omega)]
       subst hQ2
       (refine w0 ?_;(repeat' first|refine W2.mk ?_ ?_|refine W1.mk fun hc=>?_))
       refine ⟨.inl rfl,res3 rfl (rv_int rfl rfl) (rv_int rfl rfl) (rv_int rfl rfl)⟩
     · have hQ2:Q = (0,0,10):=by
         rw [← hQ];unfold rdNum;rw [if_neg (by omega),if_pos (by omega)]
       subst hQ2
       (refine w0 ?_;(repeat' first|refine W2.mk ?_ ?_|refine W1.mk fun hc=>?_))
       refine ⟨.inl rfl,res3 rfl (rv_int rfl rfl) (rv_int rfl rfl) (rv_int rfl rfl)⟩
end
end Go.Proofs.YthlffkjpklpkfaaGreat
namespace Go.Proofs.YthlffkjpklpkfaaGreat
open Go.RowKit
theorem adv {b l l':List UInt8} (h:l <:+ b) {k:Nat} (hk:k ≤ l.length) (h':l' = l.drop k):b.length - l.length + k = b.length - l'.length:=by
 have:=(suf_drop h).2
 rw [h',List.length_drop];omega
theorem withinSt_e {lo hi:Int} {l:List UInt8} {e:Int} (h:e ≠ 0):withinSt lo hi l e = (0,l,e):=by
 unfold withinSt numSt
 simp [h]
theorem withinSt_0 (lo hi:Int) (l:List UInt8):withinSt lo hi l 0 = if (rdNum l).2.2 ≠ 0 then (0,l,(rdNum l).2.2) else if ((rdNum l).1:Int) < lo ∨ hi < ((rdNum l).1:Int) then (0,l,11) else (((rdNum l).1:Int),l.drop (rdNum l).2.1,0):=by
 unfold withinSt numSt
 by_cases h:(rdNum l).2.2 = 0
 · simp [h]
 · simp [h]
section
variable (b l:List UInt8) (e:Int) (hs:l <:+ b) (hb:b.length ≤ 1000000000000)
include hs hb
theorem rr_Within (lo hi:Int):FnM Tryz.prog 58 [rdC,iC .i64 lo,iC .i64 hi] [(1000,rrBox b l e)] (iC .i64 (withinSt lo hi l e).1) [(1000,rrBox b (withinSt lo hi l e).2.1 (withinSt lo hi l e).2.2)]:=by
 obtain ⟨hd,hlen⟩:=suf_drop hs
 have hn:=rr_num (b.drop (b.length - l.length))
 rw [show rdNum (b.drop (b.length - l.length)) = rdNum l by rw [hd]] at hn
 obtain ⟨r1,r2,r3,r4⟩:=rdNum_rng l
 by_cases h0:e = 0
 · subst h0
   rw [withinSt_0]
   have ha:=adv hs r2 rfl
   generalize rdNum l = q at *
   obtain ⟨m,k,e'⟩:=q
   simp only at hn r1 r2 r3 r4 ha ⊢
   by_cases h1:e' = 0
   · subst h1
     rw [if_neg (by simp)]
     by_cases h2:(m:Int) < lo ∨ hi < (m:Int)
     · rw [if_pos h2]
       refine fmi Tryz.func58 Tryz.ntmps58 ?_
       (have kc1:=hn;refine w0 ?_;(repeat' first|refine W2.mk ?_ ?_|refine W1.mk fun hc=>?_);all_goals clear kc1)
       all_goals (refine ⟨(by first|exact .inl rfl|exact .inr rfl),resM1 [(1000,1000)] rfl rfl ?_ ?_⟩;(focus (repeat (first|exact AllX.nil|(refine AllX.cons rfl ?_ ?_;(focus first|rfl|skip))))))
       all_goals exact rvm_int rfl rfl
     · rw [if_neg h2]
       refine fmi Tryz.func58 Tryz.ntmps58 ?_
       (have kc1:=hn;refine w0 ?_;(repeat' first|refine W2.mk ?_ ?_|refine W1.mk fun hc=>?_);all_goals clear kc1)
       rw [show ((b.length - l.length:Nat):Int) + (k:Int) = ((b.length - (l.drop k).length:Nat):Int) by omega]
       (refine ⟨(by first|exact .inl rfl|exact .inr rfl),resM1 [(1000,1000)] rfl rfl ?_ ?_⟩;(focus (repeat (first|exact AllX.nil|(refine AllX.cons rfl ?_ ?_;(focus first|rfl|skip))))))
       exact rvm_int rfl rfl
   · rw [if_pos h1]
     obtain ⟨rfl,rfl⟩:=r4 h1
     refine fmi Tryz.func58 Tryz.ntmps58 ?_
     (have kc1:=hn;refine w0 ?_;(repeat' first|refine W2.mk ?_ ?_|refine W1.mk fun hc=>?_);all_goals clear kc1)
     (refine ⟨(by first|exact .inl rfl|exact .inr rfl),resM1 [(1000,1000)] rfl rfl ?_ ?_⟩;(focus (repeat (first|exact AllX.nil|(refine AllX.cons rfl ?_ ?_;(focus first|rfl|skip))))))
     exact rvm_int rfl rfl
 · rw [withinSt_e h0]
   refine fmi Tryz.func58 Tryz.ntmps58 ?_
   (refine w0 ?_;(repeat' first|refine W2.mk ?_ ?_|refine W1.mk fun hc=>?_))
   (refine ⟨(by first|exact .inl rfl|exact .inr rfl),resM1 [(1000,1000)] rfl rfl ?_ ?_⟩;(focus (repeat (first|exact AllX.nil|(refine AllX.cons rfl ?_ ?_;(focus first|rfl|skip))))))
   exact rvm_int rfl rfl
omit hb in
theorem rr_End:FnM Tryz.prog 61 [rdC] [(1000,rrBox b l e)] (iC .i64 (endSt l e)) [(1000,rrBox b l e)]:=by
 obtain ⟨hd,hlen⟩:=suf_drop hs
 unfold endSt
 refine fmi Tryz.func61 Tryz.ntmps61 ?_
 (refine w0 ?_;(repeat' first|refine W2.mk ?_ ?_|refine W1.mk fun hc=>?_))
 all_goals (refine ⟨(by first|exact .inl rfl|exact .inr rfl),resM1 [(1000,1000)] rfl rfl ?_ ?_⟩;(focus (repeat (first|exact AllX.nil|(refine AllX.cons rfl ?_ ?_;(focus first|rfl|skip))))))
 · exact rvm_int rfl (by rw [if_pos (by omega)])
 · exact rvm_int rfl (by rw [if_neg (by omega)])
 · exact rvm_int rfl (by rw [if_neg (by omega)])
theorem rr_Text (most:Int):FnM Tryz.prog 60 [rdC,iC .i64 most] [(1000,rrBox b l e)] (sC ⟨(textSt most l e).1.toArray⟩) [(1000,rrBox b (textSt most l e).2.1 (textSt most l e).2.2)]:=by
 obtain ⟨hd,hlen⟩:=suf_drop hs
 have hW:=rr_Within b l e hs hb 0 most
 have hrg:=withinSt_rng l e most
 have hsuf:=(withinSt_suf 0 most l e).trans hs
 generalize hQ:textSt most l e = Q at *
 unfold textSt at hQ
 generalize withinSt 0 most l e = q at *
 obtain ⟨m,l',e'⟩:=q
 simp only at hW hQ hrg hsuf
 obtain ⟨hd',hlen'⟩:=suf_drop hsuf
 by_cases h0:e' = 0
 · subst h0
   obtain ⟨h1,h2⟩:=hrg rfl
   rw [if_neg (by simp)] at hQ
   by_cases h3:(l'.length:Int) < m
   · rw [if_pos h3] at hQ
     subst hQ
     refine fmi Tryz.func60 Tryz.ntmps60 ?_
     (have kr1:=hW;refine w0 ?_;(repeat' first|refine W2.mk ?_ ?_|refine W1.mk fun hc=>?_);all_goals clear kr1)
     (refine ⟨(by first|exact .inl rfl|exact .inr rfl),resM1 [(1000,1000)] rfl rfl ?_ ?_⟩;(focus (repeat (first|exact AllX.nil|(refine AllX.cons rfl ?_ ?_;(focus first|rfl|skip))))))
     exact rvm_str rfl rfl
   · rw [if_neg h3] at hQ
     subst hQ
     obtain ⟨k,rfl⟩:=Int.eq_ofNat_of_zero_le h1
     have hk:k ≤ l'.length:=by omega
     refine fmi Tryz.func60 Tryz.ntmps60 ?_
     (have kr1:=hW;refine w0 ?_;(repeat' first|refine W2.mk ?_ ?_|refine W1.mk fun hc=>?_);all_goals clear kr1)
     rw [show ((b.length - l'.length:Nat):Int) + (k:Int) = ((b.length - (l'.drop k).length:Nat):Int) by rw [List.length_drop];omega,show b.length - l'.length + k - (b.length - l'.length) = k by omega,hd']
     (refine ⟨(by first|exact .inl rfl|exact .inr rfl),resM1 [(1000,1000)] rfl rfl ?_ ?_⟩;(focus (repeat (first|exact AllX.nil|(refine AllX.cons rfl ?_ ?_;(focus first|rfl|skip))))))
     exact rvm_str rfl rfl
 · rw [if_pos h0] at hQ
   subst hQ
   refine fmi Tryz.func60 Tryz.ntmps60 ?_
   (have kr1:=hW;refine w0 ?_;(repeat' first|refine W2.mk ?_ ?_|refine W1.mk fun hc=>?_);all_goals clear kr1)
   (refine ⟨(by first|exact .inl rfl|exact .inr rfl),resM1 [(1000,1000)] rfl rfl ?_ ?_⟩;(focus (repeat (first|exact AllX.nil|(refine AllX.cons rfl ?_ ?_;(focus first|rfl|skip))))))
   exact rvm_str rfl rfl
end
end Go.Proofs.YthlffkjpklpkfaaGreat
