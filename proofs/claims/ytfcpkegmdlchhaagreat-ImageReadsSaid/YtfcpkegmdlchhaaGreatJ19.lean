/- Texts joined: CrcP FrP MsP Law19L MsL. -/
import Derived.Test.YtfcpkegmdlchhaaGreatJ01
import Derived.Test.YtfcpkegmdlchhaaGreatJ06
import Derived.Test.YtfcpkegmdlchhaaGreatJ10
import Derived.Test.YtfcpkegmdlchhaaGreatJ17
import Derived.Test.YtfcpkegmdlchhaaGreatJ11
import Derived.Test.YtfcpkegmdlchhaaGreatJ18
set_option maxRecDepth 10000
set_option maxHeartbeats 8000000
namespace Go.Proofs.YtfcpkegmdlchhaaGreat
end Go.Proofs.YtfcpkegmdlchhaaGreat
namespace Go.Proofs.YtfcpkegmdlchhaaGreat
def isNum (n:Int):Bool:=decide (0 ≤ n ∧ n ≤ 281474976710656)
def txB (l:List UInt8):List UInt8:=textB ⟨l.toArray⟩
/-! ### read -/
abbrev maxN:Int:=281474976710656
theorem alike_take (a b:ByteArray):a.extract 0 (alike a b) ++ cutS b (alike a b) = b:=by
 have key:∀ (l m:List UInt8),l.take (alikeL l m) = m.take (alikeL l m):=by
   intro l
   induction l with
   | nil=>intro m;simp [alikeL]
   | cons x l ih=>
     intro m
     cases m with
     | nil=>simp [alikeL]
     | cons y m=>
       unfold alikeL
       split
       · rename_i h;rw [List.take_succ_cons,List.take_succ_cons,h,ih]
       · simp
 have h1:(a.extract 0 (alike a b) ++ cutS b (alike a b)).data.toList = b.data.toList:=by
   rw [ByteArray.data_append,Array.toList_append,extract_list]
   unfold cutS
   rw [ByteArray.data_extract,Array.toList_extract]
   unfold alike
   rw [key]
   simp only [List.extract]
   rw [List.take_of_length_le (l:=List.drop _ _) (by simp),List.take_append_drop]
 cases b with|mk d=>
 cases hh:(a.extract 0 (alike a ⟨d⟩) ++ cutS ⟨d⟩ (alike a ⟨d⟩)) with|mk d'=>
 rw [hh] at h1
 simp only at h1
 rw [Array.toList_inj.1 h1]
theorem go_put:∀ (l:List It) (was:ByteArray) (acc:List It) (r:List UInt8),l.all itR = true → was.size ≤ 16 → rdsGo l.length was true acc (itemsT was l ++ r) 0 = (acc ++ l,true,r,0):=by
 intro l
 induction l with
 | nil=>intro was acc r _ _;simp [rdsGo,itemsT]
 | cons x l ih=>
   intro was acc r hall hw
   rw [List.all_cons,Bool.and_eq_true] at hall
   obtain ⟨hx,hl⟩:=hall
   have hk:=itR_nums hx
   have hal:=alike_le was x.key
   rw [List.length_cons,rdsGo,if_neg (by simp)]
   have hkey:rdKey was (itemsT was (x :: l) ++ r) 0 = ((alike was x.key:Int),x.key,restB x ++ (itemsT x.key l ++ r),0):=by
     dsimp only [rdKey]
     rw [itemsT,List.append_assoc,List.append_assoc,List.append_assoc]
     rw [within_put (by unfold okNum;omega) (by omega) (by omega)]
     dsimp only
     rw [text_put (by rw [cutS_size];omega) (by rw [cutS_size];omega)]
     dsimp only
     rw [ba_eta,Int.toNat_natCast,alike_take]
   rw [hkey]
   dsimp only
   rw [rest_put hx]
   dsimp only
   rw [hx]
   simp only [Bool.and_self,beq_self_eq_true]
   rw [ih _ _ _ hl (by omega)]
   simp
theorem rdItems_put {l:List It} (h:l.all itR = true) (hl:l.length ≤ 4096):rdItems (itemsB l) = (l,0):=by
 unfold rdItems rdIn itemsB
 dsimp only
 rw [within_put (by unfold okNum;omega) (by omega) (by omega)]
 dsimp only
 rw [Int.toNat_natCast]
 have:=go_put l s0 [] [] h (by decide)
 rw [List.append_nil] at this
 rw [this]
 simp [finI,endSt]
theorem ba_ext {a b:ByteArray} (h:a.data.toList = b.data.toList):a = b:=by
 cases a;cases b
 simp only at h
 rw [Array.toList_inj.1 h]
theorem cutS_app (a b:ByteArray) (n:Nat) (h:n = a.size):cutS (a ++ b) n = b:=by
 apply ba_ext
 unfold cutS
 rw [ByteArray.data_extract,Array.toList_extract,ByteArray.data_append,Array.toList_append]
 simp only [List.extract]
 have hl:a.data.toList.length = n:=by rw [h];simp
 rw [List.drop_append_of_le_length (by omega),List.drop_of_length_le (by omega),List.nil_append,List.take_of_length_le]
 rw [ByteArray.size_append,h]
 simp
theorem go_back:∀ (n:Nat) (was:ByteArray) (f:Bool) (acc:List It) (l:List UInt8) (e:Int),(rdsGo n was f acc l e).2.2.2 = 0 → (rdsGo n was f acc l e).2.1 = true →
   e = 0 ∧ f = true ∧ ∃ m:List It,(rdsGo n was f acc l e).1 = acc ++ m ∧ m.length = n ∧ m.all itR = true ∧ l = itemsT was m ++ (rdsGo n was f acc l e).2.2.1:=by
 intro n
 induction n with
 | zero=>intro was f acc l e h1 h2;exact ⟨h1,h2,[],by simp [rdsGo],rfl,rfl,by simp [rdsGo,itemsT]⟩
 | succ n ih=>
   intro was f acc l e h1 h2
   unfold rdsGo at h1 h2 ⊢
   by_cases he:e = 0
   · subst he
     rw [if_neg (by simp)] at h1 h2 ⊢
     dsimp only at h1 h2 ⊢
     obtain ⟨g1,g2,m,g3,g4,g5,g6⟩:=ih _ _ _ _ _ h1 h2
     rw [Bool.and_eq_true,Bool.and_eq_true,beq_iff_eq] at g2
     obtain ⟨⟨q1,q2⟩,q3⟩:=g2
     obtain ⟨r1,r2,r3⟩:=rest_back g1
     have hks:=rdKey_size was l 0
     have hkd:rdKey was l 0 = ((withinSt 0 was.size l 0).1,was.extract 0 (withinSt 0 was.size l 0).1.toNat ++ ⟨(textSt 16 (withinSt 0 was.size l 0).2.1 (withinSt 0 was.size l 0).2.2).1.toArray⟩,(textSt 16 (withinSt 0 was.size l 0).2.1 (withinSt 0 was.size l 0).2.2).2.1,(textSt 16 (withinSt 0 was.size l 0).2.1 (withinSt 0 was.size l 0).2.2).2.2):=rfl
     refine ⟨rfl,q1,(restSt (rdKey was l 0).2.1 (rdKey was l 0).2.2.1 (rdKey was l 0).2.2.2).1 :: m,by rw [g3];simp,by simp [g4],by simp [q2,g5],?_⟩
     generalize hX:restSt (rdKey was l 0).2.1 (rdKey was l 0).2.2.1 (rdKey was l 0).2.2.2 = X at *
     rw [itemsT,r3]
     generalize hK:rdKey was l 0 = K at *
     obtain ⟨k0,k1,k2,k3⟩:=K
     simp only at hks q3 r1 r2 r3 g6 ⊢
     cases hkd
     obtain ⟨t1,_,t3⟩:=text_back r1
     obtain ⟨_,_,_,_,w5⟩:=within_back t1
     generalize withinSt 0 was.size l 0 = S at *
     generalize textSt 16 S.2.1 S.2.2 = T at *
     obtain ⟨_,hk2,hk3⟩:=hks
     have hn:alike was (was.extract 0 S.1.toNat ++ ⟨T.1.toArray⟩) = S.1.toNat:=by omega
     rw [q3] at g6
     rw [q3,hn,cutS_app _ _ _ (by simp;omega),List.append_assoc,List.append_assoc,List.append_assoc,← g6,← r2,← t3,← w5]
   · rw [if_pos he] at h1
     exact absurd h1 he
/-- what is read was put just so -/
theorem rdItems_back {b:List UInt8} (h:(rdItems b).2 = 0):(rdItems b).1.all itR = true ∧ (rdItems b).1.length ≤ 4096 ∧ itemsB (rdItems b).1 = b:=by
 unfold rdItems finI at h ⊢
 split at h
 · rename_i hc;exact absurd h hc
 · rename_i hc
   rw [if_neg hc]
   split at h
   · simp at h
   · rename_i hf
     rw [if_neg hf]
     obtain ⟨e1,e2⟩:=end_back (by simpa using hc)
     have hf':(rdIn b 0).2.1 = true:=by simpa using hf
     unfold rdIn at e1 e2 hf' ⊢
     dsimp only at e1 e2 hf' ⊢
     obtain ⟨g1,_,m,g3,g4,g5,g6⟩:=go_back _ _ _ _ _ _ e2 hf'
     obtain ⟨_,w2,w3,w4,w5⟩:=within_back g1
     rw [g3,List.nil_append]
     refine ⟨g5,by omega,?_⟩
     rw [e1,List.append_nil] at g6
     unfold itemsB
     rw [g4,← g6,Int.toNat_of_nonneg w3,← w5]
end Go.Proofs.YtfcpkegmdlchhaaGreat
namespace Go.Proofs.YtfcpkegmdlchhaaGreat
theorem isNum_ok {n:Int} (h:isNum n = true):okNum n:=by
 unfold isNum at h
 exact (of_decide_eq_true h:0 ≤ n ∧ n ≤ 281474976710656)
/-! ### what was read was put just so -/
end Go.Proofs.YtfcpkegmdlchhaaGreat
