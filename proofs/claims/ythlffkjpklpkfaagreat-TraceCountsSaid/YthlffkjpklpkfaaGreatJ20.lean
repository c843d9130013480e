/- Texts joined: Law19L MsL MsQ MixR. -/
import Derived.Test.YthlffkjpklpkfaaGreatJ12
import Derived.Test.YthlffkjpklpkfaaGreatJ07
import Derived.Test.YthlffkjpklpkfaaGreatJ19
import Derived.Test.YthlffkjpklpkfaaGreatJ17
import Derived.Test.YthlffkjpklpkfaaGreatJ08
import Derived.Laws.BitsAllLaws
import Derived.Laws.IdiomStrings
set_option maxRecDepth 10000
set_option maxHeartbeats 8000000
namespace Go.Proofs.YthlffkjpklpkfaaGreat
open Go.RowKit
theorem alike_take (a b:ByteArray):a.extract 0 (alike a b) ++ cutS b (alike a b) = b:=by
 have key:∀ (l m:List UInt8),l.take (alikeL l m) = m.take (alikeL l m):=by
   intro l
   induction l with
   | nil=>intro m;simp [alikeL]
   | cons x l ih=>
     intro m
     cases m with
     | nil=>simp [alikeL]
     | cons y m=>
       unfold alikeL
       split
       · rename_i h;rw [List.take_succ_cons,List.take_succ_cons,h,ih]
       · simp
 have h1:(a.extract 0 (alike a b) ++ cutS b (alike a b)).data.toList = b.data.toList:=by
   rw [ByteArray.data_append,Array.toList_append,extract_list]
   unfold cutS
   rw [ByteArray.data_extract,Array.toList_extract]
   unfold alike
   rw [key]
   simp only [List.extract]
   rw [List.take_of_length_le (l:=List.drop _ _) (by simp),List.take_append_drop]
 cases b with|mk d=>
 cases hh:(a.extract 0 (alike a ⟨d⟩) ++ cutS ⟨d⟩ (alike a ⟨d⟩)) with|mk d'=>
 rw [hh] at h1
 simp only at h1
 rw [Array.toList_inj.1 h1]
theorem go_put:∀ (l:List It) (was:ByteArray) (acc:List It) (r:List UInt8),l.all itR = true → was.size ≤ 16 → rdsGo l.length was true acc (itemsT was l ++ r) 0 = (acc ++ l,true,r,0):=by
 intro l
 induction l with
 | nil=>intro was acc r _ _;simp [rdsGo,itemsT]
 | cons x l ih=>
   intro was acc r hall hw
   rw [List.all_cons,Bool.and_eq_true] at hall
   obtain ⟨hx,hl⟩:=hall
   have hk:=itR_nums hx
   have hal:=alike_le was x.key
   rw [List.length_cons,rdsGo,if_neg (by simp)]
   have hkey:rdKey was (itemsT was (x :: l) ++ r) 0 = ((alike was x.key:Int),x.key,restB x ++ (itemsT x.key l ++ r),0):=by
     dsimp only [rdKey]
     rw [itemsT,List.append_assoc,List.append_assoc,List.append_assoc]
     rw [within_put (by unfold okNum;omega) (by omega) (by omega)]
     dsimp only
     rw [text_put (by rw [cutS_size];omega) (by rw [cutS_size];omega)]
     dsimp only
     rw [ba_eta,Int.toNat_natCast,alike_take]
   rw [hkey]
   dsimp only
   rw [rest_put hx]
   dsimp only
   rw [hx]
   simp only [Bool.and_self,beq_self_eq_true]
   rw [ih _ _ _ hl (by omega)]
   simp
theorem rdItems_put {l:List It} (h:l.all itR = true) (hl:l.length ≤ 4096):rdItems (itemsB l) = (l,0):=by
 unfold rdItems rdIn itemsB
 dsimp only
 rw [within_put (by unfold okNum;omega) (by omega) (by omega)]
 dsimp only
 rw [Int.toNat_natCast]
 have:=go_put l s0 [] [] h (by decide)
 rw [List.append_nil] at this
 rw [this]
 simp [finI,endSt]
theorem ba_ext {a b:ByteArray} (h:a.data.toList = b.data.toList):a = b:=by
 cases a;cases b
 simp only at h
 rw [Array.toList_inj.1 h]
theorem cutS_app (a b:ByteArray) (n:Nat) (h:n = a.size):cutS (a ++ b) n = b:=by
 apply ba_ext
 unfold cutS
 rw [ByteArray.data_extract,Array.toList_extract,ByteArray.data_append,Array.toList_append]
 simp only [List.extract]
 have hl:a.data.toList.length = n:=by rw [h];simp
 rw [List.drop_append_of_le_length (by omega),List.drop_of_length_le (by omega),List.nil_append,List.take_of_length_le]
 rw [ByteArray.size_append,h]
 simp
theorem go_back:∀ (n:Nat) (was:ByteArray) (f:Bool) (acc:List It) (l:List UInt8) (e:Int),(rdsGo n was f acc l e).2.2.2 = 0 → (rdsGo n was f acc l e).2.1 = true →
   e = 0 ∧ f = true ∧ ∃ m:List It,(rdsGo n was f acc l e).1 = acc ++ m ∧ m.length = n ∧ m.all itR = true ∧ l = itemsT was m ++ (rdsGo n was f acc l e).2.2.1:=by
 intro n
 induction n with
 | zero=>intro was f acc l e h1 h2;exact ⟨h1,h2,[],by simp [rdsGo],rfl,rfl,by simp [rdsGo,itemsT]⟩
 | succ n ih=>
   intro was f acc l e h1 h2
   unfold rdsGo at h1 h2 ⊢
   by_cases he:e = 0
   · subst he
     rw [if_neg (by simp)] at h1 h2 ⊢
     dsimp only at h1 h2 ⊢
     obtain ⟨g1,g2,m,g3,g4,g5,g6⟩:=ih _ _ _ _ _ h1 h2
     rw [Bool.and_eq_true,Bool.and_eq_true,beq_iff_eq] at g2
     obtain ⟨⟨q1,q2⟩,q3⟩:=g2
     obtain ⟨r1,r2,r3⟩:=rest_back g1
     have hks:=rdKey_size was l 0
     have hkd:rdKey was l 0 = ((withinSt 0 was.size l 0).1,was.extract 0 (withinSt 0 was.size l 0).1.toNat ++ ⟨(textSt 16 (withinSt 0 was.size l 0).2.1 (withinSt 0 was.size l 0).2.2).1.toArray⟩,(textSt 16 (withinSt 0 was.size l 0).2.1 (withinSt 0 was.size l 0).2.2).2.1,(textSt 16 (withinSt 0 was.size l 0).2.1 (withinSt 0 was.size l 0).2.2).2.2):=rfl
     refine ⟨rfl,q1,(restSt (rdKey was l 0).2.1 (rdKey was l 0).2.2.1 (rdKey was l 0).2.2.2).1 :: m,by rw [g3];simp,by simp [g4],by simp [q2,g5],?_⟩
     generalize hX:restSt (rdKey was l 0).2.1 (rdKey was l 0).2.2.1 (rdKey was l 0).2.2.2 = X at *
     rw [itemsT,r3]
     generalize hK:rdKey was l 0 = K at *
     obtain ⟨k0,k1,k2,k3⟩:=K
     simp only at hks q3 r1 r2 r3 g6 ⊢
     cases hkd
     obtain ⟨t1,_,t3⟩:=text_back r1
     obtain ⟨_,_,_,_,w5⟩:=within_back t1
     generalize withinSt 0 was.size l 0 = S at *
     generalize textSt 16 S.2.1 S.2.2 = T at *
     obtain ⟨_,hk2,hk3⟩:=hks
     have hn:alike was (was.extract 0 S.1.toNat ++ ⟨T.1.toArray⟩) = S.1.toNat:=by omega
     rw [q3] at g6
     rw [q3,hn,cutS_app _ _ _ (by simp;omega),List.append_assoc,List.append_assoc,List.append_assoc,← g6,← r2,← t3,← w5]
   · rw [if_pos he] at h1
     exact absurd h1 he
/-- what is read was put just so -/
theorem rdItems_back {b:List UInt8} (h:(rdItems b).2 = 0):(rdItems b).1.all itR = true ∧ (rdItems b).1.length ≤ 4096 ∧ itemsB (rdItems b).1 = b:=by
 unfold rdItems finI at h ⊢
 split at h
 · rename_i hc;exact absurd h hc
 · rename_i hc
   rw [if_neg hc]
   split at h
   · simp at h
   · rename_i hf
     rw [if_neg hf]
     obtain ⟨e1,e2⟩:=end_back (by simpa using hc)
     have hf':(rdIn b 0).2.1 = true:=by simpa using hf
     unfold rdIn at e1 e2 hf' ⊢
     dsimp only at e1 e2 hf' ⊢
     obtain ⟨g1,_,m,g3,g4,g5,g6⟩:=go_back _ _ _ _ _ _ e2 hf'
     obtain ⟨_,w2,w3,w4,w5⟩:=within_back g1
     rw [g3,List.nil_append]
     refine ⟨g5,by omega,?_⟩
     rw [e1,List.append_nil] at g6
     unfold itemsB
     rw [g4,← g6,Int.toNat_of_nonneg w3,← w5]
end Go.Proofs.YthlffkjpklpkfaaGreat
namespace Go.Proofs.YthlffkjpklpkfaaGreat
theorem isNum_ok {n:Int} (h:isNum n = true):okNum n:=by
 unfold isNum at h
 exact (of_decide_eq_true h:0 ≤ n ∧ n ≤ 281474976710656)
theorem ok_isNum {n:Int} (h:okNum n):isNum n = true:=by
 unfold isNum
 exact decide_eq_true (show 0 ≤ n ∧ n ≤ 281474976710656 from h)
theorem bitI_ok (b:Bool):okNum (bitI b) ∧ 0 ≤ bitI b ∧ bitI b ≤ 1 ∧ (bitI b == 1) = b:=by cases b <;> exact ⟨⟨by decide,by decide⟩,by decide,by decide,by decide⟩
theorem hd_put {k s n:Int} (h1:1 ≤ k) (h2:k ≤ 6) (h3:1 ≤ s) (h4:isNum s = true) (h5:isNum n = true) (r:List UInt8):rdHd (numI k ++ (numI s ++ (numI n ++ r))) = ({ kind:=k,ses:=s,num:=n },r,0):=by
 have h4':=isNum_ok h4
 unfold rdHd
 rw [within_put ⟨by omega,by omega⟩ h1 h2]
 dsimp only
 rw [within_put h4' h3 h4'.2]
 dsimp only
 rw [num_put (isNum_ok h5)]
theorem ts_put:∀ (ps:List (List UInt8)),(∀ p ∈ ps,p.length ≤ 1000000000) → rdTs ps.length (ps.flatMap txB) 0 = (ps,[],0):=by
 intro ps
 induction ps with
 | nil=>intro _;rfl
 | cons p ps ih=>
   intro h
   have hp:=h p (by simp)
   have hs:(⟨p.toArray⟩:ByteArray).size = p.length:=by simp [ByteArray.size]
   rw [List.length_cons,List.flatMap_cons,rdTs,show txB p = textB ⟨p.toArray⟩ from rfl,text_put (by rw [hs];show (p.length:Int) ≤ 281474976710656;omega) (by rw [hs];omega)]
   dsimp only
   rw [ih (fun q hq=>h q (List.mem_cons_of_mem _ hq))]
/-- a message with its numbers alone -/
def numM (m:Msg):Msg:=
 if m.kind = 1 then { kind:=1,ses:=m.ses,num:=m.num,lim:=m.lim,seed:=m.seed,bits:=m.bits,wants:=m.wants }
 else if m.kind = 2 then { kind:=2,ses:=m.ses,num:=m.num,same:=m.same }
 else if m.kind = 3 then { kind:=3,ses:=m.ses,num:=m.num,nxt:=m.nxt }
 else if m.kind = 5 then { kind:=5,ses:=m.ses,num:=m.num,nxt:=m.nxt,last:=m.last }
 else if m.kind = 6 then { kind:=6,ses:=m.ses,num:=m.num,err:=m.err }
 else { kind:=m.kind,ses:=m.ses,num:=m.num }
theorem msR_parts {m:Msg} (h:msR m = true):1 ≤ m.ses ∧ isNum m.ses = true ∧ isNum m.num = true ∧ 1 ≤ m.kind ∧ m.kind ≤ 6 ∧
   (m.kind = 1 → isNum m.lim = true ∧ isNum m.seed = true ∧ 0 ≤ m.bits ∧ m.bits ≤ 64 ∧ rgsOk m.flt ∧ pcsOk m.know ∧ (m.there = [] ∨ (rdBl m.there).2 = 0)) ∧
   (m.kind = 3 → isNum m.nxt = true) ∧ (m.kind = 4 → rgR m.rg = true) ∧
   (m.kind = 5 → isNum m.nxt = true ∧ m.its.length ≤ 4096 ∧ ulk m.its = true ∧ pcsOk m.know ∧ (m.last = true ∨ m.know = [])) ∧ (m.kind = 6 → 1 ≤ m.err ∧ isNum m.err = true):=by
 unfold msR at h
 simp only [Bool.and_eq_true,decide_eq_true_eq] at h
 obtain ⟨⟨⟨h1,h2⟩,h3⟩,h4⟩:=h
 refine ⟨h1,h2,h3,?_⟩
 by_cases k1:m.kind = 1
 · rw [if_pos k1] at h4
   simp only [Bool.and_eq_true,Bool.or_eq_true,decide_eq_true_eq] at h4
   exact ⟨by omega,by omega,fun _=>⟨h4.1.1.1.1.1,h4.1.1.1.1.2,h4.1.1.1.2.1,h4.1.1.1.2.2,h4.1.1.2,h4.1.2,h4.2⟩,fun q=>by omega,fun q=>by omega,fun q=>by omega,fun q=>by omega⟩
 rw [if_neg k1] at h4
 by_cases k3:m.kind = 3
 · rw [if_pos k3] at h4
   exact ⟨by omega,by omega,fun q=>absurd q k1,fun _=>h4,fun q=>by omega,fun q=>by omega,fun q=>by omega⟩
 rw [if_neg k3] at h4
 by_cases k4:m.kind = 4
 · rw [if_pos k4] at h4
   exact ⟨by omega,by omega,fun q=>absurd q k1,fun q=>absurd q k3,fun _=>h4,fun q=>by omega,fun q=>by omega⟩
 rw [if_neg k4] at h4
 by_cases k5:m.kind = 5
 · rw [if_pos k5] at h4
   simp only [Bool.and_eq_true,Bool.or_eq_true,decide_eq_true_eq] at h4
   exact ⟨by omega,by omega,fun q=>absurd q k1,fun q=>absurd q k3,fun q=>absurd q k4,fun _=>⟨h4.1.1.1.1,h4.1.1.1.2,h4.1.1.2,h4.1.2,h4.2⟩,fun q=>by omega⟩
 rw [if_neg k5] at h4
 simp only [Bool.and_eq_true,Bool.or_eq_true,decide_eq_true_eq] at h4
 refine ⟨by omega,by omega,fun q=>absurd q k1,fun q=>absurd q k3,fun q=>absurd q k4,fun q=>absurd q k5,fun q=>?_⟩
 rcases h4 with h4|h4
 · omega
 · exact ⟨h4.1.2,h4.2⟩
theorem ns_put {m:Msg} (h:msR m = true) (r:List UInt8):rdNs { kind:=m.kind,ses:=m.ses,num:=m.num } (((msNums m).drop 3).flatMap numI ++ r) 0 = (numM m,r,0):=by
 obtain ⟨h1,h2,h3,h4,h5,k1,k3,k4,k5,k6⟩:=msR_parts h
 have e:(msNums m).drop 3 = (if m.kind = 1 then [m.lim,m.seed,m.bits,bitI m.wants] else if m.kind = 2 then [bitI m.same] else if m.kind = 3 then [m.nxt] else if m.kind = 5 then [m.nxt,bitI m.last] else if m.kind = 6 then [m.err] else []):=rfl
 rw [e]
 unfold rdNs numM
 dsimp only
 by_cases c1:m.kind = 1
 · obtain ⟨a1,a2,a3,a4,_⟩:=k1 c1
   obtain ⟨b1,b2,b3,b4⟩:=bitI_ok m.wants
   rw [if_pos c1,if_pos c1,if_pos c1]
   simp only [List.flatMap_cons,List.flatMap_nil,List.append_nil,List.append_assoc]
   rw [num_put (isNum_ok a1)]
   dsimp only
   rw [num_put (isNum_ok a2)]
   dsimp only
   rw [within_put ⟨by omega,by omega⟩ a3 a4]
   dsimp only
   rw [within_put b1 b2 b3]
   dsimp only
   rw [b4,c1]
 rw [if_neg c1,if_neg c1,if_neg c1]
 by_cases c2:m.kind = 2
 · obtain ⟨b1,b2,b3,b4⟩:=bitI_ok m.same
   rw [if_pos c2,if_pos c2,if_pos c2]
   simp only [List.flatMap_cons,List.flatMap_nil,List.append_nil]
   rw [within_put b1 b2 b3]
   dsimp only
   rw [b4,c2]
 rw [if_neg c2,if_neg c2,if_neg c2]
 by_cases c3:m.kind = 3
 · rw [if_pos c3,if_pos c3,if_pos c3]
   simp only [List.flatMap_cons,List.flatMap_nil,List.append_nil]
   rw [num_put (isNum_ok (k3 c3))]
   dsimp only
   rw [c3]
 rw [if_neg c3,if_neg c3,if_neg c3]
 by_cases c5:m.kind = 5
 · obtain ⟨b1,b2,b3,b4⟩:=bitI_ok m.last
   rw [if_pos c5,if_pos c5,if_pos c5]
   simp only [List.flatMap_cons,List.flatMap_nil,List.append_nil,List.append_assoc]
   rw [num_put (isNum_ok (k5 c5).1)]
   dsimp only
   rw [within_put b1 b2 b3]
   dsimp only
   rw [b4,c5]
 rw [if_neg c5,if_neg c5,if_neg c5]
 by_cases c6:m.kind = 6
 · obtain ⟨a1,a2⟩:=k6 c6
   have a2:=isNum_ok a2
   rw [if_pos c6,if_pos c6,if_pos c6]
   simp only [List.flatMap_cons,List.flatMap_nil,List.append_nil]
   rw [within_put a2 a1 a2.2]
   dsimp only
   rw [c6]
 rw [if_neg c6,if_neg c6,if_neg c6]
 rfl
theorem numL_oct (s:Nat) (h:s < 18446744073709551616):numL (oct s) = s:=by
 unfold oct
 simp only [List.range,List.range.loop,List.map_cons,List.map_nil,numL,UInt8.toNat_ofNat']
 omega
theorem oct_numL {l:List UInt8} (h:l.length = 8):oct (numL l) = l:=by
 have hl:(oct (numL l)).length = l.length:=by rw [h];simp [oct]
 have:=numL_lt l
 rw [h] at this
 exact numL_inj hl (numL_oct _ this)
theorem ulk_all:∀ {l:List It},ulk l = true → l.all itR = true:=by
 intro l
 induction l with
 | nil=>intro _;rfl
 | cons x l ih=>
   intro h
   rw [ulk,Bool.and_eq_true,Bool.and_eq_true] at h
   rw [List.all_cons,Bool.and_eq_true]
   exact ⟨h.1,ih h.2.2⟩
theorem rgsOk_one {r:Rg} (h:rgR r = true):rgsOk [r]:=fun i hi=>by
 have hi:i = 0:=by simpa using hi
 subst hi
 exact ⟨h,fun h0=>absurd h0 (Nat.lt_irrefl 0)⟩
theorem ps_put {m:Msg} (h:msR m = true) (hf:m.flt.length ≤ 4096) (hk:fewK m.know) (hl:m.know.length ≤ 4096) (hs:m.sum < 18446744073709551616):rdPs (numM m) (msParts m) = (plainM m,0):=by
 obtain ⟨h1,h2,h3,h4,h5,k1,k3,k4,k5,k6⟩:=msR_parts h
 unfold rdPs numM plainM msParts
 by_cases c1:m.kind = 1
 · obtain ⟨a1,a2,a3,a4,a5,a6,a7⟩:=k1 c1
   simp only [c1,if_true,List.getD_cons_zero,List.getD_cons_succ]
   rw [rdRgs_put a5 hf,rdKnow_put a6 hk hl]
   simp
 by_cases c4:m.kind = 4
 · have a:=k4 c4
   simp [c4]
   rw [rdRgs_put (rgsOk_one a) (by simp)]
   have:(oct m.sum).length = 8:=by simp [oct]
   simp [this,num8,numL_oct _ hs]
 by_cases c5:m.kind = 5
 · obtain ⟨a1,a2,a3,a4,a5⟩:=k5 c5
   simp [c5]
   rw [rdItems_put (ulk_all a3) a2,rdKnow_put a4 hk hl]
   simp
 by_cases c2:m.kind = 2
 · simp [c2]
 by_cases c3:m.kind = 3
 · simp [c3]
 by_cases c6:m.kind = 6
 · simp [c6]
 · omega
theorem msR_plain (m:Msg):msR (plainM m) = msR m:=by
 unfold plainM
 by_cases c1:m.kind = 1
 · rw [if_pos c1];unfold msR;simp [c1]
 rw [if_neg c1]
 by_cases c2:m.kind = 2
 · rw [if_pos c2];unfold msR;simp [c2]
 rw [if_neg c2]
 by_cases c3:m.kind = 3
 · rw [if_pos c3];unfold msR;simp [c3]
 rw [if_neg c3]
 by_cases c4:m.kind = 4
 · rw [if_pos c4];unfold msR;simp [c4]
 rw [if_neg c4]
 by_cases c5:m.kind = 5
 · rw [if_pos c5];unfold msR;simp [c5]
 rw [if_neg c5]
 by_cases c6:m.kind = 6
 · rw [if_pos c6];unfold msR;simp [c6]
 rw [if_neg c6];unfold msR;simp [c1,c2,c3,c4,c5,c6]
theorem numM_kind (m:Msg):(numM m).kind = m.kind:=by
 unfold numM
 split
 · rename_i h;exact h.symm
 split
 · rename_i h;exact h.symm
 split
 · rename_i h;exact h.symm
 split
 · rename_i h;exact h.symm
 split
 · rename_i h;exact h.symm
 · rfl
theorem parts_len (m:Msg):(msParts m).length = ptsN m.kind:=by
 unfold msParts ptsN
 by_cases c1:m.kind = 1
 · simp [c1]
 by_cases c4:m.kind = 4
 · simp [c4]
 by_cases c5:m.kind = 5
 · simp [c5]
 · simp [c1,c4,c5]
/-- the load of a right message says just it -/
theorem load_put {m:Msg} (h:msR m = true) (hf:m.flt.length ≤ 4096) (hk:fewK m.know) (hl:m.know.length ≤ 4096) (hs:m.sum < 18446744073709551616) (hp:∀ p ∈ msParts m,p.length ≤ 1000000000):rdL (loadB m) = (plainM m,0):=by
 obtain ⟨h1,h2,h3,h4,h5,_⟩:=msR_parts h
 have e:loadB m = numI m.kind ++ (numI m.ses ++ (numI m.num ++ (((msNums m).drop 3).flatMap numI ++ (msParts m).flatMap txB))):=by
   have:msNums m = [m.kind,m.ses,m.num] ++ (msNums m).drop 3:=rfl
   unfold loadB
   rw [this]
   simp
 unfold rdL
 rw [e,hd_put h4 h5 h1 h2 h3]
 dsimp only
 rw [ns_put h]
 dsimp only
 rw [numM_kind,← parts_len,ts_put _ hp]
 dsimp only
 rw [if_neg (by simp [endSt]),ps_put h hf hk hl hs]
 dsimp only
 rw [if_neg (by simp),if_pos (by rw [msR_plain];exact h)]
/-! ### what was read was put just so -/
theorem bitI_back {n:Int} (h0:0 ≤ n) (h1:n ≤ 1):bitI (n == 1) = n:=by
 by_cases c:n = 1
 · subst c;rfl
 · have:n = 0:=by omega
   subst this;rfl
theorem hd_back {l:List UInt8} (h:(rdHd l).2.2 = 0):∃ k s n,(rdHd l).1 = { kind:=k,ses:=s,num:=n } ∧ l = numI k ++ (numI s ++ (numI n ++ (rdHd l).2.1)):=by
 unfold rdHd at h ⊢
 dsimp only at h ⊢
 obtain ⟨a1,_,a3⟩:=num_back h
 obtain ⟨b1,_,_,_,b5⟩:=within_back a1
 obtain ⟨c1,_,_,_,c5⟩:=within_back b1
 refine ⟨_,_,_,rfl,?_⟩
 rw [← a3,← b5,← c5]
theorem ns_back {m:Msg} {l:List UInt8} {e:Int} (h:(rdNs m l e).2.2 = 0):e = 0 ∧ l = ((msNums (rdNs m l e).1).drop 3).flatMap numI ++ (rdNs m l e).2.1 ∧ (rdNs m l e).1.kind = m.kind ∧ (rdNs m l e).1.ses = m.ses ∧ (rdNs m l e).1.num = m.num:=by
 have e0:∀ m:Msg,(msNums m).drop 3 = (if m.kind = 1 then [m.lim,m.seed,m.bits,bitI m.wants] else if m.kind = 2 then [bitI m.same] else if m.kind = 3 then [m.nxt] else if m.kind = 5 then [m.nxt,bitI m.last] else if m.kind = 6 then [m.err] else []):=fun _=>rfl
 rw [e0]
 unfold rdNs at h ⊢
 by_cases c1:m.kind = 1
 · simp only [if_pos c1] at h ⊢
   obtain ⟨d1,_,d3,d4,d5⟩:=within_back h
   obtain ⟨c1',_,_,_,c5⟩:=within_back d1
   obtain ⟨b1,_,b3⟩:=num_back c1'
   obtain ⟨a1,_,a3⟩:=num_back b1
   refine ⟨a1,?_,by simp⟩
   simp only [List.flatMap_cons,List.flatMap_nil,List.append_nil,List.append_assoc]
   rw [bitI_back d3 d4,← d5,← c5,← b3,← a3]
 simp only [if_neg c1] at h ⊢
 by_cases c2:m.kind = 2
 · simp only [if_pos c2] at h ⊢
   obtain ⟨d1,_,d3,d4,d5⟩:=within_back h
   refine ⟨d1,?_,by simp⟩
   simp only [if_neg c1,List.flatMap_cons,List.flatMap_nil,List.append_nil]
   rw [bitI_back d3 d4,← d5]
 simp only [if_neg c2] at h ⊢
 by_cases c3:m.kind = 3
 · simp only [if_pos c3] at h ⊢
   obtain ⟨a1,_,a3⟩:=num_back h
   refine ⟨a1,?_,by simp⟩
   simp only [if_neg c1,if_neg c2,List.flatMap_cons,List.flatMap_nil,List.append_nil]
   rw [← a3]
 simp only [if_neg c3] at h ⊢
 by_cases c5:m.kind = 5
 · simp only [if_pos c5] at h ⊢
   obtain ⟨d1,_,d3,d4,d5⟩:=within_back h
   obtain ⟨a1,_,a3⟩:=num_back d1
   refine ⟨a1,?_,by simp⟩
   simp only [if_neg c1,if_neg c2,if_neg c3,List.flatMap_cons,List.flatMap_nil,List.append_nil,List.append_assoc]
   rw [bitI_back d3 d4,← d5,← a3]
 simp only [if_neg c5] at h ⊢
 by_cases c6:m.kind = 6
 · simp only [if_pos c6] at h ⊢
   obtain ⟨a1,_,_,_,a3⟩:=within_back h
   refine ⟨a1,?_,by simp⟩
   simp only [if_neg c1,if_neg c2,if_neg c3,if_neg c5,List.flatMap_cons,List.flatMap_nil,List.append_nil]
   rw [← a3]
 simp only [if_neg c6] at h ⊢
 refine ⟨h,?_,by simp⟩
 simp only [if_neg c1,if_neg c2,if_neg c3,if_neg c5,List.flatMap_nil,List.nil_append]
theorem ts_back:∀ (n:Nat) (l:List UInt8) (e:Int),(rdTs n l e).2.2 = 0 → e = 0 ∧ l = (rdTs n l e).1.flatMap txB ++ (rdTs n l e).2.1 ∧ (rdTs n l e).1.length = n:=by
 intro n
 induction n with
 | zero=>intro l e h;exact ⟨h,rfl,rfl⟩
 | succ n ih=>
   intro l e h
   rw [rdTs] at h ⊢
   dsimp only at h ⊢
   obtain ⟨h1,h2,h3⟩:=ih _ _ h
   obtain ⟨a1,_,a3⟩:=text_back h1
   refine ⟨a1,?_,by rw [List.length_cons,h3]⟩
   rw [List.flatMap_cons,List.append_assoc,← h2]
   exact a3
theorem ps_back {m:Msg} {p:List (List UInt8)} (hp:p.length = ptsN m.kind) (h:(rdPs m p).2 = 0):msParts (rdPs m p).1 = p ∧ msNums (rdPs m p).1 = msNums m:=by
 unfold rdPs at h ⊢
 by_cases c1:m.kind = 1
 · simp only [if_pos c1] at h ⊢
   have hp:p.length = 3:=by rw [hp,ptsN,if_pos c1]
   obtain ⟨x,y,z,rfl⟩:∃ x y z,p = [x,y,z]:=by
     match p,hp with
     | [x,y,z],_=>exact ⟨x,y,z,rfl⟩
   simp only [List.getD_cons_zero,List.getD_cons_succ] at h ⊢
   by_cases a:(rdRgs x).2 ≠ 0
   · rw [if_pos a] at h;exact absurd h a
   simp only [if_neg a] at h ⊢
   by_cases b:(rdKnow y).2 ≠ 0
   · rw [if_pos b] at h;exact absurd h b
   simp only [if_neg b] at h ⊢
   have q1:=(rdRgs_back (by simpa using a)).2.2
   have q2:=(rdKnow_back (by simpa using b)).2.2
   refine ⟨?_,rfl⟩
   unfold msParts
   simp only [if_pos c1,q1,q2]
 simp only [if_neg c1] at h ⊢
 by_cases c4:m.kind = 4
 · simp only [if_pos c4] at h ⊢
   have hp:p.length = 2:=by rw [hp,ptsN,if_neg c1,if_pos (.inl c4)]
   obtain ⟨x,y,rfl⟩:∃ x y,p = [x,y]:=by
     match p,hp with
     | [x,y],_=>exact ⟨x,y,rfl⟩
   simp only [List.getD_cons_zero,List.getD_cons_succ] at h ⊢
   by_cases a:(rdRgs x).2 ≠ 0
   · rw [if_pos a] at h;exact absurd h a
   simp only [if_neg a] at h ⊢
   by_cases b:(rdRgs x).1.length = 1 ∧ y.length = 8
   · simp only [if_pos b] at h ⊢
     obtain ⟨b1,b2⟩:=b
     have q1:=(rdRgs_back (by simpa using a)).2.2
     obtain ⟨r,hr⟩:∃ r,(rdRgs x).1 = [r]:=by
       match (rdRgs x).1,b1 with
       | [r],_=>exact ⟨r,rfl⟩
     rw [hr] at q1 ⊢
     refine ⟨?_,rfl⟩
     unfold msParts
     simp only [if_neg c1,if_pos c4,List.getD_cons_zero,q1,num8,oct_numL b2]
   · rw [if_neg b] at h;simp at h
 simp only [if_neg c4] at h ⊢
 by_cases c5:m.kind = 5
 · simp only [if_pos c5] at h ⊢
   have hp:p.length = 2:=by rw [hp,ptsN,if_neg c1,if_pos (.inr c5)]
   obtain ⟨x,y,rfl⟩:∃ x y,p = [x,y]:=by
     match p,hp with
     | [x,y],_=>exact ⟨x,y,rfl⟩
   simp only [List.getD_cons_zero,List.getD_cons_succ] at h ⊢
   by_cases a:(rdItems x).2 ≠ 0
   · rw [if_pos a] at h;exact absurd h a
   simp only [if_neg a] at h ⊢
   by_cases b:(rdKnow y).2 ≠ 0
   · rw [if_pos b] at h;exact absurd h b
   simp only [if_neg b] at h ⊢
   have q1:=(rdItems_back (by simpa using a)).2.2
   have q2:=(rdKnow_back (by simpa using b)).2.2
   refine ⟨?_,rfl⟩
   unfold msParts
   simp only [if_neg c1,if_neg c4,if_pos c5,q1,q2]
 simp only [if_neg c5] at h ⊢
 have hp:p.length = 0:=by rw [hp,ptsN,if_neg c1,if_neg (fun q=>q.elim c4 c5)]
 rw [List.eq_nil_of_length_eq_zero hp]
 refine ⟨?_,by trivial⟩
 unfold msParts
 rw [if_neg c1,if_neg c4,if_neg c5]
theorem load_back {l:List UInt8} (h:(rdL l).2 = 0):loadB (rdL l).1 = l ∧ msR (rdL l).1 = true:=by
 unfold rdL at h ⊢
 dsimp only at h ⊢
 generalize ha:rdHd l = a at *
 generalize hb:rdNs a.1 a.2.1 a.2.2 = b at *
 generalize hc:rdTs (ptsN b.1.kind) b.2.1 b.2.2 = c at *
 by_cases c1:endSt c.2.1 c.2.2 ≠ 0
 · rw [if_pos c1] at h;exact absurd h c1
 rw [if_neg c1] at h ⊢
 generalize hd:rdPs b.1 c.1 = d at *
 by_cases c2:d.2 ≠ 0
 · rw [if_pos c2] at h;exact absurd h c2
 rw [if_neg c2] at h ⊢
 by_cases c3:¬ msR d.1 = true
 · rw [if_neg c3] at h;simp at h
 replace c3:=Decidable.not_not.1 c3
 obtain ⟨e1,e2⟩:=end_back (by simpa using c1)
 have t:=ts_back (ptsN b.1.kind) b.2.1 b.2.2 (by rw [hc];exact e2)
 rw [hc] at t
 obtain ⟨t1,t2,t3⟩:=t
 have n:=ns_back (m:=a.1) (l:=a.2.1) (e:=a.2.2) (by rw [hb];exact t1)
 rw [hb] at n
 obtain ⟨n1,n2,n3,n4,n5⟩:=n
 have g:=hd_back (l:=l) (by rw [ha];exact n1)
 rw [ha] at g
 obtain ⟨k,s,u,g1,g2⟩:=g
 have p:=ps_back (m:=b.1) (p:=c.1) t3 (by rw [hd];simpa using c2)
 rw [hd] at p
 obtain ⟨p1,p2⟩:=p
 rw [if_pos c3]
 refine ⟨?_,c3⟩
 unfold loadB
 rw [p1,p2]
 have e3:msNums b.1 = [k,s,u] ++ (msNums b.1).drop 3:=by
   have:msNums b.1 = [b.1.kind,b.1.ses,b.1.num] ++ (msNums b.1).drop 3:=rfl
   rw [this,n3,n4,n5,g1];rfl
 rw [e3,g2,n2,t2,e1]
 simp
theorem ulk_iff {l:List It}:ulk l = true ↔ l.all itR = true ∧ (l.map It.key).Nodup:=by
 induction l with
 | nil=>simp [ulk]
 | cons x l ih=>
   rw [ulk,Bool.and_eq_true,Bool.and_eq_true,ih,List.all_cons,Bool.and_eq_true,List.map_cons,List.nodup_cons]
   have:(!(l.any fun y=>decide (y.key = x.key))) = true ↔ x.key ∉ l.map It.key:=by
     rw [Bool.not_eq_true',← Bool.not_eq_true,List.any_eq_true]
     simp only [decide_eq_true_eq,List.mem_map]
   rw [this]
   constructor
   · rintro ⟨a,b,c,d⟩;exact ⟨⟨a,c⟩,b,d⟩
   · rintro ⟨⟨a,c⟩,b,d⟩;exact ⟨a,b,c,d⟩
/-- how often the first items' keys were seen -/
def seenF (l:List It) (i:Nat):ByteArray → Int:=fun u=>if (l.take i).any (fun x=>decide (x.key = u)) then 1 else 0
theorem seen_any {l:List It} {u:ByteArray}:(l.any fun x=>decide (x.key = u)) = true ↔ u ∈ l.map It.key:=by
 rw [List.any_eq_true]
 simp only [decide_eq_true_eq,List.mem_map]
theorem seenF_in {l:List It} {i:Nat} {u:ByteArray} (h:u ∈ (l.take i).map It.key):seenF l i u = 1:=by unfold seenF;rw [if_pos (seen_any.2 h)]
theorem seenF_no {l:List It} {i:Nat} {u:ByteArray} (h:u ∉ (l.take i).map It.key):seenF l i u = 0:=by unfold seenF;rw [if_neg (fun q=>h (seen_any.1 q))]
theorem seenF_zero (l:List It):seenF l 0 = fun _=>0:=by funext u;simp [seenF]
theorem key_snoc {l:List It} {i:Nat} (h:i < l.length):(l.take (i + 1)).map It.key = (l.take i).map It.key ++ [l[i].key]:=by
 rw [List.take_add_one,List.getElem?_eq_getElem h,Option.toList_some,List.map_append];rfl
theorem seenF_step {l:List It} {i:Nat} (h:i < l.length):(fun u=>if u = l[i].key then (1:Int) else seenF l i u) = seenF l (i + 1):=by
 funext u
 by_cases c:u = l[i].key
 · rw [if_pos c,seenF_in (by rw [key_snoc h,c];simp)]
 · rw [if_neg c]
   by_cases d:u ∈ (l.take i).map It.key
   · rw [seenF_in d,seenF_in (by rw [key_snoc h];exact List.mem_append_left _ d)]
   · rw [seenF_no d,seenF_no (by
       rw [key_snoc h,List.mem_append,List.mem_singleton]
       exact fun q=>q.elim d c)]
theorem nodup_step {l:List It} {i:Nat} (h:i < l.length) (h1:((l.take i).map It.key).Nodup) (h2:l[i].key ∉ (l.take i).map It.key):((l.take (i + 1)).map It.key).Nodup:=by
 rw [key_snoc h,List.nodup_append]
 refine ⟨h1,by simp,fun a ha b hb=>?_⟩
 rw [List.mem_singleton] at hb
 subst hb
 exact fun e=>h2 (e ▸ ha)
theorem nodup_stop {l:List It} {i:Nat} (h:i < l.length) (h2:l[i].key ∈ (l.take i).map It.key):¬ (l.map It.key).Nodup:=by
 intro hn
 have hs:((l.take (i + 1)).map It.key).Nodup:=hn.sublist ((List.take_sublist _ _).map _)
 rw [key_snoc h,List.nodup_append] at hs
 exact hs.2.2 _ h2 _ (by simp) rfl
/-- the parts that a message names, as far as they may be, and whether they may -/
def prtP (m:Msg):List (List UInt8) × Bool:=
 if m.kind = 1 then ([if decide (rgsOk m.flt) then rgsBy m.flt else [],if decide (pcsOk m.know) then knowB m.know else [],m.there],decide (rgsOk m.flt) && decide (pcsOk m.know))
 else if m.kind = 4 then ([if decide (rgsOk [m.rg]) then rgsBy [m.rg] else [],oct m.sum],decide (rgsOk [m.rg]))
 else if m.kind = 5 then ([if m.its.all itR then itemsB m.its else [],if decide (pcsOk m.know) then knowB m.know else []],m.its.all itR && decide (pcsOk m.know))
 else ([],true)
/-- what a message names, but for its numbers and parts -/
def rgtP (m:Msg):Bool:=
 if m.kind = 1 then decide (m.bits ≤ 64) && (decide (m.there = []) || decide ((rdBl m.there).2 = 0))
 else if m.kind = 2 ∨ m.kind = 3 ∨ m.kind = 4 then true
 else if m.kind = 5 then ulk m.its && (m.last || decide (m.know = []))
 else decide (m.kind = 6) && decide (1 ≤ m.err)
theorem rgsOk_one_iff {r:Rg}:rgsOk [r] ↔ rgR r = true:=⟨fun h=>(h 0 (by simp)).1,rgsOk_one⟩
theorem isNum_bit (b:Bool):isNum (bitI b) = true:=ok_isNum (bitI_ok b).1
theorem msR_iff (m:Msg) (hl:m.its.length ≤ 4096):msR m = ((msNums m).all isNum && (prtP m).2 && decide (1 ≤ m.ses) && rgtP m):=by
 rw [Bool.eq_iff_iff]
 unfold msR prtP rgtP msNums
 by_cases c1:m.kind = 1
 · simp only [c1,if_true,List.all_append,List.all_cons,List.all_nil,Bool.and_true,Bool.and_eq_true,Bool.or_eq_true,decide_eq_true_eq,isNum_bit]
   have:isNum 1 = true:=by decide
   simp only [isNum,decide_eq_true_eq] at *
   constructor
   · rintro ⟨⟨⟨a,b⟩,c⟩,⟨⟨⟨⟨⟨d,e⟩,f⟩,g⟩,i⟩,j⟩⟩;exact ⟨⟨⟨⟨⟨this,b,c⟩,d,e,by omega⟩,g,i⟩,a⟩,f.2,j⟩
   · rintro ⟨⟨⟨⟨⟨_,b,c⟩,d,e,f⟩,g,i⟩,a⟩,k,j⟩;exact ⟨⟨⟨a,b⟩,c⟩,⟨⟨⟨⟨⟨d,e⟩,by omega⟩,g⟩,i⟩,j⟩⟩
 by_cases c2:m.kind = 2
 · have:isNum 2 = true:=by decide
   simp [c2,isNum_bit,this]
   exact ⟨fun ⟨⟨a,b⟩,c⟩=>⟨⟨b,c⟩,a⟩,fun ⟨⟨b,c⟩,a⟩=>⟨⟨a,b⟩,c⟩⟩
 by_cases c3:m.kind = 3
 · have:isNum 3 = true:=by decide
   simp [c3,this]
   grind
 by_cases c4:m.kind = 4
 · have:isNum 4 = true:=by decide
   simp [c4,this,rgsOk_one_iff]
   grind
 by_cases c5:m.kind = 5
 · have:isNum 5 = true:=by decide
   simp only [c5,if_true,if_neg (by decide:¬ (5:Int) = 1),if_neg (by decide:¬ (5:Int) = 2),if_neg (by decide:¬ (5:Int) = 3),if_neg (by decide:¬ (5:Int) = 4),if_neg (by decide:¬ ((5:Int) = 2 ∨ (5:Int) = 3 ∨ (5:Int) = 4)),List.all_append,List.all_cons,List.all_nil,Bool.and_true,Bool.and_eq_true,Bool.or_eq_true,decide_eq_true_eq,isNum_bit,true_and,this]
   constructor
   · rintro ⟨⟨⟨a,b⟩,c⟩,⟨⟨⟨d,e⟩,f⟩,g⟩,i⟩;exact ⟨⟨⟨⟨⟨b,c⟩,d⟩,ulk_all f,g⟩,a⟩,f,i⟩
   · rintro ⟨⟨⟨⟨⟨b,c⟩,d⟩,_,g⟩,a⟩,f,i⟩;exact ⟨⟨⟨a,b⟩,c⟩,⟨⟨⟨d,hl⟩,f⟩,g⟩,i⟩
 by_cases c6:m.kind = 6
 · have:isNum 6 = true:=by decide
   simp [c6,this]
   grind
 · simp [c1,c2,c3,c4,c5,c6]
/-- the parts of a right one are just its parts -/
theorem prt_ok {m:Msg} (h:(prtP m).2 = true):(prtP m).1 = msParts m:=by
 unfold prtP at h ⊢
 unfold msParts
 by_cases c1:m.kind = 1
 · simp only [if_pos c1,Bool.and_eq_true] at h ⊢
   rw [if_pos h.1,if_pos h.2]
 simp only [if_neg c1] at h ⊢
 by_cases c4:m.kind = 4
 · simp only [if_pos c4] at h ⊢
   rw [if_pos h]
 simp only [if_neg c4] at h ⊢
 by_cases c5:m.kind = 5
 · simp only [if_pos c5,Bool.and_eq_true] at h ⊢
   rw [if_pos h.1,if_pos h.2]
 simp only [if_neg c5]
theorem nums_ok {m:Msg}:(msNums m).all isNum = true ↔ ∀ n ∈ msNums m,okNum n:=by
 rw [List.all_eq_true]
 exact ⟨fun h n hn=>isNum_ok (h n hn),fun h n hn=>ok_isNum (h n hn)⟩
theorem msNums_len (m:Msg):(msNums m).length ≤ 7:=by
 unfold msNums
 split
 · simp
 split
 · simp
 split
 · simp
 split
 · simp
 split
 · simp
 · simp
section
variable {P:Program} {n t:Nat} {ops:Array Oper} {o:Oper} {S:St}
theorem op_xor {ty ty':TypeId} {x y:Operand} {k:IntKind} {p q z:Int} (hp:Pl n o t) (ho:o.op = .binOp .xor ty x y ty') (hx:S.opd x = iC k p) (hy:S.opd y = iC k q) (hz:bits .xor k p q = z):OpOk n P ops o (opdN x ++ opdN y) (iC k z) [] S:=
 op_val hp fun C T g a w hA hR=>by
   have h1:=raw_opd (x:=x) hA (fun k h=>by simp [h]) hR hx
   have h2:=raw_opd (x:=y) hA (fun k h=>by simp [h]) hR hy
   subst hz
   refine ⟨.int k (bits .xor k p q),exec_bin ho h1 h2 ?_,rfl⟩
   rw [show eqGuard .xor ty x y (.int k p) (.int k q) = pure () from rfl]
   simp only [binOp_xor]
   rfl
/-- '[]T{x}', x of the call's own -/
theorem u_bslice1 {ty e bytes:Nat} {z:Value} {x:Operand} {c:Cnt} (hp:Pl n o t) (ho:o.op = .buildSlice ty 1 #[(0,x)]) (hT:TIc P ty e 1 bytes) (hz:Zro P e z) (hzc:z.cells = #[z]) (hx:S.opd x = c) (h1:OneQ S c) :
   OpOk n P ops o ((2 * t + 1) :: (opdN x ++ idsC c)) (.row t (S.ver t + 1)) [(t,S.ver t + 1,.mix e [] c)] S:=
 op_mk hp (by simp) fun C T g a w hA hR=>by
   have h:=opd_rep (x:=x) hA (fun k h=>by simp [h]) hR
   rw [hx] at h
   obtain ⟨g1,g2⟩:=(OneC.mono h1 fun k h=>by simp [h]) _ _ _ _ _ _ _ hA hR h
   obtain ⟨i,z',hi,hz',hs1,hs2,hs3⟩:=hT.h.info
   have hzz:=hz.h
   rw [hi] at hzz
   simp only [Option.bind_some] at hzz
   rw [hz'] at hzz;cases hzz
   have hrun:=run_buildSlice (P:=P) w ty e 1 #[(0,a.eval x)] #[a.eval x] i z hT.h.und hi hz' (by rw [hs1];decide) (by rw [hs1];decide) (by
     rw [hs1,hzc]
     simp [Instr.fill,g2]
     apply Array.ext
     · simp
     · intro j h1 h2
       have:j = 0:=by simpa using h2
       subst this
       simp)
   refine ⟨.slice (some ⟨w.heap.size,0,none⟩) 1 1,w.alloc (.cells #[a.eval x] e),w.heap.size,?_,(Ext.refl w).alloc _,Nat.le_refl _,alloc_lt _ _,fun vr' hvr hst=>⟨?_,?_⟩⟩
   · simp only [execOp,ho,Sem.run_bind]
     have e:(#[(0,x)].map fun (i,x)=>(i,a.eval x)) = #[((0:Nat),a.eval x)]:=by simp
     rw [e,hrun];rfl
   · exact ⟨by rw [hvr,if_pos rfl];exact Nat.le_refl _,fun _=>(if_pos rfl).symm⟩
   · have hph:(g.mk1 t w.heap.size (.slice (some ⟨w.heap.size,0,none⟩) 1 1)).ph t = w.heap.size:=if_pos rfl
     have hrh:(g.mk1 t w.heap.size (.slice (some ⟨w.heap.size,0,none⟩) 1 1)).rh t = .slice (some ⟨w.heap.size,0,none⟩) 1 1:=if_pos rfl
     exact ⟨1,#[a.eval x],by rw [hrh,hph];rfl,by rw [hph];exact heap_alloc_new w _,by rw [hph];exact if_pos rfl,by simp,by decide,rfl,fun i A hi=>by simp at hi,a.eval x,rfl,g1,hst.crep h⟩
theorem gpq_mix1 {ids:List Nat} {x:Operand} {id vr e:Nat} {c:Cnt} {A:PV} (hx:S.opd x = .row id vr) (hv:S.ver id = vr) (hb:S.blk id = .mix e [] c) (h:Sees S ids c A):GivesP (srcN S x ++ idsN ids) S ids x (.bor 1 [[A]]):=fun n C T g a w hA hR=>by
 have hF:∀ k ∈ opdN x,k ∈ srcN S x ++ idsN ids:=fun k hk=>by simp [srcN,hk]
 have hF':2 * id + 1 ∈ srcN S x ++ idsN ids:=by simp [srcN,hx,rowN]
 have hI:∀ i ∈ ids,2 * i + 1 ∈ srcN S x ++ idsN ids:=fun i hi=>by simp [idsN_mem i hi]
 have hc:=opd_rep (x:=x) hA hF hR
 rw [hx] at hc
 have hev:=hc.2 (by rw [(hA.2 id hF').2,hv])
 have hB:=hR.blks id
 rw [(hA.2 id hF').1,hb] at hB
 obtain ⟨cap,cs,q1,q2,q3,q4,q5,q6,q7,y,q8,q9,q10⟩:=hB
 rw [hev,q1]
 refine ⟨_,cap,g.ph id,0,rfl,q4,q5,by simp,fun _=>⟨rfl,(hR.dom _ _ q3).1,fun h=>h rfl⟩,fun i ps hi=>?_⟩
 cases i with
 | succ i=>simp at hi
 | zero=>
   simp at hi;subst hi
   refine ⟨rfl,fun j B hj=>?_⟩
   cases j with
   | succ j=>simp at hj
   | zero=>
     simp at hj;subst hj
     refine ⟨y,by rw [cell_at q2];exact q8,q9,?_⟩
     exact A.mono (N:=lessN C g w ids) (Nat.le_refl _) (fun _ _ _=>rfl) (fun b _ hb=>nnL hb) (h.rep hA hI hR q10)
/-- '[]byte(s)': bytes that nobody turns -/
theorem op_bs {src dst e:TypeId} {x:Operand} {s:ByteArray} (hp:Pl n o t) (ho:o.op = .convert src dst x) (hs:Und P src .string) (hd:Und P dst (.slice e)) (he:Und P e (.int .u8)) (hx:S.opd x = sC s) (hb:s.size ≤ 1000000000000) :
   OpOk n P ops o (opdN x) (.per (lstP 1 (s.data.toList.map byteP))) [] S:=by
 refine ⟨?_⟩
 intro C T hA a w ⟨g,hR⟩
 have hxe:=raw_opd (x:=x) hA (fun k h=>by simp [h]) hR hx
 unfold Exec
 rw [if_pos (hp.wanted a)]
 unfold Oper.wp
 have hex:(execOp a.eval o).run P w = .ok (.value (.slice (some ⟨w.heap.size,0,none⟩) s.size (grownCap w s.size 0 e))) (w.drew.alloc (.cells (bytesRow s (grownCap w s.size 0 e)) e ((bytesRow s (grownCap w s.size 0 e)).size,(bytesRow s (grownCap w s.size 0 e)).size + 1))):=by
   simp only [execOp,ho,Sem.run_bind,hxe,run_bytes_of_string w src dst e s hs.h hd.h he.h];rfl
 rw [hex,Oper.upon_value]
 refine ⟨g,hR.app0 ((Ext.refl w).drew.alloc _) hp.dOk ?_⟩
 show lstAt (g.N C) (g.N C) 1 (s.data.toList.map byteP) _ _
 have hl:(s.data.toList.map byteP).length = s.size:=by rw [List.length_map,Array.length_toList];rfl
 refine ⟨_,_,w.heap.size,0,by rw [hl],by rw [hl];exact grownCap_ge w _ _ _,grownCap_le_maxLen w _ _ _ (by unfold maxLen;omega),by simp,fun _=>⟨rfl,alloc_lt w.drew _,fun hn=>?_⟩,fun i ps hi=>?_⟩
 · rcases hn with hn|hn
   · exact n0_lt hR _ (Nat.le_refl _) hn
   · exact hn (ow_none hR _ (Nat.le_refl _))
 · rw [List.getElem?_map] at hi
   cases hc:s.data.toList[i]? with
   | none=>rw [hc] at hi;cases hi
   | some c=>
     rw [hc] at hi;cases hi
     refine ⟨rfl,fun j A hj=>?_⟩
     cases j with
     | succ j=>simp [byteP] at hj
     | zero=>
       simp [byteP] at hj;subst hj
       refine ⟨.int .u8 (c.toNat:Int),?_,rfl,rfl⟩
       have hq:=cell_at (heap_alloc_new w.drew (.cells (bytesRow s (grownCap w s.size 0 e)) e ((bytesRow s (grownCap w s.size 0 e)).size,(bytesRow s (grownCap w s.size 0 e)).size + 1))) (0 + i * 1 + 0)
       refine hq.trans ?_
       have hil:i < s.data.size:=by have:=(List.getElem?_eq_some_iff.1 hc).1;simpa using this
       have hcx:s.data[i] = c:=by
         have:=(List.getElem?_eq_some_iff.1 hc).2
         simpa using this
       unfold bytesRow
       rw [Nat.zero_add,Nat.mul_one,Nat.add_zero,Array.getElem?_append_left (by simpa using hil)]
       simp only [Array.getElem?_map,Array.getElem?_eq_getElem hil,hcx]
       rfl
end
theorem varint_PutBad (l:List UInt8) (ns:List Int) (h:¬ ∀ n ∈ ns,okNum n):Fn Tryz.prog 35 [bytesB l,intsB ns] (.tup2 (ownB []) (.per (rawP (.int .i64 2)))):=by
 refine ⟨⟨_,Tryz.func35,by kernel_rfl,by kernel_rfl⟩,fun N0 w vs _ ha=>?_⟩
 obtain ⟨v,u,rfl,h1,h2⟩:=args2 ha
 refine Calls.mono (put_bad v u ns w (lst_sl h2) h) ?_
 rintro e w' ⟨rfl,rfl⟩
 exact ⟨_,rfl,Ext.refl _,_,_,rfl,.inl ⟨rfl,rfl⟩,rfl⟩
end Go.Proofs.YthlffkjpklpkfaaGreat
